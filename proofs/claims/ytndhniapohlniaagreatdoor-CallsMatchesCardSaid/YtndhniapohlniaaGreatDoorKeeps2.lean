/-
  Matched calls: calls as rows of events (calls.row), walked. Conditions: the calls named are there.
-/
import Derived.Test.YtndhniapohlniaaGreatDoorKeeps1
namespace Go.Proofs.YtndhniapohlniaaGreatDoor
open Go Go.Proofs.YtndhniapohlniaaGreatDoor.Eng
/-! facts about types -/
theorem ze_235 : zeroOf Tryz.prog 235 = some (.agg [.int .i64 0, .int .i64 0]) := by kernel_rfl
instance ize_235 : ZeF Tryz.prog 235 (.agg [.int .i64 0, .int .i64 0]) := ⟨ze_235⟩
theorem bs_235 : structOK Tryz.prog 235 = true := by kernel_rfl
instance ibs_235 : BsF Tryz.prog 235 := ⟨bs_235⟩
theorem ps_235 : plcsOK Tryz.prog 235 0 [(0, 1), (1, 1)] = true := by kernel_rfl
instance ips_235 : PsF Tryz.prog 235 [(0, 1), (1, 1)] := ⟨ps_235⟩
theorem sz_235 : szOf Tryz.prog 235 = some 2 := by kernel_rfl
instance isz_235 : SzF Tryz.prog 235 2 := ⟨sz_235⟩
theorem pl_235 : plcOf Tryz.prog 235 0 = some ⟨0, true, 2⟩ := by kernel_rfl
instance ipl_235 : PlF Tryz.prog 235 ⟨0, true, 2⟩ := ⟨pl_235⟩
theorem el_151 : elemI Tryz.prog 151 = some ⟨235, 2, .agg [.int .i64 0, .int .i64 0]⟩ := by kernel_rfl
instance iel_151 : ElF Tryz.prog 151 ⟨235, 2, .agg [.int .i64 0, .int .i64 0]⟩ := ⟨el_151⟩
theorem un_151 : Tryz.prog.underlying 151 = some (.slice 235) := by kernel_rfl
instance iun_151 : UnF Tryz.prog 151 (.slice 235) := ⟨un_151⟩
/-! f41: parallax/calls.row, parameters #[25, 52, 82, 3] -/
def v41k0h2 : CV := .seq (.reg [.op (some 29) (.move (.tmp 2)),
    .op (some 30) (.move (.tmp 0)),
    .op (some 31) (.move (.tmp 11)),
    .op (some 32) (.indexAddr 25 (.tmp 30) (.tmp 31)),
    .op (some 33) (.fieldAddr 41 (.tmp 32) 0),
    .op (some 34) (.load 3 (.tmp 33)),
    .op (some 35) (.lookup 82 (.tmp 29) (.tmp 34) true),
    .op (some 28) (.move (.tmp 35)),
    .op (some 36) (.extract (.tmp 28) 0),
    .op (some 37) (.extract (.tmp 28) 1),
    .op (some 13) (.assign (.tmp 36)),
    .op (some 14) (.assign (.tmp 37))])
  (.seq (.reg [.op (some 38) (.move (.tmp 14))])
  (.cond (.tmp 38) (.reg [.op (some 39) (.move (.tmp 13)),
    .op (some 40) (.build 235 #[(0, (.const (.int .i64 1))), (1, (.tmp 39))]),
    .op none (.store 235 (.tmp 12) (.tmp 40))]) (.skip)))
def v41k0t2 : CV := .seq v41k0h2
  (.reg [.op (some 41) (.move (.tmp 9)),
    .op (some 42) (.load 235 (.tmp 12)),
    .op (some 43) (.buildSlice 151 1 #[(0, (.tmp 42))]),
    .op (some 44) (.call ⟨.builtin .append, #[(.tmp 41), (.tmp 43)], #[151, 151]⟩),
    .op (some 9) (.assign (.tmp 44))])
def v41k0t1 : CV := .seq (.reg [.op (some 21) (.move (.tmp 3)),
    .op (some 22) (.move (.tmp 0)),
    .op (some 23) (.move (.tmp 11)),
    .op (some 24) (.indexAddr 25 (.tmp 22) (.tmp 23)),
    .op (some 25) (.fieldAddr 41 (.tmp 24) 0),
    .op (some 26) (.load 3 (.tmp 25)),
    .op (some 27) (.build 235 #[(0, (.tmp 21)), (1, (.tmp 26))]),
    .op (some 12) (.alloc 235),
    .op none (.store 235 (.tmp 12) (.tmp 27))]) v41k0t2
def v41k0 : CV := .seq (.reg [.op (some 19) (.indexAddr 52 (.tmp 15) (.tmp 17)),
    .op (some 20) (.load 3 (.tmp 19)),
    .op (some 11) (.assign (.tmp 20))]) v41k0t1
def v41l0t2 : CV := .seq (.block 1 v41k0)
  (.reg [.op (some 45) (.binOp .add 3 (.tmp 17) (.const (.int .i64 1)) 3),
    .op (some 17) (.move (.tmp 45))])
def v41l0t1 : CV := .seq (.cond (.tmp 18) (.skip) (.exit 0)) v41l0t2
def v41l0 : CV := .seq (.reg [.op (some 18) (.binOp .lss 3 (.tmp 17) (.tmp 16) 3)]) v41l0t1
def v41h2 : CV := .seq (.reg [.op (some 15) (.move (.tmp 1)),
    .op (some 16) (.call ⟨.builtin .len, #[(.tmp 15)], #[52]⟩),
    .op (some 17) (.move (.const (.int .i64 0)))])
  (.block 0 (.loop v41l0))
def v41t3 : CV := .seq (.reg [.op (some 46) (.move (.tmp 9)),
    .op (some 8) (.assign (.tmp 46))])
  (.ret)
def v41t2 : CV := .seq v41h2 v41t3
def v41t1 : CV := .seq (.reg [.op (some 9) (.assign (.const (.slice none 0 0)))]) v41t2
def v41 : CV := .seq (.reg [.op (some 8) (.assign (.const (.slice none 0 0)))]) v41t1
noncomputable def b41 : Code := Tryz.f41.body.getD .skip
theorem b41_eq : Tryz.f41.body = some b41 := by kernel_rfl
theorem v41_eq : viewC Tryz.prog b41 = some v41 := by kernel_rfl
theorem r41_eq : Tryz.f41.results.toList = [.tmp 8] := by kernel_rfl

/-! ### the plain law -/
/-- an event: its kind and its number -/
def evC (e : Int × Int) : List AV := [.int .i64 e.1, .int .i64 e.2]
theorem evC_len (e : Int × Int) : (evC e).length = 2 := rfl
def evOf (out : List Cl) (M : List (Int × Int)) (alone : Int) (k : Nat) : Int × Int := match out[k]? with
  | some c => (match lookI M c.proc with | some n => (1, n) | none => (alone, c.proc))
  | none => (0, 0)
section
variable {tb : List FuncId} {gl : List (List AV)} {H : Heap} {v w : AV} {Q : AV → Heap → Prop}
set_option maxHeartbeats 0 in
theorem row_ok {out : List Cl} {ks : List Nat} {M : List (Int × Int)} {b : Nat} {alone : Int} (hn : ks.length < 500000) (hv : IsSl H v 4 out.length (out.flatMap clC)) (hw : IsSl H w 1 ks.length (ks.flatMap ixC)) (hM : IsMap H b M) (hks : ∀ k ∈ ks, k < out.length)
    (hQ : ∀ u H', Keep Non H H' → Own H' u 2 ks.length ((ks.map (evOf out M alone)).flatMap evC) → (∀ c, ownB u c → H.nx ≤ c) → Q u H') : WpF Tryz.prog tb gl 41 [v, w, .map b, .int .i64 alone] H Q := by
  have hlim : limit = 1000000 := rfl
  refine fa Tryz.func41 b41_eq v41_eq r41_eq (.inr (by simp)) ?_
  refine va_seqr ?_
  refine ia_pl rfl ?_
  refine ia_nil (va_seqr ?_)
  refine ia_pl rfl ?_
  refine ia_nil (va_seq (va_seqr ?_))
  refine ia_op (oa_move rfl ?_)
  refine ia_op (oa_lenSl rfl rfl rfl UnF.h rfl hw ?_)
  refine ia_pl rfl ?_
  refine ia_nil (va_block ?_)
  refine va_loop (fun (a : Nat × AV) => [(0, v), (2, .map b), (3, .int .i64 alone), (9, a.2), (15, w), (16, .int .i64 (ks.length : Int)), (17, .int .i64 (a.1 : Int))])
    (fun a H' => Keep Non H H' ∧ a.1 ≤ ks.length ∧ Own H' a.2 2 (ks.take a.1).length (((ks.take a.1).map (evOf out M alone)).flatMap evC) ∧ ∀ c, ownB a.2 c → H.nx ≤ c) (fun a => ks.length - a.1) ?_ (0, .nils) _ H ⟨rfl, rfl, rfl, rfl, rfl, rfl, rfl, trivial⟩ ⟨.refl _ _, Nat.zero_le _, .nil _ _, fun _ h => h.elim⟩
  rintro ⟨i, u⟩ H1 ⟨hk, hle, ho, hno⟩
  simp only at hle ho hno
  refine va_seqr ?_
  by_cases hi : i = ks.length
  · refine ia_op (oa_lssW rfl rfl (decide_eq_false (by simp only; omega)) ?_)
    refine ia_nil (va_seq (va_condF rfl (va_exit (va_seqr ?_))))
    subst hi
    rw [List.take_length] at ho
    refine ia_op (oa_move rfl ?_)
    refine ia_op (oa_assign rfl (ia_nil (va_ret ⟨_, rfl, hQ _ _ hk ho hno⟩)))
  have hlt : i < ks.length := by omega
  refine ia_op (oa_lssW rfl rfl (decide_eq_true (by simp only; omega)) ?_)
  refine ia_nil (va_seq (va_condT rfl (va_skip ?_)))
  obtain ⟨k, hk0⟩ : ∃ k, ks[i]? = some k := ⟨_, List.getElem?_eq_getElem hlt⟩
  have hkl := hks k (List.mem_of_getElem? hk0)
  have htake : ks.take (i + 1) = ks.take i ++ [k] := by rw [List.take_add_one, hk0]; rfl
  have hchunk := flat_chunk ixC_len ks i k hk0
  obtain ⟨c, hc⟩ : ∃ c, out[k]? = some c := ⟨_, List.getElem?_eq_getElem hkl⟩
  have hchunk2 := flat_chunk clC_len out k c hc
  have hlen : (ks.take i).length = i := by rw [List.length_take]; omega
  refine va_seq (va_block (va_seqr ?_))
  refine ia_op (oa_indexSl UnF.h SzF.h rfl (hw.keep0 hk) rfl rfl hlt fun q0 hq0 => ?_)
  rw [hchunk] at hq0
  refine ia_op (oa_pload PlF.h rfl hq0 rfl ?_)
  refine ia_op (oa_assign rfl (ia_nil (va_seqr ?_)))
  refine ia_op (oa_move rfl (ia_op (oa_move rfl (ia_op (oa_move rfl ?_)))))
  refine ia_op (oa_indexSl UnF.h SzF.h rfl (hv.keep0 hk) rfl rfl hkl fun q1 hq1 => ?_)
  rw [hchunk2] at hq1
  refine ia_op (oa_pfieldAddr FpF.h (by decide) rfl hq1 fun q2 hq2 => ?_)
  refine ia_op (oa_pload PlF.h rfl hq2 rfl ?_)
  refine ia_op (oa_struct BsF.h ZeF.h PsF.h rfl ?_)
  refine ia_op (oa_alloc ZeF.h fun H2 hk2 hr2 => ?_)
  refine ia_op (oa_storeAll (k := 2) SzF.h rfl rfl rfl rfl hr2 rfl fun H3 hk3 hn3 hr3 => ?_)
  have hK3' : Keep Non H1 H3 := hk2.trans hk3 fun c hc => .inr (by omega)
  have hK3 := hk.trans0 hK3'
  refine ia_nil (va_seq (va_seqr ?_))
  refine ia_op (oa_move rfl (ia_op (oa_move rfl (ia_op (oa_move rfl ?_)))))
  refine ia_op (oa_indexSl UnF.h SzF.h rfl (hv.keep0 hK3) rfl rfl hkl fun q3 hq3 => ?_)
  rw [hchunk2] at hq3
  refine ia_op (oa_pfieldAddr FpF.h (by decide) rfl hq3 fun q4 hq4 => ?_)
  refine ia_op (oa_pload PlF.h rfl hq4 rfl ?_)
  refine ia_op (oa_lookI UnF.h UnF.h ZeF.h rfl rfl (hM.keep0 hK3) ?_)
  refine ia_pl rfl ?_
  have hfin : ∀ (l2 : Fm) (H4 : Heap) (e : Int × Int), e = evOf out M alone k → Keep Non H H4 → Keep Non H1 H4 → IsRow H4 H1.nx (evC e) false false → Sb [(0, v), (2, .map b), (3, .int .i64 alone), (9, u), (12, .ptr H1.nx 0), (15, w), (16, .int .i64 (ks.length : Int)), (17, .int .i64 (i : Int))] l2 →
      VA Tryz.prog tb gl (.reg [.op (some 41) (.move (.tmp 9)), .op (some 42) (.load 235 (.tmp 12)), .op (some 43) (.buildSlice 151 1 #[(0, (.tmp 42))]), .op (some 44) (.call ⟨.builtin .append, #[(.tmp 41), (.tmp 43)], #[151, 151]⟩), .op (some 9) (.assign (.tmp 44))]) l2 H4
        (exitA 1 (seqA Tryz.prog tb gl (.reg [.op (some 45) (.binOp .add 3 (.tmp 17) (.const (.int .i64 1)) 3), .op (some 17) (.move (.tmp 45))]) (roundA (fun (a : Nat × AV) => [(0, v), (2, .map b), (3, .int .i64 alone), (9, a.2), (15, w), (16, .int .i64 (ks.length : Int)), (17, .int .i64 (a.1 : Int))])
    (fun a H' => Keep Non H H' ∧ a.1 ≤ ks.length ∧ Own H' a.2 2 (ks.take a.1).length (((ks.take a.1).map (evOf out M alone)).flatMap evC) ∧ ∀ c, ownB a.2 c → H.nx ≤ c) (fun a => ks.length - a.1) (i, u) (exitA 0 (seqA Tryz.prog tb gl v41t3 (leftA [.tmp 8] Q)))))) := by
    intro l2 H4 e he hK4 hK41 hr4 hs
    refine VA.sub hs (va_reg ?_)
    refine ia_op (oa_move rfl ?_)
    refine ia_op (oa_loadN (z := 2) (i := 0) PlF.h rfl hr4 (Nat.le_refl 2) ?_)
    refine ia_op (oa_newSlice (n := 1) ElF.h (by decide) rfl rfl fun H5 hk5 hr5 => ?_)
    refine ia_op (oa_append rfl rfl rfl ElF.h (.inl UnF.h) rfl ((ho.keep0 hK41).keep0 hk5) rfl (IsRow.sl (es := 2) (n := 1) hr5 rfl (Nat.le_refl 1)).elems rfl rfl (by omega) fun u' H6 ho6 hk6 hb6 => ?_)
    refine ia_op (oa_assign rfl (ia_nil (va_reg ?_)))
    refine ia_op (oa_addW (c := ((i + 1 : Nat) : Int)) rfl rfl (wrapE_i64 (by omega) (by omega) (by omega)) ?_)
    refine ia_op (oa_move rfl (ia_nil ⟨(i + 1, u'), ?_, ⟨rfl, rfl, rfl, rfl, rfl, rfl, rfl, trivial⟩, (hK4.trans0 hk5).trans hk6 fun c hc => .inr (hno c hc), by simp only; omega, ?_, fun c hc => (hb6 c hc).elim (hno c) fun h => Nat.le_trans (hK4.trans0 hk5).nx h⟩))
    · show ks.length - (i + 1) < ks.length - i
      omega
    · simp only
      rw [htake, List.length_append, List.map_append, List.flatMap_append]
      subst he
      exact ho6
  refine ia_nil (va_seqr ?_)
  refine ia_op (oa_move rfl ?_)
  rcases hlk : lookI M c.proc with _ | n
  · refine ia_nil (va_condF rfl (va_skip (hfin _ H3 (alone, c.proc) (by simp only [evOf, hc, hlk]) hK3 hK3' hr3 ⟨rfl, rfl, rfl, rfl, rfl, rfl, rfl, rfl, trivial⟩)))
  · refine ia_nil (va_condT rfl (va_reg ?_))
    refine ia_op (oa_move rfl ?_)
    refine ia_op (oa_struct BsF.h ZeF.h PsF.h rfl ?_)
    refine ia_op (oa_storeAll (k := 2) SzF.h rfl rfl rfl rfl hr3 rfl fun H4 hk4 hn4 hr4 => ?_)
    have hx := hk.nx
    exact ia_nil (hfin _ H4 (1, n) (by simp only [evOf, hc, hlk]) (hK3.trans hk4 fun c hc => .inr (by omega)) (hK3'.trans hk4 fun c hc => .inr (by omega)) hr4 ⟨rfl, rfl, rfl, rfl, rfl, rfl, rfl, rfl, trivial⟩)
end
end Go.Proofs.YtndhniapohlniaaGreatDoor
