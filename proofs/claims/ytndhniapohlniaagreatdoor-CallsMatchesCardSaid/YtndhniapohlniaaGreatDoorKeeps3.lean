/-
  Matched calls: all calls' kids (calls.kin), walked. No conditions but the calls' number.
-/
import Derived.Test.YtndhniapohlniaaGreatDoorKeeps2
namespace Go.Proofs.YtndhniapohlniaaGreatDoor
open Go Go.Proofs.YtndhniapohlniaaGreatDoor.Eng
/-! facts about types -/
theorem el_80 : elemI Tryz.prog 80 = some ⟨52, 1, .nils⟩ := by kernel_rfl
instance iel_80 : ElF Tryz.prog 80 ⟨52, 1, .nils⟩ := ⟨el_80⟩
theorem pl_41 : plcOf Tryz.prog 41 0 = some ⟨0, true, 4⟩ := by kernel_rfl
instance ipl_41 : PlF Tryz.prog 41 ⟨0, true, 4⟩ := ⟨pl_41⟩
theorem fp_41_3 : fieldPlc Tryz.prog 41 3 = some ⟨3, false, 1⟩ := by kernel_rfl
instance ifp_41_3 : FpF Tryz.prog 41 3 ⟨3, false, 1⟩ := ⟨fp_41_3⟩
theorem un_80 : Tryz.prog.underlying 80 = some (.slice 52) := by kernel_rfl
instance iun_80 : UnF Tryz.prog 80 (.slice 52) := ⟨un_80⟩
theorem sz_52 : szOf Tryz.prog 52 = some 1 := by kernel_rfl
instance isz_52 : SzF Tryz.prog 52 1 := ⟨sz_52⟩
theorem pl_52 : plcOf Tryz.prog 52 0 = some ⟨0, false, 1⟩ := by kernel_rfl
instance ipl_52 : PlF Tryz.prog 52 ⟨0, false, 1⟩ := ⟨pl_52⟩
/-! f16: parallax/calls.kin, parameters #[25] -/
def v16k0t1 : CV := .seq (.reg [.op (some 16) (.move (.tmp 4)),
    .op (some 17) (.binOp .gtr 3 (.tmp 16) (.const (.int .i64 0)) 3),
    .op (some 18) (.move (.tmp 17)),
    .gd 18 true (some 19) (.fieldAddr 41 (.tmp 5) 3),
    .gd 18 true (some 20) (.load 3 (.tmp 19)),
    .gd 18 true (some 21) (.binOp .geq 3 (.tmp 20) (.const (.int .i64 0)) 3),
    .op (some 22) (.pick (.tmp 18) (.tmp 21) (.const (.bool false))),
    .op (some 23) (.move (.tmp 22)),
    .gd 23 true (some 24) (.fieldAddr 41 (.tmp 5) 3),
    .gd 23 true (some 25) (.load 3 (.tmp 24)),
    .gd 23 true (some 26) (.move (.tmp 0)),
    .gd 23 true (some 27) (.call ⟨.builtin .len, #[(.tmp 26)], #[25]⟩),
    .gd 23 true (some 28) (.binOp .lss 3 (.tmp 25) (.tmp 27) 3),
    .op (some 29) (.pick (.tmp 23) (.tmp 28) (.const (.bool false)))])
  (.cond (.tmp 29) (.reg [.op (some 30) (.move (.tmp 3)),
    .op (some 31) (.fieldAddr 41 (.tmp 5) 3),
    .op (some 32) (.load 3 (.tmp 31)),
    .op (some 33) (.move (.tmp 3)),
    .op (some 34) (.fieldAddr 41 (.tmp 5) 3),
    .op (some 35) (.load 3 (.tmp 34)),
    .op (some 36) (.indexAddr 80 (.tmp 33) (.tmp 35)),
    .op (some 37) (.load 52 (.tmp 36)),
    .op (some 38) (.move (.tmp 4)),
    .op (some 39) (.buildSlice 52 1 #[(0, (.tmp 38))]),
    .op (some 40) (.call ⟨.builtin .append, #[(.tmp 37), (.tmp 39)], #[52, 52]⟩),
    .ck 32 (.load 3 (.tmp 31)),
    .op (some 41) (.indexAddr 80 (.tmp 30) (.tmp 32)),
    .op none (.store 52 (.tmp 41) (.tmp 40))]) (.skip))
def v16k0 : CV := .seq (.reg [.op (some 13) (.move (.tmp 11)),
    .op (some 14) (.indexAddr 25 (.tmp 9) (.tmp 11)),
    .op (some 15) (.load 41 (.tmp 14)),
    .op (some 5) (.alloc 41),
    .op (some 4) (.assign (.tmp 13)),
    .op none (.store 41 (.tmp 5) (.tmp 15))]) v16k0t1
def v16l0t2 : CV := .seq (.block 1 v16k0)
  (.reg [.op (some 42) (.binOp .add 3 (.tmp 11) (.const (.int .i64 1)) 3),
    .op (some 11) (.move (.tmp 42))])
def v16l0t1 : CV := .seq (.cond (.tmp 12) (.skip) (.exit 0)) v16l0t2
def v16l0 : CV := .seq (.reg [.op (some 12) (.binOp .lss 3 (.tmp 11) (.tmp 10) 3)]) v16l0t1
def v16h2 : CV := .seq (.reg [.op (some 9) (.move (.tmp 0)),
    .op (some 10) (.call ⟨.builtin .len, #[(.tmp 9)], #[25]⟩),
    .op (some 11) (.move (.const (.int .i64 0)))])
  (.block 0 (.loop v16l0))
def v16t3 : CV := .seq (.reg [.op (some 43) (.move (.tmp 3)),
    .op (some 2) (.assign (.tmp 43))])
  (.ret)
def v16t2 : CV := .seq v16h2 v16t3
def v16t1 : CV := .seq (.reg [.op (some 6) (.move (.tmp 0)),
    .op (some 7) (.call ⟨.builtin .len, #[(.tmp 6)], #[25]⟩),
    .op (some 8) (.makeSlice 80 (.tmp 7) (.tmp 7)),
    .op (some 3) (.assign (.tmp 8))]) v16t2
def v16 : CV := .seq (.reg [.op (some 2) (.assign (.const (.slice none 0 0)))]) v16t1
noncomputable def b16 : Code := Tryz.f16.body.getD .skip
theorem b16_eq : Tryz.f16.body = some b16 := by kernel_rfl
theorem v16_eq : viewC Tryz.prog b16 = some v16 := by kernel_rfl
theorem r16_eq : Tryz.f16.results.toList = [.tmp 2] := by kernel_rfl

/-! ### the plain law -/
def isKid (out : List Cl) (k i : Nat) : Bool := match out[i]? with | some c => decide (0 < i) && decide (c.up = (k : Int)) | none => false
/-- the kids of a call, among the first ones -/
def kidsT (out : List Cl) (k n : Nat) : List Nat := (List.range n).filter (isKid out k)
theorem kidsT_succ (out : List Cl) (k n : Nat) : kidsT out k (n + 1) = if isKid out k n = true then kidsT out k n ++ [n] else kidsT out k n := by
  unfold kidsT
  rw [List.range_succ, List.filter_append]
  by_cases h : isKid out k n = true
  · rw [if_pos h, List.filter_cons_of_pos h]; rfl
  · rw [if_neg h, List.filter_cons_of_neg h, List.filter_nil, List.append_nil]
theorem kidsT_len (out : List Cl) (k n : Nat) : (kidsT out k n).length ≤ n := by
  unfold kidsT
  have := List.length_filter_le (isKid out k) (List.range n)
  rwa [List.length_range] at this
theorem repL_one (n : Nat) (x : AV) : repL n [x] = List.replicate n x := by
  induction n with
  | zero => rfl
  | succ n ih => rw [List.replicate_succ, ← ih]; rfl
/-- rows of the call's own, apart from one another and from a block -/
structure Kin (H0 : Heap) (bk : Nat) (us : List AV) (f : Nat → List Nat) (H : Heap) : Prop where
  own : ∀ (k : Nat) u, us[k]? = some u → Own H u 1 (f k).length ((f k).flatMap ixC)
  new : ∀ (k : Nat) u, us[k]? = some u → ∀ c, ownB u c → H0.nx ≤ c ∧ c ≠ bk
  apart : ∀ (k : Nat) u, us[k]? = some u → ∀ (k' : Nat) u', us[k']? = some u' → k ≠ k' → ∀ c, ownB u c → ¬ ownB u' c
theorem Kin.keep {H0 : Heap} {bk : Nat} {us : List AV} {f : Nat → List Nat} {H H' : Heap} {S : Nat → Prop} (h : Kin H0 bk us f H) (k : Keep S H H') (hs : ∀ (k : Nat) u, us[k]? = some u → ∀ c, ownB u c → ¬ S c) : Kin H0 bk us f H' :=
  ⟨fun j u hu => (h.own j u hu).keep k (hs j u hu), h.new, h.apart⟩
section
variable {tb : List FuncId} {gl : List (List AV)} {H : Heap} {v : AV} {Q : AV → Heap → Prop}
structure KinI (out : List Cl) (H : Heap) (bk : Nat) (a : Nat × List AV) (H' : Heap) : Prop where
  keep : Keep Non H H'
  le : a.1 ≤ out.length
  len : a.2.length = out.length
  row : IsRow H' bk a.2 false false
  kin : Kin H bk a.2 (fun k => kidsT out k a.1) H'
set_option maxHeartbeats 0 in
theorem kin_ok {out : List Cl} (hn : out.length < 1000) (hv : IsSl H v 4 out.length (out.flatMap clC))
    (hQ : ∀ bk us H', H.nx ≤ bk → Keep Non H H' → us.length = out.length → IsRow H' bk us false false → Kin H bk us (fun k => kidsT out k out.length) H' → Q (.sl bk 0 out.length out.length) H') : WpF Tryz.prog tb gl 16 [v] H Q := by
  have hlim : limit = 1000000 := rfl
  refine fa Tryz.func16 b16_eq v16_eq r16_eq (.inr (by simp)) ?_
  refine va_seqr ?_
  refine ia_pl rfl ?_
  refine ia_nil (va_seqr ?_)
  refine ia_op (oa_move rfl ?_)
  refine ia_op (oa_lenSl rfl rfl rfl UnF.h rfl hv ?_)
  refine ia_op (oa_makeSlice (n := out.length) (c := out.length) ElF.h rfl rfl rfl rfl (Nat.le_refl _) (by omega) rfl fun H1 hk1 hr1 => ?_)
  have hb1 := hr1.1
  have hx1 := hk1.nx
  obtain ⟨bk, hbk⟩ : ∃ b, b = H.nx := ⟨_, rfl⟩
  rw [← hbk] at hr1 hb1 ⊢
  rw [show ((AV.nils).cells) = [AV.nils] from rfl, repL_one] at hr1
  refine ia_op (oa_assign rfl (ia_nil (va_seq (va_seqr ?_))))
  refine ia_op (oa_move rfl ?_)
  refine ia_op (oa_lenSl rfl rfl rfl UnF.h rfl (hv.keep0 hk1) ?_)
  refine ia_op (oa_move rfl (ia_nil (va_block ?_)))
  refine va_loop (fun (a : Nat × List AV) => [(0, v), (3, .sl bk 0 out.length out.length), (9, v), (10, .int .i64 (out.length : Int)), (11, .int .i64 (a.1 : Int))]) (KinI out H bk) (fun a => out.length - a.1) ?_ (0, List.replicate out.length .nils) _ H1 ⟨rfl, rfl, rfl, rfl, rfl, trivial⟩
    ⟨hk1, Nat.zero_le _, by simp, hr1, ⟨fun k u hu => ?_, fun k u hu c hc => ?_, fun k u hu k' u' hu' hne c hc => ?_⟩⟩
  rotate_left
  · have := List.mem_of_getElem? hu
    rw [List.mem_replicate] at this
    rw [this.2]
    exact .nil _ _
  · have := List.mem_of_getElem? hu
    rw [List.mem_replicate] at this
    rw [this.2] at hc
    exact hc.elim
  · have := List.mem_of_getElem? hu
    rw [List.mem_replicate] at this
    rw [this.2] at hc
    exact hc.elim
  rintro ⟨i, us⟩ H2 ⟨hk, hle, hlen, hrow, hkin⟩
  simp only at hle hlen hrow hkin
  refine va_seqr ?_
  by_cases hi : i = out.length
  · refine ia_op (oa_lssW rfl rfl (decide_eq_false (by simp only; omega)) ?_)
    refine ia_nil (va_seq (va_condF rfl (va_exit (va_seqr ?_))))
    rw [hi] at hkin
    refine ia_op (oa_move rfl ?_)
    refine ia_op (oa_assign rfl (ia_nil (va_ret ⟨_, rfl, hQ bk us H2 (by omega) hk hlen hrow hkin⟩)))
  have hlt : i < out.length := by omega
  refine ia_op (oa_lssW rfl rfl (decide_eq_true (by simp only; omega)) ?_)
  refine ia_nil (va_seq (va_condT rfl (va_skip ?_)))
  obtain ⟨c, hc⟩ : ∃ c, out[i]? = some c := ⟨_, List.getElem?_eq_getElem hlt⟩
  have hchunk := flat_chunk clC_len out i c hc
  refine va_seq (va_block (va_seqr ?_))
  refine ia_op (oa_move rfl ?_)
  refine ia_op (oa_indexSl UnF.h SzF.h rfl (hv.keep0 hk) rfl rfl hlt fun q0 hq0 => ?_)
  rw [hchunk] at hq0
  refine ia_op (oa_ploadN (k := 4) PlF.h rfl (by decide) rfl hq0 ?_)
  refine ia_op (oa_alloc ZeF.h fun H3 hk3 hr3 => ?_)
  refine ia_op (oa_assign rfl ?_)
  refine ia_op (oa_storeAll (k := 4) SzF.h rfl rfl rfl rfl hr3 rfl fun H4 hk4 hn4 hr4 => ?_)
  have hK4' : Keep Non H2 H4 := hk3.trans hk4 fun c hc => .inr (by omega)
  have hK4 := hk.trans0 hK4'
  obtain ⟨b5, hb5⟩ : ∃ b, b = H2.nx := ⟨_, rfl⟩
  rw [← hb5] at hr4 ⊢
  have hrowlt := hrow.1
  have next : ∀ (l2 : Fm) (H8 : Heap) (us2 : List AV), KinI out H bk (i + 1, us2) H8 → Sb [(0, v), (3, .sl bk 0 out.length out.length), (9, v), (10, .int .i64 (out.length : Int)), (11, .int .i64 (i : Int))] l2 →
      VA Tryz.prog tb gl (.reg [.op (some 42) (.binOp .add 3 (.tmp 11) (.const (.int .i64 1)) 3), .op (some 11) (.move (.tmp 42))]) l2 H8 (roundA (fun (a : Nat × List AV) => [(0, v), (3, .sl bk 0 out.length out.length), (9, v), (10, .int .i64 (out.length : Int)), (11, .int .i64 (a.1 : Int))]) (KinI out H bk) (fun a => out.length - a.1) (i, us)
        (exitA 0 (seqA Tryz.prog tb gl v16t3 (leftA [.tmp 2] Q)))) := by
    intro l2 H8 us2 hI h
    refine VA.sub h (va_reg ?_)
    refine ia_op (oa_addW (c := ((i + 1 : Nat) : Int)) rfl rfl (wrapE_i64 (by omega) (by omega) (by omega)) ?_)
    refine ia_op (oa_move rfl (ia_nil ⟨(i + 1, us2), ?_, ⟨rfl, rfl, rfl, rfl, rfl, trivial⟩, hI⟩))
    show out.length - (i + 1) < out.length - i
    omega
  -- a call that is no kid
  have none' : ¬ (0 < i ∧ 0 ≤ c.up ∧ c.up < (out.length : Int)) → ∀ l2 : Fm, Sb [(0, v), (3, .sl bk 0 out.length out.length), (9, v), (10, .int .i64 (out.length : Int)), (11, .int .i64 (i : Int))] l2 →
      VA Tryz.prog tb gl (.reg [.op (some 42) (.binOp .add 3 (.tmp 11) (.const (.int .i64 1)) 3), .op (some 11) (.move (.tmp 42))]) l2 H4 (roundA (fun (a : Nat × List AV) => [(0, v), (3, .sl bk 0 out.length out.length), (9, v), (10, .int .i64 (out.length : Int)), (11, .int .i64 (a.1 : Int))]) (KinI out H bk) (fun a => out.length - a.1) (i, us)
        (exitA 0 (seqA Tryz.prog tb gl v16t3 (leftA [.tmp 2] Q)))) := by
    intro h l2 hs
    refine next l2 H4 us ⟨hK4, by simp only; omega, hlen, hrow.keep0 hK4', ?_⟩ hs
    have hkk := hkin.keep hK4' (fun _ _ _ _ _ h => h)
    refine ⟨fun k u hu => ?_, hkk.new, hkk.apart⟩
    have hkl : k < us.length := (List.getElem?_eq_some_iff.1 hu).1
    have e : kidsT out k (i + 1) = kidsT out k i := by
      rw [kidsT_succ, if_neg]
      simp only [isKid, hc, Bool.and_eq_true, decide_eq_true_eq]
      omega
    simp only [e]
    exact hkk.own k u hu
  refine ia_nil (va_seqr ?_)
  refine ia_op (oa_move rfl ?_)
  by_cases h0 : 0 < i
  rotate_left
  · refine ia_op (oa_gtrW rfl rfl (decide_eq_false (by omega)) ?_)
    refine ia_op (oa_move rfl ?_)
    iterate 3 refine ia_gdN rfl ?_
    refine ia_op (oa_pickF rfl rfl ?_)
    refine ia_op (oa_move rfl ?_)
    iterate 5 refine ia_gdN rfl ?_
    refine ia_op (oa_pickF rfl rfl (ia_nil (va_condF rfl (va_skip (none' (by omega) _ ⟨rfl, rfl, rfl, rfl, rfl, trivial⟩)))))
  refine ia_op (oa_gtrW rfl rfl (decide_eq_true (by omega)) ?_)
  refine ia_op (oa_move rfl ?_)
  refine ia_gdY rfl (oa_fieldAddr FpF.h (by decide) rfl ?_)
  refine ia_gdY rfl (oa_load1 PlF.h rfl hr4 rfl ?_)
  by_cases h1 : 0 ≤ c.up
  rotate_left
  · refine ia_gdY rfl (oa_geqW rfl rfl (decide_eq_false (by omega)) ?_)
    refine ia_op (oa_pickT rfl rfl rfl ?_)
    refine ia_op (oa_move rfl ?_)
    iterate 5 refine ia_gdN rfl ?_
    refine ia_op (oa_pickF rfl rfl (ia_nil (va_condF rfl (va_skip (none' (by omega) _ ⟨rfl, rfl, rfl, rfl, rfl, trivial⟩)))))
  refine ia_gdY rfl (oa_geqW rfl rfl (decide_eq_true (by omega)) ?_)
  refine ia_op (oa_pickT rfl rfl rfl ?_)
  refine ia_op (oa_move rfl ?_)
  refine ia_gdY rfl (oa_fieldAddr FpF.h (by decide) rfl ?_)
  refine ia_gdY rfl (oa_load1 PlF.h rfl hr4 rfl ?_)
  refine ia_gdY rfl (oa_move rfl ?_)
  refine ia_gdY rfl (oa_lenSl rfl rfl rfl UnF.h rfl (hv.keep0 hK4) ?_)
  by_cases h2 : c.up < (out.length : Int)
  rotate_left
  · refine ia_gdY rfl (oa_lssW rfl rfl (decide_eq_false (by omega)) ?_)
    refine ia_op (oa_pickT rfl rfl rfl (ia_nil (va_condF rfl (va_skip (none' (by omega) _ ⟨rfl, rfl, rfl, rfl, rfl, trivial⟩)))))
  refine ia_gdY rfl (oa_lssW rfl rfl (decide_eq_true (by omega)) ?_)
  refine ia_op (oa_pickT rfl rfl rfl (ia_nil (va_condT rfl (va_reg ?_))))
  obtain ⟨w, hw⟩ : ∃ w : Nat, c.up = (w : Int) := ⟨c.up.toNat, by omega⟩
  have hwl : w < us.length := by omega
  obtain ⟨u, hu⟩ : ∃ u, us[w]? = some u := ⟨_, List.getElem?_eq_getElem hwl⟩
  refine ia_op (oa_move rfl ?_)
  refine ia_op (oa_fieldAddr FpF.h (by decide) rfl ?_)
  refine ia_op (oa_load1 PlF.h rfl hr4 rfl ?_)
  refine ia_op (oa_move rfl ?_)
  refine ia_op (oa_fieldAddr FpF.h (by decide) rfl ?_)
  refine ia_op (oa_load1 PlF.h rfl hr4 rfl ?_)
  refine ia_op (oa_indexRow (j := w) UnF.h SzF.h rfl rfl hw (by omega) ?_)
  refine ia_op (oa_load1 PlF.h rfl (hrow.keep0 hK4') (by rw [Nat.mul_one]; exact hu) ?_)
  refine ia_op (oa_move rfl ?_)
  refine ia_op (oa_newSlice (n := 1) ElF.h (by decide) rfl rfl fun H5 hk5 hr5 => ?_)
  have hown := ((hkin.own w u hu).keep0 hK4').keep0 hk5
  have hkl := kidsT_len out w i
  refine ia_op (oa_append rfl rfl rfl ElF.h (.inl UnF.h) rfl hown rfl (IsRow.sl (es := 1) (n := 1) hr5 rfl (Nat.le_refl 1)).elems rfl rfl (by omega) fun u' H6 ho6 hk6 hb6 => ?_)
  have hunew := hkin.new w u hu
  have hult : ∀ c, ownB u c → c < H2.nx := fun c hc => (hkin.own w u hu).lt hc
  have hn5 := hk5.nx
  have hn4' := hK4'.nx
  refine ia_ckL PlF.h rfl ((hr4.keep0 hk5).keep hk6 (.inl fun h => by have := hult _ h; omega)) rfl rfl ?_
  refine ia_op (oa_indexRow (j := w) UnF.h SzF.h rfl rfl hw (by omega) ?_)
  rw [Nat.mul_one]
  have hrow6 : IsRow H6 bk us false false := ((hrow.keep0 hK4').keep0 hk5).keep hk6 (.inl fun h => (hunew _ h).2 rfl)
  have hus' : scal u' = true := by
    obtain ⟨_, _, ⟨rfl, _⟩ | ⟨b, row, rfl, _⟩⟩ := ho6 <;> rfl
  refine ia_op (oa_store1 SzF.h rfl rfl hus' hrow6 hwl fun H7 hk7 hn7 hr7 => ?_)
  refine ia_nil (next _ H7 (us.set w u') ⟨((hK4.trans0 hk5).trans hk6 fun c hc => .inr (hunew c hc).1).trans hk7 fun c hc => .inr (by omega), by simp only; omega, by simp only [List.length_set]; exact hlen, hr7, ?_⟩ ⟨rfl, rfl, rfl, rfl, rfl, trivial⟩)
  have hb6' : ∀ c, ownB u' c → (ownB u c ∨ H4.nx ≤ c) := fun c hc => (hb6 c hc).imp id fun h => by omega
  have hold : ∀ (k : Nat) x, us[k]? = some x → k ≠ w → Own H7 x 1 (kidsT out k i).length ((kidsT out k i).flatMap ixC) := fun k x hx hne =>
    ((((hkin.own k x hx).keep0 hK4').keep0 hk5).keep hk6 (hkin.apart k x hx w u hu hne)).keep hk7 (fun c hc h => (hkin.new k x hx c hc).2 h)
  have hget : ∀ (k : Nat) x, (us.set w u')[k]? = some x → (k = w ∧ x = u') ∨ (k ≠ w ∧ us[k]? = some x) := by
    intro k x hx
    by_cases hkw : k = w
    · subst hkw
      rw [List.getElem?_set_self hwl] at hx
      injection hx with hx
      exact .inl ⟨rfl, hx.symm⟩
    · rw [List.getElem?_set_ne (fun h => hkw h.symm)] at hx
      exact .inr ⟨hkw, hx⟩
  have hold' : ∀ (k : Nat) x, us[k]? = some x → ∀ c, ownB x c → c < H4.nx := fun k x hx c hc => by
    have := (hkin.own k x hx).lt hc
    omega
  refine ⟨fun k x hx => ?_, fun k x hx c' hc' => ?_, fun k x hx k' x' hx' hne c' hc' hc2 => ?_⟩
  · rcases hget k x hx with ⟨rfl, rfl⟩ | ⟨hkw, hx⟩
    · have e : kidsT out k (i + 1) = kidsT out k i ++ [i] := by
        rw [kidsT_succ, if_pos]
        simp only [isKid, hc, Bool.and_eq_true, decide_eq_true_eq]
        exact ⟨h0, hw⟩
      simp only [e, List.length_append, List.flatMap_append]
      exact ho6.keep hk7 (fun c hc h => (hb6' c hc).elim (fun h2 => (hunew c h2).2 h) fun h2 => by omega)
    · have e : kidsT out k (i + 1) = kidsT out k i := by
        rw [kidsT_succ, if_neg]
        simp only [isKid, hc, Bool.and_eq_true, decide_eq_true_eq]
        omega
      simp only [e]
      exact hold k x hx hkw
  · rcases hget k x hx with ⟨rfl, rfl⟩ | ⟨hkw, hx⟩
    · refine (hb6' c' hc').elim (hunew c') fun h => ⟨?_, by omega⟩
      have := hK4.nx
      omega
    · exact hkin.new k x hx c' hc'
  · rcases hget k x hx with ⟨rfl, rfl⟩ | ⟨hkw, hx1⟩
    · rcases hget k' x' hx' with ⟨rfl, rfl⟩ | ⟨hkw', hx2⟩
      · exact hne rfl
      · rcases hb6' c' hc' with h | h
        · exact hkin.apart k u hu k' x' hx2 hne c' h hc2
        · have := hold' k' x' hx2 c' hc2; omega
    · rcases hget k' x' hx' with ⟨rfl, rfl⟩ | ⟨hkw', hx2⟩
      · rcases hb6' c' hc2 with h | h
        · exact hkin.apart k x hx1 k' u hu hne c' hc' h
        · have := hold' k x hx1 c' hc'; omega
      · exact hkin.apart k x hx1 k' x' hx2 hne c' hc' hc2
end
end Go.Proofs.YtndhniapohlniaaGreatDoor
