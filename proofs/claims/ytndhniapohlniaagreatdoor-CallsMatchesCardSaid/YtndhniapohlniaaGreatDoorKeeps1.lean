/-
  Matched calls: the numbers of pairs (calls.numbered), walked. No conditions.
-/
import Derived.Test.YtndhniapohlniaaGreatDoorCalls1
import Derived.Test.YtndhniapohlniaaGreatDoorCore8
namespace Go.Proofs.YtndhniapohlniaaGreatDoor
open Go Go.Proofs.YtndhniapohlniaaGreatDoor.Eng
/-! facts about types -/
theorem ze_84 : zeroOf Tryz.prog 84 = some (.agg [.nilm, .nilm]) := by kernel_rfl
instance ize_84 : ZeF Tryz.prog 84 (.agg [.nilm, .nilm]) := ⟨ze_84⟩
theorem bs_84 : structOK Tryz.prog 84 = true := by kernel_rfl
instance ibs_84 : BsF Tryz.prog 84 := ⟨bs_84⟩
theorem ps_84 : plcsOK Tryz.prog 84 0 [(0, 1), (1, 1)] = true := by kernel_rfl
instance ips_84 : PsF Tryz.prog 84 [(0, 1), (1, 1)] := ⟨ps_84⟩
theorem sz_84 : szOf Tryz.prog 84 = some 2 := by kernel_rfl
instance isz_84 : SzF Tryz.prog 84 2 := ⟨sz_84⟩
theorem un_23 : Tryz.prog.underlying 23 = some (.slice 45) := by kernel_rfl
instance iun_23 : UnF Tryz.prog 23 (.slice 45) := ⟨un_23⟩
theorem el_23 : elemI Tryz.prog 23 = some ⟨45, 2, .agg [.int .i64 0, .int .i64 0]⟩ := by kernel_rfl
instance iel_23 : ElF Tryz.prog 23 ⟨45, 2, .agg [.int .i64 0, .int .i64 0]⟩ := ⟨el_23⟩
theorem sz_45 : szOf Tryz.prog 45 = some 2 := by kernel_rfl
instance isz_45 : SzF Tryz.prog 45 2 := ⟨sz_45⟩
theorem pl_45 : plcOf Tryz.prog 45 0 = some ⟨0, true, 2⟩ := by kernel_rfl
instance ipl_45 : PlF Tryz.prog 45 ⟨0, true, 2⟩ := ⟨pl_45⟩
theorem ze_45 : zeroOf Tryz.prog 45 = some (.agg [.int .i64 0, .int .i64 0]) := by kernel_rfl
instance ize_45 : ZeF Tryz.prog 45 (.agg [.int .i64 0, .int .i64 0]) := ⟨ze_45⟩
theorem fp_84_0 : fieldPlc Tryz.prog 84 0 = some ⟨0, false, 1⟩ := by kernel_rfl
instance ifp_84_0 : FpF Tryz.prog 84 0 ⟨0, false, 1⟩ := ⟨fp_84_0⟩
theorem pl_82 : plcOf Tryz.prog 82 0 = some ⟨0, false, 1⟩ := by kernel_rfl
instance ipl_82 : PlF Tryz.prog 82 ⟨0, false, 1⟩ := ⟨pl_82⟩
theorem un_45 : Tryz.prog.underlying 45 = some (.array 2 3) := by kernel_rfl
instance iun_45 : UnF Tryz.prog 45 (.array 2 3) := ⟨un_45⟩
theorem un_82 : Tryz.prog.underlying 82 = some (.map 3 3) := by kernel_rfl
instance iun_82 : UnF Tryz.prog 82 (.map 3 3) := ⟨un_82⟩
theorem ze_3 : zeroOf Tryz.prog 3 = some (.int .i64 0) := by kernel_rfl
instance ize_3 : ZeF Tryz.prog 3 (.int .i64 0) := ⟨ze_3⟩
theorem fp_84_1 : fieldPlc Tryz.prog 84 1 = some ⟨1, false, 1⟩ := by kernel_rfl
instance ifp_84_1 : FpF Tryz.prog 84 1 ⟨1, false, 1⟩ := ⟨fp_84_1⟩
theorem pl_84 : plcOf Tryz.prog 84 0 = some ⟨0, true, 2⟩ := by kernel_rfl
instance ipl_84 : PlF Tryz.prog 84 ⟨0, true, 2⟩ := ⟨pl_84⟩
/-! f17: parallax/calls.numbered, parameters #[23] -/
def v17k0h3 : CV := .seq (.reg [.op (some 36) (.move (.tmp 7)),
    .op (some 37) (.move (.tmp 36)),
    .gd 37 false (some 38) (.move (.tmp 9)),
    .op (some 39) (.pick (.tmp 37) (.const (.bool true)) (.tmp 38))])
  (.cond (.tmp 39) (.exit 1) (.skip))
def v17k0t3 : CV := .seq v17k0h3
  (.reg [.op (some 40) (.fieldAddr 84 (.tmp 3) 0),
    .op (some 41) (.load 82 (.tmp 40)),
    .op (some 42) (.indexAddr 45 (.tmp 5) (.const (.int .i64 0))),
    .op (some 43) (.load 3 (.tmp 42)),
    .op (some 44) (.fieldAddr 84 (.tmp 3) 1),
    .op (some 45) (.load 82 (.tmp 44)),
    .op (some 46) (.indexAddr 45 (.tmp 5) (.const (.int .i64 1))),
    .op (some 47) (.load 3 (.tmp 46)),
    .op (some 48) (.move (.tmp 4)),
    .op (some 49) (.binOp .add 3 (.tmp 48) (.const (.int .i64 1)) 3),
    .op (some 50) (.move (.tmp 4)),
    .op (some 51) (.binOp .add 3 (.tmp 50) (.const (.int .i64 1)) 3),
    .op none (.mapUpdate 82 (.tmp 41) (.tmp 43) (.tmp 49)),
    .ck 45 (.load 82 (.tmp 44)),
    .ck 47 (.load 3 (.tmp 46)),
    .op none (.mapUpdate 82 (.tmp 45) (.tmp 47) (.tmp 51))])
def v17k0t2 : CV := .seq (.reg [.op (some 29) (.fieldAddr 84 (.tmp 3) 1),
    .op (some 30) (.load 82 (.tmp 29)),
    .op (some 31) (.indexAddr 45 (.tmp 5) (.const (.int .i64 1))),
    .op (some 32) (.load 3 (.tmp 31)),
    .op (some 33) (.lookup 82 (.tmp 30) (.tmp 32) true),
    .op (some 28) (.move (.tmp 33)),
    .op (some 34) (.extract (.tmp 28) 0),
    .op (some 35) (.extract (.tmp 28) 1),
    .op (some 8) (.assign (.tmp 34)),
    .op (some 9) (.assign (.tmp 35))]) v17k0t3
def v17k0t1 : CV := .seq (.reg [.op (some 21) (.fieldAddr 84 (.tmp 3) 0),
    .op (some 22) (.load 82 (.tmp 21)),
    .op (some 23) (.indexAddr 45 (.tmp 5) (.const (.int .i64 0))),
    .op (some 24) (.load 3 (.tmp 23)),
    .op (some 25) (.lookup 82 (.tmp 22) (.tmp 24) true),
    .op (some 20) (.move (.tmp 25)),
    .op (some 26) (.extract (.tmp 20) 0),
    .op (some 27) (.extract (.tmp 20) 1),
    .op (some 6) (.assign (.tmp 26)),
    .op (some 7) (.assign (.tmp 27))]) v17k0t2
def v17k0 : CV := .seq (.reg [.op (some 17) (.move (.tmp 15)),
    .op (some 18) (.indexAddr 23 (.tmp 13) (.tmp 15)),
    .op (some 19) (.load 45 (.tmp 18)),
    .op (some 5) (.alloc 45),
    .op (some 4) (.assign (.tmp 17)),
    .op none (.store 45 (.tmp 5) (.tmp 19))]) v17k0t1
def v17l0t2 : CV := .seq (.block 1 v17k0)
  (.reg [.op (some 52) (.binOp .add 3 (.tmp 15) (.const (.int .i64 1)) 3),
    .op (some 15) (.move (.tmp 52))])
def v17l0t1 : CV := .seq (.cond (.tmp 16) (.skip) (.exit 0)) v17l0t2
def v17l0 : CV := .seq (.reg [.op (some 16) (.binOp .lss 3 (.tmp 15) (.tmp 14) 3)]) v17l0t1
def v17h2 : CV := .seq (.reg [.op (some 13) (.move (.tmp 0)),
    .op (some 14) (.call ⟨.builtin .len, #[(.tmp 13)], #[23]⟩),
    .op (some 15) (.move (.const (.int .i64 0)))])
  (.block 0 (.loop v17l0))
def v17t3 : CV := .seq (.reg [.op (some 53) (.load 84 (.tmp 3)),
    .op none (.store 84 (.tmp 2) (.tmp 53))])
  (.ret)
def v17t2 : CV := .seq v17h2 v17t3
def v17t1 : CV := .seq (.reg [.op (some 10) (.makeMap 82 none),
    .op (some 11) (.makeMap 82 none),
    .op (some 12) (.build 84 #[(0, (.tmp 10)), (1, (.tmp 11))]),
    .op (some 3) (.alloc 84),
    .op none (.store 84 (.tmp 3) (.tmp 12))]) v17t2
def v17 : CV := .seq (.reg [.op (some 2) (.alloc 84)]) v17t1
noncomputable def b17 : Code := Tryz.f17.body.getD .skip
theorem b17_eq : Tryz.f17.body = some b17 := by kernel_rfl
theorem v17_eq : viewC Tryz.prog b17 = some v17 := by kernel_rfl
theorem r17_eq : Tryz.f17.results.toList = [.cell 2 84] := by kernel_rfl

/-! ### the plain law -/
def prC (p : Int × Int) : List AV := [.int .i64 p.1, .int .i64 p.2]
theorem prC_len (p : Int × Int) : (prC p).length = 2 := rfl
/-- the numbers of pairs, left and right -/
def numT : Nat → List (Int × Int) → List (Int × Int) → List (Int × Int) → List (Int × Int) × List (Int × Int)
  | _, [], L, R => (L, R)
  | i, p :: ps, L, R => if (lookI L p.1).isSome = true ∨ (lookI R p.2).isSome = true then numT (i + 1) ps L R else numT (i + 1) ps (L ++ [(p.1, ((i + 1 : Nat) : Int))]) (R ++ [(p.2, ((i + 1 : Nat) : Int))])
section
variable {tb : List FuncId} {gl : List (List AV)} {H : Heap} {v : AV} {Q : AV → Heap → Prop}
abbrev NA := Nat × List (Int × Int) × List (Int × Int)
structure NumI (ps : List (Int × Int)) (H : Heap) (b2 b3 m1 m2 : Nat) (a : NA) (H' : Heap) : Prop where
  keep : Keep Non H H'
  le : a.1 ≤ ps.length
  run : numT a.1 (ps.drop a.1) a.2.1 a.2.2 = numT 0 ps [] []
  left : IsMap H' m1 a.2.1
  right : IsMap H' m2 a.2.2
  r2 : IsRow H' b2 [.nilm, .nilm] false false
  r3 : IsRow H' b3 [.map m1, .map m2] false false
set_option maxHeartbeats 0 in
theorem numbered_ok {ps : List (Int × Int)} (hn : ps.length < 500000) (hv : IsSlR H v 2 ps.length (ps.flatMap prC))
    (hQ : ∀ m1 m2 H', m1 ≠ m2 → H.nx ≤ m1 → H.nx ≤ m2 → Keep Non H H' → IsMap H' m1 (numT 0 ps [] []).1 → IsMap H' m2 (numT 0 ps [] []).2 → Q (.agg [.map m1, .map m2]) H') : WpF Tryz.prog tb gl 17 [v] H Q := by
  refine faM Tryz.func17 b17_eq v17_eq r17_eq (.inr (by simp)) ?_
  refine va_seqr ?_
  refine ia_op (oa_alloc ZeF.h fun H1 hk1 hr1 => ?_)
  refine ia_nil (va_seqr ?_)
  refine ia_op (oa_makeMap fun H2 hk2 hm2 => ?_)
  refine ia_op (oa_makeMap fun H3 hk3 hm3 => ?_)
  refine ia_op (oa_struct BsF.h ZeF.h PsF.h rfl ?_)
  refine ia_op (oa_alloc ZeF.h fun H4 hk4 hr4 => ?_)
  refine ia_op (oa_storeAll (k := 2) SzF.h rfl rfl rfl rfl hr4 rfl fun H5 hk5 hn5 hr5 => ?_)
  have hl1 := hr1.1
  have hl2 := hm2.1
  have hl3 := hm3.1
  have hl4 := hr4.1
  have hx1 := hk1.nx
  have hx2 := hk2.nx
  have hx3 := hk3.nx
  have hx4 := hk4.nx
  obtain ⟨b2, hb2⟩ : ∃ b, b = H.nx := ⟨_, rfl⟩
  obtain ⟨m1, hm1e⟩ : ∃ b, b = H1.nx := ⟨_, rfl⟩
  obtain ⟨m2, hm2e⟩ : ∃ b, b = H2.nx := ⟨_, rfl⟩
  obtain ⟨b3, hb3⟩ : ∃ b, b = H3.nx := ⟨_, rfl⟩
  rw [← hb2] at hr1 hl1 ⊢
  rw [← hm1e] at hm2 hl2 ⊢
  rw [← hm2e] at hm3 hl3 ⊢
  rw [← hb3] at hr4 hr5 hk5 hl4 ⊢
  rw [← hm1e, ← hm2e] at hr5
  have hK : Keep Non H H5 := (((hk1.trans0 hk2).trans0 hk3).trans0 hk4).trans hk5 fun c hc => .inr (by omega)
  refine ia_nil (va_seq (va_seqr ?_))
  refine ia_op (oa_move rfl ?_)
  refine ia_op (oa_lenSl rfl rfl rfl UnF.h rfl (hv.keep hK).sl ?_)
  refine ia_op (oa_move rfl (ia_nil (va_block ?_)))
  refine va_loop (fun (a : NA) => [(2, .ptr b2 0), (3, .ptr b3 0), (13, v), (14, .int .i64 (ps.length : Int)), (15, .int .i64 (a.1 : Int))]) (NumI ps H b2 b3 m1 m2) (fun a => ps.length - a.1) ?_ (0, [], []) _ H5 ⟨rfl, rfl, rfl, rfl, rfl, trivial⟩
    ⟨hK, Nat.zero_le _, rfl, (((hm2.keep0 hk3).keep0 hk4).keep hk5 (by omega)), ((hm3.keep0 hk4).keep hk5 (by omega)), ((((hr1.keep0 hk2).keep0 hk3).keep0 hk4).keep hk5 (.inl (by omega))), hr5⟩
  rintro ⟨i, L, R⟩ H' ⟨hkeep, hle, hrun, hL, hR, h2, h3⟩
  simp only at hle hrun hL hR
  refine va_seqr ?_
  by_cases hi : i = ps.length
  · refine ia_op (oa_lssW rfl rfl (decide_eq_false (by simp only; omega)) (ia_nil (va_seq (va_condF rfl (va_exit (va_seqr ?_))))))
    subst hi
    rw [List.drop_length] at hrun
    simp only [numT] at hrun
    rw [← hrun] at hQ
    refine ia_op (oa_loadN (z := 2) (i := 0) PlF.h rfl h3 (Nat.le_refl 2) ?_)
    refine ia_op (oa_storeAll (k := 2) SzF.h rfl rfl rfl rfl h2 rfl fun H6 hk6 hn6 hr6 => ?_)
    refine ia_nil (va_ret ⟨_, ⟨b2, [.map m1, .map m2], false, false, .agg [.map m1, .map m2], [], rfl, hr6, .inl ⟨0, (show plcOf Tryz.prog 84 0 = some ⟨0, true, 2⟩ from PlF.h), rfl⟩, rfl, rfl⟩, ?_⟩)
    exact hQ m1 m2 H6 (by omega) (by omega) (by omega) (hkeep.trans hk6 fun c hc => .inr (by omega)) (hL.keep hk6 (by omega)) (hR.keep hk6 (by omega))
  have hlt : i < ps.length := by omega
  refine ia_op (oa_lssW rfl rfl (decide_eq_true (by simp only; omega)) (ia_nil (va_seq (va_condT rfl (va_skip ?_)))))
  obtain ⟨p, hp⟩ : ∃ p, ps[i]? = some p := ⟨_, List.getElem?_eq_getElem hlt⟩
  have hdrop : ps.drop i = p :: ps.drop (i + 1) := by
    rw [List.drop_eq_getElem_cons hlt, (List.getElem?_eq_some_iff.1 hp).2]
  rw [hdrop] at hrun
  simp only [numT] at hrun
  have hchunk := flat_chunk prC_len ps i p hp
  refine va_seq (va_block (va_seqr ?_))
  refine ia_op (oa_move rfl ?_)
  refine ia_op (oa_indexSl UnF.h SzF.h rfl (hv.keep hkeep).sl rfl rfl hlt fun q0 hq0 => ?_)
  rw [hchunk] at hq0
  refine ia_op (oa_ploadN (k := 2) PlF.h rfl (by decide) rfl hq0 ?_)
  refine ia_op (oa_alloc ZeF.h fun H6 hk6 hr6 => ?_)
  refine ia_op (oa_assign rfl ?_)
  refine ia_op (oa_storeAll (k := 2) SzF.h rfl rfl rfl rfl hr6 rfl fun H7 hk7 hn7 hr7 => ?_)
  have hK7' : Keep Non H' H7 := hk6.trans hk7 fun c hc => .inr (by omega)
  have hK7 : Keep Non H H7 := hkeep.trans0 hK7'
  have h3' := h3.keep0 hK7'
  have hL' := hL.keep0 hK7'
  have hR' := hR.keep0 hK7'
  have hb7 := hr7.1
  obtain ⟨b5, hb5⟩ : ∃ b, b = H'.nx := ⟨_, rfl⟩
  rw [← hb5] at hr7 hb7 ⊢
  have hLlt := hL.1
  have hRlt := hR.1
  have h3lt := h3.1
  refine ia_nil (va_seqr ?_)
  refine ia_op (oa_fieldAddr FpF.h (by decide) rfl ?_)
  refine ia_op (oa_load1 PlF.h rfl h3' rfl ?_)
  refine ia_op (oa_indexArr (j := 0) UnF.h SzF.h rfl rfl rfl (by decide) ?_)
  refine ia_op (oa_load1 PlF.h rfl hr7 rfl ?_)
  refine ia_op (oa_lookI UnF.h UnF.h ZeF.h rfl rfl hL' ?_)
  refine ia_pl rfl ?_
  refine ia_nil (va_seqr ?_)
  refine ia_op (oa_fieldAddr FpF.h (by decide) rfl ?_)
  refine ia_op (oa_load1 PlF.h rfl h3' rfl ?_)
  refine ia_op (oa_indexArr (j := 1) UnF.h SzF.h rfl rfl rfl (by decide) ?_)
  refine ia_op (oa_load1 PlF.h rfl hr7 rfl ?_)
  refine ia_op (oa_lookI UnF.h UnF.h ZeF.h rfl rfl hR' ?_)
  refine ia_pl rfl ?_
  have next : ∀ (l2 : Fm) (H8 : Heap) (L2 R2 : List (Int × Int)), NumI ps H b2 b3 m1 m2 (i + 1, L2, R2) H8 → Sb [(2, .ptr b2 0), (3, .ptr b3 0), (13, v), (14, .int .i64 (ps.length : Int)), (15, .int .i64 (i : Int))] l2 →
      VA Tryz.prog tb gl (.reg [.op (some 52) (.binOp .add 3 (.tmp 15) (.const (.int .i64 1)) 3), .op (some 15) (.move (.tmp 52))]) l2 H8 (roundA (fun (a : NA) => [(2, .ptr b2 0), (3, .ptr b3 0), (13, v), (14, .int .i64 (ps.length : Int)), (15, .int .i64 (a.1 : Int))]) (NumI ps H b2 b3 m1 m2) (fun a => ps.length - a.1) (i, L, R)
        (exitA 0 (seqA Tryz.prog tb gl v17t3 (leftM Tryz.prog [.cell 2 84] Q)))) := by
    intro l2 H8 L2 R2 hI h
    refine VA.sub h (va_reg ?_)
    refine ia_op (oa_addW (c := ((i + 1 : Nat) : Int)) rfl rfl (wrapE_i64 (by omega) (by omega) (by omega)) ?_)
    refine ia_op (oa_move rfl (ia_nil ⟨(i + 1, L2, R2), ?_, ⟨rfl, rfl, rfl, rfl, rfl, trivial⟩, hI⟩))
    show ps.length - (i + 1) < ps.length - i
    omega
  refine ia_nil (va_seq (va_seqr ?_))
  refine ia_op (oa_move rfl (ia_op (oa_move rfl ?_)))
  rcases hcl : (lookI L p.1) with _ | x
  · rcases hcr : (lookI R p.2) with _ | y
    · rw [hcl, hcr, if_neg (by simp)] at hrun
      refine ia_gdY rfl (oa_move rfl ?_)
      refine ia_op (oa_pickF rfl rfl (ia_nil (va_condF rfl (va_skip (va_reg ?_)))))
      refine ia_op (oa_fieldAddr FpF.h (by decide) rfl ?_)
      refine ia_op (oa_load1 PlF.h rfl h3' rfl ?_)
      refine ia_op (oa_indexArr (j := 0) UnF.h SzF.h rfl rfl rfl (by decide) ?_)
      refine ia_op (oa_load1 PlF.h rfl hr7 rfl ?_)
      refine ia_op (oa_fieldAddr FpF.h (by decide) rfl ?_)
      refine ia_op (oa_load1 PlF.h rfl h3' rfl ?_)
      refine ia_op (oa_indexArr (j := 1) UnF.h SzF.h rfl rfl rfl (by decide) ?_)
      refine ia_op (oa_load1 PlF.h rfl hr7 rfl ?_)
      refine ia_op (oa_move rfl ?_)
      refine ia_op (oa_addW (c := ((i + 1 : Nat) : Int)) rfl rfl (wrapE_i64 (by omega) (by omega) (by omega)) ?_)
      refine ia_op (oa_move rfl ?_)
      refine ia_op (oa_addW (c := ((i + 1 : Nat) : Int)) rfl rfl (wrapE_i64 (by omega) (by omega) (by omega)) ?_)
      refine ia_op (oa_putI UnF.h UnF.h rfl rfl rfl hL' hcl fun H8 hk8 hn8 hm8 => ?_)
      refine ia_ckL PlF.h rfl (h3'.keep hk8 (.inl (by omega))) rfl rfl ?_
      refine ia_ckL PlF.h rfl (hr7.keep hk8 (.inl (by omega))) rfl rfl ?_
      refine ia_op (oa_putI UnF.h UnF.h rfl rfl rfl (hR'.keep hk8 (by omega)) hcr fun H9 hk9 hn9 hm9 => ?_)
      refine ia_nil (next _ H9 (L ++ [(p.1, ((i + 1 : Nat) : Int))]) (R ++ [(p.2, ((i + 1 : Nat) : Int))]) ⟨(hK7.trans hk8 fun c hc => .inr (by omega)).trans hk9 fun c hc => .inr (by omega), by simp only; omega, hrun, hm8.keep hk9 (by omega), hm9, ((h2.keep0 hK7').keep hk8 (.inl (by omega))).keep hk9 (.inl (by omega)), (h3'.keep hk8 (.inl (by omega))).keep hk9 (.inl (by omega))⟩ ⟨rfl, rfl, rfl, rfl, rfl, trivial⟩)
    · rw [hcl, hcr, if_pos (by simp)] at hrun
      refine ia_gdY rfl (oa_move rfl ?_)
      refine ia_op (oa_pickF rfl rfl (ia_nil (va_condT rfl (va_exit ?_))))
      exact next _ H7 L R ⟨hK7, by simp only; omega, hrun, hL', hR', h2.keep0 hK7', h3'⟩ ⟨rfl, rfl, rfl, rfl, rfl, trivial⟩
  · rw [hcl, if_pos (by simp)] at hrun
    refine ia_gdN rfl ?_
    refine ia_op (oa_pickT rfl rfl rfl (ia_nil (va_condT rfl (va_exit ?_))))
    exact next _ H7 L R ⟨hK7, by simp only; omega, hrun, hL', hR', h2.keep0 hK7', h3'⟩ ⟨rfl, rfl, rfl, rfl, rfl, trivial⟩
end
end Go.Proofs.YtndhniapohlniaaGreatDoor
