/-
  Matched calls: calls.Match, walked. Conditions: the calls' number.
-/
import Derived.Test.YtndhniapohlniaaGreatDoorKeeps8
namespace Go.Proofs.YtndhniapohlniaaGreatDoor
open Go Go.Proofs.YtndhniapohlniaaGreatDoor.Eng
/-! facts about types -/
theorem ze_87 : zeroOf Tryz.prog 87 = some (.agg [.nils, .nils, .nils, .nils, .nilm, .nilm, .int .i64 0, .nils, .bool false]) := by kernel_rfl
instance ize_87 : ZeF Tryz.prog 87 (.agg [.nils, .nils, .nils, .nils, .nilm, .nilm, .int .i64 0, .nils, .bool false]) := ⟨ze_87⟩
theorem bs_87 : structOK Tryz.prog 87 = true := by kernel_rfl
instance ibs_87 : BsF Tryz.prog 87 := ⟨bs_87⟩
theorem ps_87 : plcsOK Tryz.prog 87 0 [(0, 1), (1, 1), (2, 1), (3, 1), (4, 2), (6, 1), (7, 1), (8, 1)] = true := by kernel_rfl
instance ips_87 : PsF Tryz.prog 87 [(0, 1), (1, 1), (2, 1), (3, 1), (4, 2), (6, 1), (7, 1), (8, 1)] := ⟨ps_87⟩
theorem sz_87 : szOf Tryz.prog 87 = some 9 := by kernel_rfl
instance isz_87 : SzF Tryz.prog 87 9 := ⟨sz_87⟩
/-! f8: parallax/calls.Match, parameters #[25, 25, 23, 3] -/
def v8c0 : CV := .seq (.reg [.op (some 8) (.assign (.const (.slice none 0 0))),
    .op (some 9) (.assign (.const (.bool false)))])
  (.ret)
def v8h2 : CV := .seq (.reg [.op (some 26) (.move (.tmp 0)),
    .op (some 27) (.call ⟨.builtin .len, #[(.tmp 26)], #[25]⟩),
    .op (some 28) (.binOp .eql 3 (.tmp 27) (.const (.int .i64 0)) 3),
    .op (some 29) (.move (.tmp 28)),
    .gd 29 false (some 30) (.move (.tmp 1)),
    .gd 29 false (some 31) (.call ⟨.builtin .len, #[(.tmp 30)], #[25]⟩),
    .gd 29 false (some 32) (.binOp .eql 3 (.tmp 31) (.const (.int .i64 0)) 3),
    .op (some 33) (.pick (.tmp 29) (.const (.bool true)) (.tmp 32))])
  (.cond (.tmp 33) v8c0 (.skip))
def v8c1 : CV := .seq (.reg [.op (some 8) (.assign (.const (.slice none 0 0))),
    .op (some 9) (.assign (.const (.bool false)))])
  (.ret)
def v8h5 : CV := .seq (.reg [.op (some 60) (.move (.tmp 12)),
    .op (some 61) (.unOp .not 4 (.tmp 60)),
    .op (some 62) (.move (.tmp 61)),
    .gd 62 false (some 63) (.move (.tmp 14)),
    .gd 62 false (some 64) (.unOp .not 4 (.tmp 63)),
    .op (some 65) (.pick (.tmp 62) (.const (.bool true)) (.tmp 64)),
    .op (some 66) (.move (.tmp 65)),
    .gd 66 false (some 67) (.move (.tmp 11)),
    .gd 66 false (some 68) (.move (.tmp 13)),
    .gd 66 false (some 69) (.binOp .neq 3 (.tmp 67) (.tmp 68) 3),
    .op (some 70) (.pick (.tmp 66) (.const (.bool true)) (.tmp 69))])
  (.cond (.tmp 70) v8c1 (.skip))
def v8t8 : CV := .seq (.reg [.op (some 78) (.move (.tmp 10)),
    .op (some 79) (.nilCheck (.tmp 78)),
    .op (some 80) (.fieldAddr 87 (.tmp 79) 6),
    .op (some 81) (.load 29 (.tmp 80)),
    .op (some 82) (.move (.tmp 10)),
    .op (some 83) (.nilCheck (.tmp 82)),
    .op (some 84) (.fieldAddr 87 (.tmp 83) 7),
    .op (some 85) (.load 4 (.tmp 84)),
    .op (some 8) (.assign (.tmp 81)),
    .op (some 9) (.assign (.tmp 85))])
  (.ret)
def v8t7 : CV := .seq (.reg [.op (some 73) (.move (.tmp 10)),
    .op (some 74) (.nilCheck (.tmp 73)),
    .op (some 75) (.fieldAddr 87 (.tmp 74) 6),
    .op (some 76) (.load 29 (.tmp 75)),
    .op (some 77) (.call ⟨.value (.func 19), #[(.tmp 76), (.func 20)], #[29, 91]⟩)]) v8t8
def v8t6 : CV := .seq (.reg [.op (some 71) (.move (.tmp 10)),
    .op (some 72) (.call ⟨.value (.func 18), #[(.tmp 71), (.const (.int .i64 0)), (.const (.int .i64 0))], #[79, 3, 3]⟩)]) v8t7
def v8t5 : CV := .seq v8h5 v8t6
def v8t4 : CV := .seq (.reg [.op (some 48) (.move (.tmp 10)),
    .op (some 49) (.nilCheck (.tmp 48)),
    .op (some 50) (.fieldAddr 87 (.tmp 49) 4),
    .op (some 51) (.fieldAddr 84 (.tmp 50) 1),
    .op (some 52) (.load 82 (.tmp 51)),
    .op (some 53) (.move (.tmp 1)),
    .op (some 54) (.indexAddr 25 (.tmp 53) (.const (.int .i64 0))),
    .op (some 55) (.fieldAddr 41 (.tmp 54) 0),
    .op (some 56) (.load 3 (.tmp 55)),
    .op (some 57) (.lookup 82 (.tmp 52) (.tmp 56) true),
    .op (some 47) (.move (.tmp 57)),
    .op (some 58) (.extract (.tmp 47) 0),
    .op (some 59) (.extract (.tmp 47) 1),
    .op (some 13) (.assign (.tmp 58)),
    .op (some 14) (.assign (.tmp 59))]) v8t5
def v8t3 : CV := .seq (.reg [.op (some 35) (.move (.tmp 10)),
    .op (some 36) (.nilCheck (.tmp 35)),
    .op (some 37) (.fieldAddr 87 (.tmp 36) 4),
    .op (some 38) (.fieldAddr 84 (.tmp 37) 0),
    .op (some 39) (.load 82 (.tmp 38)),
    .op (some 40) (.move (.tmp 0)),
    .op (some 41) (.indexAddr 25 (.tmp 40) (.const (.int .i64 0))),
    .op (some 42) (.fieldAddr 41 (.tmp 41) 0),
    .op (some 43) (.load 3 (.tmp 42)),
    .op (some 44) (.lookup 82 (.tmp 39) (.tmp 43) true),
    .op (some 34) (.move (.tmp 44)),
    .op (some 45) (.extract (.tmp 34) 0),
    .op (some 46) (.extract (.tmp 34) 1),
    .op (some 11) (.assign (.tmp 45)),
    .op (some 12) (.assign (.tmp 46))]) v8t4
def v8t2 : CV := .seq v8h2 v8t3
def v8t1 : CV := .seq (.reg [.op (some 15) (.move (.tmp 0)),
    .op (some 16) (.move (.tmp 1)),
    .op (some 17) (.move (.tmp 0)),
    .op (some 18) (.call ⟨.value (.func 16), #[(.tmp 17)], #[25]⟩),
    .op (some 19) (.move (.tmp 1)),
    .op (some 20) (.call ⟨.value (.func 16), #[(.tmp 19)], #[25]⟩),
    .op (some 21) (.move (.tmp 2)),
    .op (some 22) (.call ⟨.value (.func 17), #[(.tmp 21)], #[23]⟩),
    .op (some 23) (.move (.tmp 3)),
    .op (some 24) (.build 87 #[(0, (.tmp 15)), (1, (.tmp 16)), (2, (.tmp 18)), (3, (.tmp 20)), (4, (.tmp 22)), (5, (.tmp 23))]),
    .op (some 25) (.box 87 (.tmp 24)),
    .op (some 10) (.assign (.tmp 25))]) v8t2
def v8 : CV := .seq (.reg [.op (some 8) (.assign (.const (.slice none 0 0))),
    .op (some 9) (.assign (.const (.bool false)))]) v8t1
noncomputable def b8 : Code := Tryz.f8.body.getD .skip
theorem b8_eq : Tryz.f8.body = some b8 := by kernel_rfl
theorem v8_eq : viewC Tryz.prog b8 = some v8 := by kernel_rfl
theorem r8_eq : Tryz.f8.results.toList = [.tmp 8, .tmp 9] := by kernel_rfl

/-- whether the first calls are of one pair -/
def FirstP (A B : List Cl) (L R : List (Int × Int)) : Prop := ∃ c d x, A[0]? = some c ∧ B[0]? = some d ∧ lookI L c.proc = some x ∧ lookI R d.proc = some x
theorem sl_cells {H : Heap} {v : AV} {es n : Nat} {cs : List AV} (h : IsSl H v es n cs) : v.cells = [v] := by
  obtain ⟨_, ⟨rfl, _⟩ | ⟨_, _, _, rfl, _⟩ | ⟨b, o, row, tl, ro, ⟨rfl, _⟩ | ⟨c, rfl, _⟩, _⟩⟩ := h <;> rfl
theorem fill1 {cells c vs : List AV} {plc : Nat → Option (Nat × Nat)} {l : Fm} {i off : Nat} {x : Operand} {v : AV} {r : List (Nat × Operand)} (hp : plc i = some (off, 1)) (hx : evA x l = some v) (hc : v.cells = [v]) (hq : putL cells off [v] = some c) (h : fillF c plc l r = some vs) : fillF cells plc l ((i, x) :: r) = some vs := by
  simp only [fillF, hp, hx, hc, hq]
  exact h
section
variable {tb : List FuncId} {gl : List (List AV)} {H : Heap} {v w vp : AV} {Q : AV → Heap → Prop}
set_option maxHeartbeats 0 in
theorem Match_ok {A B : List Cl} {ps : List (Int × Int)} {lim : Int} {nA nB : Nat} {op op' : List Nat} (I : TInv nA A op) (J : TInv nB B op') (hA : A.length < 256) (hB : B.length < 256) (hA0 : 0 < A.length) (hB0 : 0 < B.length) (hps : ps.length < 500000)
    (hl0 : -9223372036854775808 ≤ lim ∧ lim < 9223372036854775808) (hv : IsSl H v 4 A.length (A.flatMap clC)) (hw : IsSl H w 4 B.length (B.flatMap clC)) (hvp : IsSlR H vp 2 ps.length (ps.flatMap prC))
    (hQ : ∀ out c u H', FirstP A B (numT 0 ps [] []).1 (numT 0 ps [] []).2 → VisW A B (numT 0 ps [] []).1 (numT 0 ps [] []).2 lim [(0, 0)] out c → Keep Non H H' → Own H' u 2 out.length (out.flatMap prN) → (∀ c, ownB u c → H.nx ≤ c) → Q (.tup [u, .bool c]) H')
    (hN : ∀ H', ¬ FirstP A B (numT 0 ps [] []).1 (numT 0 ps [] []).2 → Keep Non H H' → Q (.tup [.nils, .bool false]) H') : WpF Tryz.prog tb gl 8 [v, w, vp, .int .i64 lim] H Q := by
  obtain ⟨L, hLe⟩ : ∃ L, L = (numT 0 ps [] []).1 := ⟨_, rfl⟩
  obtain ⟨R, hRe⟩ : ∃ R, R = (numT 0 ps [] []).2 := ⟨_, rfl⟩
  rw [← hLe, ← hRe] at hQ hN
  refine fa Tryz.func8 b8_eq v8_eq r8_eq (.inr (by simp)) ?_
  refine va_seqr ?_
  refine ia_pl rfl ?_
  refine ia_nil (va_seqr ?_)
  refine ia_pl rfl ?_
  refine ia_op (oa_call rfl rfl rfl (kin_ok (by omega) hv fun bkA usA H1 hbA hk1 hlA hrA hkA => ?_))
  refine ia_pl rfl ?_
  refine ia_op (oa_call rfl rfl rfl (kin_ok (by omega) (hw.keep0 hk1) fun bkB usB H2 hbB hk2 hlB hrB hkB => ?_))
  refine ia_pl rfl ?_
  refine ia_op (oa_call rfl rfl rfl (numbered_ok hps ((hvp.keep hk1).keep hk2) fun m1 m2 H3 hmm hm1 hm2 hk3 hM1 hM2 => ?_))
  rw [← hLe] at hM1
  rw [← hRe] at hM2
  refine ia_pl rfl ?_
  have cv := sl_cells hv
  have cw := sl_cells hw
  refine ia_op (oa_struct (vs := [v, w, .sl bkA 0 A.length A.length, .sl bkB 0 B.length B.length, .map m1, .map m2, .int .i64 lim, .nils, .bool false]) BsF.h ZeF.h PsF.h (fill1 rfl rfl cv rfl (fill1 rfl rfl cw rfl rfl)) ?_)
  refine ia_op (oa_box rfl fun H4 hk4 hr4 => ?_)
  obtain ⟨bx, hbx⟩ : ∃ b, b = H3.nx := ⟨_, rfl⟩
  rw [← hbx] at hr4 ⊢
  obtain ⟨m, hm⟩ : ∃ m : MC, m = ⟨v, w, bkA, bkB, m1, m2, bx, usA, usB, lim, A, B, L, R⟩ := ⟨_, rfl⟩
  have hk23 := hk2.trans0 hk3
  have hk03 := hk1.trans0 hk23
  have hk04 := hk03.trans0 hk4
  have hOk : m.Ok H3 := by
    subst hm
    exact ⟨hv.keep0 hk03, hw.keep0 hk03, hrA.keep0 hk23, hrB.keep0 hk3, hlA, hlB, fun k u hu => ((hkA.own k u hu).keep0 hk23), fun k u hu => ((hkB.own k u hu).keep0 hk3), hM1, hM2⟩
  have w4 : IsRow H4 bx (m.row .nils false) false false := by subst hm; exact hr4
  have w4' : IsRow H4 bx [v, w, .sl bkA 0 A.length A.length, .sl bkB 0 B.length B.length, .map m1, .map m2, .int .i64 lim, .nils, .bool false] false false := hr4
  refine ia_pl rfl ?_
  refine ia_nil (va_seq (va_seqr ?_))
  have hv4 := hv.keep0 hk04
  have hw4 := hw.keep0 hk04
  refine ia_pl rfl ?_; (repeat ((first | refine ia_op (oa_lenSl rfl rfl rfl UnF.h rfl hv4 ?_)); refine ia_pl rfl ?_))
  refine ia_op (oa_eqlW rfl rfl (decide_eq_false (by omega)) ?_)
  refine ia_pl rfl ?_
  refine ia_gdY rfl (oa_move rfl ?_)
  refine ia_gdY rfl (oa_lenSl rfl rfl rfl UnF.h rfl hw4 ?_)
  refine ia_gdY rfl (oa_eqlW rfl rfl (decide_eq_false (by omega)) ?_)
  refine ia_op (oa_pickF rfl rfl (ia_nil (va_condF rfl (va_skip (va_seqr ?_)))))
  obtain ⟨c, hc⟩ : ∃ c, A[0]? = some c := ⟨_, List.getElem?_eq_getElem hA0⟩
  obtain ⟨d, hd⟩ : ∃ d, B[0]? = some d := ⟨_, List.getElem?_eq_getElem hB0⟩
  have hc1 := flat_chunk clC_len A 0 c hc
  have hc2 := flat_chunk clC_len B 0 d hd
  refine ia_pl rfl ?_; (repeat ((first | refine ia_op (oa_nilCheck rfl ?_) | refine ia_op (oa_fieldAddr FpF.h (by decide) rfl ?_) | refine ia_op (oa_load1 PlF.h rfl w4' rfl ?_)); refine ia_pl rfl ?_))
  refine ia_op (oa_indexSl (j := 0) UnF.h SzF.h rfl hv4 rfl rfl hA0 fun q0 hq0 => ?_)
  rw [hc1] at hq0
  refine ia_op (oa_pfieldAddr FpF.h (by decide) rfl hq0 fun q1 hq1 => ?_)
  refine ia_op (oa_pload PlF.h rfl hq1 rfl ?_)
  refine ia_op (oa_lookI UnF.h UnF.h ZeF.h rfl rfl (hM1.keep0 hk4) ?_)
  refine ia_pl rfl ?_
  refine ia_nil (va_seqr ?_)
  refine ia_pl rfl ?_; (repeat ((first | refine ia_op (oa_nilCheck rfl ?_) | refine ia_op (oa_fieldAddr FpF.h (by decide) rfl ?_) | refine ia_op (oa_load1 PlF.h rfl w4' rfl ?_)); refine ia_pl rfl ?_))
  refine ia_op (oa_indexSl (j := 0) UnF.h SzF.h rfl hw4 rfl rfl hB0 fun q2 hq2 => ?_)
  rw [hc2] at hq2
  refine ia_op (oa_pfieldAddr FpF.h (by decide) rfl hq2 fun q3 hq3 => ?_)
  refine ia_op (oa_pload PlF.h rfl hq3 rfl ?_)
  refine ia_op (oa_lookI UnF.h UnF.h ZeF.h rfl rfl (hM2.keep0 hk4) ?_)
  refine ia_pl rfl ?_
  refine ia_nil (va_seq (va_seqr ?_))
  rcases hl : lookI L c.proc with _ | x
  · (repeat (first | refine ia_gdN rfl ?_ | refine ia_gdU rfl ?_ | ((first | refine ia_op ?_ | refine ia_gdY rfl ?_); first | refine oa_move rfl ?_ | refine oa_assign rfl ?_ | refine oa_nilCheck rfl ?_ | refine oa_fieldAddr FpF.h (by decide) rfl ?_ | refine oa_lssF rfl rfl (by omega) ?_ | refine oa_lssT rfl rfl (by omega) ?_ | refine oa_leqF rfl rfl (by omega) ?_ | refine oa_leqT rfl rfl (by omega) ?_ | refine oa_gtrF rfl rfl (by omega) ?_ | refine oa_gtrT rfl rfl (by omega) ?_ | refine oa_geqF rfl rfl (by omega) ?_ | refine oa_geqT rfl rfl (by omega) ?_ | refine oa_eqlF rfl rfl (by omega) ?_ | refine oa_eqlT rfl rfl (by omega) ?_ | refine oa_neqF rfl rfl (by omega) ?_ | refine oa_neqT rfl rfl (by omega) ?_ | refine oa_pickT rfl rfl rfl ?_ | refine oa_pickF rfl rfl ?_ | refine oa_not rfl ?_ | refine oa_extract rfl rfl ?_)))
    refine ia_nil (va_condT rfl (va_seqr ?_))
    refine ia_pl rfl ?_
    refine ia_nil (va_ret ⟨_, rfl, hN H4 ?_ hk04⟩)
    rintro ⟨c', d', x, h1, h2, h3, h4⟩
    rw [hc] at h1
    injection h1 with h1
    subst h1
    rw [hl] at h3
    cases h3
  rcases hr : lookI R d.proc with _ | y
  · (repeat (first | refine ia_gdN rfl ?_ | refine ia_gdU rfl ?_ | ((first | refine ia_op ?_ | refine ia_gdY rfl ?_); first | refine oa_move rfl ?_ | refine oa_assign rfl ?_ | refine oa_nilCheck rfl ?_ | refine oa_fieldAddr FpF.h (by decide) rfl ?_ | refine oa_lssF rfl rfl (by omega) ?_ | refine oa_lssT rfl rfl (by omega) ?_ | refine oa_leqF rfl rfl (by omega) ?_ | refine oa_leqT rfl rfl (by omega) ?_ | refine oa_gtrF rfl rfl (by omega) ?_ | refine oa_gtrT rfl rfl (by omega) ?_ | refine oa_geqF rfl rfl (by omega) ?_ | refine oa_geqT rfl rfl (by omega) ?_ | refine oa_eqlF rfl rfl (by omega) ?_ | refine oa_eqlT rfl rfl (by omega) ?_ | refine oa_neqF rfl rfl (by omega) ?_ | refine oa_neqT rfl rfl (by omega) ?_ | refine oa_pickT rfl rfl rfl ?_ | refine oa_pickF rfl rfl ?_ | refine oa_not rfl ?_ | refine oa_extract rfl rfl ?_)))
    refine ia_nil (va_condT rfl (va_seqr ?_))
    refine ia_pl rfl ?_
    refine ia_nil (va_ret ⟨_, rfl, hN H4 ?_ hk04⟩)
    rintro ⟨c', d', x, h1, h2, h3, h4⟩
    rw [hd] at h2
    injection h2 with h2
    subst h2
    rw [hr] at h4
    cases h4
  by_cases hxy : x = y
  rotate_left
  · refine ia_pl rfl ?_
    refine ia_gdY rfl (oa_move rfl ?_)
    refine ia_gdY rfl (oa_not rfl ?_)
    refine ia_op (oa_pickF rfl rfl ?_)
    refine ia_pl rfl ?_
    iterate 2 refine ia_gdY rfl (oa_move rfl ?_)
    refine ia_gdY rfl (oa_neqW rfl rfl (decide_eq_true hxy) ?_)
    refine ia_op (oa_pickF rfl rfl (ia_nil (va_condT rfl (va_seqr ?_))))
    refine ia_pl rfl ?_
    refine ia_nil (va_ret ⟨_, rfl, hN H4 ?_ hk04⟩)
    rintro ⟨c', d', z, h1, h2, h3, h4⟩
    rw [hc] at h1
    injection h1 with h1
    subst h1
    rw [hd] at h2
    injection h2 with h2
    subst h2
    rw [hl] at h3
    rw [hr] at h4
    injection h3 with h3
    injection h4 with h4
    omega
  refine ia_pl rfl ?_
  refine ia_gdY rfl (oa_move rfl ?_)
  refine ia_gdY rfl (oa_not rfl ?_)
  refine ia_op (oa_pickF rfl rfl ?_)
  refine ia_pl rfl ?_
  iterate 2 refine ia_gdY rfl (oa_move rfl ?_)
  refine ia_gdY rfl (oa_neqW rfl rfl (decide_eq_false (fun h => h hxy)) ?_)
  refine ia_op (oa_pickF rfl rfl (ia_nil (va_condF rfl (va_skip (va_seqr ?_)))))
  refine ia_pl rfl ?_
  have eA : m.A = A := by rw [hm]
  have eB : m.B = B := by rw [hm]
  have eL : m.L = L := by rw [hm]
  have eR : m.R = R := by rw [hm]
  have elim : m.lim = lim := by rw [hm]
  have ex : m.bx = bx := by rw [hm]
  have hvis := visit_ok (tb := tb) (gl := gl) (m := m) (H0 := H3) (nA := nA) (nB := nB) (op := op) (op' := op') (by rw [eA]; exact I) (by rw [eB]; exact J) (by rw [eA]; omega) (by rw [eB]; omega) hOk (by rw [ex]; omega) (by rw [elim]; exact hl0) A.length 0 0 H4 [] .nils false
  rw [ex] at hvis
  refine ia_op (oa_call rfl rfl rfl (hvis _ (by rw [eA]; omega) (by rw [eA]; exact hA0) (by rw [eB]; exact hB0) (Nat.zero_le _) hk4 w4 (.nil _ _) (fun _ h => h.elim) fun out c' u H5 hP => ?_))
  obtain ⟨pv, pk, prw, po, pn⟩ := hP
  rw [eA, eB, eL, eR, elim] at pv
  rw [ex] at pk prw
  rw [List.nil_append] at po
  have hx4 := hk4.nx
  have hx03 := hk03.nx
  have hK5 : Keep Non H H5 := hk04.trans pk fun k h => .inr (h.elim (fun h => by omega) fun h => h.elim)
  have pr5 : IsRow H5 bx [v, w, .sl bkA 0 A.length A.length, .sl bkB 0 B.length B.length, .map m1, .map m2, .int .i64 lim, u, .bool c'] false false := by subst hm; exact prw
  refine ia_nil (va_seqr ?_)
  refine ia_pl rfl ?_; (repeat ((first | refine ia_op (oa_nilCheck rfl ?_) | refine ia_op (oa_fieldAddr FpF.h (by decide) rfl ?_) | refine ia_op (oa_load1 PlF.h rfl pr5 rfl ?_)); refine ia_pl rfl ?_))
  have hlen := pv.len I J hA0 hB0
  have hins := pv.inside (by simp [hA0, hB0])
  have hrs := (pv.rises I J (by simp)).2
  refine ia_op (oa_call rfl rfl rfl (sort_ok ⟨po.sl, hrs.imp fun h => h.1, fun p hp => by have := (hins p hp).1; omega, by omega⟩ fun H6 hk6 => ?_))
  refine ia_nil (va_seqr ?_)
  refine ia_pl rfl ?_; (repeat ((first | refine ia_op (oa_nilCheck rfl ?_) | refine ia_op (oa_fieldAddr FpF.h (by decide) rfl ?_) | refine ia_op (oa_load1 PlF.h rfl (pr5.keep0 hk6) rfl ?_)); refine ia_pl rfl ?_))
  refine ia_nil (va_ret ⟨_, rfl, hQ out c' u H6 ⟨c, d, x, hc, hd, hl, by rw [hr, hxy]⟩ pv (hK5.trans0 hk6) (po.keep0 hk6) fun k h => (pn k h).elim (fun h => h.elim) fun h => by have := hk04.nx; omega⟩)
end
end Go.Proofs.YtndhniapohlniaaGreatDoor
