/-
  CallsMatches: the law walked: it returns true. Conditions: the listed variables are as the program's text lays them.
-/
import Derived.Test.YtndhniapohlniaaGreatDoorMat5
namespace Go.Proofs.YtndhniapohlniaaGreatDoor
open Go Go.Proofs.YtndhniapohlniaaGreatDoor.Eng
/-! facts about types -/
theorem un_26 : Tryz.prog.underlying 26 = some (.int .i64) := by kernel_rfl
instance iun_26 : UnF Tryz.prog 26 (.int .i64) := ⟨un_26⟩
theorem un_4 : Tryz.prog.underlying 4 = some (.bool) := by kernel_rfl
instance iun_4 : UnF Tryz.prog 4 (.bool) := ⟨un_4⟩
/-! f3: parallax/parallaxlaw16.CallsMatches, parameters #[22, 22, 23, 3] -/
def v3c0 : CV := .seq (.reg [.op (some 30) (.call ⟨.value (.func 6), #[], #[]⟩),
    .op (some 8) (.assign (.tmp 30))])
  (.ret)
def v3h1 : CV := .seq (.reg [.op (some 17) (.move (.tmp 0)),
    .op (some 18) (.call ⟨.builtin .len, #[(.tmp 17)], #[22]⟩),
    .op (some 19) (.binOp .gtr 3 (.tmp 18) (.const (.int .i64 60)) 3),
    .op (some 20) (.move (.tmp 19)),
    .gd 20 false (some 21) (.move (.tmp 1)),
    .gd 20 false (some 22) (.call ⟨.builtin .len, #[(.tmp 21)], #[22]⟩),
    .gd 20 false (some 23) (.binOp .gtr 3 (.tmp 22) (.const (.int .i64 60)) 3),
    .op (some 24) (.pick (.tmp 20) (.const (.bool true)) (.tmp 23)),
    .op (some 25) (.move (.tmp 24)),
    .gd 25 false (some 26) (.move (.tmp 2)),
    .gd 25 false (some 27) (.call ⟨.builtin .len, #[(.tmp 26)], #[23]⟩),
    .gd 25 false (some 28) (.binOp .gtr 3 (.tmp 27) (.const (.int .i64 20)) 3),
    .op (some 29) (.pick (.tmp 25) (.const (.bool true)) (.tmp 28))])
  (.cond (.tmp 29) v3c0 (.skip))
def v3c1 : CV := .seq (.reg [.op (some 47) (.call ⟨.value (.func 6), #[], #[]⟩),
    .op (some 8) (.assign (.tmp 47))])
  (.ret)
def v3h4 : CV := .seq (.reg [.op (some 41) (.move (.tmp 10)),
    .op (some 42) (.binOp .neq 26 (.tmp 41) (.const (.int .i64 0)) 26),
    .op (some 43) (.move (.tmp 42)),
    .gd 43 false (some 44) (.move (.tmp 12)),
    .gd 43 false (some 45) (.binOp .neq 26 (.tmp 44) (.const (.int .i64 0)) 26),
    .op (some 46) (.pick (.tmp 43) (.const (.bool true)) (.tmp 45))])
  (.cond (.tmp 46) v3c1 (.skip))
def v3t7 : CV := .seq (.reg [.op (some 66) (.move (.tmp 13)),
    .op (some 67) (.call ⟨.value (.func 12), #[(.tmp 66)], #[29]⟩),
    .op (some 68) (.move (.tmp 15)),
    .op (some 69) (.call ⟨.value (.func 11), #[(.tmp 67), (.tmp 68)], #[32, 32]⟩),
    .op (some 70) (.move (.tmp 69)),
    .gd 70 true (some 71) (.move (.tmp 14)),
    .gd 70 true (some 72) (.move (.tmp 16)),
    .gd 70 true (some 73) (.binOp .eql 4 (.tmp 71) (.tmp 72) 4),
    .op (some 74) (.pick (.tmp 70) (.tmp 73) (.const (.bool false))),
    .op (some 75) (.move (.tmp 74)),
    .gd 75 true (some 76) (.call ⟨.value (.func 6), #[], #[]⟩),
    .op (some 77) (.pick (.tmp 75) (.tmp 76) (.const (.bool false))),
    .op (some 8) (.assign (.tmp 77))])
  (.ret)
def v3t6 : CV := .seq (.reg [.op (some 57) (.move (.tmp 9)),
    .op (some 58) (.call ⟨.value (.func 10), #[(.tmp 57)], #[25]⟩),
    .op (some 59) (.move (.tmp 11)),
    .op (some 60) (.call ⟨.value (.func 10), #[(.tmp 59)], #[25]⟩),
    .op (some 61) (.move (.tmp 2)),
    .op (some 62) (.move (.tmp 3)),
    .op (some 63) (.call ⟨.value (.func 9), #[(.tmp 58), (.tmp 60), (.tmp 61), (.tmp 62)], #[35, 35, 23, 3]⟩),
    .op (some 56) (.move (.tmp 63)),
    .op (some 64) (.extract (.tmp 56) 0),
    .op (some 65) (.extract (.tmp 56) 1),
    .op (some 15) (.assign (.tmp 64)),
    .op (some 16) (.assign (.tmp 65))]) v3t7
def v3t5 : CV := .seq (.reg [.op (some 49) (.move (.tmp 9)),
    .op (some 50) (.move (.tmp 11)),
    .op (some 51) (.move (.tmp 2)),
    .op (some 52) (.move (.tmp 3)),
    .op (some 53) (.call ⟨.value (.func 8), #[(.tmp 49), (.tmp 50), (.tmp 51), (.tmp 52)], #[25, 25, 23, 3]⟩),
    .op (some 48) (.move (.tmp 53)),
    .op (some 54) (.extract (.tmp 48) 0),
    .op (some 55) (.extract (.tmp 48) 1),
    .op (some 13) (.assign (.tmp 54)),
    .op (some 14) (.assign (.tmp 55))]) v3t6
def v3t4 : CV := .seq v3h4 v3t5
def v3t3 : CV := .seq (.reg [.op (some 37) (.move (.tmp 1)),
    .op (some 38) (.call ⟨.value (.func 7), #[(.tmp 37)], #[22]⟩),
    .op (some 36) (.move (.tmp 38)),
    .op (some 39) (.extract (.tmp 36) 0),
    .op (some 40) (.extract (.tmp 36) 1),
    .op (some 11) (.assign (.tmp 39)),
    .op (some 12) (.assign (.tmp 40))]) v3t4
def v3t2 : CV := .seq (.reg [.op (some 32) (.move (.tmp 0)),
    .op (some 33) (.call ⟨.value (.func 7), #[(.tmp 32)], #[22]⟩),
    .op (some 31) (.move (.tmp 33)),
    .op (some 34) (.extract (.tmp 31) 0),
    .op (some 35) (.extract (.tmp 31) 1),
    .op (some 9) (.assign (.tmp 34)),
    .op (some 10) (.assign (.tmp 35))]) v3t3
def v3t1 : CV := .seq v3h1 v3t2
def v3 : CV := .seq (.reg [.op (some 8) (.assign (.const (.bool false)))]) v3t1
noncomputable def b3 : Code := Tryz.f3.body.getD .skip
theorem b3_eq : Tryz.f3.body = some b3 := by kernel_rfl
theorem v3_eq : viewC Tryz.prog b3 = some v3 := by kernel_rfl
theorem r3_eq : Tryz.f3.results.toList = [.tmp 8] := by kernel_rfl

section
variable {tb : List FuncId} {gl : List (List AV)} {H : Heap} {v w vp : AV}
theorem treeR_form {l : List Tk} {H H' : Heap} {r : AV} (h : TreeR l H H' r) : ∃ u e, r = .tup [u, .int .i64 e] := by
  unfold TreeR at h
  split at h
  · obtain ⟨u, rfl, _⟩ := h; exact ⟨u, 0, rfl⟩
  · exact ⟨.nils, 32, h⟩
set_option maxHeartbeats 0 in
theorem matches_ok (hlaid : Laid gl H) {ls ms : List Tk} {ps : List (Int × Int)} {lim : Int} (hl0 : -9223372036854775808 ≤ lim ∧ lim < 9223372036854775808) (hv : IsSlR H v 4 ls.length (ls.flatMap tkC)) (hw : IsSlR H w 4 ms.length (ms.flatMap tkC)) (hvp : IsSlR H vp 2 ps.length (ps.flatMap prC)) :
    WpF Tryz.prog [6] gl 3 [v, w, vp, .int .i64 lim] H fun r _ => r = .bool true := by
  refine fa Tryz.func3 b3_eq v3_eq r3_eq (.inr (by simp)) ?_
  refine va_seqr ?_
  refine ia_pl rfl ?_
  refine ia_nil (va_seq (va_seqr ?_))
  by_cases b1 : 60 < ls.length
  · (repeat (first | refine ia_gdN rfl ?_ | refine ia_gdU rfl ?_ | ((first | refine ia_op ?_ | refine ia_gdY rfl ?_); first | refine oa_move rfl ?_ | refine oa_assign rfl ?_ | refine oa_nilCheck rfl ?_ | refine oa_fieldAddr FpF.h (by decide) rfl ?_ | refine oa_lenSl rfl rfl rfl UnF.h rfl hv.sl ?_ | refine oa_lenSl rfl rfl rfl UnF.h rfl hw.sl ?_ | refine oa_lenSl rfl rfl rfl UnF.h rfl hvp.sl ?_ | refine oa_lssF rfl rfl (by omega) ?_ | refine oa_lssT rfl rfl (by omega) ?_ | refine oa_leqF rfl rfl (by omega) ?_ | refine oa_leqT rfl rfl (by omega) ?_ | refine oa_gtrF rfl rfl (by omega) ?_ | refine oa_gtrT rfl rfl (by omega) ?_ | refine oa_geqF rfl rfl (by omega) ?_ | refine oa_geqT rfl rfl (by omega) ?_ | refine oa_eqlF rfl rfl (by omega) ?_ | refine oa_eqlT rfl rfl (by omega) ?_ | refine oa_neqF rfl rfl (by omega) ?_ | refine oa_neqT rfl rfl (by omega) ?_ | refine oa_pickT rfl rfl rfl ?_ | refine oa_pickF rfl rfl ?_ | refine oa_not rfl ?_ | refine oa_extract rfl rfl ?_)))
    refine ia_nil (va_condT rfl (va_seqr ?_))
    refine ia_op (oa_known rfl hlaid ?_)
    exact ia_op (oa_assign rfl (ia_nil (va_ret ⟨_, rfl, rfl⟩)))
  by_cases b2 : 60 < ms.length
  · (repeat (first | refine ia_gdN rfl ?_ | refine ia_gdU rfl ?_ | ((first | refine ia_op ?_ | refine ia_gdY rfl ?_); first | refine oa_move rfl ?_ | refine oa_assign rfl ?_ | refine oa_nilCheck rfl ?_ | refine oa_fieldAddr FpF.h (by decide) rfl ?_ | refine oa_lenSl rfl rfl rfl UnF.h rfl hv.sl ?_ | refine oa_lenSl rfl rfl rfl UnF.h rfl hw.sl ?_ | refine oa_lenSl rfl rfl rfl UnF.h rfl hvp.sl ?_ | refine oa_lssF rfl rfl (by omega) ?_ | refine oa_lssT rfl rfl (by omega) ?_ | refine oa_leqF rfl rfl (by omega) ?_ | refine oa_leqT rfl rfl (by omega) ?_ | refine oa_gtrF rfl rfl (by omega) ?_ | refine oa_gtrT rfl rfl (by omega) ?_ | refine oa_geqF rfl rfl (by omega) ?_ | refine oa_geqT rfl rfl (by omega) ?_ | refine oa_eqlF rfl rfl (by omega) ?_ | refine oa_eqlT rfl rfl (by omega) ?_ | refine oa_neqF rfl rfl (by omega) ?_ | refine oa_neqT rfl rfl (by omega) ?_ | refine oa_pickT rfl rfl rfl ?_ | refine oa_pickF rfl rfl ?_ | refine oa_not rfl ?_ | refine oa_extract rfl rfl ?_)))
    refine ia_nil (va_condT rfl (va_seqr ?_))
    refine ia_op (oa_known rfl hlaid ?_)
    exact ia_op (oa_assign rfl (ia_nil (va_ret ⟨_, rfl, rfl⟩)))
  by_cases b3 : 20 < ps.length
  · (repeat (first | refine ia_gdN rfl ?_ | refine ia_gdU rfl ?_ | ((first | refine ia_op ?_ | refine ia_gdY rfl ?_); first | refine oa_move rfl ?_ | refine oa_assign rfl ?_ | refine oa_nilCheck rfl ?_ | refine oa_fieldAddr FpF.h (by decide) rfl ?_ | refine oa_lenSl rfl rfl rfl UnF.h rfl hv.sl ?_ | refine oa_lenSl rfl rfl rfl UnF.h rfl hw.sl ?_ | refine oa_lenSl rfl rfl rfl UnF.h rfl hvp.sl ?_ | refine oa_lssF rfl rfl (by omega) ?_ | refine oa_lssT rfl rfl (by omega) ?_ | refine oa_leqF rfl rfl (by omega) ?_ | refine oa_leqT rfl rfl (by omega) ?_ | refine oa_gtrF rfl rfl (by omega) ?_ | refine oa_gtrT rfl rfl (by omega) ?_ | refine oa_geqF rfl rfl (by omega) ?_ | refine oa_geqT rfl rfl (by omega) ?_ | refine oa_eqlF rfl rfl (by omega) ?_ | refine oa_eqlT rfl rfl (by omega) ?_ | refine oa_neqF rfl rfl (by omega) ?_ | refine oa_neqT rfl rfl (by omega) ?_ | refine oa_pickT rfl rfl rfl ?_ | refine oa_pickF rfl rfl ?_ | refine oa_not rfl ?_ | refine oa_extract rfl rfl ?_)))
    refine ia_nil (va_condT rfl (va_seqr ?_))
    refine ia_op (oa_known rfl hlaid ?_)
    exact ia_op (oa_assign rfl (ia_nil (va_ret ⟨_, rfl, rfl⟩)))
  (repeat (first | refine ia_gdN rfl ?_ | refine ia_gdU rfl ?_ | ((first | refine ia_op ?_ | refine ia_gdY rfl ?_); first | refine oa_move rfl ?_ | refine oa_assign rfl ?_ | refine oa_nilCheck rfl ?_ | refine oa_fieldAddr FpF.h (by decide) rfl ?_ | refine oa_lenSl rfl rfl rfl UnF.h rfl hv.sl ?_ | refine oa_lenSl rfl rfl rfl UnF.h rfl hw.sl ?_ | refine oa_lenSl rfl rfl rfl UnF.h rfl hvp.sl ?_ | refine oa_lssF rfl rfl (by omega) ?_ | refine oa_lssT rfl rfl (by omega) ?_ | refine oa_leqF rfl rfl (by omega) ?_ | refine oa_leqT rfl rfl (by omega) ?_ | refine oa_gtrF rfl rfl (by omega) ?_ | refine oa_gtrT rfl rfl (by omega) ?_ | refine oa_geqF rfl rfl (by omega) ?_ | refine oa_geqT rfl rfl (by omega) ?_ | refine oa_eqlF rfl rfl (by omega) ?_ | refine oa_eqlT rfl rfl (by omega) ?_ | refine oa_neqF rfl rfl (by omega) ?_ | refine oa_neqT rfl rfl (by omega) ?_ | refine oa_pickT rfl rfl rfl ?_ | refine oa_pickF rfl rfl ?_ | refine oa_not rfl ?_ | refine oa_extract rfl rfl ?_)))
  refine ia_nil (va_condF rfl (va_skip (va_seqr ?_)))
  refine ia_pl rfl ?_
  refine ia_op (oa_call rfl rfl rfl (Tree_ok (by omega) hv fun r1 H1 hk1 hR1 => ?_))
  unfold TreeR at hR1
  have hw1 := hw.keep hk1
  have hlaid1 := hlaid.keep hk1
  rcases ht1 : treeT ls with _ | A
  · rw [ht1] at hR1
    subst hR1
    refine ia_pl rfl ?_
    refine ia_nil (va_seqr ?_)
    refine ia_pl rfl ?_
    refine ia_op (oa_call rfl rfl rfl (Tree_ok (by omega) hw1 fun r2 H2 hk2 hR2 => ?_))
    obtain ⟨u2, e2, rfl⟩ := treeR_form hR2
    refine ia_pl rfl ?_
    refine ia_nil (va_seq (va_seqr ?_))
    refine ia_pl rfl ?_
    refine ia_op (oa_neqW rfl rfl (decide_eq_true (by decide)) ?_)
    (repeat (first | refine ia_gdN rfl ?_ | refine ia_gdU rfl ?_ | ((first | refine ia_op ?_ | refine ia_gdY rfl ?_); first | refine oa_move rfl ?_ | refine oa_assign rfl ?_ | refine oa_nilCheck rfl ?_ | refine oa_fieldAddr FpF.h (by decide) rfl ?_ | refine oa_lssF rfl rfl (by omega) ?_ | refine oa_lssT rfl rfl (by omega) ?_ | refine oa_leqF rfl rfl (by omega) ?_ | refine oa_leqT rfl rfl (by omega) ?_ | refine oa_gtrF rfl rfl (by omega) ?_ | refine oa_gtrT rfl rfl (by omega) ?_ | refine oa_geqF rfl rfl (by omega) ?_ | refine oa_geqT rfl rfl (by omega) ?_ | refine oa_eqlF rfl rfl (by omega) ?_ | refine oa_eqlT rfl rfl (by omega) ?_ | refine oa_neqF rfl rfl (by omega) ?_ | refine oa_neqT rfl rfl (by omega) ?_ | refine oa_pickT rfl rfl rfl ?_ | refine oa_pickF rfl rfl ?_ | refine oa_not rfl ?_ | refine oa_extract rfl rfl ?_)))
    refine ia_nil (va_condT rfl (va_seqr ?_))
    refine ia_op (oa_known rfl (hlaid1.keep hk2) ?_)
    exact ia_op (oa_assign rfl (ia_nil (va_ret ⟨_, rfl, rfl⟩)))
  rw [ht1] at hR1
  obtain ⟨u1, rfl, hown1, hnew1⟩ := hR1
  refine ia_pl rfl ?_
  refine ia_nil (va_seqr ?_)
  refine ia_pl rfl ?_
  refine ia_op (oa_call rfl rfl rfl (Tree_ok (by omega) hw1 fun r2 H2 hk2 hR2 => ?_))
  unfold TreeR at hR2
  have hlaid2 := hlaid1.keep hk2
  rcases ht2 : treeT ms with _ | B
  · rw [ht2] at hR2
    subst hR2
    refine ia_pl rfl ?_
    refine ia_nil (va_seq (va_seqr ?_))
    refine ia_pl rfl ?_
    refine ia_op (oa_neqW rfl rfl (decide_eq_false (by decide)) ?_)
    refine ia_pl rfl ?_
    refine ia_gdY rfl (oa_move rfl ?_)
    refine ia_gdY rfl (oa_neqW rfl rfl (decide_eq_true (by decide)) ?_)
    refine ia_op (oa_pickF rfl rfl (ia_nil (va_condT rfl (va_seqr ?_))))
    refine ia_op (oa_known rfl hlaid2 ?_)
    exact ia_op (oa_assign rfl (ia_nil (va_ret ⟨_, rfl, rfl⟩)))
  rw [ht2] at hR2
  obtain ⟨u2, rfl, hown2, hnew2⟩ := hR2
  refine ia_pl rfl ?_
  refine ia_nil (va_seq (va_seqr ?_))
  refine ia_pl rfl ?_
  refine ia_op (oa_neqW rfl rfl (decide_eq_false (by decide)) ?_)
  refine ia_pl rfl ?_
  refine ia_gdY rfl (oa_move rfl ?_)
  refine ia_gdY rfl (oa_neqW rfl rfl (decide_eq_false (by decide)) ?_)
  refine ia_op (oa_pickF rfl rfl (ia_nil (va_condF rfl (va_skip (va_seqr ?_)))))
  obtain ⟨hneA, opA, I⟩ := treeT_inv ht1
  obtain ⟨hneB, opB, J⟩ := treeT_inv ht2
  have hlenA := I.len
  have hlenB := J.len
  have hA0 : 0 < A.length := List.length_pos_iff.2 hneA
  have hB0 : 0 < B.length := List.length_pos_iff.2 hneB
  have hsA := (hown1.keep0 hk2).sl
  have hsB := hown2.sl
  have hvp2 := ((hvp.keep hk1).keep hk2).sl
  -- behind both matchings
  have rest : ∀ (out : List (Nat × Nat)) (cc : Bool) (u z : AV) (H3 : Heap), out.length ≤ 60 → Keep Non H2 H3 → IsSl H3 u 2 out.length (out.flatMap prN) → IsSl H3 z 2 out.length (out.flatMap prN) → ∀ l', Sb [(13, u), (14, .bool cc), (15, z), (16, .bool cc)] l' →
      VA Tryz.prog [6] gl v3t7 l' H3 (leftA [.tmp 8] fun r _ => r = .bool true) := by
    intro out cc u z H3 hol hk3 hu hz l' hs
    refine VA.sub hs (va_seqr ?_)
    refine ia_pl rfl ?_
    refine ia_op (oa_call rfl rfl rfl (pairs_ok (by omega) hu fun u' H4 hk4 ho4 => ?_))
    refine ia_pl rfl ?_
    refine ia_op (oa_call rfl rfl rfl (samePairs_ok (by omega) ho4.sl (hz.keep0 hk4) ?_))
    refine ia_pl rfl ?_
    refine ia_gdY rfl (oa_move rfl ?_)
    refine ia_gdY rfl (oa_move rfl ?_)
    refine ia_gdY rfl (oa_beql UnF.h rfl rfl ?_)
    rw [beq_self_eq_true]
    refine ia_op (oa_pickT rfl rfl rfl ?_)
    refine ia_pl rfl ?_
    refine ia_gdY rfl (oa_known rfl ((hlaid2.keep hk3).keep hk4) ?_)
    refine ia_op (oa_pickT rfl rfl rfl ?_)
    exact ia_op (oa_assign rfl (ia_nil (va_ret ⟨_, rfl, rfl⟩)))
  refine ia_pl rfl ?_
  refine ia_op (oa_call rfl rfl rfl (Match_ok I J (by omega) (by omega) hA0 hB0 (by omega) hl0 hsA hsB ((hvp.keep hk1).keep hk2) (fun out cc u H3 hF hV hk3 ho3 hn3 => ?_) fun H3 hF hk3 => ?_))
  · refine ia_pl rfl ?_
    have hlo := hV.len I J hA0 hB0
    refine ia_nil (va_seqr ?_)
    refine ia_pl rfl ?_
    refine ia_op (oa_call rfl rfl rfl (tree_ok (by omega) (hsA.keep0 hk3) fun ta H4 hk4 hta hna => ?_))
    refine ia_pl rfl ?_
    refine ia_op (oa_call rfl rfl rfl (tree_ok (by omega) ((hsB.keep0 hk3).keep0 hk4) fun tb' H5 hk5 htb hnb => ?_))
    refine ia_pl rfl ?_
    refine ia_op (oa_call rfl rfl rfl (rMatch_ok I J (by omega) (by omega) hA0 hB0 (by omega) hl0 (hta.keep0 hk5).sl htb.sl (((hvp2.keep0 hk3).keep0 hk4).keep0 hk5) (fun out' cc' z H6 _ hV' hk6 hz => ?_) fun H6 hF' _ => absurd hF hF'))
    obtain ⟨rfl, rfl⟩ := hV.uniq hV'
    refine ia_pl rfl ?_
    have hK36 := (hk4.trans0 hk5).trans0 hk6
    exact ia_nil (rest out cc u z H6 (by omega) (hk3.trans0 hK36) (ho3.keep0 hK36).sl hz _ ⟨rfl, rfl, rfl, rfl, trivial⟩)
  · refine ia_pl rfl ?_
    refine ia_nil (va_seqr ?_)
    refine ia_pl rfl ?_
    refine ia_op (oa_call rfl rfl rfl (tree_ok (by omega) (hsA.keep0 hk3) fun ta H4 hk4 hta hna => ?_))
    refine ia_pl rfl ?_
    refine ia_op (oa_call rfl rfl rfl (tree_ok (by omega) ((hsB.keep0 hk3).keep0 hk4) fun tb' H5 hk5 htb hnb => ?_))
    refine ia_pl rfl ?_
    refine ia_op (oa_call rfl rfl rfl (rMatch_ok I J (by omega) (by omega) hA0 hB0 (by omega) hl0 (hta.keep0 hk5).sl htb.sl (((hvp2.keep0 hk3).keep0 hk4).keep0 hk5) (fun out' cc' z H6 hF' _ _ _ => absurd hF' hF) fun H6 _ hk6 => ?_))
    refine ia_pl rfl ?_
    exact ia_nil (rest [] false .nils .nils H6 (by simp) (hk3.trans0 ((hk4.trans0 hk5).trans0 hk6)) (.nil _ _) (.nil _ _) _ ⟨rfl, rfl, rfl, rfl, trivial⟩)
end
end Go.Proofs.YtndhniapohlniaaGreatDoor
