/-
  CallsNests: its walk: it answers true, whatever the ticks. Conditions: the listed variables are laid.
-/
import Derived.Test.YtndhniapohlniaaGreatDoorCalls1
namespace Go.Proofs.YtndhniapohlniaaGreatDoor
open Go Go.Proofs.YtndhniapohlniaaGreatDoor.Eng
/-! facts about types -/
theorem un_26 : Tryz.prog.underlying 26 = some (.int .i64) := by kernel_rfl
theorem pl_41 : plcOf Tryz.prog 41 0 = some ⟨0, true, 4⟩ := by kernel_rfl
theorem fp_41_3 : fieldPlc Tryz.prog 41 3 = some ⟨3, false, 1⟩ := by kernel_rfl
theorem fp_41_1 : fieldPlc Tryz.prog 41 1 = some ⟨1, false, 1⟩ := by kernel_rfl
/-! f4: parallax/parallaxlaw16.CallsNests, parameters #[22] -/
def v4c0 : CV := .seq (.reg [.op (some 12) (.call ⟨.value (.func 6), #[], #[]⟩),
    .op (some 2) (.assign (.tmp 12))])
  (.ret)
def v4h1 : CV := .seq (.reg [.op (some 9) (.move (.tmp 0)),
    .op (some 10) (.call ⟨.builtin .len, #[(.tmp 9)], #[22]⟩),
    .op (some 11) (.binOp .gtr 3 (.tmp 10) (.const (.int .i64 200)) 3)])
  (.cond (.tmp 11) v4c0 (.skip))
def v4c1 : CV := .seq (.reg [.op (some 20) (.move (.tmp 3)),
    .op (some 21) (.call ⟨.builtin .len, #[(.tmp 20)], #[25]⟩),
    .op (some 22) (.binOp .eql 3 (.tmp 21) (.const (.int .i64 0)) 3),
    .op (some 23) (.move (.tmp 22)),
    .gd 23 true (some 24) (.call ⟨.value (.func 6), #[], #[]⟩),
    .op (some 25) (.pick (.tmp 23) (.tmp 24) (.const (.bool false))),
    .op (some 2) (.assign (.tmp 25))])
  (.ret)
def v4h3 : CV := .seq (.reg [.op (some 18) (.move (.tmp 4)),
    .op (some 19) (.binOp .neq 26 (.tmp 18) (.const (.int .i64 0)) 26)])
  (.cond (.tmp 19) v4c1 (.skip))
def v4l2h0 : CV := .seq (.reg [.op (some 26) (.move (.tmp 5)),
    .op (some 27) (.move (.tmp 3)),
    .op (some 28) (.call ⟨.builtin .len, #[(.tmp 27)], #[25]⟩),
    .op (some 29) (.binOp .lss 3 (.tmp 26) (.tmp 28) 3)])
  (.cond (.tmp 29) (.skip) (.exit 0))
def v4c3 : CV := .seq (.reg [.op (some 2) (.assign (.const (.bool false)))])
  (.ret)
def v4k0h1 : CV := .seq (.reg [.op (some 36) (.fieldAddr 41 (.tmp 6) 3),
    .op (some 37) (.load 3 (.tmp 36)),
    .op (some 38) (.move (.tmp 5)),
    .op (some 39) (.binOp .geq 3 (.tmp 37) (.tmp 38) 3),
    .op (some 40) (.move (.tmp 39)),
    .gd 40 false (some 41) (.fieldAddr 41 (.tmp 6) 3),
    .gd 40 false (some 42) (.load 3 (.tmp 41)),
    .gd 40 false (some 43) (.binOp .lss 3 (.tmp 42) (.const (.int .i64 0)) 3),
    .gd 40 false (some 44) (.move (.tmp 43)),
    .gd 44 true (some 45) (.move (.tmp 5)),
    .gd 44 true (some 46) (.binOp .gtr 3 (.tmp 45) (.const (.int .i64 0)) 3),
    .gd 40 false (some 47) (.pick (.tmp 44) (.tmp 46) (.const (.bool false))),
    .op (some 48) (.pick (.tmp 40) (.const (.bool true)) (.tmp 47)),
    .op (some 49) (.move (.tmp 48)),
    .gd 49 false (some 50) (.fieldAddr 41 (.tmp 6) 2),
    .gd 49 false (some 51) (.load 3 (.tmp 50)),
    .gd 49 false (some 52) (.binOp .neq 3 (.tmp 51) (.const (.int .i64 0)) 3),
    .gd 49 false (some 53) (.move (.tmp 52)),
    .gd 53 true (some 54) (.fieldAddr 41 (.tmp 6) 2),
    .gd 53 true (some 55) (.load 3 (.tmp 54)),
    .gd 53 true (some 56) (.fieldAddr 41 (.tmp 6) 1),
    .gd 53 true (some 57) (.load 3 (.tmp 56)),
    .gd 53 true (some 58) (.binOp .leq 3 (.tmp 55) (.tmp 57) 3),
    .gd 49 false (some 59) (.pick (.tmp 53) (.tmp 58) (.const (.bool false))),
    .op (some 60) (.pick (.tmp 49) (.const (.bool true)) (.tmp 59))])
  (.cond (.tmp 60) v4c3 (.skip))
def v4k0h2 : CV := .seq (.reg [.op (some 61) (.move (.tmp 5)),
    .op (some 62) (.binOp .eql 3 (.tmp 61) (.const (.int .i64 0)) 3)])
  (.cond (.tmp 62) (.exit 1) (.skip))
def v4c4 : CV := .seq (.reg [.op (some 2) (.assign (.const (.bool false)))])
  (.ret)
def v4k0h4 : CV := .seq (.reg [.op (some 68) (.fieldAddr 41 (.tmp 6) 1),
    .op (some 69) (.load 3 (.tmp 68)),
    .op (some 70) (.fieldAddr 41 (.tmp 7) 1),
    .op (some 71) (.load 3 (.tmp 70)),
    .op (some 72) (.binOp .leq 3 (.tmp 69) (.tmp 71) 3),
    .op (some 73) (.move (.tmp 72)),
    .gd 73 false (some 74) (.fieldAddr 41 (.tmp 7) 2),
    .gd 73 false (some 75) (.load 3 (.tmp 74)),
    .gd 73 false (some 76) (.binOp .neq 3 (.tmp 75) (.const (.int .i64 0)) 3),
    .gd 73 false (some 77) (.move (.tmp 76)),
    .gd 77 true (some 78) (.fieldAddr 41 (.tmp 6) 2),
    .gd 77 true (some 79) (.load 3 (.tmp 78)),
    .gd 77 true (some 80) (.binOp .eql 3 (.tmp 79) (.const (.int .i64 0)) 3),
    .gd 77 true (some 81) (.move (.tmp 80)),
    .gd 81 false (some 82) (.fieldAddr 41 (.tmp 6) 2),
    .gd 81 false (some 83) (.load 3 (.tmp 82)),
    .gd 81 false (some 84) (.fieldAddr 41 (.tmp 7) 2),
    .gd 81 false (some 85) (.load 3 (.tmp 84)),
    .gd 81 false (some 86) (.binOp .geq 3 (.tmp 83) (.tmp 85) 3),
    .gd 77 true (some 87) (.pick (.tmp 81) (.const (.bool true)) (.tmp 86)),
    .gd 73 false (some 88) (.pick (.tmp 77) (.tmp 87) (.const (.bool false))),
    .op (some 89) (.pick (.tmp 73) (.const (.bool true)) (.tmp 88))])
  (.cond (.tmp 89) v4c4 (.skip))
def v4l5h0 : CV := .seq (.reg [.op (some 90) (.move (.tmp 8)),
    .op (some 91) (.move (.tmp 5)),
    .op (some 92) (.binOp .lss 3 (.tmp 90) (.tmp 91) 3)])
  (.cond (.tmp 92) (.skip) (.exit 2))
def v4c6 : CV := .seq (.reg [.op (some 2) (.assign (.const (.bool false)))])
  (.ret)
def v4k1 : CV := .seq (.reg [.op (some 95) (.move (.tmp 3)),
    .op (some 96) (.move (.tmp 8)),
    .op (some 97) (.indexAddr 25 (.tmp 95) (.tmp 96)),
    .op (some 98) (.fieldAddr 41 (.tmp 97) 3),
    .op (some 99) (.load 3 (.tmp 98)),
    .op (some 100) (.fieldAddr 41 (.tmp 6) 3),
    .op (some 101) (.load 3 (.tmp 100)),
    .op (some 102) (.binOp .eql 3 (.tmp 99) (.tmp 101) 3),
    .op (some 103) (.move (.tmp 102)),
    .gd 103 true (some 104) (.move (.tmp 3)),
    .gd 103 true (some 105) (.move (.tmp 8)),
    .gd 103 true (some 106) (.indexAddr 25 (.tmp 104) (.tmp 105)),
    .gd 103 true (some 107) (.fieldAddr 41 (.tmp 106) 2),
    .gd 103 true (some 108) (.load 3 (.tmp 107)),
    .gd 103 true (some 109) (.binOp .eql 3 (.tmp 108) (.const (.int .i64 0)) 3),
    .gd 103 true (some 110) (.move (.tmp 109)),
    .gd 110 false (some 111) (.move (.tmp 3)),
    .gd 110 false (some 112) (.move (.tmp 8)),
    .gd 110 false (some 113) (.indexAddr 25 (.tmp 111) (.tmp 112)),
    .gd 110 false (some 114) (.fieldAddr 41 (.tmp 113) 2),
    .gd 110 false (some 115) (.load 3 (.tmp 114)),
    .gd 110 false (some 116) (.fieldAddr 41 (.tmp 6) 1),
    .gd 110 false (some 117) (.load 3 (.tmp 116)),
    .gd 110 false (some 118) (.binOp .gtr 3 (.tmp 115) (.tmp 117) 3),
    .gd 103 true (some 119) (.pick (.tmp 110) (.const (.bool true)) (.tmp 118)),
    .op (some 120) (.pick (.tmp 103) (.tmp 119) (.const (.bool false)))])
  (.cond (.tmp 120) v4c6 (.skip))
def v4l5t1 : CV := .seq (.block 3 v4k1)
  (.reg [.op (some 93) (.move (.tmp 8)),
    .op (some 94) (.binOp .add 3 (.tmp 93) (.const (.int .i64 1)) 3),
    .op (some 8) (.assign (.tmp 94))])
def v4l5 : CV := .seq v4l5h0 v4l5t1
def v4k0t5 : CV := .seq (.reg [.op (some 8) (.assign (.const (.int .i64 0)))])
  (.block 2 (.loop v4l5))
def v4k0t4 : CV := .seq v4k0h4 v4k0t5
def v4k0t3 : CV := .seq (.reg [.op (some 63) (.move (.tmp 3)),
    .op (some 64) (.fieldAddr 41 (.tmp 6) 3),
    .op (some 65) (.load 3 (.tmp 64)),
    .op (some 66) (.indexAddr 25 (.tmp 63) (.tmp 65)),
    .op (some 67) (.load 41 (.tmp 66)),
    .op (some 7) (.alloc 41),
    .op none (.store 41 (.tmp 7) (.tmp 67))]) v4k0t4
def v4k0t2 : CV := .seq v4k0h2 v4k0t3
def v4k0t1 : CV := .seq v4k0h1 v4k0t2
def v4k0 : CV := .seq (.reg [.op (some 32) (.move (.tmp 3)),
    .op (some 33) (.move (.tmp 5)),
    .op (some 34) (.indexAddr 25 (.tmp 32) (.tmp 33)),
    .op (some 35) (.load 41 (.tmp 34)),
    .op (some 6) (.alloc 41),
    .op none (.store 41 (.tmp 6) (.tmp 35))]) v4k0t1
def v4l2t1 : CV := .seq (.block 1 v4k0)
  (.reg [.op (some 30) (.move (.tmp 5)),
    .op (some 31) (.binOp .add 3 (.tmp 30) (.const (.int .i64 1)) 3),
    .op (some 5) (.assign (.tmp 31))])
def v4l2 : CV := .seq v4l2h0 v4l2t1
def v4h4 : CV := .seq (.reg [.op (some 5) (.assign (.const (.int .i64 0)))])
  (.block 0 (.loop v4l2))
def v4t5 : CV := .seq (.reg [.op (some 121) (.move (.tmp 3)),
    .op (some 122) (.call ⟨.builtin .len, #[(.tmp 121)], #[25]⟩),
    .op (some 123) (.binOp .gtr 3 (.tmp 122) (.const (.int .i64 0)) 3),
    .op (some 124) (.move (.tmp 123)),
    .gd 124 true (some 125) (.call ⟨.value (.func 6), #[], #[]⟩),
    .op (some 126) (.pick (.tmp 124) (.tmp 125) (.const (.bool false))),
    .op (some 2) (.assign (.tmp 126))])
  (.ret)
def v4t4 : CV := .seq v4h4 v4t5
def v4t3 : CV := .seq v4h3 v4t4
def v4t2 : CV := .seq (.reg [.op (some 14) (.move (.tmp 0)),
    .op (some 15) (.call ⟨.value (.func 7), #[(.tmp 14)], #[22]⟩),
    .op (some 13) (.move (.tmp 15)),
    .op (some 16) (.extract (.tmp 13) 0),
    .op (some 17) (.extract (.tmp 13) 1),
    .op (some 3) (.assign (.tmp 16)),
    .op (some 4) (.assign (.tmp 17))]) v4t3
def v4t1 : CV := .seq v4h1 v4t2
def v4 : CV := .seq (.reg [.op (some 2) (.assign (.const (.bool false)))]) v4t1
noncomputable def b4 : Code := Tryz.f4.body.getD .skip
theorem b4_eq : Tryz.f4.body = some b4 := by kernel_rfl
theorem v4_eq : viewC Tryz.prog b4 = some v4 := by kernel_rfl
theorem r4_eq : Tryz.f4.results.toList = [.tmp 2] := by kernel_rfl

section
variable {gl : List (List AV)} {H : Heap} {v : AV}
set_option maxHeartbeats 0 in
/-- one round of the inner loop -/
theorem nests_inner {out : List Cl} {u : AV} {H2 : Heap} {i b6 : Nat} {c : Cl} (ho : Own H2 u 4 out.length (out.flatMap clC)) (hc : out[i]? = some c) (hr6 : IsRow H2 b6 (clC c) false false) (hi : i < 1000)
    (sib : ∀ (j : Nat) d, j < i → out[j]? = some d → d.up = c.up → d.leave ≠ 0 ∧ d.leave ≤ c.enter) {R : Ex → Fm → Heap → Prop} (hdone : ∀ l', Sb [(3, u), (5, .int .i64 (i : Int))] l' → R (.exit 2) l' H2)
    {l' : Fm} (hs : Sb [(3, u), (5, .int .i64 (i : Int)), (6, .ptr b6 0), (8, .int .i64 0)] l') : VA Tryz.prog [6] gl (.loop v4l5) l' H2 R := by
  have hil : i < out.length := (List.getElem?_eq_some_iff.1 hc).1
  refine va_loop (fun (k : Nat) => [(3, u), (5, .int .i64 (i : Int)), (6, .ptr b6 0), (8, .int .i64 (k : Int))]) (fun k H' => H' = H2 ∧ k ≤ i) (fun k => i - k) ?_ 0 l' H2 hs ⟨rfl, Nat.zero_le _⟩
  rintro k H' ⟨rfl, hk⟩
  refine va_seq (va_seqr ?_)
  refine ia_op (oa_move rfl (ia_op (oa_move rfl ?_)))
  by_cases hki : k = i
  · refine ia_op (oa_lssW rfl rfl (decide_eq_false (by omega)) (ia_nil (va_condF rfl (va_exit (hdone _ ⟨rfl, rfl, trivial⟩)))))
  refine ia_op (oa_lssW rfl rfl (decide_eq_true (by omega)) (ia_nil (va_condT rfl (va_skip ?_))))
  obtain ⟨d, hd⟩ : ∃ d, out[k]? = some d := ⟨_, List.getElem?_eq_getElem (by omega)⟩
  have hchunk := flat_chunk clC_len out k d hd
  refine va_seq (va_block (va_seqr ?_))
  refine ia_op (oa_move rfl (ia_op (oa_move rfl ?_)))
  refine ia_op (oa_indexSl (by first | with_reducible exact un_22 | with_reducible exact un_3 | with_reducible exact un_52 | with_reducible exact un_25 | with_reducible exact un_26) (by first | with_reducible exact sz_75 | with_reducible exact sz_3 | with_reducible exact sz_41) rfl ho.sl rfl rfl (by omega) fun p hp => ?_)
  rw [hchunk] at hp
  refine ia_op (oa_pfieldAddr (by first | with_reducible exact fp_75_0 | with_reducible exact fp_75_3 | with_reducible exact fp_75_1 | with_reducible exact fp_41_0 | with_reducible exact fp_41_2 | with_reducible exact fp_41_3 | with_reducible exact fp_41_1) (by decide) rfl hp fun p' hp' => ?_)
  refine ia_op (oa_pload (by first | with_reducible exact pl_75 | with_reducible exact pl_3 | with_reducible exact pl_41) rfl hp' rfl ?_)
  refine ia_op (oa_fieldAddr (by first | with_reducible exact fp_75_0 | with_reducible exact fp_75_3 | with_reducible exact fp_75_1 | with_reducible exact fp_41_0 | with_reducible exact fp_41_2 | with_reducible exact fp_41_3 | with_reducible exact fp_41_1) (by decide) rfl ?_)
  refine ia_op (oa_load1 (by first | with_reducible exact pl_75 | with_reducible exact pl_3 | with_reducible exact pl_41) rfl hr6 rfl ?_)
  have next : ∀ l2 : Fm, Sb [(3, u), (5, .int .i64 (i : Int)), (6, .ptr b6 0), (8, .int .i64 (k : Int))] l2 → VA Tryz.prog [6] gl (.reg [.op (some 93) (.move (.tmp 8)), .op (some 94) (.binOp .add 3 (.tmp 93) (.const (.int .i64 1)) 3), .op (some 8) (.assign (.tmp 94))]) l2 H'
      (roundA (fun (k : Nat) => [(3, u), (5, .int .i64 (i : Int)), (6, .ptr b6 0), (8, .int .i64 (k : Int))]) (fun k H'' => H'' = H' ∧ k ≤ i) (fun k => i - k) k R) := by
    intro l2 h2
    refine VA.sub h2 (va_reg ?_)
    refine ia_op (oa_move rfl ?_)
    refine ia_op (oa_addW (c := ((k + 1 : Nat) : Int)) rfl rfl (wrapE_i64 (by omega) (by omega) (by omega)) ?_)
    refine ia_op (oa_assign rfl (ia_nil ⟨k + 1, ?_, ⟨rfl, rfl, rfl, rfl, trivial⟩, rfl, by omega⟩))
    show i - (k + 1) < i - k
    omega
  by_cases he : d.up = c.up
  · obtain ⟨h1, h2⟩ := sib k d (by omega) hd he
    refine ia_op (oa_eqlW rfl rfl (decide_eq_true he) ?_)
    refine ia_op (oa_move rfl ?_)
    refine ia_gdY rfl (oa_move rfl (ia_gdY rfl (oa_move rfl ?_)))
    refine ia_gdY rfl (oa_indexSl (by first | with_reducible exact un_22 | with_reducible exact un_3 | with_reducible exact un_52 | with_reducible exact un_25 | with_reducible exact un_26) (by first | with_reducible exact sz_75 | with_reducible exact sz_3 | with_reducible exact sz_41) rfl ho.sl rfl rfl (by omega) fun p hp => ?_)
    rw [hchunk] at hp
    refine ia_gdY rfl (oa_pfieldAddr (by first | with_reducible exact fp_75_0 | with_reducible exact fp_75_3 | with_reducible exact fp_75_1 | with_reducible exact fp_41_0 | with_reducible exact fp_41_2 | with_reducible exact fp_41_3 | with_reducible exact fp_41_1) (by decide) rfl hp fun p' hp' => ?_)
    refine ia_gdY rfl (oa_pload (by first | with_reducible exact pl_75 | with_reducible exact pl_3 | with_reducible exact pl_41) rfl hp' rfl ?_)
    refine ia_gdY rfl (oa_eqlW rfl rfl (decide_eq_false (by omega)) ?_)
    refine ia_gdY rfl (oa_move rfl ?_)
    refine ia_gdY rfl (oa_move rfl (ia_gdY rfl (oa_move rfl ?_)))
    refine ia_gdY rfl (oa_indexSl (by first | with_reducible exact un_22 | with_reducible exact un_3 | with_reducible exact un_52 | with_reducible exact un_25 | with_reducible exact un_26) (by first | with_reducible exact sz_75 | with_reducible exact sz_3 | with_reducible exact sz_41) rfl ho.sl rfl rfl (by omega) fun p hp => ?_)
    rw [hchunk] at hp
    refine ia_gdY rfl (oa_pfieldAddr (by first | with_reducible exact fp_75_0 | with_reducible exact fp_75_3 | with_reducible exact fp_75_1 | with_reducible exact fp_41_0 | with_reducible exact fp_41_2 | with_reducible exact fp_41_3 | with_reducible exact fp_41_1) (by decide) rfl hp fun p' hp' => ?_)
    refine ia_gdY rfl (oa_pload (by first | with_reducible exact pl_75 | with_reducible exact pl_3 | with_reducible exact pl_41) rfl hp' rfl ?_)
    refine ia_gdY rfl (oa_fieldAddr (by first | with_reducible exact fp_75_0 | with_reducible exact fp_75_3 | with_reducible exact fp_75_1 | with_reducible exact fp_41_0 | with_reducible exact fp_41_2 | with_reducible exact fp_41_3 | with_reducible exact fp_41_1) (by decide) rfl ?_)
    refine ia_gdY rfl (oa_load1 (by first | with_reducible exact pl_75 | with_reducible exact pl_3 | with_reducible exact pl_41) rfl hr6 rfl ?_)
    refine ia_gdY rfl (oa_gtrW rfl rfl (decide_eq_false (by omega)) ?_)
    refine ia_gdY rfl (oa_pickF rfl rfl ?_)
    refine ia_op (oa_pickT rfl rfl rfl (ia_nil (va_condF rfl (va_skip (next _ ⟨rfl, rfl, rfl, rfl, trivial⟩)))))
  · refine ia_op (oa_eqlW rfl rfl (decide_eq_false he) ?_)
    refine ia_op (oa_move rfl ?_)
    iterate 7 refine ia_gdN rfl ?_
    iterate 8 refine ia_gdU rfl ?_
    refine ia_gdN rfl ?_
    refine ia_op (oa_pickF rfl rfl (ia_nil (va_condF rfl (va_skip (next _ ⟨rfl, rfl, rfl, rfl, trivial⟩)))))
set_option maxHeartbeats 0 in
theorem nests_test1 {u : AV} {H4 : Heap} {i b6 : Nat} {c : Cl} (hr : IsRow H4 b6 (clC c) false false) (h1 : c.up < (i : Int)) (h2 : i = 0 ∨ 0 ≤ c.up) (h3 : c.leave = 0 ∨ c.enter < c.leave) {R : Ex → Fm → Heap → Prop}
    (hR : ∀ l2, Sb [(3, u), (5, .int .i64 (i : Int)), (6, .ptr b6 0)] l2 → R .normal l2 H4) {l' : Fm} (hs : Sb [(3, u), (5, .int .i64 (i : Int)), (6, .ptr b6 0)] l') : VA Tryz.prog [6] gl v4k0h1 l' H4 R := by
  refine VA.sub hs (va_seqr ?_)
  by_cases c1 : c.up < 0 <;> by_cases c2 : c.leave = 0
  all_goals
    (repeat (first | (refine ia_op ?_; (first | refine oa_move rfl ?_ | refine oa_assign rfl ?_ | refine oa_fieldAddr (by first | with_reducible exact fp_75_0 | with_reducible exact fp_75_3 | with_reducible exact fp_75_1 | with_reducible exact fp_41_0 | with_reducible exact fp_41_2 | with_reducible exact fp_41_3 | with_reducible exact fp_41_1) (by decide) rfl ?_ | refine oa_load1 (by first | with_reducible exact pl_75 | with_reducible exact pl_3 | with_reducible exact pl_41) rfl hr rfl ?_ | refine oa_lssW rfl rfl (decide_eq_false (by omega)) ?_ | refine oa_lssW rfl rfl (decide_eq_true (by omega)) ?_ | refine oa_leqW rfl rfl (decide_eq_false (by omega)) ?_ | refine oa_leqW rfl rfl (decide_eq_true (by omega)) ?_ | refine oa_gtrW rfl rfl (decide_eq_false (by omega)) ?_ | refine oa_gtrW rfl rfl (decide_eq_true (by omega)) ?_ | refine oa_geqW rfl rfl (decide_eq_false (by omega)) ?_ | refine oa_geqW rfl rfl (decide_eq_true (by omega)) ?_ | refine oa_eqlW rfl rfl (decide_eq_false (by omega)) ?_ | refine oa_eqlW rfl rfl (decide_eq_true (by omega)) ?_ | refine oa_neqW rfl rfl (decide_eq_false (by omega)) ?_ | refine oa_neqW rfl rfl (decide_eq_true (by omega)) ?_ | refine oa_pickT rfl rfl rfl ?_ | refine oa_pickF rfl rfl ?_ | refine oa_not rfl ?_ | refine oa_extract rfl rfl ?_ | refine oa_addW rfl rfl (wrap_i64 (by omega) (by omega)) ?_ | refine oa_subW rfl rfl (wrap_i64 (by omega) (by omega)) ?_)) | (refine ia_gdY rfl ?_; (first | refine oa_move rfl ?_ | refine oa_assign rfl ?_ | refine oa_fieldAddr (by first | with_reducible exact fp_75_0 | with_reducible exact fp_75_3 | with_reducible exact fp_75_1 | with_reducible exact fp_41_0 | with_reducible exact fp_41_2 | with_reducible exact fp_41_3 | with_reducible exact fp_41_1) (by decide) rfl ?_ | refine oa_load1 (by first | with_reducible exact pl_75 | with_reducible exact pl_3 | with_reducible exact pl_41) rfl hr rfl ?_ | refine oa_lssW rfl rfl (decide_eq_false (by omega)) ?_ | refine oa_lssW rfl rfl (decide_eq_true (by omega)) ?_ | refine oa_leqW rfl rfl (decide_eq_false (by omega)) ?_ | refine oa_leqW rfl rfl (decide_eq_true (by omega)) ?_ | refine oa_gtrW rfl rfl (decide_eq_false (by omega)) ?_ | refine oa_gtrW rfl rfl (decide_eq_true (by omega)) ?_ | refine oa_geqW rfl rfl (decide_eq_false (by omega)) ?_ | refine oa_geqW rfl rfl (decide_eq_true (by omega)) ?_ | refine oa_eqlW rfl rfl (decide_eq_false (by omega)) ?_ | refine oa_eqlW rfl rfl (decide_eq_true (by omega)) ?_ | refine oa_neqW rfl rfl (decide_eq_false (by omega)) ?_ | refine oa_neqW rfl rfl (decide_eq_true (by omega)) ?_ | refine oa_pickT rfl rfl rfl ?_ | refine oa_pickF rfl rfl ?_ | refine oa_not rfl ?_ | refine oa_extract rfl rfl ?_ | refine oa_addW rfl rfl (wrap_i64 (by omega) (by omega)) ?_ | refine oa_subW rfl rfl (wrap_i64 (by omega) (by omega)) ?_)) | refine ia_gdN rfl ?_ | refine ia_gdU rfl ?_))
    exact ia_nil (va_condF rfl (va_skip (hR _ ⟨rfl, rfl, rfl, trivial⟩)))
set_option maxHeartbeats 0 in
theorem nests_test2 {u : AV} {H4 : Heap} {i b6 b7 : Nat} {c d : Cl} (hr : IsRow H4 b6 (clC c) false false) (hr7 : IsRow H4 b7 (clC d) false false) (h1 : d.enter < c.enter) (h2 : d.leave ≠ 0 → c.leave ≠ 0 ∧ c.leave < d.leave) {R : Ex → Fm → Heap → Prop}
    (hR : ∀ l2, Sb [(3, u), (5, .int .i64 (i : Int)), (6, .ptr b6 0)] l2 → R .normal l2 H4) {l' : Fm} (hs : Sb [(3, u), (5, .int .i64 (i : Int)), (6, .ptr b6 0), (7, .ptr b7 0)] l') : VA Tryz.prog [6] gl v4k0h4 l' H4 R := by
  refine VA.sub hs (va_seqr ?_)
  by_cases c2 : d.leave = 0
  · (repeat (first | (refine ia_op ?_; (first | refine oa_move rfl ?_ | refine oa_assign rfl ?_ | refine oa_fieldAddr (by first | with_reducible exact fp_75_0 | with_reducible exact fp_75_3 | with_reducible exact fp_75_1 | with_reducible exact fp_41_0 | with_reducible exact fp_41_2 | with_reducible exact fp_41_3 | with_reducible exact fp_41_1) (by decide) rfl ?_ | refine oa_load1 (by first | with_reducible exact pl_75 | with_reducible exact pl_3 | with_reducible exact pl_41) rfl hr rfl ?_ | refine oa_load1 (by first | with_reducible exact pl_75 | with_reducible exact pl_3 | with_reducible exact pl_41) rfl hr7 rfl ?_ | refine oa_lssW rfl rfl (decide_eq_false (by omega)) ?_ | refine oa_lssW rfl rfl (decide_eq_true (by omega)) ?_ | refine oa_leqW rfl rfl (decide_eq_false (by omega)) ?_ | refine oa_leqW rfl rfl (decide_eq_true (by omega)) ?_ | refine oa_gtrW rfl rfl (decide_eq_false (by omega)) ?_ | refine oa_gtrW rfl rfl (decide_eq_true (by omega)) ?_ | refine oa_geqW rfl rfl (decide_eq_false (by omega)) ?_ | refine oa_geqW rfl rfl (decide_eq_true (by omega)) ?_ | refine oa_eqlW rfl rfl (decide_eq_false (by omega)) ?_ | refine oa_eqlW rfl rfl (decide_eq_true (by omega)) ?_ | refine oa_neqW rfl rfl (decide_eq_false (by omega)) ?_ | refine oa_neqW rfl rfl (decide_eq_true (by omega)) ?_ | refine oa_pickT rfl rfl rfl ?_ | refine oa_pickF rfl rfl ?_ | refine oa_not rfl ?_ | refine oa_extract rfl rfl ?_ | refine oa_addW rfl rfl (wrap_i64 (by omega) (by omega)) ?_ | refine oa_subW rfl rfl (wrap_i64 (by omega) (by omega)) ?_)) | (refine ia_gdY rfl ?_; (first | refine oa_move rfl ?_ | refine oa_assign rfl ?_ | refine oa_fieldAddr (by first | with_reducible exact fp_75_0 | with_reducible exact fp_75_3 | with_reducible exact fp_75_1 | with_reducible exact fp_41_0 | with_reducible exact fp_41_2 | with_reducible exact fp_41_3 | with_reducible exact fp_41_1) (by decide) rfl ?_ | refine oa_load1 (by first | with_reducible exact pl_75 | with_reducible exact pl_3 | with_reducible exact pl_41) rfl hr rfl ?_ | refine oa_load1 (by first | with_reducible exact pl_75 | with_reducible exact pl_3 | with_reducible exact pl_41) rfl hr7 rfl ?_ | refine oa_lssW rfl rfl (decide_eq_false (by omega)) ?_ | refine oa_lssW rfl rfl (decide_eq_true (by omega)) ?_ | refine oa_leqW rfl rfl (decide_eq_false (by omega)) ?_ | refine oa_leqW rfl rfl (decide_eq_true (by omega)) ?_ | refine oa_gtrW rfl rfl (decide_eq_false (by omega)) ?_ | refine oa_gtrW rfl rfl (decide_eq_true (by omega)) ?_ | refine oa_geqW rfl rfl (decide_eq_false (by omega)) ?_ | refine oa_geqW rfl rfl (decide_eq_true (by omega)) ?_ | refine oa_eqlW rfl rfl (decide_eq_false (by omega)) ?_ | refine oa_eqlW rfl rfl (decide_eq_true (by omega)) ?_ | refine oa_neqW rfl rfl (decide_eq_false (by omega)) ?_ | refine oa_neqW rfl rfl (decide_eq_true (by omega)) ?_ | refine oa_pickT rfl rfl rfl ?_ | refine oa_pickF rfl rfl ?_ | refine oa_not rfl ?_ | refine oa_extract rfl rfl ?_ | refine oa_addW rfl rfl (wrap_i64 (by omega) (by omega)) ?_ | refine oa_subW rfl rfl (wrap_i64 (by omega) (by omega)) ?_)) | refine ia_gdN rfl ?_ | refine ia_gdU rfl ?_))
    exact ia_nil (va_condF rfl (va_skip (hR _ ⟨rfl, rfl, rfl, trivial⟩)))
  · obtain ⟨c3, c4⟩ := h2 c2
    (repeat (first | (refine ia_op ?_; (first | refine oa_move rfl ?_ | refine oa_assign rfl ?_ | refine oa_fieldAddr (by first | with_reducible exact fp_75_0 | with_reducible exact fp_75_3 | with_reducible exact fp_75_1 | with_reducible exact fp_41_0 | with_reducible exact fp_41_2 | with_reducible exact fp_41_3 | with_reducible exact fp_41_1) (by decide) rfl ?_ | refine oa_load1 (by first | with_reducible exact pl_75 | with_reducible exact pl_3 | with_reducible exact pl_41) rfl hr rfl ?_ | refine oa_load1 (by first | with_reducible exact pl_75 | with_reducible exact pl_3 | with_reducible exact pl_41) rfl hr7 rfl ?_ | refine oa_lssW rfl rfl (decide_eq_false (by omega)) ?_ | refine oa_lssW rfl rfl (decide_eq_true (by omega)) ?_ | refine oa_leqW rfl rfl (decide_eq_false (by omega)) ?_ | refine oa_leqW rfl rfl (decide_eq_true (by omega)) ?_ | refine oa_gtrW rfl rfl (decide_eq_false (by omega)) ?_ | refine oa_gtrW rfl rfl (decide_eq_true (by omega)) ?_ | refine oa_geqW rfl rfl (decide_eq_false (by omega)) ?_ | refine oa_geqW rfl rfl (decide_eq_true (by omega)) ?_ | refine oa_eqlW rfl rfl (decide_eq_false (by omega)) ?_ | refine oa_eqlW rfl rfl (decide_eq_true (by omega)) ?_ | refine oa_neqW rfl rfl (decide_eq_false (by omega)) ?_ | refine oa_neqW rfl rfl (decide_eq_true (by omega)) ?_ | refine oa_pickT rfl rfl rfl ?_ | refine oa_pickF rfl rfl ?_ | refine oa_not rfl ?_ | refine oa_extract rfl rfl ?_ | refine oa_addW rfl rfl (wrap_i64 (by omega) (by omega)) ?_ | refine oa_subW rfl rfl (wrap_i64 (by omega) (by omega)) ?_)) | (refine ia_gdY rfl ?_; (first | refine oa_move rfl ?_ | refine oa_assign rfl ?_ | refine oa_fieldAddr (by first | with_reducible exact fp_75_0 | with_reducible exact fp_75_3 | with_reducible exact fp_75_1 | with_reducible exact fp_41_0 | with_reducible exact fp_41_2 | with_reducible exact fp_41_3 | with_reducible exact fp_41_1) (by decide) rfl ?_ | refine oa_load1 (by first | with_reducible exact pl_75 | with_reducible exact pl_3 | with_reducible exact pl_41) rfl hr rfl ?_ | refine oa_load1 (by first | with_reducible exact pl_75 | with_reducible exact pl_3 | with_reducible exact pl_41) rfl hr7 rfl ?_ | refine oa_lssW rfl rfl (decide_eq_false (by omega)) ?_ | refine oa_lssW rfl rfl (decide_eq_true (by omega)) ?_ | refine oa_leqW rfl rfl (decide_eq_false (by omega)) ?_ | refine oa_leqW rfl rfl (decide_eq_true (by omega)) ?_ | refine oa_gtrW rfl rfl (decide_eq_false (by omega)) ?_ | refine oa_gtrW rfl rfl (decide_eq_true (by omega)) ?_ | refine oa_geqW rfl rfl (decide_eq_false (by omega)) ?_ | refine oa_geqW rfl rfl (decide_eq_true (by omega)) ?_ | refine oa_eqlW rfl rfl (decide_eq_false (by omega)) ?_ | refine oa_eqlW rfl rfl (decide_eq_true (by omega)) ?_ | refine oa_neqW rfl rfl (decide_eq_false (by omega)) ?_ | refine oa_neqW rfl rfl (decide_eq_true (by omega)) ?_ | refine oa_pickT rfl rfl rfl ?_ | refine oa_pickF rfl rfl ?_ | refine oa_not rfl ?_ | refine oa_extract rfl rfl ?_ | refine oa_addW rfl rfl (wrap_i64 (by omega) (by omega)) ?_ | refine oa_subW rfl rfl (wrap_i64 (by omega) (by omega)) ?_)) | refine ia_gdN rfl ?_ | refine ia_gdU rfl ?_))
    exact ia_nil (va_condF rfl (va_skip (hR _ ⟨rfl, rfl, rfl, trivial⟩)))
set_option maxHeartbeats 0 in
theorem nests_ok (hlaid : Laid gl H) {ls : List Tk} (hv : IsSlR H v 4 ls.length (ls.flatMap tkC)) : WpF Tryz.prog [6] gl 4 [v] H fun r _ => r = .bool true := by
  refine fa Tryz.func4 b4_eq v4_eq r4_eq (.inr (by simp)) ?_
  refine va_seqr ?_
  (repeat (first | refine ia_op (oa_move rfl ?_) | refine ia_op (oa_assign rfl ?_) | refine ia_op (oa_lss rfl rfl ?_) | refine ia_op (oa_gtr rfl rfl ?_) | refine ia_op (oa_leq rfl rfl ?_) | refine ia_op (oa_geq rfl rfl ?_) | refine ia_op (oa_eql rfl rfl ?_) | refine ia_op (oa_neq rfl rfl ?_) | refine ia_op (oa_addW rfl rfl (wrap_i64 (by omega) (by omega)) ?_) | refine ia_op (oa_addW rfl rfl (wrap_u64 (by omega) (by omega)) ?_) | refine ia_op (oa_addW rfl rfl (wrap_u8 (by omega) (by omega)) ?_) | refine ia_op (oa_subW rfl rfl (wrap_i64 (by omega) (by omega)) ?_) | refine ia_op (oa_subW rfl rfl (wrap_u64 (by omega) (by omega)) ?_) | refine ia_op (oa_subW rfl rfl (wrap_u8 (by omega) (by omega)) ?_) | refine ia_op (oa_not rfl ?_) | refine ia_op (oa_extract rfl rfl ?_) | refine ia_op (oa_convW (by first | with_reducible exact un_22 | with_reducible exact un_3 | with_reducible exact un_52 | with_reducible exact un_25 | with_reducible exact un_26) (by first | with_reducible exact un_22 | with_reducible exact un_3 | with_reducible exact un_52 | with_reducible exact un_25 | with_reducible exact un_26) rfl (wrap_i64 (by omega) (by omega)) ?_) | refine ia_op (oa_convW (by first | with_reducible exact un_22 | with_reducible exact un_3 | with_reducible exact un_52 | with_reducible exact un_25 | with_reducible exact un_26) (by first | with_reducible exact un_22 | with_reducible exact un_3 | with_reducible exact un_52 | with_reducible exact un_25 | with_reducible exact un_26) rfl (wrap_u64 (by omega) (by omega)) ?_) | refine ia_op (oa_convW (by first | with_reducible exact un_22 | with_reducible exact un_3 | with_reducible exact un_52 | with_reducible exact un_25 | with_reducible exact un_26) (by first | with_reducible exact un_22 | with_reducible exact un_3 | with_reducible exact un_52 | with_reducible exact un_25 | with_reducible exact un_26) rfl (wrap_u8 (by omega) (by omega)) ?_)))
  refine ia_nil (va_seq (va_seqr ?_))
  refine ia_op (oa_move rfl ?_)
  refine ia_op (oa_lenSl rfl rfl rfl (by first | with_reducible exact un_22 | with_reducible exact un_3 | with_reducible exact un_52 | with_reducible exact un_25 | with_reducible exact un_26) rfl hv.sl ?_)
  by_cases h200 : 200 < ls.length
  · refine ia_op (oa_gtrW rfl rfl (decide_eq_true (by omega)) (ia_nil (va_condT rfl (va_seqr ?_))))
    refine ia_op (oa_known rfl hlaid ?_)
    refine ia_op (oa_assign rfl (ia_nil (va_ret ⟨_, rfl, rfl⟩)))
  refine ia_op (oa_gtrW rfl rfl (decide_eq_false (by omega)) (ia_nil (va_condF rfl (va_skip (va_seqr ?_)))))
  refine ia_op (oa_move rfl ?_)
  refine ia_op (oa_call rfl rfl rfl (Tree_ok (by omega) hv fun r H1 hk1 hR => ?_))
  have hlaid1 := hlaid.keep hk1
  unfold TreeR at hR
  rcases ht : treeT ls with _ | out
  · rw [ht] at hR
    subst hR
    (repeat (first | refine ia_op (oa_move rfl ?_) | refine ia_op (oa_assign rfl ?_) | refine ia_op (oa_lss rfl rfl ?_) | refine ia_op (oa_gtr rfl rfl ?_) | refine ia_op (oa_leq rfl rfl ?_) | refine ia_op (oa_geq rfl rfl ?_) | refine ia_op (oa_eql rfl rfl ?_) | refine ia_op (oa_neq rfl rfl ?_) | refine ia_op (oa_addW rfl rfl (wrap_i64 (by omega) (by omega)) ?_) | refine ia_op (oa_addW rfl rfl (wrap_u64 (by omega) (by omega)) ?_) | refine ia_op (oa_addW rfl rfl (wrap_u8 (by omega) (by omega)) ?_) | refine ia_op (oa_subW rfl rfl (wrap_i64 (by omega) (by omega)) ?_) | refine ia_op (oa_subW rfl rfl (wrap_u64 (by omega) (by omega)) ?_) | refine ia_op (oa_subW rfl rfl (wrap_u8 (by omega) (by omega)) ?_) | refine ia_op (oa_not rfl ?_) | refine ia_op (oa_extract rfl rfl ?_) | refine ia_op (oa_convW (by first | with_reducible exact un_22 | with_reducible exact un_3 | with_reducible exact un_52 | with_reducible exact un_25 | with_reducible exact un_26) (by first | with_reducible exact un_22 | with_reducible exact un_3 | with_reducible exact un_52 | with_reducible exact un_25 | with_reducible exact un_26) rfl (wrap_i64 (by omega) (by omega)) ?_) | refine ia_op (oa_convW (by first | with_reducible exact un_22 | with_reducible exact un_3 | with_reducible exact un_52 | with_reducible exact un_25 | with_reducible exact un_26) (by first | with_reducible exact un_22 | with_reducible exact un_3 | with_reducible exact un_52 | with_reducible exact un_25 | with_reducible exact un_26) rfl (wrap_u64 (by omega) (by omega)) ?_) | refine ia_op (oa_convW (by first | with_reducible exact un_22 | with_reducible exact un_3 | with_reducible exact un_52 | with_reducible exact un_25 | with_reducible exact un_26) (by first | with_reducible exact un_22 | with_reducible exact un_3 | with_reducible exact un_52 | with_reducible exact un_25 | with_reducible exact un_26) rfl (wrap_u8 (by omega) (by omega)) ?_)))
    refine ia_nil (va_seq (va_seqr ?_))
    refine ia_op (oa_move rfl ?_)
    refine ia_op (oa_neqW rfl rfl (decide_eq_true (by decide)) (ia_nil (va_condT rfl (va_seqr ?_))))
    refine ia_op (oa_move rfl ?_)
    refine ia_op (oa_lenSl rfl rfl rfl (by first | with_reducible exact un_22 | with_reducible exact un_3 | with_reducible exact un_52 | with_reducible exact un_25 | with_reducible exact un_26) rfl (IsSl.nil H1 4) ?_)
    refine ia_op (oa_eqlW rfl rfl (decide_eq_true (by decide)) ?_)
    refine ia_op (oa_move rfl ?_)
    refine ia_gdY rfl (oa_known rfl hlaid1 ?_)
    refine ia_op (oa_pickT rfl rfl rfl ?_)
    refine ia_op (oa_assign rfl (ia_nil (va_ret ⟨_, rfl, rfl⟩)))
  rw [ht] at hR
  obtain ⟨u, rfl, hown, _⟩ := hR
  obtain ⟨hne, op, I⟩ := treeT_inv ht
  have hlen := I.len
  have hpos : 0 < out.length := List.length_pos_iff.2 hne
  (repeat (first | refine ia_op (oa_move rfl ?_) | refine ia_op (oa_assign rfl ?_) | refine ia_op (oa_lss rfl rfl ?_) | refine ia_op (oa_gtr rfl rfl ?_) | refine ia_op (oa_leq rfl rfl ?_) | refine ia_op (oa_geq rfl rfl ?_) | refine ia_op (oa_eql rfl rfl ?_) | refine ia_op (oa_neq rfl rfl ?_) | refine ia_op (oa_addW rfl rfl (wrap_i64 (by omega) (by omega)) ?_) | refine ia_op (oa_addW rfl rfl (wrap_u64 (by omega) (by omega)) ?_) | refine ia_op (oa_addW rfl rfl (wrap_u8 (by omega) (by omega)) ?_) | refine ia_op (oa_subW rfl rfl (wrap_i64 (by omega) (by omega)) ?_) | refine ia_op (oa_subW rfl rfl (wrap_u64 (by omega) (by omega)) ?_) | refine ia_op (oa_subW rfl rfl (wrap_u8 (by omega) (by omega)) ?_) | refine ia_op (oa_not rfl ?_) | refine ia_op (oa_extract rfl rfl ?_) | refine ia_op (oa_convW (by first | with_reducible exact un_22 | with_reducible exact un_3 | with_reducible exact un_52 | with_reducible exact un_25 | with_reducible exact un_26) (by first | with_reducible exact un_22 | with_reducible exact un_3 | with_reducible exact un_52 | with_reducible exact un_25 | with_reducible exact un_26) rfl (wrap_i64 (by omega) (by omega)) ?_) | refine ia_op (oa_convW (by first | with_reducible exact un_22 | with_reducible exact un_3 | with_reducible exact un_52 | with_reducible exact un_25 | with_reducible exact un_26) (by first | with_reducible exact un_22 | with_reducible exact un_3 | with_reducible exact un_52 | with_reducible exact un_25 | with_reducible exact un_26) rfl (wrap_u64 (by omega) (by omega)) ?_) | refine ia_op (oa_convW (by first | with_reducible exact un_22 | with_reducible exact un_3 | with_reducible exact un_52 | with_reducible exact un_25 | with_reducible exact un_26) (by first | with_reducible exact un_22 | with_reducible exact un_3 | with_reducible exact un_52 | with_reducible exact un_25 | with_reducible exact un_26) rfl (wrap_u8 (by omega) (by omega)) ?_)))
  refine ia_nil (va_seq (va_seqr ?_))
  refine ia_op (oa_move rfl ?_)
  refine ia_op (oa_neqW rfl rfl (decide_eq_false (by decide)) (ia_nil (va_condF rfl (va_skip (va_seq (va_seqr ?_))))))
  (repeat (first | refine ia_op (oa_move rfl ?_) | refine ia_op (oa_assign rfl ?_) | refine ia_op (oa_lss rfl rfl ?_) | refine ia_op (oa_gtr rfl rfl ?_) | refine ia_op (oa_leq rfl rfl ?_) | refine ia_op (oa_geq rfl rfl ?_) | refine ia_op (oa_eql rfl rfl ?_) | refine ia_op (oa_neq rfl rfl ?_) | refine ia_op (oa_addW rfl rfl (wrap_i64 (by omega) (by omega)) ?_) | refine ia_op (oa_addW rfl rfl (wrap_u64 (by omega) (by omega)) ?_) | refine ia_op (oa_addW rfl rfl (wrap_u8 (by omega) (by omega)) ?_) | refine ia_op (oa_subW rfl rfl (wrap_i64 (by omega) (by omega)) ?_) | refine ia_op (oa_subW rfl rfl (wrap_u64 (by omega) (by omega)) ?_) | refine ia_op (oa_subW rfl rfl (wrap_u8 (by omega) (by omega)) ?_) | refine ia_op (oa_not rfl ?_) | refine ia_op (oa_extract rfl rfl ?_) | refine ia_op (oa_convW (by first | with_reducible exact un_22 | with_reducible exact un_3 | with_reducible exact un_52 | with_reducible exact un_25 | with_reducible exact un_26) (by first | with_reducible exact un_22 | with_reducible exact un_3 | with_reducible exact un_52 | with_reducible exact un_25 | with_reducible exact un_26) rfl (wrap_i64 (by omega) (by omega)) ?_) | refine ia_op (oa_convW (by first | with_reducible exact un_22 | with_reducible exact un_3 | with_reducible exact un_52 | with_reducible exact un_25 | with_reducible exact un_26) (by first | with_reducible exact un_22 | with_reducible exact un_3 | with_reducible exact un_52 | with_reducible exact un_25 | with_reducible exact un_26) rfl (wrap_u64 (by omega) (by omega)) ?_) | refine ia_op (oa_convW (by first | with_reducible exact un_22 | with_reducible exact un_3 | with_reducible exact un_52 | with_reducible exact un_25 | with_reducible exact un_26) (by first | with_reducible exact un_22 | with_reducible exact un_3 | with_reducible exact un_52 | with_reducible exact un_25 | with_reducible exact un_26) rfl (wrap_u8 (by omega) (by omega)) ?_)))
  refine ia_nil (va_block ?_)
  -- behind the loop
  have fin : ∀ (l' : Fm) (H' : Heap), Keep Non H1 H' → Sb [(3, u)] l' → VA Tryz.prog [6] gl v4t5 l' H' (leftA [.tmp 2] fun r _ => r = .bool true) := by
    intro l' H' hk hs
    refine VA.sub hs (va_seqr ?_)
    refine ia_op (oa_move rfl ?_)
    refine ia_op (oa_lenSl rfl rfl rfl (by first | with_reducible exact un_22 | with_reducible exact un_3 | with_reducible exact un_52 | with_reducible exact un_25 | with_reducible exact un_26) rfl (hown.keep0 hk).sl ?_)
    refine ia_op (oa_gtrW rfl rfl (decide_eq_true (by omega)) ?_)
    refine ia_op (oa_move rfl ?_)
    refine ia_gdY rfl (oa_known rfl (hlaid1.keep hk) ?_)
    refine ia_op (oa_pickT rfl rfl rfl ?_)
    refine ia_op (oa_assign rfl (ia_nil (va_ret ⟨_, rfl, rfl⟩)))
  refine va_loop (fun (i : Nat) => [(3, u), (5, .int .i64 (i : Int))]) (fun i H' => Keep Non H1 H' ∧ i ≤ out.length) (fun i => out.length - i) ?_ 0 _ H1 ⟨rfl, rfl, trivial⟩ ⟨.refl _ _, Nat.zero_le _⟩
  rintro i H2 ⟨hk2, hi⟩
  refine va_seq (va_seqr ?_)
  refine ia_op (oa_move rfl (ia_op (oa_move rfl ?_)))
  refine ia_op (oa_lenSl rfl rfl rfl (by first | with_reducible exact un_22 | with_reducible exact un_3 | with_reducible exact un_52 | with_reducible exact un_25 | with_reducible exact un_26) rfl (hown.keep0 hk2).sl ?_)
  by_cases hil : i = out.length
  · refine ia_op (oa_lssW rfl rfl (decide_eq_false (by omega)) (ia_nil (va_condF rfl (va_exit (fin _ H2 hk2 ⟨rfl, trivial⟩)))))
  refine ia_op (oa_lssW rfl rfl (decide_eq_true (by omega)) (ia_nil (va_condT rfl (va_skip ?_))))
  obtain ⟨c, hc⟩ : ∃ c, out[i]? = some c := ⟨_, List.getElem?_eq_getElem (by omega)⟩
  have hchunk := flat_chunk clC_len out i c hc
  -- a round is over
  have next : ∀ (l2 : Fm) (H' : Heap), Keep Non H1 H' → Sb [(3, u), (5, .int .i64 (i : Int))] l2 → VA Tryz.prog [6] gl (.reg [.op (some 30) (.move (.tmp 5)), .op (some 31) (.binOp .add 3 (.tmp 30) (.const (.int .i64 1)) 3), .op (some 5) (.assign (.tmp 31))]) l2 H'
      (roundA (fun (i : Nat) => [(3, u), (5, .int .i64 (i : Int))]) (fun i H'' => Keep Non H1 H'' ∧ i ≤ out.length) (fun i => out.length - i) i (exitA 0 (seqA Tryz.prog [6] gl v4t5 (leftA [.tmp 2] fun r _ => r = .bool true)))) := by
    intro l2 H' hk h2
    refine VA.sub h2 (va_reg ?_)
    refine ia_op (oa_move rfl ?_)
    refine ia_op (oa_addW (c := ((i + 1 : Nat) : Int)) rfl rfl (wrapE_i64 (by omega) (by omega) (by omega)) ?_)
    refine ia_op (oa_assign rfl (ia_nil ⟨i + 1, ?_, ⟨rfl, rfl, trivial⟩, hk, by omega⟩))
    show out.length - (i + 1) < out.length - i
    omega
  refine va_seq (va_block (va_seqr ?_))
  refine ia_op (oa_move rfl (ia_op (oa_move rfl ?_)))
  refine ia_op (oa_indexSl (by first | with_reducible exact un_22 | with_reducible exact un_3 | with_reducible exact un_52 | with_reducible exact un_25 | with_reducible exact un_26) (by first | with_reducible exact sz_75 | with_reducible exact sz_3 | with_reducible exact sz_41) rfl (hown.keep0 hk2).sl rfl rfl (by omega) fun p hp => ?_)
  rw [hchunk] at hp
  refine ia_op (oa_ploadN (k := 4) (by first | with_reducible exact pl_75 | with_reducible exact pl_3 | with_reducible exact pl_41) rfl (by decide) rfl hp ?_)
  refine ia_op (oa_alloc (by first | with_reducible exact ze_75 | with_reducible exact ze_41) fun H3 hk3 hr3 => ?_)
  refine ia_op (oa_storeAll (k := 4) (by first | with_reducible exact sz_75 | with_reducible exact sz_3 | with_reducible exact sz_41) rfl rfl rfl rfl hr3 rfl fun H4 hk4 hn4 hr4 => ?_)
  have hK4 : Keep Non H1 H4 := hk2.trans0 (hk3.trans hk4 fun c hc => .inr (by omega))
  obtain ⟨he1, he2, he3⟩ := I.ent i c hc
  obtain ⟨hu1, hu2⟩ := I.ups i c hc
  have hup : c.up < (i : Int) := by
    rcases Nat.eq_zero_or_pos i with h | h
    · have := hu1 h; omega
    · obtain ⟨w, h1, h2⟩ := hu2 h; omega
  refine ia_nil (va_seq (nests_test1 hr4 hup (by
    rcases Nat.eq_zero_or_pos i with h | h
    · exact .inl h
    · obtain ⟨w, h1, h2⟩ := hu2 h; exact .inr (by omega)) (by omega) (fun l2 h2 => ?_) ⟨rfl, rfl, rfl, trivial⟩))
  refine VA.sub h2 (va_seq (va_seqr ?_))
  refine ia_op (oa_move rfl ?_)
  by_cases hi0 : i = 0
  · refine ia_op (oa_eqlW rfl rfl (decide_eq_true (by omega)) (ia_nil (va_condT rfl (va_exit (next _ H4 hK4 ⟨rfl, rfl, trivial⟩)))))
  refine ia_op (oa_eqlW rfl rfl (decide_eq_false (by omega)) (ia_nil (va_condF rfl (va_skip (va_seqr ?_)))))
  obtain ⟨w, hw1, hw2⟩ := hu2 (by omega)
  obtain ⟨d, hd⟩ : ∃ d, out[w]? = some d := ⟨_, List.getElem?_eq_getElem (by omega)⟩
  have hchunkd := flat_chunk clC_len out w d hd
  refine ia_op (oa_move rfl ?_)
  refine ia_op (oa_fieldAddr (by first | with_reducible exact fp_75_0 | with_reducible exact fp_75_3 | with_reducible exact fp_75_1 | with_reducible exact fp_41_0 | with_reducible exact fp_41_2 | with_reducible exact fp_41_3 | with_reducible exact fp_41_1) (by decide) rfl ?_)
  refine ia_op (oa_load1 (by first | with_reducible exact pl_75 | with_reducible exact pl_3 | with_reducible exact pl_41) rfl hr4 rfl ?_)
  refine ia_op (oa_indexSl (by first | with_reducible exact un_22 | with_reducible exact un_3 | with_reducible exact un_52 | with_reducible exact un_25 | with_reducible exact un_26) (by first | with_reducible exact sz_75 | with_reducible exact sz_3 | with_reducible exact sz_41) rfl (hown.keep0 hK4).sl rfl hw1 (by omega) fun p hp => ?_)
  rw [hchunkd] at hp
  refine ia_op (oa_ploadN (k := 4) (by first | with_reducible exact pl_75 | with_reducible exact pl_3 | with_reducible exact pl_41) rfl (by decide) rfl hp ?_)
  refine ia_op (oa_alloc (by first | with_reducible exact ze_75 | with_reducible exact ze_41) fun H5 hk5 hr5 => ?_)
  refine ia_op (oa_storeAll (k := 4) (by first | with_reducible exact sz_75 | with_reducible exact sz_3 | with_reducible exact sz_41) rfl rfl rfl rfl hr5 rfl fun H6 hk6 hn6 hr6 => ?_)
  have hK6' : Keep Non H4 H6 := hk5.trans hk6 fun c hc => .inr (by omega)
  have hK6 : Keep Non H1 H6 := hK4.trans0 hK6'
  have hr46 := hr4.keep0 hK6'
  refine ia_nil (va_seq (nests_test2 hr46 hr6 (I.inc w i d c hw2 hd hc) (fun hl => I.par i c w d hc hw1 hd hl) (fun l3 h3 => ?_) ⟨rfl, rfl, rfl, rfl, trivial⟩))
  refine VA.sub h3 (va_seqr ?_)
  (repeat (first | refine ia_op (oa_move rfl ?_) | refine ia_op (oa_assign rfl ?_) | refine ia_op (oa_lss rfl rfl ?_) | refine ia_op (oa_gtr rfl rfl ?_) | refine ia_op (oa_leq rfl rfl ?_) | refine ia_op (oa_geq rfl rfl ?_) | refine ia_op (oa_eql rfl rfl ?_) | refine ia_op (oa_neq rfl rfl ?_) | refine ia_op (oa_addW rfl rfl (wrap_i64 (by omega) (by omega)) ?_) | refine ia_op (oa_addW rfl rfl (wrap_u64 (by omega) (by omega)) ?_) | refine ia_op (oa_addW rfl rfl (wrap_u8 (by omega) (by omega)) ?_) | refine ia_op (oa_subW rfl rfl (wrap_i64 (by omega) (by omega)) ?_) | refine ia_op (oa_subW rfl rfl (wrap_u64 (by omega) (by omega)) ?_) | refine ia_op (oa_subW rfl rfl (wrap_u8 (by omega) (by omega)) ?_) | refine ia_op (oa_not rfl ?_) | refine ia_op (oa_extract rfl rfl ?_) | refine ia_op (oa_convW (by first | with_reducible exact un_22 | with_reducible exact un_3 | with_reducible exact un_52 | with_reducible exact un_25 | with_reducible exact un_26) (by first | with_reducible exact un_22 | with_reducible exact un_3 | with_reducible exact un_52 | with_reducible exact un_25 | with_reducible exact un_26) rfl (wrap_i64 (by omega) (by omega)) ?_) | refine ia_op (oa_convW (by first | with_reducible exact un_22 | with_reducible exact un_3 | with_reducible exact un_52 | with_reducible exact un_25 | with_reducible exact un_26) (by first | with_reducible exact un_22 | with_reducible exact un_3 | with_reducible exact un_52 | with_reducible exact un_25 | with_reducible exact un_26) rfl (wrap_u64 (by omega) (by omega)) ?_) | refine ia_op (oa_convW (by first | with_reducible exact un_22 | with_reducible exact un_3 | with_reducible exact un_52 | with_reducible exact un_25 | with_reducible exact un_26) (by first | with_reducible exact un_22 | with_reducible exact un_3 | with_reducible exact un_52 | with_reducible exact un_25 | with_reducible exact un_26) rfl (wrap_u8 (by omega) (by omega)) ?_)))
  refine ia_nil (va_block (nests_inner (hown.keep0 hK6) hc hr46 (by omega) (fun j e hj he hu => I.sib j i e c hj he hc hu) (fun l4 h4 => ?_) ⟨rfl, rfl, rfl, rfl, trivial⟩))
  exact next _ H6 hK6 h4
end
end Go.Proofs.YtndhniapohlniaaGreatDoor
