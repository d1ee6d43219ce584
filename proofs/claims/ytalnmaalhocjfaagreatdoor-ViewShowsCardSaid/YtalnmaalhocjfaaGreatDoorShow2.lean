/-
  Rows shown about one: the program's way and the document's, walked. Conditions: the rows' sizes.
-/
import Derived.Test.YtalnmaalhocjfaaGreatDoorShow1
namespace Go.Proofs.YtalnmaalhocjfaaGreatDoor
open Go Go.Proofs.YtalnmaalhocjfaaGreatDoor.Eng
/-! facts about types -/
theorem fp_32_0 : fieldPlc Tryz.prog 32 0 = some ⟨0, false, 1⟩ := by kernel_rfl
/-! f13: parallax/view.Show, parameters #[27, 3, 3] -/
def v13c0 : CV := .seq (.reg [.op (some 6) (.assign (.const (.slice none 0 0))),
    .op (some 7) (.assign (.const (.int .i64 80)))])
  (.ret)
def v13h1 : CV := .seq (.reg [.op (some 14) (.move (.tmp 1)),
    .op (some 15) (.binOp .lss 3 (.tmp 14) (.const (.int .i64 0)) 3),
    .op (some 16) (.move (.tmp 15)),
    .gd 16 false (some 17) (.move (.tmp 1)),
    .gd 16 false (some 18) (.move (.tmp 0)),
    .gd 16 false (some 19) (.call ⟨.builtin .len, #[(.tmp 18)], #[27]⟩),
    .gd 16 false (some 20) (.binOp .geq 3 (.tmp 17) (.tmp 19) 3),
    .op (some 21) (.pick (.tmp 16) (.const (.bool true)) (.tmp 20))])
  (.cond (.tmp 21) v13c0 (.skip))
def v13c1 : CV := .seq (.reg [.op (some 6) (.assign (.const (.slice none 0 0))),
    .op (some 7) (.assign (.const (.int .i64 1)))])
  (.ret)
def v13h2 : CV := .seq (.reg [.op (some 22) (.move (.tmp 2)),
    .op (some 23) (.binOp .lss 3 (.tmp 22) (.const (.int .i64 0)) 3)])
  (.cond (.tmp 23) v13c1 (.skip))
def v13h4 : CV := .seq (.reg [.op (some 26) (.move (.tmp 2)),
    .op (some 27) (.move (.tmp 1)),
    .op (some 28) (.binOp .lss 3 (.tmp 26) (.tmp 27) 3)])
  (.cond (.tmp 28) (.reg [.op (some 29) (.move (.tmp 1)),
    .op (some 30) (.move (.tmp 2)),
    .op (some 31) (.binOp .sub 3 (.tmp 29) (.tmp 30) 3),
    .op (some 8) (.assign (.tmp 31))]) (.skip))
def v13h5 : CV := .seq (.reg [.op (some 32) (.move (.tmp 2)),
    .op (some 33) (.move (.tmp 0)),
    .op (some 34) (.call ⟨.builtin .len, #[(.tmp 33)], #[27]⟩),
    .op (some 35) (.binOp .sub 3 (.tmp 34) (.const (.int .i64 1)) 3),
    .op (some 36) (.move (.tmp 1)),
    .op (some 37) (.binOp .sub 3 (.tmp 35) (.tmp 36) 3),
    .op (some 38) (.binOp .lss 3 (.tmp 32) (.tmp 37) 3)])
  (.cond (.tmp 38) (.reg [.op (some 39) (.move (.tmp 1)),
    .op (some 40) (.move (.tmp 2)),
    .op (some 41) (.binOp .add 3 (.tmp 39) (.tmp 40) 3),
    .op (some 42) (.binOp .add 3 (.tmp 41) (.const (.int .i64 1)) 3),
    .op (some 9) (.assign (.tmp 42))]) (.skip))
def v13l2h0 : CV := .seq (.reg [.op (some 47) (.move (.tmp 12)),
    .op (some 48) (.move (.tmp 9)),
    .op (some 49) (.binOp .lss 3 (.tmp 47) (.tmp 48) 3)])
  (.cond (.tmp 49) (.skip) (.exit 0))
def v13k0h1 : CV := .seq (.reg [.op (some 52) (.move (.tmp 12)),
    .op (some 53) (.move (.tmp 1)),
    .op (some 54) (.binOp .eql 3 (.tmp 52) (.tmp 53) 3)])
  (.cond (.tmp 54) (.reg [.op (some 13) (.assign (.const (.string ⟨⟨[62]⟩⟩)))]) (.skip))
def v13k0t1 : CV := .seq v13k0h1
  (.reg [.op (some 55) (.move (.tmp 11)),
    .op (some 56) (.move (.tmp 13)),
    .op (some 57) (.move (.tmp 12)),
    .op (some 58) (.binOp .add 3 (.tmp 57) (.const (.int .i64 1)) 3),
    .op (some 59) (.move (.tmp 10)),
    .op (some 61) (.move (.tmp 0)),
    .op (some 62) (.move (.tmp 12)),
    .op (some 63) (.indexAddr 27 (.tmp 61) (.tmp 62)),
    .op (some 64) (.fieldAddr 32 (.tmp 63) 0),
    .op (some 65) (.load 9 (.tmp 64)),
    .op (some 60) (.call ⟨.value (.func 38), #[(.tmp 58), (.tmp 59)], #[3, 3]⟩),
    .ck 65 (.load 9 (.tmp 64)),
    .op (some 66) (.buildSlice 41 3 #[(0, (.tmp 56)), (1, (.tmp 60)), (2, (.tmp 65))]),
    .op (some 67) (.call ⟨.value (.func 37), #[(.tmp 66)], #[41]⟩),
    .op (some 68) (.buildSlice 41 1 #[(0, (.tmp 67))]),
    .op (some 69) (.call ⟨.builtin .append, #[(.tmp 55), (.tmp 68)], #[41, 41]⟩),
    .op (some 11) (.assign (.tmp 69))])
def v13k0 : CV := .seq (.reg [.op (some 13) (.assign (.const (.string ⟨⟨[32]⟩⟩)))]) v13k0t1
def v13l2t1 : CV := .seq (.block 1 v13k0)
  (.reg [.op (some 50) (.move (.tmp 12)),
    .op (some 51) (.binOp .add 3 (.tmp 50) (.const (.int .i64 1)) 3),
    .op (some 12) (.assign (.tmp 51))])
def v13l2 : CV := .seq v13l2h0 v13l2t1
def v13h8 : CV := .seq (.reg [.op (some 46) (.move (.tmp 8)),
    .op (some 12) (.assign (.tmp 46))])
  (.block 0 (.loop v13l2))
def v13t9 : CV := .seq (.reg [.op (some 70) (.move (.tmp 11)),
    .op (some 6) (.assign (.tmp 70)),
    .op (some 7) (.assign (.const (.int .i64 0)))])
  (.ret)
def v13t8 : CV := .seq v13h8 v13t9
def v13t7 : CV := .seq (.reg [.op (some 11) (.assign (.const (.slice none 0 0)))]) v13t8
def v13t6 : CV := .seq (.reg [.op (some 43) (.move (.tmp 9)),
    .op (some 44) (.call ⟨.value (.func 36), #[(.tmp 43)], #[2]⟩),
    .op (some 45) (.call ⟨.builtin .len, #[(.tmp 44)], #[9]⟩),
    .op (some 10) (.assign (.tmp 45))]) v13t7
def v13t5 : CV := .seq v13h5 v13t6
def v13t4 : CV := .seq v13h4 v13t5
def v13t3 : CV := .seq (.reg [.op (some 24) (.move (.tmp 0)),
    .op (some 25) (.call ⟨.builtin .len, #[(.tmp 24)], #[27]⟩),
    .op (some 8) (.assign (.const (.int .i64 0))),
    .op (some 9) (.assign (.tmp 25))]) v13t4
def v13t2 : CV := .seq v13h2 v13t3
def v13t1 : CV := .seq v13h1 v13t2
def v13 : CV := .seq (.reg [.op (some 6) (.assign (.const (.slice none 0 0))),
    .op (some 7) (.assign (.const (.int .i64 0)))]) v13t1
noncomputable def b13 : Code := Tryz.f13.body.getD .skip
theorem b13_eq : Tryz.f13.body = some b13 := by kernel_rfl
theorem v13_eq : viewC Tryz.prog b13 = some v13 := by kernel_rfl
theorem r13_eq : Tryz.f13.results.toList = [.tmp 6, .tmp 7] := by kernel_rfl
/-! f15: parallax/parallaxref17.Show, parameters #[39, 3, 3] -/
def v15c0 : CV := .seq (.reg [.op (some 6) (.assign (.const (.slice none 0 0))),
    .op (some 7) (.assign (.const (.int .i64 80)))])
  (.ret)
def v15h1 : CV := .seq (.reg [.op (some 13) (.move (.tmp 1)),
    .op (some 14) (.binOp .lss 3 (.tmp 13) (.const (.int .i64 0)) 3),
    .op (some 15) (.move (.tmp 14)),
    .gd 15 false (some 16) (.move (.tmp 1)),
    .gd 15 false (some 17) (.move (.tmp 0)),
    .gd 15 false (some 18) (.call ⟨.builtin .len, #[(.tmp 17)], #[39]⟩),
    .gd 15 false (some 19) (.binOp .geq 3 (.tmp 16) (.tmp 18) 3),
    .op (some 20) (.pick (.tmp 15) (.const (.bool true)) (.tmp 19))])
  (.cond (.tmp 20) v15c0 (.skip))
def v15c1 : CV := .seq (.reg [.op (some 6) (.assign (.const (.slice none 0 0))),
    .op (some 7) (.assign (.const (.int .i64 1)))])
  (.ret)
def v15h2 : CV := .seq (.reg [.op (some 21) (.move (.tmp 2)),
    .op (some 22) (.binOp .lss 3 (.tmp 21) (.const (.int .i64 0)) 3)])
  (.cond (.tmp 22) v15c1 (.skip))
def v15h3 : CV := .seq (.reg [.op (some 23) (.move (.tmp 2)),
    .op (some 24) (.move (.tmp 0)),
    .op (some 25) (.call ⟨.builtin .len, #[(.tmp 24)], #[39]⟩),
    .op (some 26) (.binOp .gtr 3 (.tmp 23) (.tmp 25) 3)])
  (.cond (.tmp 26) (.reg [.op (some 27) (.move (.tmp 0)),
    .op (some 28) (.call ⟨.builtin .len, #[(.tmp 27)], #[39]⟩),
    .op (some 2) (.assign (.tmp 28))]) (.skip))
def v15l2h0 : CV := .seq (.reg [.op (some 30) (.move (.tmp 8)),
    .op (some 31) (.binOp .add 3 (.tmp 30) (.const (.int .i64 1)) 3),
    .op (some 32) (.move (.tmp 0)),
    .op (some 33) (.call ⟨.builtin .len, #[(.tmp 32)], #[39]⟩),
    .op (some 34) (.binOp .lss 3 (.tmp 31) (.tmp 33) 3),
    .op (some 35) (.move (.tmp 34)),
    .gd 35 true (some 36) (.move (.tmp 8)),
    .gd 35 true (some 37) (.move (.tmp 1)),
    .gd 35 true (some 38) (.binOp .sub 3 (.tmp 36) (.tmp 37) 3),
    .gd 35 true (some 39) (.move (.tmp 2)),
    .gd 35 true (some 40) (.binOp .lss 3 (.tmp 38) (.tmp 39) 3),
    .op (some 41) (.pick (.tmp 35) (.tmp 40) (.const (.bool false)))])
  (.cond (.tmp 41) (.skip) (.exit 0))
def v15l2 : CV := .seq v15l2h0
  (.block 1 (.reg [.op (some 42) (.move (.tmp 8)),
    .op (some 43) (.binOp .add 3 (.tmp 42) (.const (.int .i64 1)) 3),
    .op (some 8) (.assign (.tmp 43))]))
def v15l3h0 : CV := .seq (.reg [.op (some 48) (.move (.tmp 11)),
    .op (some 49) (.move (.tmp 8)),
    .op (some 50) (.binOp .leq 3 (.tmp 48) (.tmp 49) 3)])
  (.cond (.tmp 50) (.skip) (.exit 2))
def v15k0h0 : CV := .seq (.reg [.op (some 53) (.move (.tmp 1)),
    .op (some 54) (.move (.tmp 11)),
    .op (some 55) (.binOp .sub 3 (.tmp 53) (.tmp 54) 3),
    .op (some 56) (.move (.tmp 2)),
    .op (some 57) (.binOp .gtr 3 (.tmp 55) (.tmp 56) 3)])
  (.cond (.tmp 57) (.exit 3) (.skip))
def v15l4h0 : CV := .seq (.reg [.op (some 61) (.move (.tmp 12)),
    .op (some 62) (.call ⟨.builtin .len, #[(.tmp 61)], #[9]⟩),
    .op (some 63) (.move (.tmp 9)),
    .op (some 64) (.binOp .lss 3 (.tmp 62) (.tmp 63) 3)])
  (.cond (.tmp 64) (.skip) (.exit 4))
def v15l4 : CV := .seq v15l4h0
  (.block 5 (.reg [.op (some 65) (.move (.tmp 12)),
    .op (some 66) (.binOp .add 9 (.const (.string ⟨⟨[32]⟩⟩)) (.tmp 65) 9),
    .op (some 12) (.assign (.tmp 66))]))
def v15k0t3 : CV := .seq (.reg [.op (some 67) (.move (.tmp 11)),
    .op (some 68) (.move (.tmp 1)),
    .op (some 69) (.binOp .eql 3 (.tmp 67) (.tmp 68) 3)])
  (.cond (.tmp 69) (.reg [.op (some 70) (.move (.tmp 10)),
    .op (some 71) (.move (.tmp 12)),
    .op (some 72) (.binOp .add 9 (.const (.string ⟨⟨[62, 32]⟩⟩)) (.tmp 71) 9),
    .op (some 73) (.binOp .add 9 (.tmp 72) (.const (.string ⟨⟨[32]⟩⟩)) 9),
    .op (some 74) (.move (.tmp 0)),
    .op (some 75) (.move (.tmp 11)),
    .op (some 76) (.indexAddr 39 (.tmp 74) (.tmp 75)),
    .op (some 77) (.fieldAddr 40 (.tmp 76) 0),
    .op (some 78) (.load 9 (.tmp 77)),
    .op (some 79) (.binOp .add 9 (.tmp 73) (.tmp 78) 9),
    .op (some 80) (.buildSlice 41 1 #[(0, (.tmp 79))]),
    .op (some 81) (.call ⟨.builtin .append, #[(.tmp 70), (.tmp 80)], #[41, 41]⟩),
    .op (some 10) (.assign (.tmp 81))]) (.reg [.op (some 82) (.move (.tmp 10)),
    .op (some 83) (.move (.tmp 12)),
    .op (some 84) (.binOp .add 9 (.const (.string ⟨⟨[32, 32]⟩⟩)) (.tmp 83) 9),
    .op (some 85) (.binOp .add 9 (.tmp 84) (.const (.string ⟨⟨[32]⟩⟩)) 9),
    .op (some 86) (.move (.tmp 0)),
    .op (some 87) (.move (.tmp 11)),
    .op (some 88) (.indexAddr 39 (.tmp 86) (.tmp 87)),
    .op (some 89) (.fieldAddr 40 (.tmp 88) 0),
    .op (some 90) (.load 9 (.tmp 89)),
    .op (some 91) (.binOp .add 9 (.tmp 85) (.tmp 90) 9),
    .op (some 92) (.buildSlice 41 1 #[(0, (.tmp 91))]),
    .op (some 93) (.call ⟨.builtin .append, #[(.tmp 82), (.tmp 92)], #[41, 41]⟩),
    .op (some 10) (.assign (.tmp 93))]))
def v15k0t2 : CV := .seq (.block 4 (.loop v15l4)) v15k0t3
def v15k0t1 : CV := .seq (.reg [.op (some 58) (.move (.tmp 11)),
    .op (some 59) (.binOp .add 3 (.tmp 58) (.const (.int .i64 1)) 3),
    .op (some 60) (.call ⟨.value (.func 39), #[(.tmp 59)], #[2]⟩),
    .op (some 12) (.assign (.tmp 60))]) v15k0t2
def v15k0 : CV := .seq v15k0h0 v15k0t1
def v15l3t1 : CV := .seq (.block 3 v15k0)
  (.reg [.op (some 51) (.move (.tmp 11)),
    .op (some 52) (.binOp .add 3 (.tmp 51) (.const (.int .i64 1)) 3),
    .op (some 11) (.assign (.tmp 52))])
def v15l3 : CV := .seq v15l3h0 v15l3t1
def v15h8 : CV := .seq (.reg [.op (some 11) (.assign (.const (.int .i64 0)))])
  (.block 2 (.loop v15l3))
def v15t9 : CV := .seq (.reg [.op (some 94) (.move (.tmp 10)),
    .op (some 6) (.assign (.tmp 94)),
    .op (some 7) (.assign (.const (.int .i64 0)))])
  (.ret)
def v15t8 : CV := .seq v15h8 v15t9
def v15t7 : CV := .seq (.reg [.op (some 10) (.assign (.const (.slice none 0 0)))]) v15t8
def v15t6 : CV := .seq (.reg [.op (some 44) (.move (.tmp 8)),
    .op (some 45) (.binOp .add 3 (.tmp 44) (.const (.int .i64 1)) 3),
    .op (some 46) (.call ⟨.value (.func 39), #[(.tmp 45)], #[2]⟩),
    .op (some 47) (.call ⟨.builtin .len, #[(.tmp 46)], #[9]⟩),
    .op (some 9) (.assign (.tmp 47))]) v15t7
def v15t5 : CV := .seq (.block 0 (.loop v15l2)) v15t6
def v15t4 : CV := .seq (.reg [.op (some 29) (.move (.tmp 1)),
    .op (some 8) (.assign (.tmp 29))]) v15t5
def v15t3 : CV := .seq v15h3 v15t4
def v15t2 : CV := .seq v15h2 v15t3
def v15t1 : CV := .seq v15h1 v15t2
def v15 : CV := .seq (.reg [.op (some 6) (.assign (.const (.slice none 0 0))),
    .op (some 7) (.assign (.const (.int .i64 0)))]) v15t1
noncomputable def b15 : Code := Tryz.f15.body.getD .skip
theorem b15_eq : Tryz.f15.body = some b15 := by kernel_rfl
theorem v15_eq : viewC Tryz.prog b15 = some v15 := by kernel_rfl
theorem r15_eq : Tryz.f15.results.toList = [.tmp 6, .tmp 7] := by kernel_rfl

theorem textZ_nat (k : Nat) : textZ (k : Int) = textN k := by rw [textZ, if_neg (by omega), Int.natAbs_natCast]
theorem textN_4 {t : Nat} (h : t < 10000) : (textN t).length ≤ 4 := textN_len 4 t (by omega) (by omega)
section
variable {tb : List FuncId} {gl : List (List AV)} {H : Heap} {v w : AV} {Q : AV → Heap → Prop}
theorem rep0 : callFO Tryz.prog tb gl 12 68 [S [32], .int .i64 0] H = .ret (S []) H := by kernel_rfl
theorem rep1 : callFO Tryz.prog tb gl 12 68 [S [32], .int .i64 1] H = .ret (S [32]) H := by kernel_rfl
theorem rep2 : callFO Tryz.prog tb gl 12 68 [S [32], .int .i64 2] H = .ret (S [32, 32]) H := by kernel_rfl
theorem rep3 : callFO Tryz.prog tb gl 12 68 [S [32], .int .i64 3] H = .ret (S [32, 32, 32]) H := by kernel_rfl
theorem Rep_ok {c : Nat} (hc : c ≤ 3) (hQ : Q (S (List.replicate c 32)) H) : WpF Tryz.prog tb gl 68 [S [32], .int .i64 (c : Int)] H Q := by
  match c, hc, hQ with
  | 0, _, hQ => exact ⟨12, _, _, rep0, hQ⟩
  | 1, _, hQ => exact ⟨12, _, _, rep1, hQ⟩
  | 2, _, hQ => exact ⟨12, _, _, rep2, hQ⟩
  | 3, _, hQ => exact ⟨12, _, _, rep3, hQ⟩
  | _ + 4, h, _ => omega
set_option maxHeartbeats 0 in
theorem wide_ok {n most : Nat} (hn : n < 10000) (hm : most ≤ 4) (hQ : ∀ H', Keep Non H H' → Q (S (List.replicate (most - (textN n).length) 32 ++ textN n)) H') : WpF Tryz.prog tb gl 38 [.int .i64 (n : Int), .int .i64 (most : Int)] H Q := by
  have hp := textN_pos n
  have h4 := textN_4 hn
  refine fa Tryz.func38 b38_eq v38_eq r38_eq (.inr (by simp)) ?_
  refine va_seqr ?_
  (repeat (first | refine ia_op (oa_move rfl ?_) | refine ia_op (oa_assign rfl ?_) | refine ia_op (oa_lss rfl rfl ?_) | refine ia_op (oa_gtr rfl rfl ?_) | refine ia_op (oa_leq rfl rfl ?_) | refine ia_op (oa_geq rfl rfl ?_) | refine ia_op (oa_eql rfl rfl ?_) | refine ia_op (oa_neq rfl rfl ?_) | refine ia_op (oa_addW rfl rfl (wrap_i64 (by omega) (by omega)) ?_) | refine ia_op (oa_addW rfl rfl (wrap_u64 (by omega) (by omega)) ?_) | refine ia_op (oa_addW rfl rfl (wrap_u8 (by omega) (by omega)) ?_) | refine ia_op (oa_subW rfl rfl (wrap_i64 (by omega) (by omega)) ?_) | refine ia_op (oa_subW rfl rfl (wrap_u64 (by omega) (by omega)) ?_) | refine ia_op (oa_subW rfl rfl (wrap_u8 (by omega) (by omega)) ?_) | refine ia_op (oa_not rfl ?_) | refine ia_op (oa_extract rfl rfl ?_) | refine ia_op (oa_convW (by first | with_reducible exact un_2 | with_reducible exact un_182 | with_reducible exact un_3 | with_reducible exact un_5 | with_reducible exact un_181 | with_reducible exact un_183 | with_reducible exact un_9 | with_reducible exact un_41 | with_reducible exact un_39 | with_reducible exact un_27) (by first | with_reducible exact un_2 | with_reducible exact un_182 | with_reducible exact un_3 | with_reducible exact un_5 | with_reducible exact un_181 | with_reducible exact un_183 | with_reducible exact un_9 | with_reducible exact un_41 | with_reducible exact un_39 | with_reducible exact un_27) rfl (wrap_i64 (by omega) (by omega)) ?_) | refine ia_op (oa_convW (by first | with_reducible exact un_2 | with_reducible exact un_182 | with_reducible exact un_3 | with_reducible exact un_5 | with_reducible exact un_181 | with_reducible exact un_183 | with_reducible exact un_9 | with_reducible exact un_41 | with_reducible exact un_39 | with_reducible exact un_27) (by first | with_reducible exact un_2 | with_reducible exact un_182 | with_reducible exact un_3 | with_reducible exact un_5 | with_reducible exact un_181 | with_reducible exact un_183 | with_reducible exact un_9 | with_reducible exact un_41 | with_reducible exact un_39 | with_reducible exact un_27) rfl (wrap_u64 (by omega) (by omega)) ?_) | refine ia_op (oa_convW (by first | with_reducible exact un_2 | with_reducible exact un_182 | with_reducible exact un_3 | with_reducible exact un_5 | with_reducible exact un_181 | with_reducible exact un_183 | with_reducible exact un_9 | with_reducible exact un_41 | with_reducible exact un_39 | with_reducible exact un_27) (by first | with_reducible exact un_2 | with_reducible exact un_182 | with_reducible exact un_3 | with_reducible exact un_5 | with_reducible exact un_181 | with_reducible exact un_183 | with_reducible exact un_9 | with_reducible exact un_41 | with_reducible exact un_39 | with_reducible exact un_27) rfl (wrap_u8 (by omega) (by omega)) ?_)))
  refine ia_nil (va_seqr ?_)
  refine ia_op (oa_move rfl ?_)
  refine ia_op (oa_call rfl rfl rfl (Text_ok (n : Int) (by omega) (by omega) H fun H1 hk1 => ?_))
  rw [textZ_nat]
  refine ia_op (oa_assign rfl (ia_nil (va_seqr ?_)))
  refine ia_op (oa_move rfl (ia_op (oa_move rfl ?_)))
  refine ia_op (oa_lenS rfl rfl rfl (by first | with_reducible exact un_2 | with_reducible exact un_182 | with_reducible exact un_3 | with_reducible exact un_5 | with_reducible exact un_181 | with_reducible exact un_183 | with_reducible exact un_9 | with_reducible exact un_41 | with_reducible exact un_39 | with_reducible exact un_27) rfl ?_)
  refine ia_op (oa_subW (c := (most : Int) - ((textN n).length : Int)) rfl rfl (wrapE_i64 rfl (by omega) (by omega)) ?_)
  refine ia_op (oa_max2 (m := ((most - (textN n).length : Nat) : Int)) rfl rfl rfl rfl (by omega) ?_)
  refine ia_op (oa_call rfl rfl rfl (Rep_ok (by omega) ?_))
  refine ia_op (oa_move rfl ?_)
  refine ia_op (oa_sadd rfl rfl (by rw [List.length_replicate]; have : pow63 = 9223372036854775808 := rfl; omega) ?_)
  refine ia_op (oa_assign rfl (ia_nil (va_ret ⟨_, rfl, hQ H1 hk1⟩)))
theorem joinW_line {most : Nat} {a : Int} {i : Nat} {r : Rw} {sg : UInt8} (h : sg = if (i : Int) = a then 62 else 32) : joinW [[sg], List.replicate (most - (textN (i + 1)).length) 32 ++ textN (i + 1), r.text] = lineR most a i r := by
  subst h
  simp [joinW, lineR]
theorem linesR_flat {rs : List Rw} {a : Int} {most f t : Nat} : (linesR rs a most f t).length = t - f := linesR_len
set_option maxHeartbeats 0 in
theorem vShow_ok {rs : List Rw} (hs : sumR rs ≤ 6000) (hv : IsSl H v 3 rs.length (rs.flatMap rwC)) {a n : Int} (ha : -9223372036854775808 ≤ a ∧ a < 9223372036854775808) (hn : -9223372036854775808 ≤ n ∧ n < 9223372036854775808)
    (hQ : ∀ u H', Keep Non H H' → IsSl H' u 1 (showR rs a n).1.length ((showR rs a n).1.flatMap txC) → Q (.tup [u, .int .i64 (showR rs a n).2]) H') : WpF Tryz.prog tb gl 13 [v, .int .i64 a, .int .i64 n] H Q := by
  have hlim : limit = 1000000 := rfl
  have hlen := len_le_sumR rs
  refine fa Tryz.func13 b13_eq v13_eq r13_eq (.inr (by simp)) ?_
  refine va_seqr ?_
  (repeat (first | refine ia_op (oa_move rfl ?_) | refine ia_op (oa_assign rfl ?_) | refine ia_op (oa_lss rfl rfl ?_) | refine ia_op (oa_gtr rfl rfl ?_) | refine ia_op (oa_leq rfl rfl ?_) | refine ia_op (oa_geq rfl rfl ?_) | refine ia_op (oa_eql rfl rfl ?_) | refine ia_op (oa_neq rfl rfl ?_) | refine ia_op (oa_addW rfl rfl (wrap_i64 (by omega) (by omega)) ?_) | refine ia_op (oa_addW rfl rfl (wrap_u64 (by omega) (by omega)) ?_) | refine ia_op (oa_addW rfl rfl (wrap_u8 (by omega) (by omega)) ?_) | refine ia_op (oa_subW rfl rfl (wrap_i64 (by omega) (by omega)) ?_) | refine ia_op (oa_subW rfl rfl (wrap_u64 (by omega) (by omega)) ?_) | refine ia_op (oa_subW rfl rfl (wrap_u8 (by omega) (by omega)) ?_) | refine ia_op (oa_not rfl ?_) | refine ia_op (oa_extract rfl rfl ?_) | refine ia_op (oa_convW (by first | with_reducible exact un_2 | with_reducible exact un_182 | with_reducible exact un_3 | with_reducible exact un_5 | with_reducible exact un_181 | with_reducible exact un_183 | with_reducible exact un_9 | with_reducible exact un_41 | with_reducible exact un_39 | with_reducible exact un_27) (by first | with_reducible exact un_2 | with_reducible exact un_182 | with_reducible exact un_3 | with_reducible exact un_5 | with_reducible exact un_181 | with_reducible exact un_183 | with_reducible exact un_9 | with_reducible exact un_41 | with_reducible exact un_39 | with_reducible exact un_27) rfl (wrap_i64 (by omega) (by omega)) ?_) | refine ia_op (oa_convW (by first | with_reducible exact un_2 | with_reducible exact un_182 | with_reducible exact un_3 | with_reducible exact un_5 | with_reducible exact un_181 | with_reducible exact un_183 | with_reducible exact un_9 | with_reducible exact un_41 | with_reducible exact un_39 | with_reducible exact un_27) (by first | with_reducible exact un_2 | with_reducible exact un_182 | with_reducible exact un_3 | with_reducible exact un_5 | with_reducible exact un_181 | with_reducible exact un_183 | with_reducible exact un_9 | with_reducible exact un_41 | with_reducible exact un_39 | with_reducible exact un_27) rfl (wrap_u64 (by omega) (by omega)) ?_) | refine ia_op (oa_convW (by first | with_reducible exact un_2 | with_reducible exact un_182 | with_reducible exact un_3 | with_reducible exact un_5 | with_reducible exact un_181 | with_reducible exact un_183 | with_reducible exact un_9 | with_reducible exact un_41 | with_reducible exact un_39 | with_reducible exact un_27) (by first | with_reducible exact un_2 | with_reducible exact un_182 | with_reducible exact un_3 | with_reducible exact un_5 | with_reducible exact un_181 | with_reducible exact un_183 | with_reducible exact un_9 | with_reducible exact un_41 | with_reducible exact un_39 | with_reducible exact un_27) rfl (wrap_u8 (by omega) (by omega)) ?_)))
  refine ia_nil (va_seq (va_seqr ?_))
  refine ia_op (oa_move rfl ?_)
  have bad1 : a < 0 ∨ (rs.length : Int) ≤ a → ∀ l2 : Fm, VA Tryz.prog tb gl v13c0 l2 H (seqA Tryz.prog tb gl v13t2 (leftA [.tmp 6, .tmp 7] Q)) := by
    intro h l2
    refine va_seqr ?_
    refine ia_op (oa_assign rfl (ia_op (oa_assign rfl (ia_nil (va_ret ⟨_, rfl, ?_⟩)))))
    have := hQ .nils H (.refl _ _)
    rw [showR, if_pos h] at this
    exact this (IsSl.nil H 1)
  by_cases ha0 : a < 0
  · refine ia_op (oa_lssW rfl rfl (decide_eq_true ha0) ?_)
    refine ia_op (oa_move rfl ?_)
    iterate 4 refine ia_gdN rfl ?_
    refine ia_op (oa_pickT rfl rfl rfl (ia_nil (va_condT rfl (bad1 (.inl ha0) _))))
  refine ia_op (oa_lssW rfl rfl (decide_eq_false ha0) ?_)
  refine ia_op (oa_move rfl ?_)
  refine ia_gdY rfl (oa_move rfl (ia_gdY rfl (oa_move rfl ?_)))
  refine ia_gdY rfl (oa_lenSl rfl rfl rfl (by first | with_reducible exact un_2 | with_reducible exact un_182 | with_reducible exact un_3 | with_reducible exact un_5 | with_reducible exact un_181 | with_reducible exact un_183 | with_reducible exact un_9 | with_reducible exact un_41 | with_reducible exact un_39 | with_reducible exact un_27) rfl hv ?_)
  by_cases hal : (rs.length : Int) ≤ a
  · refine ia_gdY rfl (oa_geqW rfl rfl (decide_eq_true hal) ?_)
    refine ia_op (oa_pickF rfl rfl (ia_nil (va_condT rfl (bad1 (.inr hal) _))))
  refine ia_gdY rfl (oa_geqW rfl rfl (decide_eq_false hal) ?_)
  refine ia_op (oa_pickF rfl rfl (ia_nil (va_condF rfl (va_skip (va_seq (va_seqr ?_))))))
  refine ia_op (oa_move rfl ?_)
  by_cases hn0 : n < 0
  · refine ia_op (oa_lssW rfl rfl (decide_eq_true hn0) (ia_nil (va_condT rfl (va_seqr ?_))))
    refine ia_op (oa_assign rfl (ia_op (oa_assign rfl (ia_nil (va_ret ⟨_, rfl, ?_⟩)))))
    have := hQ .nils H (.refl _ _)
    rw [showR, if_neg (by omega), if_pos hn0] at this
    exact this (IsSl.nil H 1)
  refine ia_op (oa_lssW rfl rfl (decide_eq_false hn0) (ia_nil (va_condF rfl (va_skip (va_seqr ?_)))))
  rw [showR, if_neg (by omega), if_neg hn0] at hQ
  refine ia_op (oa_move rfl ?_)
  refine ia_op (oa_lenSl rfl rfl rfl (by first | with_reducible exact un_2 | with_reducible exact un_182 | with_reducible exact un_3 | with_reducible exact un_5 | with_reducible exact un_181 | with_reducible exact un_183 | with_reducible exact un_9 | with_reducible exact un_41 | with_reducible exact un_39 | with_reducible exact un_27) rfl hv ?_)
  (repeat (first | refine ia_op (oa_move rfl ?_) | refine ia_op (oa_assign rfl ?_) | refine ia_op (oa_lss rfl rfl ?_) | refine ia_op (oa_gtr rfl rfl ?_) | refine ia_op (oa_leq rfl rfl ?_) | refine ia_op (oa_geq rfl rfl ?_) | refine ia_op (oa_eql rfl rfl ?_) | refine ia_op (oa_neq rfl rfl ?_) | refine ia_op (oa_addW rfl rfl (wrap_i64 (by omega) (by omega)) ?_) | refine ia_op (oa_addW rfl rfl (wrap_u64 (by omega) (by omega)) ?_) | refine ia_op (oa_addW rfl rfl (wrap_u8 (by omega) (by omega)) ?_) | refine ia_op (oa_subW rfl rfl (wrap_i64 (by omega) (by omega)) ?_) | refine ia_op (oa_subW rfl rfl (wrap_u64 (by omega) (by omega)) ?_) | refine ia_op (oa_subW rfl rfl (wrap_u8 (by omega) (by omega)) ?_) | refine ia_op (oa_not rfl ?_) | refine ia_op (oa_extract rfl rfl ?_) | refine ia_op (oa_convW (by first | with_reducible exact un_2 | with_reducible exact un_182 | with_reducible exact un_3 | with_reducible exact un_5 | with_reducible exact un_181 | with_reducible exact un_183 | with_reducible exact un_9 | with_reducible exact un_41 | with_reducible exact un_39 | with_reducible exact un_27) (by first | with_reducible exact un_2 | with_reducible exact un_182 | with_reducible exact un_3 | with_reducible exact un_5 | with_reducible exact un_181 | with_reducible exact un_183 | with_reducible exact un_9 | with_reducible exact un_41 | with_reducible exact un_39 | with_reducible exact un_27) rfl (wrap_i64 (by omega) (by omega)) ?_) | refine ia_op (oa_convW (by first | with_reducible exact un_2 | with_reducible exact un_182 | with_reducible exact un_3 | with_reducible exact un_5 | with_reducible exact un_181 | with_reducible exact un_183 | with_reducible exact un_9 | with_reducible exact un_41 | with_reducible exact un_39 | with_reducible exact un_27) (by first | with_reducible exact un_2 | with_reducible exact un_182 | with_reducible exact un_3 | with_reducible exact un_5 | with_reducible exact un_181 | with_reducible exact un_183 | with_reducible exact un_9 | with_reducible exact un_41 | with_reducible exact un_39 | with_reducible exact un_27) rfl (wrap_u64 (by omega) (by omega)) ?_) | refine ia_op (oa_convW (by first | with_reducible exact un_2 | with_reducible exact un_182 | with_reducible exact un_3 | with_reducible exact un_5 | with_reducible exact un_181 | with_reducible exact un_183 | with_reducible exact un_9 | with_reducible exact un_41 | with_reducible exact un_39 | with_reducible exact un_27) (by first | with_reducible exact un_2 | with_reducible exact un_182 | with_reducible exact un_3 | with_reducible exact un_5 | with_reducible exact un_181 | with_reducible exact un_183 | with_reducible exact un_9 | with_reducible exact un_41 | with_reducible exact un_39 | with_reducible exact un_27) rfl (wrap_u8 (by omega) (by omega)) ?_)))
  obtain ⟨f, hf⟩ : ∃ f, f = fromR a n := ⟨_, rfl⟩
  obtain ⟨t, ht⟩ : ∃ t, t = toR rs.length a n := ⟨_, rfl⟩
  rw [← hf, ← ht] at hQ
  have hf1 : (f : Int) = if n < a then a - n else 0 := by
    rw [hf, fromR]
    split <;> omega
  have ht1 : (t : Int) = if n < (rs.length : Int) - 1 - a then a + n + 1 else rs.length := by
    rw [ht, toR]
    split <;> omega
  have hfa : (f : Int) ≤ a := by split at hf1 <;> omega
  have hat : a < (t : Int) := by split at ht1 <;> omega
  have htl : t ≤ rs.length := by split at ht1 <;> omega
  -- behind the two bounds
  have main : ∀ l2 : Fm, Sb [(0, v), (1, .int .i64 a), (8, .int .i64 (f : Int)), (9, .int .i64 (t : Int))] l2 → VA Tryz.prog tb gl v13t6 l2 H (leftA [.tmp 6, .tmp 7] Q) := by
    intro l2 h2
    refine VA.sub h2 (va_seqr ?_)
    refine ia_op (oa_move rfl ?_)
    refine ia_op (oa_call rfl rfl rfl (Text_ok (t : Int) (by omega) (by omega) H fun H1 hk1 => ?_))
    rw [textZ_nat]
    refine ia_op (oa_lenS rfl rfl rfl (by first | with_reducible exact un_2 | with_reducible exact un_182 | with_reducible exact un_3 | with_reducible exact un_5 | with_reducible exact un_181 | with_reducible exact un_183 | with_reducible exact un_9 | with_reducible exact un_41 | with_reducible exact un_39 | with_reducible exact un_27) rfl ?_)
    refine ia_op (oa_assign rfl (ia_nil (va_seqr ?_)))
    refine ia_op (oa_assign rfl (ia_nil (va_seq (va_seqr ?_))))
    refine ia_op (oa_move rfl ?_)
    refine ia_op (oa_assign rfl (ia_nil (va_block ?_)))
    have hm4 : mostR t ≤ 4 := textN_4 (by omega)
    refine va_loop (fun (b : Nat × AV) => [(0, v), (1, .int .i64 a), (9, .int .i64 (t : Int)), (10, .int .i64 (mostR t : Int)), (11, b.2), (12, .int .i64 (b.1 : Int))])
      (fun b H' => Keep Non H H' ∧ f ≤ b.1 ∧ b.1 ≤ t ∧ Own H' b.2 1 (linesR rs a (mostR t) f b.1).length ((linesR rs a (mostR t) f b.1).flatMap txC) ∧ ∀ c, ownB b.2 c → H.nx ≤ c) (fun b => t - b.1) ?_ (f, .nils) _ H1 ⟨rfl, rfl, rfl, rfl, rfl, rfl, trivial⟩
      ⟨hk1, Nat.le_refl _, by omega, by rw [linesR_nil (Nat.le_refl f)]; exact .nil _ _, fun _ h => h.elim⟩
    rintro ⟨i, u⟩ H2 ⟨hk, hfi, hit, ho, hno⟩
    simp only at hfi hit ho hno
    refine va_seq (va_seqr ?_)
    refine ia_op (oa_move rfl (ia_op (oa_move rfl ?_)))
    by_cases hi : i = t
    · refine ia_op (oa_lssW rfl rfl (decide_eq_false (by simp only; omega)) (ia_nil (va_condF rfl (va_exit (va_seqr ?_)))))
      subst hi
      refine ia_op (oa_move rfl (ia_op (oa_assign rfl (ia_op (oa_assign rfl (ia_nil (va_ret ⟨_, rfl, ?_⟩)))))))
      exact hQ _ _ hk ho.sl
    refine ia_op (oa_lssW rfl rfl (decide_eq_true (by simp only; omega)) (ia_nil (va_condT rfl (va_skip ?_))))
    obtain ⟨r, hr⟩ : ∃ r, rs[i]? = some r := ⟨_, List.getElem?_eq_getElem (by omega)⟩
    have hchunk := flat_chunk rwC_len rs i r hr
    have htx := text_le_sumR rs r (List.mem_of_getElem? hr)
    have hcnt : (linesR rs a (mostR t) f i).length = i - f := linesR_len
    have h4 := textN_4 (t := i + 1) (by omega)
    have hp4 := textN_pos (i + 1)
    -- behind the sign
    have put : ∀ (l3 : Fm) (sg : UInt8), sg = (if (i : Int) = a then 62 else 32) → Sb [(0, v), (1, .int .i64 a), (9, .int .i64 (t : Int)), (10, .int .i64 (mostR t : Int)), (11, u), (12, .int .i64 (i : Int)), (13, S [sg])] l3 →
        VA Tryz.prog tb gl (.reg [.op (some 55) (.move (.tmp 11)), .op (some 56) (.move (.tmp 13)), .op (some 57) (.move (.tmp 12)), .op (some 58) (.binOp .add 3 (.tmp 57) (.const (.int .i64 1)) 3), .op (some 59) (.move (.tmp 10)),
          .op (some 61) (.move (.tmp 0)), .op (some 62) (.move (.tmp 12)), .op (some 63) (.indexAddr 27 (.tmp 61) (.tmp 62)), .op (some 64) (.fieldAddr 32 (.tmp 63) 0), .op (some 65) (.load 9 (.tmp 64)),
          .op (some 60) (.call ⟨.value (.func 38), #[(.tmp 58), (.tmp 59)], #[3, 3]⟩), .ck 65 (.load 9 (.tmp 64)), .op (some 66) (.buildSlice 41 3 #[(0, (.tmp 56)), (1, (.tmp 60)), (2, (.tmp 65))]),
          .op (some 67) (.call ⟨.value (.func 37), #[(.tmp 66)], #[41]⟩), .op (some 68) (.buildSlice 41 1 #[(0, (.tmp 67))]), .op (some 69) (.call ⟨.builtin .append, #[(.tmp 55), (.tmp 68)], #[41, 41]⟩),
          .op (some 11) (.assign (.tmp 69))]) l3 H2 (exitA 1 (seqA Tryz.prog tb gl (.reg [.op (some 50) (.move (.tmp 12)), .op (some 51) (.binOp .add 3 (.tmp 50) (.const (.int .i64 1)) 3), .op (some 12) (.assign (.tmp 51))])
        (roundA (fun (b : Nat × AV) => [(0, v), (1, .int .i64 a), (9, .int .i64 (t : Int)), (10, .int .i64 (mostR t : Int)), (11, b.2), (12, .int .i64 (b.1 : Int))])
      (fun b H' => Keep Non H H' ∧ f ≤ b.1 ∧ b.1 ≤ t ∧ Own H' b.2 1 (linesR rs a (mostR t) f b.1).length ((linesR rs a (mostR t) f b.1).flatMap txC) ∧ ∀ c, ownB b.2 c → H.nx ≤ c) (fun b => t - b.1) (i, u) (exitA 0 (seqA Tryz.prog tb gl v13t9 (leftA [.tmp 6, .tmp 7] Q)))))) := by
      intro l3 sg hsg h3
      refine VA.sub h3 (va_reg ?_)
      refine ia_op (oa_move rfl (ia_op (oa_move rfl (ia_op (oa_move rfl ?_)))))
      refine ia_op (oa_addW (c := ((i + 1 : Nat) : Int)) rfl rfl (wrapE_i64 (by omega) (by omega) (by omega)) ?_)
      refine ia_op (oa_move rfl (ia_op (oa_move rfl (ia_op (oa_move rfl ?_)))))
      refine ia_op (oa_indexSl (by first | with_reducible exact un_2 | with_reducible exact un_182 | with_reducible exact un_3 | with_reducible exact un_5 | with_reducible exact un_181 | with_reducible exact un_183 | with_reducible exact un_9 | with_reducible exact un_41 | with_reducible exact un_39 | with_reducible exact un_27) (by first | with_reducible exact sz_5 | with_reducible exact sz_9 | with_reducible exact sz_40 | with_reducible exact sz_32) rfl (hv.keep0 hk) rfl rfl (by omega) fun p hp => ?_)
      rw [hchunk] at hp
      refine ia_op (oa_pfieldAddr (by first | with_reducible exact fp_40_0 | with_reducible exact fp_40_1 | with_reducible exact fp_40_2 | with_reducible exact fp_32_1 | with_reducible exact fp_32_2 | with_reducible exact fp_32_0) (by decide) rfl hp fun p' hp' => ?_)
      refine ia_op (oa_pload (by first | with_reducible exact pl_9 | with_reducible exact pl_3 | with_reducible exact pl_32) rfl hp' rfl ?_)
      refine ia_op (oa_call rfl rfl rfl (wide_ok (by omega) hm4 fun H3 hk3 => ?_))
      refine ia_ckP (by first | with_reducible exact pl_9 | with_reducible exact pl_3 | with_reducible exact pl_32) rfl (hp'.keep hk3 fun _ h => h) rfl rfl ?_
      refine ia_op (oa_newSlice (n := 3) (by first | with_reducible exact el_41 | with_reducible exact el_183 | with_reducible exact el_39 | with_reducible exact el_27) (by decide) rfl rfl fun H4 hk4 hr4 => ?_)
      refine ia_op (oa_call rfl rfl rfl (Join_ok (ws := [[sg], List.replicate (mostR t - (textN (i + 1)).length) 32 ++ textN (i + 1), r.text]) (IsRow.sl (es := 1) (n := 3) hr4 rfl (Nat.le_refl 3)) (by
        simp only [List.flatMap_cons, List.flatMap_nil, List.length_append, List.length_cons, List.length_nil, List.length_replicate]; omega) (by simp only [List.length_cons, List.length_nil]; omega) fun H5 hk5 => ?_))
      rw [joinW_line hsg]
      refine ia_op (oa_newSlice (n := 1) (by first | with_reducible exact el_41 | with_reducible exact el_183 | with_reducible exact el_39 | with_reducible exact el_27) (by decide) rfl rfl fun H6 hk6 hr6 => ?_)
      have hK6 : Keep Non H2 H6 := ((hk3.trans0 hk4).trans0 hk5).trans0 hk6
      refine ia_op (oa_append rfl rfl rfl (by first | with_reducible exact el_41 | with_reducible exact el_183 | with_reducible exact el_39 | with_reducible exact el_27) (.inl (by first | with_reducible exact un_2 | with_reducible exact un_182 | with_reducible exact un_3 | with_reducible exact un_5 | with_reducible exact un_181 | with_reducible exact un_183 | with_reducible exact un_9 | with_reducible exact un_41 | with_reducible exact un_39 | with_reducible exact un_27)) rfl (ho.keep0 hK6) rfl (IsRow.sl (es := 1) (n := 1) hr6 rfl (Nat.le_refl 1)).elems rfl rfl (by omega) fun u' H7 ho7 hk7 hb7 => ?_)
      refine ia_op (oa_assign rfl (ia_nil (va_reg ?_)))
      refine ia_op (oa_move rfl ?_)
      refine ia_op (oa_addW (c := ((i + 1 : Nat) : Int)) rfl rfl (wrapE_i64 (by omega) (by omega) (by omega)) ?_)
      refine ia_op (oa_assign rfl (ia_nil ⟨(i + 1, u'), ?_, ⟨rfl, rfl, rfl, rfl, rfl, rfl, trivial⟩, (hk.trans0 hK6).trans hk7 fun c hc => .inr (hno c hc), by simp only; omega, by simp only; omega, ?_, fun c hc => (hb7 c hc).elim (hno c) fun h => Nat.le_trans (hk.trans0 hK6).nx h⟩))
      · show t - (i + 1) < t - i
        omega
      · simp only
        rw [linesR_snoc hfi hr, List.length_append, List.flatMap_append]
        exact ho7
    refine va_seq (va_block (va_seqr ?_))
    refine ia_op (oa_assign rfl (ia_nil (va_seq (va_seqr ?_))))
    refine ia_op (oa_move rfl (ia_op (oa_move rfl ?_)))
    by_cases hia : (i : Int) = a
    · refine ia_op (oa_eqlW rfl rfl (decide_eq_true hia) (ia_nil (va_condT rfl (va_reg ?_))))
      refine ia_op (oa_assign rfl (ia_nil (put _ 62 (by rw [if_pos hia]) ⟨rfl, rfl, rfl, rfl, rfl, rfl, rfl, trivial⟩)))
    · refine ia_op (oa_eqlW rfl rfl (decide_eq_false hia) (ia_nil (va_condF rfl (va_skip ?_))))
      exact put _ 32 (by rw [if_neg hia]) ⟨rfl, rfl, rfl, rfl, rfl, rfl, rfl, trivial⟩
  -- the last row
  have last : ∀ l2 : Fm, Sb [(0, v), (1, .int .i64 a), (2, .int .i64 n), (8, .int .i64 (f : Int)), (9, .int .i64 (rs.length : Int))] l2 → VA Tryz.prog tb gl v13t5 l2 H (leftA [.tmp 6, .tmp 7] Q) := by
    intro l2 h2
    refine VA.sub h2 (va_seq (va_seqr ?_))
    refine ia_op (oa_move rfl (ia_op (oa_move rfl ?_)))
    refine ia_op (oa_lenSl rfl rfl rfl (by first | with_reducible exact un_2 | with_reducible exact un_182 | with_reducible exact un_3 | with_reducible exact un_5 | with_reducible exact un_181 | with_reducible exact un_183 | with_reducible exact un_9 | with_reducible exact un_41 | with_reducible exact un_39 | with_reducible exact un_27) rfl hv ?_)
    refine ia_op (oa_subW (c := (rs.length : Int) - 1) rfl rfl (wrapE_i64 rfl (by omega) (by omega)) ?_)
    refine ia_op (oa_move rfl ?_)
    refine ia_op (oa_subW (c := (rs.length : Int) - 1 - a) rfl rfl (wrapE_i64 rfl (by omega) (by omega)) ?_)
    by_cases hc : n < (rs.length : Int) - 1 - a
    · rw [if_pos hc] at ht1
      refine ia_op (oa_lssW rfl rfl (decide_eq_true hc) (ia_nil (va_condT rfl (va_reg ?_))))
      refine ia_op (oa_move rfl (ia_op (oa_move rfl ?_)))
      refine ia_op (oa_addW (c := a + n) rfl rfl (wrapE_i64 rfl (by omega) (by omega)) ?_)
      refine ia_op (oa_addW (c := (t : Int)) rfl rfl (wrapE_i64 (by omega) (by omega) (by omega)) ?_)
      refine ia_op (oa_assign rfl (ia_nil (main _ ⟨rfl, rfl, rfl, rfl, trivial⟩)))
    · rw [if_neg hc] at ht1
      refine ia_op (oa_lssW rfl rfl (decide_eq_false hc) (ia_nil (va_condF rfl (va_skip ?_))))
      exact main _ ⟨rfl, rfl, rfl, by rw [ht1]; rfl, trivial⟩
  refine ia_nil (va_seq (va_seqr ?_))
  refine ia_op (oa_move rfl (ia_op (oa_move rfl ?_)))
  by_cases hc : n < a
  · rw [if_pos hc] at hf1
    refine ia_op (oa_lssW rfl rfl (decide_eq_true hc) (ia_nil (va_condT rfl (va_reg ?_))))
    refine ia_op (oa_move rfl (ia_op (oa_move rfl ?_)))
    refine ia_op (oa_subW (c := (f : Int)) rfl rfl (wrapE_i64 (by omega) (by omega) (by omega)) ?_)
    refine ia_op (oa_assign rfl (ia_nil (last _ ⟨rfl, rfl, rfl, rfl, rfl, trivial⟩)))
  · rw [if_neg hc] at hf1
    refine ia_op (oa_lssW rfl rfl (decide_eq_false hc) (ia_nil (va_condF rfl (va_skip ?_))))
    exact last _ ⟨rfl, rfl, rfl, by rw [hf1]; rfl, rfl, trivial⟩
end
end Go.Proofs.YtalnmaalhocjfaaGreatDoor
