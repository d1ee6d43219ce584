/-
  Rows shown about one, and found by a mark: the small functions walked (own, Same, Find, wide). Conditions: the rows' sizes.
-/
import Derived.Test.YtalnmaalhocjfaaGreatDoorShow
namespace Go.Proofs.YtalnmaalhocjfaaGreatDoor
open Go Go.Proofs.YtalnmaalhocjfaaGreatDoor.Eng
/-! facts about types -/
theorem un_39 : Tryz.prog.underlying 39 = some (.slice 40) := by kernel_rfl
theorem el_39 : elemI Tryz.prog 39 = some ⟨40, 3, .agg [.str 0 0, .int .i64 0, .int .i64 0]⟩ := by kernel_rfl
theorem sz_40 : szOf Tryz.prog 40 = some 3 := by kernel_rfl
theorem fp_40_0 : fieldPlc Tryz.prog 40 0 = some ⟨0, false, 1⟩ := by kernel_rfl
theorem fp_40_1 : fieldPlc Tryz.prog 40 1 = some ⟨1, false, 1⟩ := by kernel_rfl
theorem pl_3 : plcOf Tryz.prog 3 0 = some ⟨0, false, 1⟩ := by kernel_rfl
theorem fp_40_2 : fieldPlc Tryz.prog 40 2 = some ⟨2, false, 1⟩ := by kernel_rfl
theorem ze_32 : zeroOf Tryz.prog 32 = some (.agg [.str 0 0, .int .i64 0, .int .i64 0]) := by kernel_rfl
theorem bs_32 : structOK Tryz.prog 32 = true := by kernel_rfl
theorem ps_32 : plcsOK Tryz.prog 32 0 [(0, 1), (1, 1), (2, 1)] = true := by kernel_rfl
theorem el_27 : elemI Tryz.prog 27 = some ⟨32, 3, .agg [.str 0 0, .int .i64 0, .int .i64 0]⟩ := by kernel_rfl
theorem un_27 : Tryz.prog.underlying 27 = some (.slice 32) := by kernel_rfl
theorem sz_32 : szOf Tryz.prog 32 = some 3 := by kernel_rfl
theorem pl_32 : plcOf Tryz.prog 32 0 = some ⟨0, true, 3⟩ := by kernel_rfl
theorem fp_32_1 : fieldPlc Tryz.prog 32 1 = some ⟨1, false, 1⟩ := by kernel_rfl
theorem fp_32_2 : fieldPlc Tryz.prog 32 2 = some ⟨2, false, 1⟩ := by kernel_rfl
/-! f14: parallax/parallaxlaw17.own, parameters #[39] -/
def v14l0h0 : CV := .seq (.reg [.op (some 5) (.move (.tmp 4)),
    .op (some 6) (.move (.tmp 0)),
    .op (some 7) (.call ⟨.builtin .len, #[(.tmp 6)], #[39]⟩),
    .op (some 8) (.binOp .lss 3 (.tmp 5) (.tmp 7) 3)])
  (.cond (.tmp 8) (.skip) (.exit 0))
def v14l0t1 : CV := .seq (.block 1 (.reg [.op (some 11) (.move (.tmp 3)),
    .op (some 12) (.move (.tmp 0)),
    .op (some 13) (.move (.tmp 4)),
    .op (some 14) (.indexAddr 39 (.tmp 12) (.tmp 13)),
    .op (some 15) (.fieldAddr 40 (.tmp 14) 0),
    .op (some 16) (.load 9 (.tmp 15)),
    .op (some 17) (.move (.tmp 0)),
    .op (some 18) (.move (.tmp 4)),
    .op (some 19) (.indexAddr 39 (.tmp 17) (.tmp 18)),
    .op (some 20) (.fieldAddr 40 (.tmp 19) 1),
    .op (some 21) (.load 3 (.tmp 20)),
    .op (some 22) (.move (.tmp 0)),
    .op (some 23) (.move (.tmp 4)),
    .op (some 24) (.indexAddr 39 (.tmp 22) (.tmp 23)),
    .op (some 25) (.fieldAddr 40 (.tmp 24) 2),
    .op (some 26) (.load 3 (.tmp 25)),
    .op (some 27) (.build 32 #[(0, (.tmp 16)), (1, (.tmp 21)), (2, (.tmp 26))]),
    .op (some 28) (.buildSlice 27 1 #[(0, (.tmp 27))]),
    .op (some 29) (.call ⟨.builtin .append, #[(.tmp 11), (.tmp 28)], #[27, 27]⟩),
    .op (some 3) (.assign (.tmp 29))]))
  (.reg [.op (some 9) (.move (.tmp 4)),
    .op (some 10) (.binOp .add 3 (.tmp 9) (.const (.int .i64 1)) 3),
    .op (some 4) (.assign (.tmp 10))])
def v14l0 : CV := .seq v14l0h0 v14l0t1
def v14h2 : CV := .seq (.reg [.op (some 4) (.assign (.const (.int .i64 0)))])
  (.block 0 (.loop v14l0))
def v14t3 : CV := .seq (.reg [.op (some 30) (.move (.tmp 3)),
    .op (some 2) (.assign (.tmp 30))])
  (.ret)
def v14t2 : CV := .seq v14h2 v14t3
def v14t1 : CV := .seq (.reg [.op (some 3) (.assign (.const (.slice none 0 0)))]) v14t2
def v14 : CV := .seq (.reg [.op (some 2) (.assign (.const (.slice none 0 0)))]) v14t1
noncomputable def b14 : Code := Tryz.f14.body.getD .skip
theorem b14_eq : Tryz.f14.body = some b14 := by kernel_rfl
theorem v14_eq : viewC Tryz.prog b14 = some v14 := by kernel_rfl
theorem r14_eq : Tryz.f14.results.toList = [.tmp 2] := by kernel_rfl
/-! f16: parallax/parallaxref01.Same, parameters #[41, 41] -/
def v16c0 : CV := .seq (.reg [.op (some 4) (.assign (.const (.bool false)))])
  (.ret)
def v16h1 : CV := .seq (.reg [.op (some 6) (.move (.tmp 0)),
    .op (some 7) (.call ⟨.builtin .len, #[(.tmp 6)], #[41]⟩),
    .op (some 8) (.move (.tmp 1)),
    .op (some 9) (.call ⟨.builtin .len, #[(.tmp 8)], #[41]⟩),
    .op (some 10) (.binOp .neq 3 (.tmp 7) (.tmp 9) 3)])
  (.cond (.tmp 10) v16c0 (.skip))
def v16l1h0 : CV := .seq (.reg [.op (some 11) (.move (.tmp 5)),
    .op (some 12) (.move (.tmp 0)),
    .op (some 13) (.call ⟨.builtin .len, #[(.tmp 12)], #[41]⟩),
    .op (some 14) (.binOp .lss 3 (.tmp 11) (.tmp 13) 3)])
  (.cond (.tmp 14) (.skip) (.exit 0))
def v16c2 : CV := .seq (.reg [.op (some 4) (.assign (.const (.bool false)))])
  (.ret)
def v16k0 : CV := .seq (.reg [.op (some 17) (.move (.tmp 0)),
    .op (some 18) (.move (.tmp 5)),
    .op (some 19) (.indexAddr 41 (.tmp 17) (.tmp 18)),
    .op (some 20) (.load 9 (.tmp 19)),
    .op (some 21) (.move (.tmp 1)),
    .op (some 22) (.move (.tmp 5)),
    .op (some 23) (.indexAddr 41 (.tmp 21) (.tmp 22)),
    .op (some 24) (.load 9 (.tmp 23)),
    .op (some 25) (.binOp .neq 9 (.tmp 20) (.tmp 24) 9)])
  (.cond (.tmp 25) v16c2 (.skip))
def v16l1t1 : CV := .seq (.block 1 v16k0)
  (.reg [.op (some 15) (.move (.tmp 5)),
    .op (some 16) (.binOp .add 3 (.tmp 15) (.const (.int .i64 1)) 3),
    .op (some 5) (.assign (.tmp 16))])
def v16l1 : CV := .seq v16l1h0 v16l1t1
def v16h2 : CV := .seq (.reg [.op (some 5) (.assign (.const (.int .i64 0)))])
  (.block 0 (.loop v16l1))
def v16t3 : CV := .seq (.reg [.op (some 4) (.assign (.const (.bool true)))])
  (.ret)
def v16t2 : CV := .seq v16h2 v16t3
def v16t1 : CV := .seq v16h1 v16t2
def v16 : CV := .seq (.reg [.op (some 4) (.assign (.const (.bool false)))]) v16t1
noncomputable def b16 : Code := Tryz.f16.body.getD .skip
theorem b16_eq : Tryz.f16.body = some b16 := by kernel_rfl
theorem v16_eq : viewC Tryz.prog b16 = some v16 := by kernel_rfl
theorem r16_eq : Tryz.f16.results.toList = [.tmp 4] := by kernel_rfl
/-! f17: parallax/view.Find, parameters #[27, 3, 3] -/
def v17c0 : CV := .seq (.reg [.op (some 6) (.assign (.const (.int .i64 (-1))))])
  (.ret)
def v17h1 : CV := .seq (.reg [.op (some 9) (.move (.tmp 2)),
    .op (some 10) (.binOp .lss 3 (.tmp 9) (.const (.int .i64 0)) 3)])
  (.cond (.tmp 10) v17c0 (.skip))
def v17c2 : CV := .seq (.reg [.op (some 28) (.move (.tmp 7)),
    .op (some 6) (.assign (.tmp 28))])
  (.ret)
def v17k0t1 : CV := .seq (.reg [.op (some 18) (.fieldAddr 32 (.tmp 8) 1),
    .op (some 19) (.load 3 (.tmp 18)),
    .op (some 20) (.move (.tmp 1)),
    .op (some 21) (.binOp .eql 3 (.tmp 19) (.tmp 20) 3),
    .op (some 22) (.move (.tmp 21)),
    .gd 22 true (some 23) (.fieldAddr 32 (.tmp 8) 2),
    .gd 22 true (some 24) (.load 3 (.tmp 23)),
    .gd 22 true (some 25) (.move (.tmp 2)),
    .gd 22 true (some 26) (.binOp .eql 3 (.tmp 24) (.tmp 25) 3),
    .op (some 27) (.pick (.tmp 22) (.tmp 26) (.const (.bool false)))])
  (.cond (.tmp 27) v17c2 (.skip))
def v17k0 : CV := .seq (.reg [.op (some 15) (.move (.tmp 13)),
    .op (some 16) (.indexAddr 27 (.tmp 11) (.tmp 13)),
    .op (some 17) (.load 32 (.tmp 16)),
    .op (some 8) (.alloc 32),
    .op (some 7) (.assign (.tmp 15)),
    .op none (.store 32 (.tmp 8) (.tmp 17))]) v17k0t1
def v17l1t2 : CV := .seq (.block 1 v17k0)
  (.reg [.op (some 29) (.binOp .add 3 (.tmp 13) (.const (.int .i64 1)) 3),
    .op (some 13) (.move (.tmp 29))])
def v17l1t1 : CV := .seq (.cond (.tmp 14) (.skip) (.exit 0)) v17l1t2
def v17l1 : CV := .seq (.reg [.op (some 14) (.binOp .lss 3 (.tmp 13) (.tmp 12) 3)]) v17l1t1
def v17h2 : CV := .seq (.reg [.op (some 11) (.move (.tmp 0)),
    .op (some 12) (.call ⟨.builtin .len, #[(.tmp 11)], #[27]⟩),
    .op (some 13) (.move (.const (.int .i64 0)))])
  (.block 0 (.loop v17l1))
def v17t3 : CV := .seq (.reg [.op (some 6) (.assign (.const (.int .i64 (-1))))])
  (.ret)
def v17t2 : CV := .seq v17h2 v17t3
def v17t1 : CV := .seq v17h1 v17t2
def v17 : CV := .seq (.reg [.op (some 6) (.assign (.const (.int .i64 0)))]) v17t1
noncomputable def b17 : Code := Tryz.f17.body.getD .skip
theorem b17_eq : Tryz.f17.body = some b17 := by kernel_rfl
theorem v17_eq : viewC Tryz.prog b17 = some v17 := by kernel_rfl
theorem r17_eq : Tryz.f17.results.toList = [.tmp 6] := by kernel_rfl
/-! f18: parallax/parallaxref17.Find, parameters #[39, 3, 3] -/
def v18l0h0 : CV := .seq (.reg [.op (some 8) (.move (.tmp 7)),
    .op (some 9) (.move (.tmp 0)),
    .op (some 10) (.call ⟨.builtin .len, #[(.tmp 9)], #[39]⟩),
    .op (some 11) (.binOp .lss 3 (.tmp 8) (.tmp 10) 3)])
  (.cond (.tmp 11) (.skip) (.exit 0))
def v18c1 : CV := .seq (.reg [.op (some 34) (.move (.tmp 7)),
    .op (some 6) (.assign (.tmp 34))])
  (.ret)
def v18k0 : CV := .seq (.reg [.op (some 14) (.move (.tmp 2)),
    .op (some 15) (.binOp .geq 3 (.tmp 14) (.const (.int .i64 0)) 3),
    .op (some 16) (.move (.tmp 15)),
    .gd 16 true (some 17) (.move (.tmp 0)),
    .gd 16 true (some 18) (.move (.tmp 7)),
    .gd 16 true (some 19) (.indexAddr 39 (.tmp 17) (.tmp 18)),
    .gd 16 true (some 20) (.fieldAddr 40 (.tmp 19) 1),
    .gd 16 true (some 21) (.load 3 (.tmp 20)),
    .gd 16 true (some 22) (.move (.tmp 1)),
    .gd 16 true (some 23) (.binOp .eql 3 (.tmp 21) (.tmp 22) 3),
    .op (some 24) (.pick (.tmp 16) (.tmp 23) (.const (.bool false))),
    .op (some 25) (.move (.tmp 24)),
    .gd 25 true (some 26) (.move (.tmp 0)),
    .gd 25 true (some 27) (.move (.tmp 7)),
    .gd 25 true (some 28) (.indexAddr 39 (.tmp 26) (.tmp 27)),
    .gd 25 true (some 29) (.fieldAddr 40 (.tmp 28) 2),
    .gd 25 true (some 30) (.load 3 (.tmp 29)),
    .gd 25 true (some 31) (.move (.tmp 2)),
    .gd 25 true (some 32) (.binOp .eql 3 (.tmp 30) (.tmp 31) 3),
    .op (some 33) (.pick (.tmp 25) (.tmp 32) (.const (.bool false)))])
  (.cond (.tmp 33) v18c1 (.skip))
def v18l0t1 : CV := .seq (.block 1 v18k0)
  (.reg [.op (some 12) (.move (.tmp 7)),
    .op (some 13) (.binOp .add 3 (.tmp 12) (.const (.int .i64 1)) 3),
    .op (some 7) (.assign (.tmp 13))])
def v18l0 : CV := .seq v18l0h0 v18l0t1
def v18h1 : CV := .seq (.reg [.op (some 7) (.assign (.const (.int .i64 0)))])
  (.block 0 (.loop v18l0))
def v18t2 : CV := .seq (.reg [.op (some 6) (.assign (.const (.int .i64 (-1))))])
  (.ret)
def v18t1 : CV := .seq v18h1 v18t2
def v18 : CV := .seq (.reg [.op (some 6) (.assign (.const (.int .i64 0)))]) v18t1
noncomputable def b18 : Code := Tryz.f18.body.getD .skip
theorem b18_eq : Tryz.f18.body = some b18 := by kernel_rfl
theorem v18_eq : viewC Tryz.prog b18 = some v18 := by kernel_rfl
theorem r18_eq : Tryz.f18.results.toList = [.tmp 6] := by kernel_rfl
/-! f38: parallax/view.wide, parameters #[3, 3] -/
def v38t2 : CV := .seq (.reg [.op (some 8) (.move (.tmp 1)),
    .op (some 9) (.move (.tmp 5)),
    .op (some 10) (.call ⟨.builtin .len, #[(.tmp 9)], #[9]⟩),
    .op (some 11) (.binOp .sub 3 (.tmp 8) (.tmp 10) 3),
    .op (some 12) (.call ⟨.builtin .max, #[(.const (.int .i64 0)), (.tmp 11)], #[3, 3]⟩),
    .op (some 13) (.call ⟨.value (.func 68), #[(.const (.string ⟨⟨[32]⟩⟩)), (.tmp 12)], #[9, 3]⟩),
    .op (some 14) (.move (.tmp 5)),
    .op (some 15) (.binOp .add 9 (.tmp 13) (.tmp 14) 9),
    .op (some 4) (.assign (.tmp 15))])
  (.ret)
def v38t1 : CV := .seq (.reg [.op (some 6) (.move (.tmp 0)),
    .op (some 7) (.call ⟨.value (.func 36), #[(.tmp 6)], #[2]⟩),
    .op (some 5) (.assign (.tmp 7))]) v38t2
def v38 : CV := .seq (.reg [.op (some 4) (.assign (.const (.string ⟨⟨[]⟩⟩)))]) v38t1
noncomputable def b38 : Code := Tryz.f38.body.getD .skip
theorem b38_eq : Tryz.f38.body = some b38 := by kernel_rfl
theorem v38_eq : viewC Tryz.prog b38 = some v38 := by kernel_rfl
theorem r38_eq : Tryz.f38.results.toList = [.tmp 4] := by kernel_rfl

section
variable {tb : List FuncId} {gl : List (List AV)} {H : Heap} {v w : AV} {Q : AV → Heap → Prop}
theorem oa_max2 {l : Fm} {x y : Operand} {c : Call} {a b m : Int} {k : IntKind} (hc : c.callee = .builtin .max) (ha : c.args.toList = [x, y]) (hx : evA x l = some (.int k a)) (hy : evA y l = some (.int k b)) (hm : max a b = m) (q : Q (.int k m) H) : OA Tryz.prog tb gl (.call c) l H Q :=
  oa (fun T hT => by
    have hx' : evL [x, y] T = some [.int k a, .int k b] := evLA_ok hT (by simp only [evLA, hx, hy])
    have e : (bif ilt a b then b else a) = m := by
      rw [ilt_eq, ← hm]
      by_cases h : a < b
      · rw [decide_eq_true h, cond_true]; omega
      · rw [decide_eq_false h, cond_false]; omega
    simp only [oper, oCall, ha, hx', hc, oBuiltin, oMinMax, cond_true, e, fI_eq]) q
set_option maxHeartbeats 0 in
theorem Own_ok {rs : List Rw} (hn : rs.length < 500000) (hv : IsSl H v 3 rs.length (rs.flatMap rwC)) (hQ : ∀ u H', Keep Non H H' → Own H' u 3 rs.length (rs.flatMap rwC) → Q u H') : WpF Tryz.prog tb gl 14 [v] H Q := by
  have hlim : limit = 1000000 := rfl
  refine fa Tryz.func14 b14_eq v14_eq r14_eq (.inr (by simp)) ?_
  refine va_seqr ?_
  (repeat (first | refine ia_op (oa_move rfl ?_) | refine ia_op (oa_assign rfl ?_) | refine ia_op (oa_lss rfl rfl ?_) | refine ia_op (oa_gtr rfl rfl ?_) | refine ia_op (oa_leq rfl rfl ?_) | refine ia_op (oa_geq rfl rfl ?_) | refine ia_op (oa_eql rfl rfl ?_) | refine ia_op (oa_neq rfl rfl ?_) | refine ia_op (oa_addW rfl rfl (wrap_i64 (by omega) (by omega)) ?_) | refine ia_op (oa_addW rfl rfl (wrap_u64 (by omega) (by omega)) ?_) | refine ia_op (oa_addW rfl rfl (wrap_u8 (by omega) (by omega)) ?_) | refine ia_op (oa_subW rfl rfl (wrap_i64 (by omega) (by omega)) ?_) | refine ia_op (oa_subW rfl rfl (wrap_u64 (by omega) (by omega)) ?_) | refine ia_op (oa_subW rfl rfl (wrap_u8 (by omega) (by omega)) ?_) | refine ia_op (oa_not rfl ?_) | refine ia_op (oa_extract rfl rfl ?_) | refine ia_op (oa_convW (by first | with_reducible exact un_2 | with_reducible exact un_182 | with_reducible exact un_3 | with_reducible exact un_5 | with_reducible exact un_181 | with_reducible exact un_183 | with_reducible exact un_9 | with_reducible exact un_41 | with_reducible exact un_39 | with_reducible exact un_27) (by first | with_reducible exact un_2 | with_reducible exact un_182 | with_reducible exact un_3 | with_reducible exact un_5 | with_reducible exact un_181 | with_reducible exact un_183 | with_reducible exact un_9 | with_reducible exact un_41 | with_reducible exact un_39 | with_reducible exact un_27) rfl (wrap_i64 (by omega) (by omega)) ?_) | refine ia_op (oa_convW (by first | with_reducible exact un_2 | with_reducible exact un_182 | with_reducible exact un_3 | with_reducible exact un_5 | with_reducible exact un_181 | with_reducible exact un_183 | with_reducible exact un_9 | with_reducible exact un_41 | with_reducible exact un_39 | with_reducible exact un_27) (by first | with_reducible exact un_2 | with_reducible exact un_182 | with_reducible exact un_3 | with_reducible exact un_5 | with_reducible exact un_181 | with_reducible exact un_183 | with_reducible exact un_9 | with_reducible exact un_41 | with_reducible exact un_39 | with_reducible exact un_27) rfl (wrap_u64 (by omega) (by omega)) ?_) | refine ia_op (oa_convW (by first | with_reducible exact un_2 | with_reducible exact un_182 | with_reducible exact un_3 | with_reducible exact un_5 | with_reducible exact un_181 | with_reducible exact un_183 | with_reducible exact un_9 | with_reducible exact un_41 | with_reducible exact un_39 | with_reducible exact un_27) (by first | with_reducible exact un_2 | with_reducible exact un_182 | with_reducible exact un_3 | with_reducible exact un_5 | with_reducible exact un_181 | with_reducible exact un_183 | with_reducible exact un_9 | with_reducible exact un_41 | with_reducible exact un_39 | with_reducible exact un_27) rfl (wrap_u8 (by omega) (by omega)) ?_)))
  refine ia_nil (va_seqr ?_)
  (repeat (first | refine ia_op (oa_move rfl ?_) | refine ia_op (oa_assign rfl ?_) | refine ia_op (oa_lss rfl rfl ?_) | refine ia_op (oa_gtr rfl rfl ?_) | refine ia_op (oa_leq rfl rfl ?_) | refine ia_op (oa_geq rfl rfl ?_) | refine ia_op (oa_eql rfl rfl ?_) | refine ia_op (oa_neq rfl rfl ?_) | refine ia_op (oa_addW rfl rfl (wrap_i64 (by omega) (by omega)) ?_) | refine ia_op (oa_addW rfl rfl (wrap_u64 (by omega) (by omega)) ?_) | refine ia_op (oa_addW rfl rfl (wrap_u8 (by omega) (by omega)) ?_) | refine ia_op (oa_subW rfl rfl (wrap_i64 (by omega) (by omega)) ?_) | refine ia_op (oa_subW rfl rfl (wrap_u64 (by omega) (by omega)) ?_) | refine ia_op (oa_subW rfl rfl (wrap_u8 (by omega) (by omega)) ?_) | refine ia_op (oa_not rfl ?_) | refine ia_op (oa_extract rfl rfl ?_) | refine ia_op (oa_convW (by first | with_reducible exact un_2 | with_reducible exact un_182 | with_reducible exact un_3 | with_reducible exact un_5 | with_reducible exact un_181 | with_reducible exact un_183 | with_reducible exact un_9 | with_reducible exact un_41 | with_reducible exact un_39 | with_reducible exact un_27) (by first | with_reducible exact un_2 | with_reducible exact un_182 | with_reducible exact un_3 | with_reducible exact un_5 | with_reducible exact un_181 | with_reducible exact un_183 | with_reducible exact un_9 | with_reducible exact un_41 | with_reducible exact un_39 | with_reducible exact un_27) rfl (wrap_i64 (by omega) (by omega)) ?_) | refine ia_op (oa_convW (by first | with_reducible exact un_2 | with_reducible exact un_182 | with_reducible exact un_3 | with_reducible exact un_5 | with_reducible exact un_181 | with_reducible exact un_183 | with_reducible exact un_9 | with_reducible exact un_41 | with_reducible exact un_39 | with_reducible exact un_27) (by first | with_reducible exact un_2 | with_reducible exact un_182 | with_reducible exact un_3 | with_reducible exact un_5 | with_reducible exact un_181 | with_reducible exact un_183 | with_reducible exact un_9 | with_reducible exact un_41 | with_reducible exact un_39 | with_reducible exact un_27) rfl (wrap_u64 (by omega) (by omega)) ?_) | refine ia_op (oa_convW (by first | with_reducible exact un_2 | with_reducible exact un_182 | with_reducible exact un_3 | with_reducible exact un_5 | with_reducible exact un_181 | with_reducible exact un_183 | with_reducible exact un_9 | with_reducible exact un_41 | with_reducible exact un_39 | with_reducible exact un_27) (by first | with_reducible exact un_2 | with_reducible exact un_182 | with_reducible exact un_3 | with_reducible exact un_5 | with_reducible exact un_181 | with_reducible exact un_183 | with_reducible exact un_9 | with_reducible exact un_41 | with_reducible exact un_39 | with_reducible exact un_27) rfl (wrap_u8 (by omega) (by omega)) ?_)))
  refine ia_nil (va_seq (va_seqr ?_))
  (repeat (first | refine ia_op (oa_move rfl ?_) | refine ia_op (oa_assign rfl ?_) | refine ia_op (oa_lss rfl rfl ?_) | refine ia_op (oa_gtr rfl rfl ?_) | refine ia_op (oa_leq rfl rfl ?_) | refine ia_op (oa_geq rfl rfl ?_) | refine ia_op (oa_eql rfl rfl ?_) | refine ia_op (oa_neq rfl rfl ?_) | refine ia_op (oa_addW rfl rfl (wrap_i64 (by omega) (by omega)) ?_) | refine ia_op (oa_addW rfl rfl (wrap_u64 (by omega) (by omega)) ?_) | refine ia_op (oa_addW rfl rfl (wrap_u8 (by omega) (by omega)) ?_) | refine ia_op (oa_subW rfl rfl (wrap_i64 (by omega) (by omega)) ?_) | refine ia_op (oa_subW rfl rfl (wrap_u64 (by omega) (by omega)) ?_) | refine ia_op (oa_subW rfl rfl (wrap_u8 (by omega) (by omega)) ?_) | refine ia_op (oa_not rfl ?_) | refine ia_op (oa_extract rfl rfl ?_) | refine ia_op (oa_convW (by first | with_reducible exact un_2 | with_reducible exact un_182 | with_reducible exact un_3 | with_reducible exact un_5 | with_reducible exact un_181 | with_reducible exact un_183 | with_reducible exact un_9 | with_reducible exact un_41 | with_reducible exact un_39 | with_reducible exact un_27) (by first | with_reducible exact un_2 | with_reducible exact un_182 | with_reducible exact un_3 | with_reducible exact un_5 | with_reducible exact un_181 | with_reducible exact un_183 | with_reducible exact un_9 | with_reducible exact un_41 | with_reducible exact un_39 | with_reducible exact un_27) rfl (wrap_i64 (by omega) (by omega)) ?_) | refine ia_op (oa_convW (by first | with_reducible exact un_2 | with_reducible exact un_182 | with_reducible exact un_3 | with_reducible exact un_5 | with_reducible exact un_181 | with_reducible exact un_183 | with_reducible exact un_9 | with_reducible exact un_41 | with_reducible exact un_39 | with_reducible exact un_27) (by first | with_reducible exact un_2 | with_reducible exact un_182 | with_reducible exact un_3 | with_reducible exact un_5 | with_reducible exact un_181 | with_reducible exact un_183 | with_reducible exact un_9 | with_reducible exact un_41 | with_reducible exact un_39 | with_reducible exact un_27) rfl (wrap_u64 (by omega) (by omega)) ?_) | refine ia_op (oa_convW (by first | with_reducible exact un_2 | with_reducible exact un_182 | with_reducible exact un_3 | with_reducible exact un_5 | with_reducible exact un_181 | with_reducible exact un_183 | with_reducible exact un_9 | with_reducible exact un_41 | with_reducible exact un_39 | with_reducible exact un_27) (by first | with_reducible exact un_2 | with_reducible exact un_182 | with_reducible exact un_3 | with_reducible exact un_5 | with_reducible exact un_181 | with_reducible exact un_183 | with_reducible exact un_9 | with_reducible exact un_41 | with_reducible exact un_39 | with_reducible exact un_27) rfl (wrap_u8 (by omega) (by omega)) ?_)))
  refine ia_nil (va_block ?_)
  refine va_loop (fun (a : Nat × AV) => [(0, v), (3, a.2), (4, .int .i64 (a.1 : Int))])
    (fun a H' => Keep Non H H' ∧ a.1 ≤ rs.length ∧ Own H' a.2 3 (rs.take a.1).length ((rs.take a.1).flatMap rwC) ∧ ∀ c, ownB a.2 c → H.nx ≤ c) (fun a => rs.length - a.1) ?_ (0, .nils) _ H ⟨rfl, rfl, rfl, trivial⟩ ⟨.refl _ _, Nat.zero_le _, .nil _ _, fun _ h => h.elim⟩
  rintro ⟨i, u⟩ H1 ⟨hk, hle, ho, hno⟩
  simp only at hle ho hno
  refine va_seq (va_seqr ?_)
  refine ia_op (oa_move rfl (ia_op (oa_move rfl ?_)))
  refine ia_op (oa_lenSl rfl rfl rfl (by first | with_reducible exact un_2 | with_reducible exact un_182 | with_reducible exact un_3 | with_reducible exact un_5 | with_reducible exact un_181 | with_reducible exact un_183 | with_reducible exact un_9 | with_reducible exact un_41 | with_reducible exact un_39 | with_reducible exact un_27) rfl (hv.keep0 hk) ?_)
  by_cases hi : i = rs.length
  · refine ia_op (oa_lssW rfl rfl (decide_eq_false (by simp only; omega)) (ia_nil (va_condF rfl (va_exit (va_seqr ?_)))))
    subst hi
    rw [List.take_length] at ho
    refine ia_op (oa_move rfl ?_)
    refine ia_op (oa_assign rfl (ia_nil (va_ret ⟨_, rfl, hQ _ _ hk ho⟩)))
  have hlt : i < rs.length := by omega
  refine ia_op (oa_lssW rfl rfl (decide_eq_true (by simp only; omega)) (ia_nil (va_condT rfl (va_skip ?_))))
  obtain ⟨r, hr⟩ : ∃ r, rs[i]? = some r := ⟨_, List.getElem?_eq_getElem hlt⟩
  have htake : rs.take (i + 1) = rs.take i ++ [r] := by rw [List.take_add_one, hr]; rfl
  have hchunk := flat_chunk rwC_len rs i r hr
  have hlen : (rs.take i).length = i := by rw [List.length_take]; omega
  refine va_seq (va_block (va_reg ?_))
  refine ia_op (oa_move rfl (ia_op (oa_move rfl (ia_op (oa_move rfl ?_)))))
  refine ia_op (oa_indexSl (by first | with_reducible exact un_2 | with_reducible exact un_182 | with_reducible exact un_3 | with_reducible exact un_5 | with_reducible exact un_181 | with_reducible exact un_183 | with_reducible exact un_9 | with_reducible exact un_41 | with_reducible exact un_39 | with_reducible exact un_27) (by first | with_reducible exact sz_5 | with_reducible exact sz_9 | with_reducible exact sz_40 | with_reducible exact sz_32) rfl (hv.keep0 hk) rfl rfl hlt fun q0 hp => ?_)
  rw [hchunk] at hp
  refine ia_op (oa_pfieldAddr (by first | with_reducible exact fp_40_0 | with_reducible exact fp_40_1 | with_reducible exact fp_40_2 | with_reducible exact fp_32_1 | with_reducible exact fp_32_2) (by decide) rfl hp fun q1 hp' => ?_)
  refine ia_op (oa_pload (by first | with_reducible exact pl_9 | with_reducible exact pl_3 | with_reducible exact pl_32) rfl hp' rfl ?_)
  refine ia_op (oa_move rfl (ia_op (oa_move rfl ?_)))
  refine ia_op (oa_indexSl (by first | with_reducible exact un_2 | with_reducible exact un_182 | with_reducible exact un_3 | with_reducible exact un_5 | with_reducible exact un_181 | with_reducible exact un_183 | with_reducible exact un_9 | with_reducible exact un_41 | with_reducible exact un_39 | with_reducible exact un_27) (by first | with_reducible exact sz_5 | with_reducible exact sz_9 | with_reducible exact sz_40 | with_reducible exact sz_32) rfl (hv.keep0 hk) rfl rfl hlt fun q0 hp => ?_)
  rw [hchunk] at hp
  refine ia_op (oa_pfieldAddr (by first | with_reducible exact fp_40_0 | with_reducible exact fp_40_1 | with_reducible exact fp_40_2 | with_reducible exact fp_32_1 | with_reducible exact fp_32_2) (by decide) rfl hp fun q1 hp' => ?_)
  refine ia_op (oa_pload (by first | with_reducible exact pl_9 | with_reducible exact pl_3 | with_reducible exact pl_32) rfl hp' rfl ?_)
  refine ia_op (oa_move rfl (ia_op (oa_move rfl ?_)))
  refine ia_op (oa_indexSl (by first | with_reducible exact un_2 | with_reducible exact un_182 | with_reducible exact un_3 | with_reducible exact un_5 | with_reducible exact un_181 | with_reducible exact un_183 | with_reducible exact un_9 | with_reducible exact un_41 | with_reducible exact un_39 | with_reducible exact un_27) (by first | with_reducible exact sz_5 | with_reducible exact sz_9 | with_reducible exact sz_40 | with_reducible exact sz_32) rfl (hv.keep0 hk) rfl rfl hlt fun q0 hp => ?_)
  rw [hchunk] at hp
  refine ia_op (oa_pfieldAddr (by first | with_reducible exact fp_40_0 | with_reducible exact fp_40_1 | with_reducible exact fp_40_2 | with_reducible exact fp_32_1 | with_reducible exact fp_32_2) (by decide) rfl hp fun q1 hp' => ?_)
  refine ia_op (oa_pload (by first | with_reducible exact pl_9 | with_reducible exact pl_3 | with_reducible exact pl_32) rfl hp' rfl ?_)
  refine ia_op (oa_struct (by first | with_reducible exact bs_32) (by first | with_reducible exact ze_181 | with_reducible exact ze_32) (by first | with_reducible exact ps_32) rfl ?_)
  refine ia_op (oa_newSlice (n := 1) (by first | with_reducible exact el_41 | with_reducible exact el_183 | with_reducible exact el_39 | with_reducible exact el_27) (by decide) rfl rfl fun H4 hk4 hr4 => ?_)
  refine ia_op (oa_append rfl rfl rfl (by first | with_reducible exact el_41 | with_reducible exact el_183 | with_reducible exact el_39 | with_reducible exact el_27) (.inl (by first | with_reducible exact un_2 | with_reducible exact un_182 | with_reducible exact un_3 | with_reducible exact un_5 | with_reducible exact un_181 | with_reducible exact un_183 | with_reducible exact un_9 | with_reducible exact un_41 | with_reducible exact un_39 | with_reducible exact un_27)) rfl (ho.keep0 hk4) rfl (IsRow.sl (es := 3) (n := 1) hr4 rfl (Nat.le_refl 1)).elems rfl rfl (by omega) fun u' H5 ho5 hk5 hb5 => ?_)
  refine ia_op (oa_assign rfl (ia_nil (va_reg ?_)))
  refine ia_op (oa_move rfl ?_)
  refine ia_op (oa_addW (c := ((i + 1 : Nat) : Int)) rfl rfl (wrapE_i64 (by omega) (by omega) (by omega)) ?_)
  refine ia_op (oa_assign rfl (ia_nil ⟨(i + 1, u'), ?_, ⟨rfl, rfl, rfl, trivial⟩, (hk.trans0 hk4).trans hk5 fun c hc => .inr (hno c hc), by simp only; omega, ?_, fun c hc => (hb5 c hc).elim (hno c) fun h => Nat.le_trans (hk.trans0 hk4).nx h⟩))
  · show rs.length - (i + 1) < rs.length - i
    omega
  · simp only
    rw [htake, List.length_append, List.flatMap_append]
    exact ho5
set_option maxHeartbeats 0 in
theorem Same_ok {ws : List (List UInt8)} (hn : ws.length < 500000) (hv : IsSl H v 1 ws.length (ws.flatMap txC)) (hw : IsSl H w 1 ws.length (ws.flatMap txC)) (hQ : Q (.bool true) H) : WpF Tryz.prog tb gl 16 [v, w] H Q := by
  refine fa Tryz.func16 b16_eq v16_eq r16_eq (.inr (by simp)) ?_
  refine va_seqr ?_
  (repeat (first | refine ia_op (oa_move rfl ?_) | refine ia_op (oa_assign rfl ?_) | refine ia_op (oa_lss rfl rfl ?_) | refine ia_op (oa_gtr rfl rfl ?_) | refine ia_op (oa_leq rfl rfl ?_) | refine ia_op (oa_geq rfl rfl ?_) | refine ia_op (oa_eql rfl rfl ?_) | refine ia_op (oa_neq rfl rfl ?_) | refine ia_op (oa_addW rfl rfl (wrap_i64 (by omega) (by omega)) ?_) | refine ia_op (oa_addW rfl rfl (wrap_u64 (by omega) (by omega)) ?_) | refine ia_op (oa_addW rfl rfl (wrap_u8 (by omega) (by omega)) ?_) | refine ia_op (oa_subW rfl rfl (wrap_i64 (by omega) (by omega)) ?_) | refine ia_op (oa_subW rfl rfl (wrap_u64 (by omega) (by omega)) ?_) | refine ia_op (oa_subW rfl rfl (wrap_u8 (by omega) (by omega)) ?_) | refine ia_op (oa_not rfl ?_) | refine ia_op (oa_extract rfl rfl ?_) | refine ia_op (oa_convW (by first | with_reducible exact un_2 | with_reducible exact un_182 | with_reducible exact un_3 | with_reducible exact un_5 | with_reducible exact un_181 | with_reducible exact un_183 | with_reducible exact un_9 | with_reducible exact un_41 | with_reducible exact un_39 | with_reducible exact un_27) (by first | with_reducible exact un_2 | with_reducible exact un_182 | with_reducible exact un_3 | with_reducible exact un_5 | with_reducible exact un_181 | with_reducible exact un_183 | with_reducible exact un_9 | with_reducible exact un_41 | with_reducible exact un_39 | with_reducible exact un_27) rfl (wrap_i64 (by omega) (by omega)) ?_) | refine ia_op (oa_convW (by first | with_reducible exact un_2 | with_reducible exact un_182 | with_reducible exact un_3 | with_reducible exact un_5 | with_reducible exact un_181 | with_reducible exact un_183 | with_reducible exact un_9 | with_reducible exact un_41 | with_reducible exact un_39 | with_reducible exact un_27) (by first | with_reducible exact un_2 | with_reducible exact un_182 | with_reducible exact un_3 | with_reducible exact un_5 | with_reducible exact un_181 | with_reducible exact un_183 | with_reducible exact un_9 | with_reducible exact un_41 | with_reducible exact un_39 | with_reducible exact un_27) rfl (wrap_u64 (by omega) (by omega)) ?_) | refine ia_op (oa_convW (by first | with_reducible exact un_2 | with_reducible exact un_182 | with_reducible exact un_3 | with_reducible exact un_5 | with_reducible exact un_181 | with_reducible exact un_183 | with_reducible exact un_9 | with_reducible exact un_41 | with_reducible exact un_39 | with_reducible exact un_27) (by first | with_reducible exact un_2 | with_reducible exact un_182 | with_reducible exact un_3 | with_reducible exact un_5 | with_reducible exact un_181 | with_reducible exact un_183 | with_reducible exact un_9 | with_reducible exact un_41 | with_reducible exact un_39 | with_reducible exact un_27) rfl (wrap_u8 (by omega) (by omega)) ?_)))
  refine ia_nil (va_seq (va_seqr ?_))
  refine ia_op (oa_move rfl ?_)
  refine ia_op (oa_lenSl rfl rfl rfl (by first | with_reducible exact un_2 | with_reducible exact un_182 | with_reducible exact un_3 | with_reducible exact un_5 | with_reducible exact un_181 | with_reducible exact un_183 | with_reducible exact un_9 | with_reducible exact un_41 | with_reducible exact un_39 | with_reducible exact un_27) rfl hv ?_)
  refine ia_op (oa_move rfl ?_)
  refine ia_op (oa_lenSl rfl rfl rfl (by first | with_reducible exact un_2 | with_reducible exact un_182 | with_reducible exact un_3 | with_reducible exact un_5 | with_reducible exact un_181 | with_reducible exact un_183 | with_reducible exact un_9 | with_reducible exact un_41 | with_reducible exact un_39 | with_reducible exact un_27) rfl hw ?_)
  refine ia_op (oa_neqW rfl rfl (decide_eq_false (by simp)) (ia_nil (va_condF rfl (va_skip (va_seq (va_seqr ?_))))))
  (repeat (first | refine ia_op (oa_move rfl ?_) | refine ia_op (oa_assign rfl ?_) | refine ia_op (oa_lss rfl rfl ?_) | refine ia_op (oa_gtr rfl rfl ?_) | refine ia_op (oa_leq rfl rfl ?_) | refine ia_op (oa_geq rfl rfl ?_) | refine ia_op (oa_eql rfl rfl ?_) | refine ia_op (oa_neq rfl rfl ?_) | refine ia_op (oa_addW rfl rfl (wrap_i64 (by omega) (by omega)) ?_) | refine ia_op (oa_addW rfl rfl (wrap_u64 (by omega) (by omega)) ?_) | refine ia_op (oa_addW rfl rfl (wrap_u8 (by omega) (by omega)) ?_) | refine ia_op (oa_subW rfl rfl (wrap_i64 (by omega) (by omega)) ?_) | refine ia_op (oa_subW rfl rfl (wrap_u64 (by omega) (by omega)) ?_) | refine ia_op (oa_subW rfl rfl (wrap_u8 (by omega) (by omega)) ?_) | refine ia_op (oa_not rfl ?_) | refine ia_op (oa_extract rfl rfl ?_) | refine ia_op (oa_convW (by first | with_reducible exact un_2 | with_reducible exact un_182 | with_reducible exact un_3 | with_reducible exact un_5 | with_reducible exact un_181 | with_reducible exact un_183 | with_reducible exact un_9 | with_reducible exact un_41 | with_reducible exact un_39 | with_reducible exact un_27) (by first | with_reducible exact un_2 | with_reducible exact un_182 | with_reducible exact un_3 | with_reducible exact un_5 | with_reducible exact un_181 | with_reducible exact un_183 | with_reducible exact un_9 | with_reducible exact un_41 | with_reducible exact un_39 | with_reducible exact un_27) rfl (wrap_i64 (by omega) (by omega)) ?_) | refine ia_op (oa_convW (by first | with_reducible exact un_2 | with_reducible exact un_182 | with_reducible exact un_3 | with_reducible exact un_5 | with_reducible exact un_181 | with_reducible exact un_183 | with_reducible exact un_9 | with_reducible exact un_41 | with_reducible exact un_39 | with_reducible exact un_27) (by first | with_reducible exact un_2 | with_reducible exact un_182 | with_reducible exact un_3 | with_reducible exact un_5 | with_reducible exact un_181 | with_reducible exact un_183 | with_reducible exact un_9 | with_reducible exact un_41 | with_reducible exact un_39 | with_reducible exact un_27) rfl (wrap_u64 (by omega) (by omega)) ?_) | refine ia_op (oa_convW (by first | with_reducible exact un_2 | with_reducible exact un_182 | with_reducible exact un_3 | with_reducible exact un_5 | with_reducible exact un_181 | with_reducible exact un_183 | with_reducible exact un_9 | with_reducible exact un_41 | with_reducible exact un_39 | with_reducible exact un_27) (by first | with_reducible exact un_2 | with_reducible exact un_182 | with_reducible exact un_3 | with_reducible exact un_5 | with_reducible exact un_181 | with_reducible exact un_183 | with_reducible exact un_9 | with_reducible exact un_41 | with_reducible exact un_39 | with_reducible exact un_27) rfl (wrap_u8 (by omega) (by omega)) ?_)))
  refine ia_nil (va_block ?_)
  refine va_loop (fun (i : Nat) => [(0, v), (1, w), (5, .int .i64 (i : Int))]) (fun i H' => H' = H ∧ i ≤ ws.length) (fun i => ws.length - i) ?_ 0 _ H ⟨rfl, rfl, rfl, trivial⟩ ⟨rfl, Nat.zero_le _⟩
  rintro i H1 ⟨rfl, hle⟩
  refine va_seq (va_seqr ?_)
  refine ia_op (oa_move rfl (ia_op (oa_move rfl ?_)))
  refine ia_op (oa_lenSl rfl rfl rfl (by first | with_reducible exact un_2 | with_reducible exact un_182 | with_reducible exact un_3 | with_reducible exact un_5 | with_reducible exact un_181 | with_reducible exact un_183 | with_reducible exact un_9 | with_reducible exact un_41 | with_reducible exact un_39 | with_reducible exact un_27) rfl hv ?_)
  by_cases hi : i = ws.length
  · refine ia_op (oa_lssW rfl rfl (decide_eq_false (by omega)) (ia_nil (va_condF rfl (va_exit (va_seqr ?_)))))
    refine ia_op (oa_assign rfl (ia_nil (va_ret ⟨_, rfl, hQ⟩)))
  have hlt : i < ws.length := by omega
  refine ia_op (oa_lssW rfl rfl (decide_eq_true (by omega)) (ia_nil (va_condT rfl (va_skip ?_))))
  obtain ⟨r, hr⟩ : ∃ r, ws[i]? = some r := ⟨_, List.getElem?_eq_getElem hlt⟩
  have hchunk := flat_chunk txC_len ws i r hr
  refine va_seq (va_block (va_seqr ?_))
  refine ia_op (oa_move rfl (ia_op (oa_move rfl ?_)))
  refine ia_op (oa_indexSl (by first | with_reducible exact un_2 | with_reducible exact un_182 | with_reducible exact un_3 | with_reducible exact un_5 | with_reducible exact un_181 | with_reducible exact un_183 | with_reducible exact un_9 | with_reducible exact un_41 | with_reducible exact un_39 | with_reducible exact un_27) (by first | with_reducible exact sz_5 | with_reducible exact sz_9 | with_reducible exact sz_40 | with_reducible exact sz_32) rfl hv rfl rfl hlt fun q0 hp => ?_)
  rw [hchunk] at hp
  refine ia_op (oa_pload (by first | with_reducible exact pl_9 | with_reducible exact pl_3 | with_reducible exact pl_32) rfl hp rfl ?_)
  refine ia_op (oa_move rfl (ia_op (oa_move rfl ?_)))
  refine ia_op (oa_indexSl (by first | with_reducible exact un_2 | with_reducible exact un_182 | with_reducible exact un_3 | with_reducible exact un_5 | with_reducible exact un_181 | with_reducible exact un_183 | with_reducible exact un_9 | with_reducible exact un_41 | with_reducible exact un_39 | with_reducible exact un_27) (by first | with_reducible exact sz_5 | with_reducible exact sz_9 | with_reducible exact sz_40 | with_reducible exact sz_32) rfl hw rfl rfl hlt fun q0 hp => ?_)
  rw [hchunk] at hp
  refine ia_op (oa_pload (by first | with_reducible exact pl_9 | with_reducible exact pl_3 | with_reducible exact pl_32) rfl hp rfl ?_)
  refine ia_op (oa_sneqW rfl rfl (by simp) (ia_nil (va_condF rfl (va_skip (va_reg ?_)))))
  refine ia_op (oa_move rfl ?_)
  refine ia_op (oa_addW (c := ((i + 1 : Nat) : Int)) rfl rfl (wrapE_i64 (by omega) (by omega) (by omega)) ?_)
  refine ia_op (oa_assign rfl (ia_nil ⟨i + 1, ?_, ⟨rfl, rfl, rfl, trivial⟩, rfl, by omega⟩))
  show ws.length - (i + 1) < ws.length - i
  omega
theorem findR_drop {rs : List Rw} {p m : Int} {i : Nat} {r : Rw} (hr : rs[i]? = some r) : findR p m (rs.drop i) i = if r.proc = p ∧ r.mark = m then (i : Int) else findR p m (rs.drop (i + 1)) (i + 1) := by
  have hlt : i < rs.length := (List.getElem?_eq_some_iff.1 hr).1
  rw [List.drop_eq_getElem_cons hlt]
  have : rs[i] = r := (List.getElem?_eq_some_iff.1 hr).2
  rw [this]
  rfl
set_option maxHeartbeats 0 in
theorem vFind_ok {rs : List Rw} (hn : rs.length < 500000) (hv : IsSl H v 3 rs.length (rs.flatMap rwC)) (p m : Int) (hQ : ∀ H', Keep Non H H' → Q (.int .i64 (foundR rs p m)) H') : WpF Tryz.prog tb gl 17 [v, .int .i64 p, .int .i64 m] H Q := by
  refine fa Tryz.func17 b17_eq v17_eq r17_eq (.inr (by simp)) ?_
  refine va_seqr ?_
  (repeat (first | refine ia_op (oa_move rfl ?_) | refine ia_op (oa_assign rfl ?_) | refine ia_op (oa_lss rfl rfl ?_) | refine ia_op (oa_gtr rfl rfl ?_) | refine ia_op (oa_leq rfl rfl ?_) | refine ia_op (oa_geq rfl rfl ?_) | refine ia_op (oa_eql rfl rfl ?_) | refine ia_op (oa_neq rfl rfl ?_) | refine ia_op (oa_addW rfl rfl (wrap_i64 (by omega) (by omega)) ?_) | refine ia_op (oa_addW rfl rfl (wrap_u64 (by omega) (by omega)) ?_) | refine ia_op (oa_addW rfl rfl (wrap_u8 (by omega) (by omega)) ?_) | refine ia_op (oa_subW rfl rfl (wrap_i64 (by omega) (by omega)) ?_) | refine ia_op (oa_subW rfl rfl (wrap_u64 (by omega) (by omega)) ?_) | refine ia_op (oa_subW rfl rfl (wrap_u8 (by omega) (by omega)) ?_) | refine ia_op (oa_not rfl ?_) | refine ia_op (oa_extract rfl rfl ?_) | refine ia_op (oa_convW (by first | with_reducible exact un_2 | with_reducible exact un_182 | with_reducible exact un_3 | with_reducible exact un_5 | with_reducible exact un_181 | with_reducible exact un_183 | with_reducible exact un_9 | with_reducible exact un_41 | with_reducible exact un_39 | with_reducible exact un_27) (by first | with_reducible exact un_2 | with_reducible exact un_182 | with_reducible exact un_3 | with_reducible exact un_5 | with_reducible exact un_181 | with_reducible exact un_183 | with_reducible exact un_9 | with_reducible exact un_41 | with_reducible exact un_39 | with_reducible exact un_27) rfl (wrap_i64 (by omega) (by omega)) ?_) | refine ia_op (oa_convW (by first | with_reducible exact un_2 | with_reducible exact un_182 | with_reducible exact un_3 | with_reducible exact un_5 | with_reducible exact un_181 | with_reducible exact un_183 | with_reducible exact un_9 | with_reducible exact un_41 | with_reducible exact un_39 | with_reducible exact un_27) (by first | with_reducible exact un_2 | with_reducible exact un_182 | with_reducible exact un_3 | with_reducible exact un_5 | with_reducible exact un_181 | with_reducible exact un_183 | with_reducible exact un_9 | with_reducible exact un_41 | with_reducible exact un_39 | with_reducible exact un_27) rfl (wrap_u64 (by omega) (by omega)) ?_) | refine ia_op (oa_convW (by first | with_reducible exact un_2 | with_reducible exact un_182 | with_reducible exact un_3 | with_reducible exact un_5 | with_reducible exact un_181 | with_reducible exact un_183 | with_reducible exact un_9 | with_reducible exact un_41 | with_reducible exact un_39 | with_reducible exact un_27) (by first | with_reducible exact un_2 | with_reducible exact un_182 | with_reducible exact un_3 | with_reducible exact un_5 | with_reducible exact un_181 | with_reducible exact un_183 | with_reducible exact un_9 | with_reducible exact un_41 | with_reducible exact un_39 | with_reducible exact un_27) rfl (wrap_u8 (by omega) (by omega)) ?_)))
  refine ia_nil (va_seq (va_seqr ?_))
  refine ia_op (oa_move rfl ?_)
  by_cases hm : m < 0
  · refine ia_op (oa_lssW rfl rfl (decide_eq_true hm) (ia_nil (va_condT rfl (va_seqr ?_))))
    refine ia_op (oa_assign rfl (ia_nil (va_ret ⟨_, rfl, ?_⟩)))
    have := hQ H (.refl _ _)
    rw [foundR, if_pos hm] at this
    exact this
  refine ia_op (oa_lssW rfl rfl (decide_eq_false hm) (ia_nil (va_condF rfl (va_skip (va_seq (va_seqr ?_))))))
  refine ia_op (oa_move rfl ?_)
  refine ia_op (oa_lenSl rfl rfl rfl (by first | with_reducible exact un_2 | with_reducible exact un_182 | with_reducible exact un_3 | with_reducible exact un_5 | with_reducible exact un_181 | with_reducible exact un_183 | with_reducible exact un_9 | with_reducible exact un_41 | with_reducible exact un_39 | with_reducible exact un_27) rfl hv ?_)
  (repeat (first | refine ia_op (oa_move rfl ?_) | refine ia_op (oa_assign rfl ?_) | refine ia_op (oa_lss rfl rfl ?_) | refine ia_op (oa_gtr rfl rfl ?_) | refine ia_op (oa_leq rfl rfl ?_) | refine ia_op (oa_geq rfl rfl ?_) | refine ia_op (oa_eql rfl rfl ?_) | refine ia_op (oa_neq rfl rfl ?_) | refine ia_op (oa_addW rfl rfl (wrap_i64 (by omega) (by omega)) ?_) | refine ia_op (oa_addW rfl rfl (wrap_u64 (by omega) (by omega)) ?_) | refine ia_op (oa_addW rfl rfl (wrap_u8 (by omega) (by omega)) ?_) | refine ia_op (oa_subW rfl rfl (wrap_i64 (by omega) (by omega)) ?_) | refine ia_op (oa_subW rfl rfl (wrap_u64 (by omega) (by omega)) ?_) | refine ia_op (oa_subW rfl rfl (wrap_u8 (by omega) (by omega)) ?_) | refine ia_op (oa_not rfl ?_) | refine ia_op (oa_extract rfl rfl ?_) | refine ia_op (oa_convW (by first | with_reducible exact un_2 | with_reducible exact un_182 | with_reducible exact un_3 | with_reducible exact un_5 | with_reducible exact un_181 | with_reducible exact un_183 | with_reducible exact un_9 | with_reducible exact un_41 | with_reducible exact un_39 | with_reducible exact un_27) (by first | with_reducible exact un_2 | with_reducible exact un_182 | with_reducible exact un_3 | with_reducible exact un_5 | with_reducible exact un_181 | with_reducible exact un_183 | with_reducible exact un_9 | with_reducible exact un_41 | with_reducible exact un_39 | with_reducible exact un_27) rfl (wrap_i64 (by omega) (by omega)) ?_) | refine ia_op (oa_convW (by first | with_reducible exact un_2 | with_reducible exact un_182 | with_reducible exact un_3 | with_reducible exact un_5 | with_reducible exact un_181 | with_reducible exact un_183 | with_reducible exact un_9 | with_reducible exact un_41 | with_reducible exact un_39 | with_reducible exact un_27) (by first | with_reducible exact un_2 | with_reducible exact un_182 | with_reducible exact un_3 | with_reducible exact un_5 | with_reducible exact un_181 | with_reducible exact un_183 | with_reducible exact un_9 | with_reducible exact un_41 | with_reducible exact un_39 | with_reducible exact un_27) rfl (wrap_u64 (by omega) (by omega)) ?_) | refine ia_op (oa_convW (by first | with_reducible exact un_2 | with_reducible exact un_182 | with_reducible exact un_3 | with_reducible exact un_5 | with_reducible exact un_181 | with_reducible exact un_183 | with_reducible exact un_9 | with_reducible exact un_41 | with_reducible exact un_39 | with_reducible exact un_27) (by first | with_reducible exact un_2 | with_reducible exact un_182 | with_reducible exact un_3 | with_reducible exact un_5 | with_reducible exact un_181 | with_reducible exact un_183 | with_reducible exact un_9 | with_reducible exact un_41 | with_reducible exact un_39 | with_reducible exact un_27) rfl (wrap_u8 (by omega) (by omega)) ?_)))
  refine ia_nil (va_block ?_)
  refine va_loop (fun (i : Nat) => [(1, .int .i64 p), (2, .int .i64 m), (11, v), (12, .int .i64 (rs.length : Int)), (13, .int .i64 (i : Int))]) (fun i H' => Keep Non H H' ∧ i ≤ rs.length ∧ findR p m (rs.drop i) i = foundR rs p m) (fun i => rs.length - i) ?_ 0 _ H ⟨rfl, rfl, rfl, rfl, rfl, trivial⟩ ⟨.refl _ _, Nat.zero_le _, by rw [foundR, if_neg hm]; rfl⟩
  rintro i H1 ⟨hk, hle, hf⟩
  refine va_seqr ?_
  by_cases hi : i = rs.length
  · refine ia_op (oa_lssW rfl rfl (decide_eq_false (by omega)) (ia_nil (va_seq (va_condF rfl (va_exit (va_seqr ?_))))))
    refine ia_op (oa_assign rfl (ia_nil (va_ret ⟨_, rfl, ?_⟩)))
    have := hQ H1 hk
    rw [← hf, hi, List.drop_length] at this
    exact this
  have hlt : i < rs.length := by omega
  refine ia_op (oa_lssW rfl rfl (decide_eq_true (by omega)) (ia_nil (va_seq (va_condT rfl (va_skip ?_)))))
  obtain ⟨r, hr⟩ : ∃ r, rs[i]? = some r := ⟨_, List.getElem?_eq_getElem hlt⟩
  have hchunk := flat_chunk rwC_len rs i r hr
  rw [findR_drop hr] at hf
  refine va_seq (va_block (va_seqr ?_))
  refine ia_op (oa_move rfl ?_)
  refine ia_op (oa_indexSl (by first | with_reducible exact un_2 | with_reducible exact un_182 | with_reducible exact un_3 | with_reducible exact un_5 | with_reducible exact un_181 | with_reducible exact un_183 | with_reducible exact un_9 | with_reducible exact un_41 | with_reducible exact un_39 | with_reducible exact un_27) (by first | with_reducible exact sz_5 | with_reducible exact sz_9 | with_reducible exact sz_40 | with_reducible exact sz_32) rfl (hv.keep0 hk) rfl rfl hlt fun q0 hp => ?_)
  rw [hchunk] at hp
  refine ia_op (oa_ploadN (k := 3) (by first | with_reducible exact pl_9 | with_reducible exact pl_3 | with_reducible exact pl_32) rfl (by decide) rfl hp ?_)
  refine ia_op (oa_alloc (by first | with_reducible exact ze_181 | with_reducible exact ze_32) fun H2 hk2 hr2 => ?_)
  refine ia_op (oa_assign rfl ?_)
  refine ia_op (oa_storeAll (k := 3) (by first | with_reducible exact sz_5 | with_reducible exact sz_9 | with_reducible exact sz_40 | with_reducible exact sz_32) rfl rfl rfl rfl hr2 rfl fun H3 hk3 hn3 hr3 => ?_)
  have hK3 : Keep Non H H3 := hk.trans0 (hk2.trans hk3 fun c hc => .inr (by omega))
  refine ia_nil (va_seqr ?_)
  refine ia_op (oa_fieldAddr (by first | with_reducible exact fp_40_0 | with_reducible exact fp_40_1 | with_reducible exact fp_40_2 | with_reducible exact fp_32_1 | with_reducible exact fp_32_2) (by decide) rfl ?_)
  refine ia_op (oa_load1 (by first | with_reducible exact pl_9 | with_reducible exact pl_3 | with_reducible exact pl_32) rfl hr3 rfl ?_)
  refine ia_op (oa_move rfl ?_)
  have next : ∀ l2 : Fm, findR p m (rs.drop (i + 1)) (i + 1) = foundR rs p m → Sb [(1, .int .i64 p), (2, .int .i64 m), (11, v), (12, .int .i64 (rs.length : Int)), (13, .int .i64 (i : Int))] l2 → VA Tryz.prog tb gl (.reg [.op (some 29) (.binOp .add 3 (.tmp 13) (.const (.int .i64 1)) 3), .op (some 13) (.move (.tmp 29))]) l2 H3
      (roundA (fun (i : Nat) => [(1, .int .i64 p), (2, .int .i64 m), (11, v), (12, .int .i64 (rs.length : Int)), (13, .int .i64 (i : Int))]) (fun i H' => Keep Non H H' ∧ i ≤ rs.length ∧ findR p m (rs.drop i) i = foundR rs p m) (fun i => rs.length - i) i
        (exitA 0 (seqA Tryz.prog tb gl v17t3 (leftA [.tmp 6] Q)))) := by
    intro l2 hf2 h2
    refine VA.sub h2 (va_reg ?_)
    refine ia_op (oa_addW (c := ((i + 1 : Nat) : Int)) rfl rfl (wrapE_i64 (by omega) (by omega) (by omega)) ?_)
    refine ia_op (oa_move rfl (ia_nil ⟨i + 1, ?_, ⟨rfl, rfl, rfl, rfl, rfl, trivial⟩, hK3, by omega, hf2⟩))
    show rs.length - (i + 1) < rs.length - i
    omega
  by_cases c1 : r.proc = p
  · refine ia_op (oa_eqlW rfl rfl (decide_eq_true c1) ?_)
    refine ia_op (oa_move rfl ?_)
    refine ia_gdY rfl (oa_fieldAddr (by first | with_reducible exact fp_40_0 | with_reducible exact fp_40_1 | with_reducible exact fp_40_2 | with_reducible exact fp_32_1 | with_reducible exact fp_32_2) (by decide) rfl ?_)
    refine ia_gdY rfl (oa_load1 (by first | with_reducible exact pl_9 | with_reducible exact pl_3 | with_reducible exact pl_32) rfl hr3 rfl ?_)
    refine ia_gdY rfl (oa_move rfl ?_)
    by_cases c2 : r.mark = m
    · refine ia_gdY rfl (oa_eqlW rfl rfl (decide_eq_true c2) ?_)
      refine ia_op (oa_pickT rfl rfl rfl (ia_nil (va_condT rfl (va_seqr ?_))))
      refine ia_op (oa_move rfl ?_)
      refine ia_op (oa_assign rfl (ia_nil (va_ret ⟨_, rfl, ?_⟩)))
      have := hQ H3 hK3
      rw [← hf, if_pos ⟨c1, c2⟩] at this
      exact this
    · refine ia_gdY rfl (oa_eqlW rfl rfl (decide_eq_false c2) ?_)
      rw [if_neg fun h => c2 h.2] at hf
      refine ia_op (oa_pickT rfl rfl rfl (ia_nil (va_condF rfl (va_skip (next _ hf ⟨rfl, rfl, rfl, rfl, rfl, trivial⟩)))))
  · refine ia_op (oa_eqlW rfl rfl (decide_eq_false c1) ?_)
    refine ia_op (oa_move rfl ?_)
    iterate 4 refine ia_gdN rfl ?_
    rw [if_neg fun h => c1 h.1] at hf
    refine ia_op (oa_pickF rfl rfl (ia_nil (va_condF rfl (va_skip (next _ hf ⟨rfl, rfl, rfl, rfl, rfl, trivial⟩)))))
set_option maxHeartbeats 0 in
theorem rFind_ok {rs : List Rw} (hn : rs.length < 500000) (hv : IsSl H v 3 rs.length (rs.flatMap rwC)) (p m : Int) (hQ : Q (.int .i64 (foundR rs p m)) H) : WpF Tryz.prog tb gl 18 [v, .int .i64 p, .int .i64 m] H Q := by
  refine fa Tryz.func18 b18_eq v18_eq r18_eq (.inr (by simp)) ?_
  refine va_seqr ?_
  (repeat (first | refine ia_op (oa_move rfl ?_) | refine ia_op (oa_assign rfl ?_) | refine ia_op (oa_lss rfl rfl ?_) | refine ia_op (oa_gtr rfl rfl ?_) | refine ia_op (oa_leq rfl rfl ?_) | refine ia_op (oa_geq rfl rfl ?_) | refine ia_op (oa_eql rfl rfl ?_) | refine ia_op (oa_neq rfl rfl ?_) | refine ia_op (oa_addW rfl rfl (wrap_i64 (by omega) (by omega)) ?_) | refine ia_op (oa_addW rfl rfl (wrap_u64 (by omega) (by omega)) ?_) | refine ia_op (oa_addW rfl rfl (wrap_u8 (by omega) (by omega)) ?_) | refine ia_op (oa_subW rfl rfl (wrap_i64 (by omega) (by omega)) ?_) | refine ia_op (oa_subW rfl rfl (wrap_u64 (by omega) (by omega)) ?_) | refine ia_op (oa_subW rfl rfl (wrap_u8 (by omega) (by omega)) ?_) | refine ia_op (oa_not rfl ?_) | refine ia_op (oa_extract rfl rfl ?_) | refine ia_op (oa_convW (by first | with_reducible exact un_2 | with_reducible exact un_182 | with_reducible exact un_3 | with_reducible exact un_5 | with_reducible exact un_181 | with_reducible exact un_183 | with_reducible exact un_9 | with_reducible exact un_41 | with_reducible exact un_39 | with_reducible exact un_27) (by first | with_reducible exact un_2 | with_reducible exact un_182 | with_reducible exact un_3 | with_reducible exact un_5 | with_reducible exact un_181 | with_reducible exact un_183 | with_reducible exact un_9 | with_reducible exact un_41 | with_reducible exact un_39 | with_reducible exact un_27) rfl (wrap_i64 (by omega) (by omega)) ?_) | refine ia_op (oa_convW (by first | with_reducible exact un_2 | with_reducible exact un_182 | with_reducible exact un_3 | with_reducible exact un_5 | with_reducible exact un_181 | with_reducible exact un_183 | with_reducible exact un_9 | with_reducible exact un_41 | with_reducible exact un_39 | with_reducible exact un_27) (by first | with_reducible exact un_2 | with_reducible exact un_182 | with_reducible exact un_3 | with_reducible exact un_5 | with_reducible exact un_181 | with_reducible exact un_183 | with_reducible exact un_9 | with_reducible exact un_41 | with_reducible exact un_39 | with_reducible exact un_27) rfl (wrap_u64 (by omega) (by omega)) ?_) | refine ia_op (oa_convW (by first | with_reducible exact un_2 | with_reducible exact un_182 | with_reducible exact un_3 | with_reducible exact un_5 | with_reducible exact un_181 | with_reducible exact un_183 | with_reducible exact un_9 | with_reducible exact un_41 | with_reducible exact un_39 | with_reducible exact un_27) (by first | with_reducible exact un_2 | with_reducible exact un_182 | with_reducible exact un_3 | with_reducible exact un_5 | with_reducible exact un_181 | with_reducible exact un_183 | with_reducible exact un_9 | with_reducible exact un_41 | with_reducible exact un_39 | with_reducible exact un_27) rfl (wrap_u8 (by omega) (by omega)) ?_)))
  refine ia_nil (va_seq (va_seqr ?_))
  (repeat (first | refine ia_op (oa_move rfl ?_) | refine ia_op (oa_assign rfl ?_) | refine ia_op (oa_lss rfl rfl ?_) | refine ia_op (oa_gtr rfl rfl ?_) | refine ia_op (oa_leq rfl rfl ?_) | refine ia_op (oa_geq rfl rfl ?_) | refine ia_op (oa_eql rfl rfl ?_) | refine ia_op (oa_neq rfl rfl ?_) | refine ia_op (oa_addW rfl rfl (wrap_i64 (by omega) (by omega)) ?_) | refine ia_op (oa_addW rfl rfl (wrap_u64 (by omega) (by omega)) ?_) | refine ia_op (oa_addW rfl rfl (wrap_u8 (by omega) (by omega)) ?_) | refine ia_op (oa_subW rfl rfl (wrap_i64 (by omega) (by omega)) ?_) | refine ia_op (oa_subW rfl rfl (wrap_u64 (by omega) (by omega)) ?_) | refine ia_op (oa_subW rfl rfl (wrap_u8 (by omega) (by omega)) ?_) | refine ia_op (oa_not rfl ?_) | refine ia_op (oa_extract rfl rfl ?_) | refine ia_op (oa_convW (by first | with_reducible exact un_2 | with_reducible exact un_182 | with_reducible exact un_3 | with_reducible exact un_5 | with_reducible exact un_181 | with_reducible exact un_183 | with_reducible exact un_9 | with_reducible exact un_41 | with_reducible exact un_39 | with_reducible exact un_27) (by first | with_reducible exact un_2 | with_reducible exact un_182 | with_reducible exact un_3 | with_reducible exact un_5 | with_reducible exact un_181 | with_reducible exact un_183 | with_reducible exact un_9 | with_reducible exact un_41 | with_reducible exact un_39 | with_reducible exact un_27) rfl (wrap_i64 (by omega) (by omega)) ?_) | refine ia_op (oa_convW (by first | with_reducible exact un_2 | with_reducible exact un_182 | with_reducible exact un_3 | with_reducible exact un_5 | with_reducible exact un_181 | with_reducible exact un_183 | with_reducible exact un_9 | with_reducible exact un_41 | with_reducible exact un_39 | with_reducible exact un_27) (by first | with_reducible exact un_2 | with_reducible exact un_182 | with_reducible exact un_3 | with_reducible exact un_5 | with_reducible exact un_181 | with_reducible exact un_183 | with_reducible exact un_9 | with_reducible exact un_41 | with_reducible exact un_39 | with_reducible exact un_27) rfl (wrap_u64 (by omega) (by omega)) ?_) | refine ia_op (oa_convW (by first | with_reducible exact un_2 | with_reducible exact un_182 | with_reducible exact un_3 | with_reducible exact un_5 | with_reducible exact un_181 | with_reducible exact un_183 | with_reducible exact un_9 | with_reducible exact un_41 | with_reducible exact un_39 | with_reducible exact un_27) (by first | with_reducible exact un_2 | with_reducible exact un_182 | with_reducible exact un_3 | with_reducible exact un_5 | with_reducible exact un_181 | with_reducible exact un_183 | with_reducible exact un_9 | with_reducible exact un_41 | with_reducible exact un_39 | with_reducible exact un_27) rfl (wrap_u8 (by omega) (by omega)) ?_)))
  refine ia_nil (va_block ?_)
  refine va_loop (fun (i : Nat) => [(0, v), (1, .int .i64 p), (2, .int .i64 m), (7, .int .i64 (i : Int))]) (fun i H' => H' = H ∧ i ≤ rs.length ∧ (0 ≤ m → findR p m (rs.drop i) i = foundR rs p m)) (fun i => rs.length - i) ?_ 0 _ H ⟨rfl, rfl, rfl, rfl, trivial⟩ ⟨rfl, Nat.zero_le _, fun h => by rw [foundR, if_neg (by omega)]; rfl⟩
  rintro i H1 ⟨rfl, hle, hf⟩
  refine va_seq (va_seqr ?_)
  refine ia_op (oa_move rfl (ia_op (oa_move rfl ?_)))
  refine ia_op (oa_lenSl rfl rfl rfl (by first | with_reducible exact un_2 | with_reducible exact un_182 | with_reducible exact un_3 | with_reducible exact un_5 | with_reducible exact un_181 | with_reducible exact un_183 | with_reducible exact un_9 | with_reducible exact un_41 | with_reducible exact un_39 | with_reducible exact un_27) rfl hv ?_)
  by_cases hi : i = rs.length
  · refine ia_op (oa_lssW rfl rfl (decide_eq_false (by omega)) (ia_nil (va_condF rfl (va_exit (va_seqr ?_)))))
    refine ia_op (oa_assign rfl (ia_nil (va_ret ⟨_, rfl, ?_⟩)))
    by_cases hm : m < 0
    · rw [foundR, if_pos hm] at hQ; exact hQ
    · rw [← hf (by omega), hi, List.drop_length] at hQ; exact hQ
  have hlt : i < rs.length := by omega
  refine ia_op (oa_lssW rfl rfl (decide_eq_true (by omega)) (ia_nil (va_condT rfl (va_skip ?_))))
  obtain ⟨r, hr⟩ : ∃ r, rs[i]? = some r := ⟨_, List.getElem?_eq_getElem hlt⟩
  have hchunk := flat_chunk rwC_len rs i r hr
  rw [findR_drop hr] at hf
  refine va_seq (va_block (va_seqr ?_))
  refine ia_op (oa_move rfl ?_)
  have next : ∀ l2 : Fm, (0 ≤ m → findR p m (rs.drop (i + 1)) (i + 1) = foundR rs p m) → Sb [(0, v), (1, .int .i64 p), (2, .int .i64 m), (7, .int .i64 (i : Int))] l2 → VA Tryz.prog tb gl (.reg [.op (some 12) (.move (.tmp 7)), .op (some 13) (.binOp .add 3 (.tmp 12) (.const (.int .i64 1)) 3), .op (some 7) (.assign (.tmp 13))]) l2 H1
      (roundA (fun (i : Nat) => [(0, v), (1, .int .i64 p), (2, .int .i64 m), (7, .int .i64 (i : Int))]) (fun i H' => H' = H1 ∧ i ≤ rs.length ∧ (0 ≤ m → findR p m (rs.drop i) i = foundR rs p m)) (fun i => rs.length - i) i
        (exitA 0 (seqA Tryz.prog tb gl v18t2 (leftA [.tmp 6] Q)))) := by
    intro l2 hf2 h2
    refine VA.sub h2 (va_reg ?_)
    refine ia_op (oa_move rfl ?_)
    refine ia_op (oa_addW (c := ((i + 1 : Nat) : Int)) rfl rfl (wrapE_i64 (by omega) (by omega) (by omega)) ?_)
    refine ia_op (oa_assign rfl (ia_nil ⟨i + 1, ?_, ⟨rfl, rfl, rfl, rfl, trivial⟩, rfl, by omega, hf2⟩))
    show rs.length - (i + 1) < rs.length - i
    omega
  by_cases hm : m < 0
  · refine ia_op (oa_geqW rfl rfl (decide_eq_false (by omega)) ?_)
    refine ia_op (oa_move rfl ?_)
    iterate 7 refine ia_gdN rfl ?_
    refine ia_op (oa_pickF rfl rfl ?_)
    refine ia_op (oa_move rfl ?_)
    iterate 7 refine ia_gdN rfl ?_
    refine ia_op (oa_pickF rfl rfl (ia_nil (va_condF rfl (va_skip (next _ (fun h => by omega) ⟨rfl, rfl, rfl, rfl, trivial⟩)))))
  have hf := hf (by omega)
  refine ia_op (oa_geqW rfl rfl (decide_eq_true (by omega)) ?_)
  refine ia_op (oa_move rfl ?_)
  refine ia_gdY rfl (oa_move rfl (ia_gdY rfl (oa_move rfl ?_)))
  refine ia_gdY rfl (oa_indexSl (by first | with_reducible exact un_2 | with_reducible exact un_182 | with_reducible exact un_3 | with_reducible exact un_5 | with_reducible exact un_181 | with_reducible exact un_183 | with_reducible exact un_9 | with_reducible exact un_41 | with_reducible exact un_39 | with_reducible exact un_27) (by first | with_reducible exact sz_5 | with_reducible exact sz_9 | with_reducible exact sz_40 | with_reducible exact sz_32) rfl hv rfl rfl hlt fun q0 hp => ?_)
  rw [hchunk] at hp
  refine ia_gdY rfl (oa_pfieldAddr (by first | with_reducible exact fp_40_0 | with_reducible exact fp_40_1 | with_reducible exact fp_40_2 | with_reducible exact fp_32_1 | with_reducible exact fp_32_2) (by decide) rfl hp fun q1 hp' => ?_)
  refine ia_gdY rfl (oa_pload (by first | with_reducible exact pl_9 | with_reducible exact pl_3 | with_reducible exact pl_32) rfl hp' rfl ?_)
  refine ia_gdY rfl (oa_move rfl ?_)
  by_cases c1 : r.proc = p
  · refine ia_gdY rfl (oa_eqlW rfl rfl (decide_eq_true c1) ?_)
    refine ia_op (oa_pickT rfl rfl rfl ?_)
    refine ia_op (oa_move rfl ?_)
    refine ia_gdY rfl (oa_move rfl (ia_gdY rfl (oa_move rfl ?_)))
    refine ia_gdY rfl (oa_indexSl (by first | with_reducible exact un_2 | with_reducible exact un_182 | with_reducible exact un_3 | with_reducible exact un_5 | with_reducible exact un_181 | with_reducible exact un_183 | with_reducible exact un_9 | with_reducible exact un_41 | with_reducible exact un_39 | with_reducible exact un_27) (by first | with_reducible exact sz_5 | with_reducible exact sz_9 | with_reducible exact sz_40 | with_reducible exact sz_32) rfl hv rfl rfl hlt fun q0 hp => ?_)
    rw [hchunk] at hp
    refine ia_gdY rfl (oa_pfieldAddr (by first | with_reducible exact fp_40_0 | with_reducible exact fp_40_1 | with_reducible exact fp_40_2 | with_reducible exact fp_32_1 | with_reducible exact fp_32_2) (by decide) rfl hp fun q1 hp' => ?_)
    refine ia_gdY rfl (oa_pload (by first | with_reducible exact pl_9 | with_reducible exact pl_3 | with_reducible exact pl_32) rfl hp' rfl ?_)
    refine ia_gdY rfl (oa_move rfl ?_)
    by_cases c2 : r.mark = m
    · refine ia_gdY rfl (oa_eqlW rfl rfl (decide_eq_true c2) ?_)
      refine ia_op (oa_pickT rfl rfl rfl (ia_nil (va_condT rfl (va_seqr ?_))))
      refine ia_op (oa_move rfl ?_)
      refine ia_op (oa_assign rfl (ia_nil (va_ret ⟨_, rfl, ?_⟩)))
      rw [← hf, if_pos ⟨c1, c2⟩] at hQ
      exact hQ
    · refine ia_gdY rfl (oa_eqlW rfl rfl (decide_eq_false c2) ?_)
      rw [if_neg fun h => c2 h.2] at hf
      refine ia_op (oa_pickT rfl rfl rfl (ia_nil (va_condF rfl (va_skip (next _ (fun _ => hf) ⟨rfl, rfl, rfl, rfl, trivial⟩)))))
  · refine ia_gdY rfl (oa_eqlW rfl rfl (decide_eq_false c1) ?_)
    refine ia_op (oa_pickT rfl rfl rfl ?_)
    refine ia_op (oa_move rfl ?_)
    iterate 7 refine ia_gdN rfl ?_
    rw [if_neg fun h => c1 h.1] at hf
    refine ia_op (oa_pickF rfl rfl (ia_nil (va_condF rfl (va_skip (next _ (fun _ => hf) ⟨rfl, rfl, rfl, rfl, trivial⟩)))))
end
end Go.Proofs.YtalnmaalhocjfaaGreatDoor
