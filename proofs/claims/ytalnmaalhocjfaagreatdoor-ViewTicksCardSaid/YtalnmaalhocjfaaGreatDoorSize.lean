/-
  Programs as arguments: how large they are (parallaxref03: ExprSize, StmtsSize, Size), walked. Conditions: what IsE, IsS, IsPg say.
-/
import Derived.Test.YtalnmaalhocjfaaGreatDoorTxt
import Derived.Test.YtalnmaalhocjfaaGreatDoorCore9
namespace Go.Proofs.YtalnmaalhocjfaaGreatDoor
open Go Go.Proofs.YtalnmaalhocjfaaGreatDoor.Eng
/-! facts about types -/
theorem sz_193 : szOf Tryz.prog 193 = some 4 := by kernel_rfl
instance isz_193 : SzF Tryz.prog 193 4 := ⟨sz_193⟩
theorem fp_193_1 : fieldPlc Tryz.prog 193 1 = some ⟨1, false, 1⟩ := by kernel_rfl
instance ifp_193_1 : FpF Tryz.prog 193 1 ⟨1, false, 1⟩ := ⟨fp_193_1⟩
theorem fp_193_3 : fieldPlc Tryz.prog 193 3 = some ⟨3, false, 1⟩ := by kernel_rfl
instance ifp_193_3 : FpF Tryz.prog 193 3 ⟨3, false, 1⟩ := ⟨fp_193_3⟩
theorem pl_164 : plcOf Tryz.prog 164 0 = some ⟨0, false, 1⟩ := by kernel_rfl
instance ipl_164 : PlF Tryz.prog 164 ⟨0, false, 1⟩ := ⟨pl_164⟩
theorem un_164 : Tryz.prog.underlying 164 = some (.slice 193) := by kernel_rfl
instance iun_164 : UnF Tryz.prog 164 (.slice 193) := ⟨un_164⟩
theorem el_164 : elemI Tryz.prog 164 = some ⟨193, 4, .agg [.int .i64 0, .str 0 0, .int .i64 0, .nils]⟩ := by kernel_rfl
instance iel_164 : ElF Tryz.prog 164 ⟨193, 4, .agg [.int .i64 0, .str 0 0, .int .i64 0, .nils]⟩ := ⟨el_164⟩
theorem pl_193 : plcOf Tryz.prog 193 0 = some ⟨0, true, 4⟩ := by kernel_rfl
instance ipl_193 : PlF Tryz.prog 193 ⟨0, true, 4⟩ := ⟨pl_193⟩
theorem un_83 : Tryz.prog.underlying 83 = some (.slice 166) := by kernel_rfl
instance iun_83 : UnF Tryz.prog 83 (.slice 166) := ⟨un_83⟩
theorem el_83 : elemI Tryz.prog 83 = some ⟨166, 7, .agg [.int .i64 0, .str 0 0, .str 0 0, .int .i64 0, .nils, .nils, .nils]⟩ := by kernel_rfl
instance iel_83 : ElF Tryz.prog 83 ⟨166, 7, .agg [.int .i64 0, .str 0 0, .str 0 0, .int .i64 0, .nils, .nils, .nils]⟩ := ⟨el_83⟩
theorem sz_166 : szOf Tryz.prog 166 = some 7 := by kernel_rfl
instance isz_166 : SzF Tryz.prog 166 7 := ⟨sz_166⟩
theorem fp_166_1 : fieldPlc Tryz.prog 166 1 = some ⟨1, false, 1⟩ := by kernel_rfl
instance ifp_166_1 : FpF Tryz.prog 166 1 ⟨1, false, 1⟩ := ⟨fp_166_1⟩
theorem fp_166_2 : fieldPlc Tryz.prog 166 2 = some ⟨2, false, 1⟩ := by kernel_rfl
instance ifp_166_2 : FpF Tryz.prog 166 2 ⟨2, false, 1⟩ := ⟨fp_166_2⟩
theorem fp_166_4 : fieldPlc Tryz.prog 166 4 = some ⟨4, false, 1⟩ := by kernel_rfl
instance ifp_166_4 : FpF Tryz.prog 166 4 ⟨4, false, 1⟩ := ⟨fp_166_4⟩
theorem fp_166_5 : fieldPlc Tryz.prog 166 5 = some ⟨5, false, 1⟩ := by kernel_rfl
instance ifp_166_5 : FpF Tryz.prog 166 5 ⟨5, false, 1⟩ := ⟨fp_166_5⟩
theorem pl_83 : plcOf Tryz.prog 83 0 = some ⟨0, false, 1⟩ := by kernel_rfl
instance ipl_83 : PlF Tryz.prog 83 ⟨0, false, 1⟩ := ⟨pl_83⟩
theorem fp_166_6 : fieldPlc Tryz.prog 166 6 = some ⟨6, false, 1⟩ := by kernel_rfl
instance ifp_166_6 : FpF Tryz.prog 166 6 ⟨6, false, 1⟩ := ⟨fp_166_6⟩
theorem sz_24 : szOf Tryz.prog 24 = some 1 := by kernel_rfl
instance isz_24 : SzF Tryz.prog 24 1 := ⟨sz_24⟩
theorem fp_24_0 : fieldPlc Tryz.prog 24 0 = some ⟨0, false, 1⟩ := by kernel_rfl
instance ifp_24_0 : FpF Tryz.prog 24 0 ⟨0, false, 1⟩ := ⟨fp_24_0⟩
theorem pl_22 : plcOf Tryz.prog 22 0 = some ⟨0, false, 1⟩ := by kernel_rfl
instance ipl_22 : PlF Tryz.prog 22 ⟨0, false, 1⟩ := ⟨pl_22⟩
theorem un_22 : Tryz.prog.underlying 22 = some (.slice 85) := by kernel_rfl
instance iun_22 : UnF Tryz.prog 22 (.slice 85) := ⟨un_22⟩
theorem el_22 : elemI Tryz.prog 22 = some ⟨85, 4, .agg [.str 0 0, .nils, .int .i64 0, .nils]⟩ := by kernel_rfl
instance iel_22 : ElF Tryz.prog 22 ⟨85, 4, .agg [.str 0 0, .nils, .int .i64 0, .nils]⟩ := ⟨el_22⟩
theorem sz_85 : szOf Tryz.prog 85 = some 4 := by kernel_rfl
instance isz_85 : SzF Tryz.prog 85 4 := ⟨sz_85⟩
theorem fp_85_0 : fieldPlc Tryz.prog 85 0 = some ⟨0, false, 1⟩ := by kernel_rfl
instance ifp_85_0 : FpF Tryz.prog 85 0 ⟨0, false, 1⟩ := ⟨fp_85_0⟩
theorem fp_85_1 : fieldPlc Tryz.prog 85 1 = some ⟨1, false, 1⟩ := by kernel_rfl
instance ifp_85_1 : FpF Tryz.prog 85 1 ⟨1, false, 1⟩ := ⟨fp_85_1⟩
theorem pl_82 : plcOf Tryz.prog 82 0 = some ⟨0, false, 1⟩ := by kernel_rfl
instance ipl_82 : PlF Tryz.prog 82 ⟨0, false, 1⟩ := ⟨pl_82⟩
theorem un_82 : Tryz.prog.underlying 82 = some (.slice 98) := by kernel_rfl
instance iun_82 : UnF Tryz.prog 82 (.slice 98) := ⟨un_82⟩
theorem el_82 : elemI Tryz.prog 82 = some ⟨98, 2, .agg [.str 0 0, .int .i64 0]⟩ := by kernel_rfl
instance iel_82 : ElF Tryz.prog 82 ⟨98, 2, .agg [.str 0 0, .int .i64 0]⟩ := ⟨el_82⟩
theorem sz_98 : szOf Tryz.prog 98 = some 2 := by kernel_rfl
instance isz_98 : SzF Tryz.prog 98 2 := ⟨sz_98⟩
theorem fp_98_0 : fieldPlc Tryz.prog 98 0 = some ⟨0, false, 1⟩ := by kernel_rfl
instance ifp_98_0 : FpF Tryz.prog 98 0 ⟨0, false, 1⟩ := ⟨fp_98_0⟩
theorem fp_85_3 : fieldPlc Tryz.prog 85 3 = some ⟨3, false, 1⟩ := by kernel_rfl
instance ifp_85_3 : FpF Tryz.prog 85 3 ⟨3, false, 1⟩ := ⟨fp_85_3⟩
/-! f86: parallax/parallaxref03.ExprSize, parameters #[193, 3] -/
def v86l0h0 : CV := .seq (.reg [.op (some 12) (.move (.tmp 6)),
    .op (some 13) (.fieldAddr 193 (.tmp 2) 3),
    .op (some 14) (.load 164 (.tmp 13)),
    .op (some 15) (.call ⟨.builtin .len, #[(.tmp 14)], #[164]⟩),
    .op (some 16) (.binOp .lss 3 (.tmp 12) (.tmp 15) 3),
    .op (some 17) (.move (.tmp 16)),
    .gd 17 true (some 18) (.move (.tmp 5)),
    .gd 17 true (some 19) (.move (.tmp 1)),
    .gd 17 true (some 20) (.binOp .leq 3 (.tmp 18) (.tmp 19) 3),
    .op (some 21) (.pick (.tmp 17) (.tmp 20) (.const (.bool false)))])
  (.cond (.tmp 21) (.skip) (.exit 0))
def v86l0t1 : CV := .seq (.block 1 (.reg [.op (some 24) (.move (.tmp 5)),
    .op (some 25) (.fieldAddr 193 (.tmp 2) 3),
    .op (some 26) (.load 164 (.tmp 25)),
    .op (some 27) (.move (.tmp 6)),
    .op (some 28) (.indexAddr 164 (.tmp 26) (.tmp 27)),
    .op (some 29) (.load 193 (.tmp 28)),
    .op (some 30) (.move (.tmp 1)),
    .op (some 31) (.move (.tmp 5)),
    .op (some 32) (.binOp .sub 3 (.tmp 30) (.tmp 31) 3),
    .op (some 33) (.call ⟨.value (.func 86), #[(.tmp 29), (.tmp 32)], #[193, 3]⟩),
    .op (some 34) (.binOp .add 3 (.tmp 24) (.tmp 33) 3),
    .op (some 5) (.assign (.tmp 34))]))
  (.reg [.op (some 22) (.move (.tmp 6)),
    .op (some 23) (.binOp .add 3 (.tmp 22) (.const (.int .i64 1)) 3),
    .op (some 6) (.assign (.tmp 23))])
def v86l0 : CV := .seq v86l0h0 v86l0t1
def v86h2 : CV := .seq (.reg [.op (some 6) (.assign (.const (.int .i64 0)))])
  (.block 0 (.loop v86l0))
def v86t3 : CV := .seq (.reg [.op (some 35) (.move (.tmp 5)),
    .op (some 4) (.assign (.tmp 35))])
  (.ret)
def v86t2 : CV := .seq v86h2 v86t3
def v86t1 : CV := .seq (.reg [.op (some 7) (.fieldAddr 193 (.tmp 2) 1),
    .op (some 8) (.load 9 (.tmp 7)),
    .op (some 9) (.call ⟨.builtin .len, #[(.tmp 8)], #[9]⟩),
    .op (some 10) (.binOp .quo 3 (.tmp 9) (.const (.int .i64 8)) 3),
    .op (some 11) (.binOp .add 3 (.const (.int .i64 1)) (.tmp 10) 3),
    .op (some 5) (.assign (.tmp 11))]) v86t2
def v86 : CV := .seq (.reg [.op (some 2) (.box 193 (.tmp 0)),
    .op (some 4) (.assign (.const (.int .i64 0)))]) v86t1
noncomputable def b86 : Code := Tryz.f86.body.getD .skip
theorem b86_eq : Tryz.f86.body = some b86 := by kernel_rfl
theorem v86_eq : viewC Tryz.prog b86 = some v86 := by kernel_rfl
theorem r86_eq : Tryz.f86.results.toList = [.tmp 4] := by kernel_rfl
/-! f43: parallax/parallaxref03.StmtsSize, parameters #[83, 3] -/
def v43l0h0 : CV := .seq (.reg [.op (some 8) (.move (.tmp 6)),
    .op (some 9) (.move (.tmp 0)),
    .op (some 10) (.call ⟨.builtin .len, #[(.tmp 9)], #[83]⟩),
    .op (some 11) (.binOp .lss 3 (.tmp 8) (.tmp 10) 3),
    .op (some 12) (.move (.tmp 11)),
    .gd 12 true (some 13) (.move (.tmp 5)),
    .gd 12 true (some 14) (.move (.tmp 1)),
    .gd 12 true (some 15) (.binOp .leq 3 (.tmp 13) (.tmp 14) 3),
    .op (some 16) (.pick (.tmp 12) (.tmp 15) (.const (.bool false)))])
  (.cond (.tmp 16) (.skip) (.exit 0))
def v43l1h0 : CV := .seq (.reg [.op (some 37) (.move (.tmp 7)),
    .op (some 38) (.move (.tmp 0)),
    .op (some 39) (.move (.tmp 6)),
    .op (some 40) (.indexAddr 83 (.tmp 38) (.tmp 39)),
    .op (some 41) (.fieldAddr 166 (.tmp 40) 4),
    .op (some 42) (.load 164 (.tmp 41)),
    .op (some 43) (.call ⟨.builtin .len, #[(.tmp 42)], #[164]⟩),
    .op (some 44) (.binOp .lss 3 (.tmp 37) (.tmp 43) 3),
    .op (some 45) (.move (.tmp 44)),
    .gd 45 true (some 46) (.move (.tmp 5)),
    .gd 45 true (some 47) (.move (.tmp 1)),
    .gd 45 true (some 48) (.binOp .leq 3 (.tmp 46) (.tmp 47) 3),
    .op (some 49) (.pick (.tmp 45) (.tmp 48) (.const (.bool false)))])
  (.cond (.tmp 49) (.skip) (.exit 2))
def v43l1t1 : CV := .seq (.block 3 (.reg [.op (some 52) (.move (.tmp 5)),
    .op (some 53) (.move (.tmp 0)),
    .op (some 54) (.move (.tmp 6)),
    .op (some 55) (.indexAddr 83 (.tmp 53) (.tmp 54)),
    .op (some 56) (.fieldAddr 166 (.tmp 55) 4),
    .op (some 57) (.load 164 (.tmp 56)),
    .op (some 58) (.move (.tmp 7)),
    .op (some 59) (.indexAddr 164 (.tmp 57) (.tmp 58)),
    .op (some 60) (.load 193 (.tmp 59)),
    .op (some 61) (.move (.tmp 1)),
    .op (some 62) (.move (.tmp 5)),
    .op (some 63) (.binOp .sub 3 (.tmp 61) (.tmp 62) 3),
    .op (some 64) (.call ⟨.value (.func 86), #[(.tmp 60), (.tmp 63)], #[193, 3]⟩),
    .op (some 65) (.binOp .add 3 (.tmp 52) (.tmp 64) 3),
    .op (some 5) (.assign (.tmp 65))]))
  (.reg [.op (some 50) (.move (.tmp 7)),
    .op (some 51) (.binOp .add 3 (.tmp 50) (.const (.int .i64 1)) 3),
    .op (some 7) (.assign (.tmp 51))])
def v43l1 : CV := .seq v43l1h0 v43l1t1
def v43k0h1 : CV := .seq (.reg [.op (some 7) (.assign (.const (.int .i64 0)))])
  (.block 2 (.loop v43l1))
def v43k0t2 : CV := .seq (.reg [.op (some 66) (.move (.tmp 5)),
    .op (some 67) (.move (.tmp 0)),
    .op (some 68) (.move (.tmp 6)),
    .op (some 69) (.indexAddr 83 (.tmp 67) (.tmp 68)),
    .op (some 70) (.fieldAddr 166 (.tmp 69) 5),
    .op (some 71) (.load 83 (.tmp 70)),
    .op (some 72) (.move (.tmp 1)),
    .op (some 73) (.move (.tmp 5)),
    .op (some 74) (.binOp .sub 3 (.tmp 72) (.tmp 73) 3),
    .op (some 75) (.call ⟨.value (.func 43), #[(.tmp 71), (.tmp 74)], #[83, 3]⟩),
    .op (some 76) (.binOp .add 3 (.tmp 66) (.tmp 75) 3),
    .op (some 5) (.assign (.tmp 76))])
  (.reg [.op (some 77) (.move (.tmp 5)),
    .op (some 78) (.move (.tmp 0)),
    .op (some 79) (.move (.tmp 6)),
    .op (some 80) (.indexAddr 83 (.tmp 78) (.tmp 79)),
    .op (some 81) (.fieldAddr 166 (.tmp 80) 6),
    .op (some 82) (.load 83 (.tmp 81)),
    .op (some 83) (.move (.tmp 1)),
    .op (some 84) (.move (.tmp 5)),
    .op (some 85) (.binOp .sub 3 (.tmp 83) (.tmp 84) 3),
    .op (some 86) (.call ⟨.value (.func 43), #[(.tmp 82), (.tmp 85)], #[83, 3]⟩),
    .op (some 87) (.binOp .add 3 (.tmp 77) (.tmp 86) 3),
    .op (some 5) (.assign (.tmp 87))])
def v43k0t1 : CV := .seq v43k0h1 v43k0t2
def v43k0 : CV := .seq (.reg [.op (some 19) (.move (.tmp 5)),
    .op (some 20) (.binOp .add 3 (.tmp 19) (.const (.int .i64 1)) 3),
    .op (some 21) (.move (.tmp 0)),
    .op (some 22) (.move (.tmp 6)),
    .op (some 23) (.indexAddr 83 (.tmp 21) (.tmp 22)),
    .op (some 24) (.fieldAddr 166 (.tmp 23) 1),
    .op (some 25) (.load 9 (.tmp 24)),
    .op (some 26) (.call ⟨.builtin .len, #[(.tmp 25)], #[9]⟩),
    .op (some 27) (.binOp .quo 3 (.tmp 26) (.const (.int .i64 8)) 3),
    .op (some 28) (.binOp .add 3 (.tmp 20) (.tmp 27) 3),
    .op (some 29) (.move (.tmp 0)),
    .op (some 30) (.move (.tmp 6)),
    .op (some 31) (.indexAddr 83 (.tmp 29) (.tmp 30)),
    .op (some 32) (.fieldAddr 166 (.tmp 31) 2),
    .op (some 33) (.load 9 (.tmp 32)),
    .op (some 34) (.call ⟨.builtin .len, #[(.tmp 33)], #[9]⟩),
    .op (some 35) (.binOp .quo 3 (.tmp 34) (.const (.int .i64 8)) 3),
    .op (some 36) (.binOp .add 3 (.tmp 28) (.tmp 35) 3),
    .op (some 5) (.assign (.tmp 36))]) v43k0t1
def v43l0t1 : CV := .seq (.block 1 v43k0)
  (.reg [.op (some 17) (.move (.tmp 6)),
    .op (some 18) (.binOp .add 3 (.tmp 17) (.const (.int .i64 1)) 3),
    .op (some 6) (.assign (.tmp 18))])
def v43l0 : CV := .seq v43l0h0 v43l0t1
def v43h2 : CV := .seq (.reg [.op (some 6) (.assign (.const (.int .i64 0)))])
  (.block 0 (.loop v43l0))
def v43t3 : CV := .seq (.reg [.op (some 88) (.move (.tmp 5)),
    .op (some 4) (.assign (.tmp 88))])
  (.ret)
def v43t2 : CV := .seq v43h2 v43t3
def v43t1 : CV := .seq (.reg [.op (some 5) (.assign (.const (.int .i64 0)))]) v43t2
def v43 : CV := .seq (.reg [.op (some 4) (.assign (.const (.int .i64 0)))]) v43t1
noncomputable def b43 : Code := Tryz.f43.body.getD .skip
theorem b43_eq : Tryz.f43.body = some b43 := by kernel_rfl
theorem v43_eq : viewC Tryz.prog b43 = some v43 := by kernel_rfl
theorem r43_eq : Tryz.f43.results.toList = [.tmp 4] := by kernel_rfl
/-! f22: parallax/parallaxref03.Size, parameters #[24, 3] -/
def v22l0h0 : CV := .seq (.reg [.op (some 8) (.move (.tmp 6)),
    .op (some 9) (.fieldAddr 24 (.tmp 2) 0),
    .op (some 10) (.load 22 (.tmp 9)),
    .op (some 11) (.call ⟨.builtin .len, #[(.tmp 10)], #[22]⟩),
    .op (some 12) (.binOp .lss 3 (.tmp 8) (.tmp 11) 3),
    .op (some 13) (.move (.tmp 12)),
    .gd 13 true (some 14) (.move (.tmp 5)),
    .gd 13 true (some 15) (.move (.tmp 1)),
    .gd 13 true (some 16) (.binOp .leq 3 (.tmp 14) (.tmp 15) 3),
    .op (some 17) (.pick (.tmp 13) (.tmp 16) (.const (.bool false)))])
  (.cond (.tmp 17) (.skip) (.exit 0))
def v22l1h0 : CV := .seq (.reg [.op (some 39) (.move (.tmp 7)),
    .op (some 40) (.fieldAddr 24 (.tmp 2) 0),
    .op (some 41) (.load 22 (.tmp 40)),
    .op (some 42) (.move (.tmp 6)),
    .op (some 43) (.indexAddr 22 (.tmp 41) (.tmp 42)),
    .op (some 44) (.fieldAddr 85 (.tmp 43) 1),
    .op (some 45) (.load 82 (.tmp 44)),
    .op (some 46) (.call ⟨.builtin .len, #[(.tmp 45)], #[82]⟩),
    .op (some 47) (.binOp .lss 3 (.tmp 39) (.tmp 46) 3),
    .op (some 48) (.move (.tmp 47)),
    .gd 48 true (some 49) (.move (.tmp 5)),
    .gd 48 true (some 50) (.move (.tmp 1)),
    .gd 48 true (some 51) (.binOp .leq 3 (.tmp 49) (.tmp 50) 3),
    .op (some 52) (.pick (.tmp 48) (.tmp 51) (.const (.bool false)))])
  (.cond (.tmp 52) (.skip) (.exit 2))
def v22l1t1 : CV := .seq (.block 3 (.reg [.op (some 55) (.move (.tmp 5)),
    .op (some 56) (.fieldAddr 24 (.tmp 2) 0),
    .op (some 57) (.load 22 (.tmp 56)),
    .op (some 58) (.move (.tmp 6)),
    .op (some 59) (.indexAddr 22 (.tmp 57) (.tmp 58)),
    .op (some 60) (.fieldAddr 85 (.tmp 59) 1),
    .op (some 61) (.load 82 (.tmp 60)),
    .op (some 62) (.move (.tmp 7)),
    .op (some 63) (.indexAddr 82 (.tmp 61) (.tmp 62)),
    .op (some 64) (.fieldAddr 98 (.tmp 63) 0),
    .op (some 65) (.load 9 (.tmp 64)),
    .op (some 66) (.call ⟨.builtin .len, #[(.tmp 65)], #[9]⟩),
    .op (some 67) (.binOp .quo 3 (.tmp 66) (.const (.int .i64 8)) 3),
    .op (some 68) (.binOp .add 3 (.tmp 55) (.tmp 67) 3),
    .op (some 5) (.assign (.tmp 68))]))
  (.reg [.op (some 53) (.move (.tmp 7)),
    .op (some 54) (.binOp .add 3 (.tmp 53) (.const (.int .i64 1)) 3),
    .op (some 7) (.assign (.tmp 54))])
def v22l1 : CV := .seq v22l1h0 v22l1t1
def v22k0h1 : CV := .seq (.reg [.op (some 7) (.assign (.const (.int .i64 0)))])
  (.block 2 (.loop v22l1))
def v22k0t1 : CV := .seq v22k0h1
  (.reg [.op (some 69) (.move (.tmp 5)),
    .op (some 70) (.fieldAddr 24 (.tmp 2) 0),
    .op (some 71) (.load 22 (.tmp 70)),
    .op (some 72) (.move (.tmp 6)),
    .op (some 73) (.indexAddr 22 (.tmp 71) (.tmp 72)),
    .op (some 74) (.fieldAddr 85 (.tmp 73) 3),
    .op (some 75) (.load 83 (.tmp 74)),
    .op (some 76) (.move (.tmp 1)),
    .op (some 77) (.move (.tmp 5)),
    .op (some 78) (.binOp .sub 3 (.tmp 76) (.tmp 77) 3),
    .op (some 79) (.call ⟨.value (.func 43), #[(.tmp 75), (.tmp 78)], #[83, 3]⟩),
    .op (some 80) (.binOp .add 3 (.tmp 69) (.tmp 79) 3),
    .op (some 5) (.assign (.tmp 80))])
def v22k0 : CV := .seq (.reg [.op (some 20) (.move (.tmp 5)),
    .op (some 21) (.binOp .add 3 (.tmp 20) (.const (.int .i64 1)) 3),
    .op (some 22) (.fieldAddr 24 (.tmp 2) 0),
    .op (some 23) (.load 22 (.tmp 22)),
    .op (some 24) (.move (.tmp 6)),
    .op (some 25) (.indexAddr 22 (.tmp 23) (.tmp 24)),
    .op (some 26) (.fieldAddr 85 (.tmp 25) 0),
    .op (some 27) (.load 9 (.tmp 26)),
    .op (some 28) (.call ⟨.builtin .len, #[(.tmp 27)], #[9]⟩),
    .op (some 29) (.binOp .quo 3 (.tmp 28) (.const (.int .i64 8)) 3),
    .op (some 30) (.binOp .add 3 (.tmp 21) (.tmp 29) 3),
    .op (some 31) (.fieldAddr 24 (.tmp 2) 0),
    .op (some 32) (.load 22 (.tmp 31)),
    .op (some 33) (.move (.tmp 6)),
    .op (some 34) (.indexAddr 22 (.tmp 32) (.tmp 33)),
    .op (some 35) (.fieldAddr 85 (.tmp 34) 1),
    .op (some 36) (.load 82 (.tmp 35)),
    .op (some 37) (.call ⟨.builtin .len, #[(.tmp 36)], #[82]⟩),
    .op (some 38) (.binOp .add 3 (.tmp 30) (.tmp 37) 3),
    .op (some 5) (.assign (.tmp 38))]) v22k0t1
def v22l0t1 : CV := .seq (.block 1 v22k0)
  (.reg [.op (some 18) (.move (.tmp 6)),
    .op (some 19) (.binOp .add 3 (.tmp 18) (.const (.int .i64 1)) 3),
    .op (some 6) (.assign (.tmp 19))])
def v22l0 : CV := .seq v22l0h0 v22l0t1
def v22h2 : CV := .seq (.reg [.op (some 6) (.assign (.const (.int .i64 0)))])
  (.block 0 (.loop v22l0))
def v22t3 : CV := .seq (.reg [.op (some 81) (.move (.tmp 5)),
    .op (some 4) (.assign (.tmp 81))])
  (.ret)
def v22t2 : CV := .seq v22h2 v22t3
def v22t1 : CV := .seq (.reg [.op (some 5) (.assign (.const (.int .i64 0)))]) v22t2
def v22 : CV := .seq (.reg [.op (some 2) (.box 24 (.tmp 0)),
    .op (some 4) (.assign (.const (.int .i64 0)))]) v22t1
noncomputable def b22 : Code := Tryz.f22.body.getD .skip
theorem b22_eq : Tryz.f22.body = some b22 := by kernel_rfl
theorem v22_eq : viewC Tryz.prog b22 = some v22 := by kernel_rfl
theorem r22_eq : Tryz.f22.results.toList = [.tmp 4] := by kernel_rfl

theorem pgT : PgT Tryz.prog 193 164 166 83 98 82 85 22 24 3 2 9 where
  e := by kernel_rfl
  s := by kernel_rfl
  m := by kernel_rfl
  c := by kernel_rfl
  g := by kernel_rfl
  i := by kernel_rfl
  n := by kernel_rfl
  str := by kernel_rfl
  es := by kernel_rfl
  ss := by kernel_rfl
  ms := by kernel_rfl
  cs := by kernel_rfl
  by_ := by kernel_rfl
/-! ### the plain law -/
mutual
def sizE : Exp → Nat
  | .mk _ s _ l => 1 + s.length / 8 + sizEs l
def sizEs : List Exp → Nat
  | [] => 0
  | e :: l => sizE e + sizEs l
end
mutual
def sizS : Stm → Nat
  | .mk _ s p _ e b d => 1 + s.length / 8 + p.length / 8 + sizEs e + sizSs b + sizSs d
def sizSs : List Stm → Nat
  | [] => 0
  | e :: l => sizS e + sizSs l
end
def sizM : List Prm → Nat
  | [] => 0
  | p :: l => p.name.length / 8 + sizM l
def sizP (p : Prc) : Nat := 1 + p.name.length / 8 + p.params.length + sizM p.params + sizSs p.body
def sizPs : List Prc → Nat
  | [] => 0
  | p :: l => sizP p + sizPs l
theorem sizEs_snoc (e : Exp) : ∀ l : List Exp, sizEs (l ++ [e]) = sizEs l + sizE e
  | [] => by simp [sizEs]
  | x :: l => by simp only [List.cons_append, sizEs, sizEs_snoc e l]; omega
theorem sizSs_snoc (e : Stm) : ∀ l : List Stm, sizSs (l ++ [e]) = sizSs l + sizS e
  | [] => by simp [sizSs]
  | x :: l => by simp only [List.cons_append, sizSs, sizSs_snoc e l]; omega
theorem sizM_snoc (e : Prm) : ∀ l : List Prm, sizM (l ++ [e]) = sizM l + e.name.length / 8
  | [] => by simp [sizM]
  | x :: l => by simp only [List.cons_append, sizM, sizM_snoc e l]; omega
theorem sizPs_snoc (e : Prc) : ∀ l : List Prc, sizPs (l ++ [e]) = sizPs l + sizP e
  | [] => by simp [sizPs]
  | x :: l => by simp only [List.cons_append, sizPs, sizPs_snoc e l]; omega
theorem sizPs_mem {p : Prc} : ∀ {l : List Prc}, p ∈ l → sizP p ≤ sizPs l
  | [], h => by cases h
  | x :: l, h => by
    simp only [sizPs]
    rcases List.mem_cons.1 h with rfl | h
    · omega
    · have := sizPs_mem h; omega
theorem take_snoc {α : Type} {l : List α} {i : Nat} {x : α} (h : l[i]? = some x) : l.take (i + 1) = l.take i ++ [x] := by rw [List.take_add_one, h]; rfl
theorem sizEs_take (l : List Exp) : ∀ i, sizEs (l.take i) ≤ sizEs l := by
  induction l with
  | nil => intro i; simp
  | cons e l ih =>
    intro i
    cases i with
    | zero => simp [sizEs]
    | succ i => simp only [List.take_succ_cons, sizEs]; have := ih i; omega
theorem sizSs_take (l : List Stm) : ∀ i, sizSs (l.take i) ≤ sizSs l := by
  induction l with
  | nil => intro i; simp
  | cons e l ih =>
    intro i
    cases i with
    | zero => simp [sizSs]
    | succ i => simp only [List.take_succ_cons, sizSs]; have := ih i; omega
theorem sizM_take (l : List Prm) : ∀ i, sizM (l.take i) ≤ sizM l := by
  induction l with
  | nil => intro i; simp
  | cons e l ih =>
    intro i
    cases i with
    | zero => simp [sizM]
    | succ i => simp only [List.take_succ_cons, sizM]; have := ih i; omega
theorem sizPs_take (l : List Prc) : ∀ i, sizPs (l.take i) ≤ sizPs l := by
  induction l with
  | nil => intro i; simp
  | cons e l ih =>
    intro i
    cases i with
    | zero => simp [sizPs]
    | succ i => simp only [List.take_succ_cons, sizPs]; have := ih i; omega
/-- what is counted of s, as far as m: s itself, or more than m; 'K' over m at most -/
def Cut (K s : Nat) (m n : Int) : Prop := ((s : Int) ≤ m → n = s) ∧ (m < (s : Int) → m < n) ∧ 0 ≤ n ∧ n ≤ m + K
theorem Cut.add {K s t : Nat} {m n r : Int} (h : Cut K s m n) (hn : n ≤ m) (hr : Cut K t (m - n) r) : Cut K (s + t) m (n + r) := by
  unfold Cut at *
  omega
theorem sizE_eq (e : Exp) : sizE e = 1 + e.name.length / 8 + sizEs e.l := by cases e; simp only [sizE]; rfl
theorem sizS_eq (e : Stm) : sizS e = 1 + e.name.length / 8 + e.proc.length / 8 + sizEs e.e + sizSs e.body + sizSs e.els := by cases e; simp only [sizS]; rfl
/-- an element of a slice of things -/
theorem isLs_elem {α : Type} {R : Heap → List AV → α → Prop} {z : Nat} {H : Heap} {v : AV} {xs : List α} (h : IsLs R z H v xs) : ∃ els : List (List AV), IsSl H v z xs.length els.flatten ∧ ∀ (i : Nat) a, xs[i]? = some a → ∃ c, (els.flatten.drop (i * z)).take z = c ∧ R H c a := by
  obtain ⟨els, h1, h2, h3⟩ := h.len
  refine ⟨els, h1, fun i a ha => ?_⟩
  obtain ⟨c, hc, hr⟩ := h2.get' i a ha
  exact ⟨c, flat_elem h3 i c hc, hr⟩
section
variable {tb : List FuncId} {gl : List (List AV)} {H : Heap} {v w : AV} {Q : AV → Heap → Prop}
def Ke : Nat := 1 + rB
def Ks : Nat := 1 + 2 * rB
set_option maxHeartbeats 0 in
theorem ExprSize_ok : ∀ (k : Nat) {e : Exp} {c : List AV} {m : Int} {H : Heap} {Q : AV → Heap → Prop}, szE e < k → IsE H c e → 0 ≤ m → m ≤ 500 → (∀ n H', Keep Non H H' → Cut Ke (sizE e) m n → Q (.int .i64 n) H') → WpF Tryz.prog tb gl 86 [.agg c, .int .i64 m] H Q
  | 0, _, _, _, _, _, h, _, _, _, _ => by omega
  | k + 1, e, c, m, H, Q, hk, hE, hm0, hm, hQ => by
    have hKe : Ke = 140737488351233 := rfl
    have hrB : rB = 140737488351232 := rfl
    obtain ⟨v, rfl, _, _, hs, hl, hL⟩ := hE.out
    refine fa Tryz.func86 b86_eq v86_eq r86_eq (.inr (by simp)) ?_
    refine va_seqr ?_
    refine ia_op (oa_box rfl fun H1 hk1 hr1 => ?_)
    obtain ⟨b, hb⟩ : ∃ b, b = H.nx := ⟨_, rfl⟩
    rw [← hb] at hr1 ⊢
    have hr1 : IsRow H1 b [.int .i64 e.kind, S e.name, .int .i64 e.num, v] false false := hr1
    refine ia_pl rfl ?_; (repeat ((first | refine ia_op (oa_nilCheck rfl ?_) | refine ia_op (oa_fieldAddr FpF.h (by decide) rfl ?_) | refine ia_op (oa_load1 PlF.h rfl hr1 rfl ?_)); refine ia_pl rfl ?_))
    refine ia_nil (va_seqr ?_)
    refine ia_pl rfl ?_; (repeat ((first | refine ia_op (oa_nilCheck rfl ?_) | refine ia_op (oa_fieldAddr FpF.h (by decide) rfl ?_) | refine ia_op (oa_load1 PlF.h rfl hr1 rfl ?_)); refine ia_pl rfl ?_))
    refine ia_op (oa_lenS rfl rfl rfl UnF.h rfl ?_)
    refine ia_op (oa_quoW (c := ((e.name.length / 8 : Nat) : Int)) rfl rfl (by decide) (wrap_i64 (z := ((e.name.length / 8 : Nat) : Int)) (by omega) (by omega)) ?_)
    refine ia_op (oa_addW (c := ((1 + e.name.length / 8 : Nat) : Int)) rfl rfl (wrapE_i64 (by omega) (by omega) (by omega)) ?_)
    refine ia_pl rfl ?_
    refine ia_nil (va_seq (va_seqr ?_))
    refine ia_pl rfl ?_
    refine ia_nil (va_block ?_)
    have hsz := sizE_eq e
    refine va_loop (fun (a : Nat × Int) => [(1, .int .i64 m), (2, .ptr b 0), (5, .int .i64 a.2), (6, .int .i64 (a.1 : Int))]) (fun a H' => Keep Non H1 H' ∧ a.1 ≤ e.l.length ∧ Cut Ke (1 + e.name.length / 8 + sizEs (e.l.take a.1)) m a.2) (fun a => e.l.length - a.1) ?_ (0, ((1 + e.name.length / 8 : Nat) : Int)) _ H1 ⟨rfl, rfl, rfl, rfl, trivial⟩ ⟨.refl _ _, Nat.zero_le _, by simp only [List.take_zero, sizEs, Cut]; omega⟩
    rintro ⟨i, n⟩ H2 ⟨hk2, hle, hC⟩
    dsimp only at hle hC ⊢
    have hr2 := hr1.keep0 hk2
    have hL2 := (hL.keep (hk1.trans0 hk2) fun _ _ _ h => h.keep (hk1.trans0 hk2))
    obtain ⟨els, hsl, hel⟩ := isLs_elem hL2
    have hlt := sizEs_take e.l i
    refine va_seq (va_seqr ?_)
    refine ia_pl rfl ?_; (repeat ((first | refine ia_op (oa_nilCheck rfl ?_) | refine ia_op (oa_fieldAddr FpF.h (by decide) rfl ?_) | refine ia_op (oa_load1 PlF.h rfl hr2 rfl ?_) | refine ia_op (oa_lenSl rfl rfl rfl UnF.h rfl hsl ?_)); refine ia_pl rfl ?_))
    have hC' := hC
    unfold Cut at hC'
    have fin : (i < e.l.length → m < n) → ∀ l', Sb [(5, .int .i64 n)] l' → VA Tryz.prog tb gl v86t3 l' H2 (leftA [.tmp 4] Q) := by
      intro h l' hs'
      refine VA.sub hs' (va_seqr ?_)
      refine ia_pl rfl ?_
      refine ia_nil (va_ret ⟨_, rfl, hQ _ _ (hk1.trans0 hk2) ?_⟩)
      rw [hsz]
      by_cases hi : i < e.l.length
      · have := h hi
        unfold Cut
        omega
      · rw [List.take_of_length_le (by omega)] at hC
        exact hC
    by_cases hi : i < e.l.length
    rotate_left
    · (repeat (first | refine ia_gdN rfl ?_ | refine ia_gdU rfl ?_ | ((first | refine ia_op ?_ | refine ia_gdY rfl ?_); first | refine oa_move rfl ?_ | refine oa_assign rfl ?_ | refine oa_nilCheck rfl ?_ | refine oa_fieldAddr FpF.h (by decide) rfl ?_ | refine oa_lssF rfl rfl (by omega) ?_ | refine oa_lssT rfl rfl (by omega) ?_ | refine oa_leqF rfl rfl (by omega) ?_ | refine oa_leqT rfl rfl (by omega) ?_ | refine oa_gtrF rfl rfl (by omega) ?_ | refine oa_gtrT rfl rfl (by omega) ?_ | refine oa_geqF rfl rfl (by omega) ?_ | refine oa_geqT rfl rfl (by omega) ?_ | refine oa_eqlF rfl rfl (by omega) ?_ | refine oa_eqlT rfl rfl (by omega) ?_ | refine oa_neqF rfl rfl (by omega) ?_ | refine oa_neqT rfl rfl (by omega) ?_ | refine oa_pickT rfl rfl rfl ?_ | refine oa_pickF rfl rfl ?_ | refine oa_not rfl ?_ | refine oa_extract rfl rfl ?_)))
      refine ia_nil (va_condF rfl (va_exit ?_))
      exact fin (fun h => absurd h hi) _ ⟨rfl, trivial⟩
    by_cases hn : n ≤ m
    rotate_left
    · (repeat (first | refine ia_gdN rfl ?_ | refine ia_gdU rfl ?_ | ((first | refine ia_op ?_ | refine ia_gdY rfl ?_); first | refine oa_move rfl ?_ | refine oa_assign rfl ?_ | refine oa_nilCheck rfl ?_ | refine oa_fieldAddr FpF.h (by decide) rfl ?_ | refine oa_lssF rfl rfl (by omega) ?_ | refine oa_lssT rfl rfl (by omega) ?_ | refine oa_leqF rfl rfl (by omega) ?_ | refine oa_leqT rfl rfl (by omega) ?_ | refine oa_gtrF rfl rfl (by omega) ?_ | refine oa_gtrT rfl rfl (by omega) ?_ | refine oa_geqF rfl rfl (by omega) ?_ | refine oa_geqT rfl rfl (by omega) ?_ | refine oa_eqlF rfl rfl (by omega) ?_ | refine oa_eqlT rfl rfl (by omega) ?_ | refine oa_neqF rfl rfl (by omega) ?_ | refine oa_neqT rfl rfl (by omega) ?_ | refine oa_pickT rfl rfl rfl ?_ | refine oa_pickF rfl rfl ?_ | refine oa_not rfl ?_ | refine oa_extract rfl rfl ?_)))
      refine ia_nil (va_condF rfl (va_exit ?_))
      exact fin (fun _ => by omega) _ ⟨rfl, trivial⟩
    (repeat (first | refine ia_gdN rfl ?_ | refine ia_gdU rfl ?_ | ((first | refine ia_op ?_ | refine ia_gdY rfl ?_); first | refine oa_move rfl ?_ | refine oa_assign rfl ?_ | refine oa_nilCheck rfl ?_ | refine oa_fieldAddr FpF.h (by decide) rfl ?_ | refine oa_lssF rfl rfl (by omega) ?_ | refine oa_lssT rfl rfl (by omega) ?_ | refine oa_leqF rfl rfl (by omega) ?_ | refine oa_leqT rfl rfl (by omega) ?_ | refine oa_gtrF rfl rfl (by omega) ?_ | refine oa_gtrT rfl rfl (by omega) ?_ | refine oa_geqF rfl rfl (by omega) ?_ | refine oa_geqT rfl rfl (by omega) ?_ | refine oa_eqlF rfl rfl (by omega) ?_ | refine oa_eqlT rfl rfl (by omega) ?_ | refine oa_neqF rfl rfl (by omega) ?_ | refine oa_neqT rfl rfl (by omega) ?_ | refine oa_pickT rfl rfl rfl ?_ | refine oa_pickF rfl rfl ?_ | refine oa_not rfl ?_ | refine oa_extract rfl rfl ?_)))
    refine ia_nil (va_condT rfl (va_skip ?_))
    obtain ⟨x, hx⟩ : ∃ x, e.l[i]? = some x := ⟨_, List.getElem?_eq_getElem hi⟩
    obtain ⟨cx, hcx, hEx⟩ := hel i x hx
    obtain ⟨vx, hcx2, _⟩ := hEx.out
    rw [hcx2] at hcx hEx
    have hmem : x ∈ e.l := List.mem_of_getElem? hx
    have hszx : szE x < k := by have := szEs_mem hmem; have h2 : szE e = szEs e.l + 1 := by cases e; simp only [szE]; rfl
                                omega
    refine va_seq (va_block (va_reg ?_))
    refine ia_pl rfl ?_; (repeat ((first | refine ia_op (oa_nilCheck rfl ?_) | refine ia_op (oa_fieldAddr FpF.h (by decide) rfl ?_) | refine ia_op (oa_load1 PlF.h rfl hr2 rfl ?_)); refine ia_pl rfl ?_))
    refine ia_op (oa_indexSl UnF.h SzF.h rfl hsl rfl rfl hi fun q0 hq0 => ?_)
    rw [hcx] at hq0
    refine ia_op (oa_ploadN (k := 4) PlF.h rfl (by decide) rfl hq0 ?_)
    refine ia_pl rfl ?_
    refine ia_op (oa_subW (c := m - n) rfl rfl (wrap_i64 (by omega) (by omega)) ?_)
    refine ia_op (oa_call rfl rfl rfl (ExprSize_ok k hszx hEx (by omega) (by omega) fun r H3 hk3 hr => ?_))
    have hA := hC.add hn hr
    have hA' := hA
    unfold Cut at hA'
    refine ia_op (oa_addW (c := n + r) rfl rfl (wrap_i64 (by omega) (by omega)) ?_)
    refine ia_pl rfl ?_
    refine ia_nil (va_reg ?_)
    refine ia_pl rfl ?_
    refine ia_op (oa_addW (c := ((i + 1 : Nat) : Int)) rfl rfl (wrapE_i64 (by omega) (by omega) (by omega)) ?_)
    refine ia_pl rfl ?_
    refine ia_nil ⟨(i + 1, n + r), ?_, ⟨rfl, rfl, rfl, rfl, trivial⟩, hk2.trans0 hk3, by dsimp only; omega, ?_⟩
    · show e.l.length - (i + 1) < e.l.length - i
      omega
    · dsimp only
      rw [take_snoc hx, sizEs_snoc, ← Nat.add_assoc]
      exact hA
theorem Cut.wide {K L s : Nat} {m n : Int} (h : Cut K s m n) (hk : K ≤ L) : Cut L s m n := by
  unfold Cut at *
  omega
/-- as 'Cut', but where nothing is counted below 0 -/
def CutS (K s : Nat) (m n : Int) : Prop := (m < 0 → n = 0) ∧ (0 ≤ m → Cut K s m n)
theorem Cut.addS {K s t : Nat} {m n r : Int} (h : Cut K s m n) (hr : CutS K t (m - n) r) : Cut K (s + t) m (n + r) := by
  unfold CutS Cut at *
  obtain ⟨h1, h2⟩ := hr
  by_cases hm : m - n < 0
  · have := h1 hm; omega
  · have := h2 (by omega); omega
set_option maxHeartbeats 0 in
theorem StmtsSize_ok : ∀ (k : Nat) {l : List Stm} {v : AV} {m : Int} {H : Heap} {Q : AV → Heap → Prop}, szSs l < k → IsLs IsS 7 H v l → l.length ≤ rB → -1000000000000000 ≤ m → m ≤ 500 → (∀ n H', Keep Non H H' → CutS Ks (sizSs l) m n → Q (.int .i64 n) H') → WpF Tryz.prog tb gl 43 [v, .int .i64 m] H Q
  | 0, _, _, _, _, _, h, _, _, _, _, _ => by omega
  | k + 1, l, v, m, H, Q, hk, hL, hll, hm0, hm, hQ => by
    have hKe : Ke = 140737488351233 := rfl
    have hKs : Ks = 281474976702465 := rfl
    have hrB : rB = 140737488351232 := rfl
    refine fa Tryz.func43 b43_eq v43_eq r43_eq (.inr (by simp)) ?_
    refine va_seqr ?_
    refine ia_pl rfl ?_
    refine ia_nil (va_seqr ?_)
    refine ia_pl rfl ?_
    refine ia_nil (va_seq (va_seqr ?_))
    refine ia_pl rfl ?_
    refine ia_nil (va_block ?_)
    refine va_loop (fun (a : Nat × Int) => [(0, v), (1, .int .i64 m), (5, .int .i64 a.2), (6, .int .i64 (a.1 : Int))]) (fun a H' => Keep Non H H' ∧ a.1 ≤ l.length ∧ ((m < 0 ∧ a.1 = 0 ∧ a.2 = 0) ∨ (0 ≤ m ∧ Cut Ks (sizSs (l.take a.1)) m a.2))) (fun a => l.length - a.1) ?_ (0, 0) _ H ⟨rfl, rfl, rfl, rfl, trivial⟩ ⟨.refl _ _, Nat.zero_le _, (by
      by_cases h : m < 0
      · exact .inl ⟨h, rfl, rfl⟩
      · exact .inr ⟨by omega, by simp only [List.take_zero, sizSs, Cut]; omega⟩)⟩
    rintro ⟨i, n⟩ H2 ⟨hk2, hle, hC⟩
    dsimp only at hle hC ⊢
    have hL2 := (hL.keep hk2 fun _ _ _ h => h.keep hk2)
    obtain ⟨els, hsl, hel⟩ := isLs_elem hL2
    have hlt := sizSs_take l i
    have hC' := hC
    unfold Cut at hC'
    refine va_seq (va_seqr ?_)
    refine ia_pl rfl ?_; (repeat ((first | refine ia_op (oa_lenSl rfl rfl rfl UnF.h rfl hsl ?_)); refine ia_pl rfl ?_))
    have fin : (i < l.length → m < n) → ∀ l', Sb [(5, .int .i64 n)] l' → VA Tryz.prog tb gl v43t3 l' H2 (leftA [.tmp 4] Q) := by
      intro h l' hs'
      refine VA.sub hs' (va_seqr ?_)
      refine ia_pl rfl ?_
      refine ia_nil (va_ret ⟨_, rfl, hQ _ _ hk2 ?_⟩)
      rcases hC with ⟨h1, h2, h3⟩ | ⟨h1, h2⟩
      · exact ⟨fun _ => h3, fun h => absurd h (by omega)⟩
      · refine ⟨fun h => absurd h (by omega), fun _ => ?_⟩
        by_cases hi : i < l.length
        · have := h hi
          unfold Cut at *
          omega
        · rw [List.take_of_length_le (by omega)] at h2
          exact h2
    by_cases hi : i < l.length
    rotate_left
    · (repeat (first | refine ia_gdN rfl ?_ | refine ia_gdU rfl ?_ | ((first | refine ia_op ?_ | refine ia_gdY rfl ?_); first | refine oa_move rfl ?_ | refine oa_assign rfl ?_ | refine oa_nilCheck rfl ?_ | refine oa_fieldAddr FpF.h (by decide) rfl ?_ | refine oa_lssF rfl rfl (by omega) ?_ | refine oa_lssT rfl rfl (by omega) ?_ | refine oa_leqF rfl rfl (by omega) ?_ | refine oa_leqT rfl rfl (by omega) ?_ | refine oa_gtrF rfl rfl (by omega) ?_ | refine oa_gtrT rfl rfl (by omega) ?_ | refine oa_geqF rfl rfl (by omega) ?_ | refine oa_geqT rfl rfl (by omega) ?_ | refine oa_eqlF rfl rfl (by omega) ?_ | refine oa_eqlT rfl rfl (by omega) ?_ | refine oa_neqF rfl rfl (by omega) ?_ | refine oa_neqT rfl rfl (by omega) ?_ | refine oa_pickT rfl rfl rfl ?_ | refine oa_pickF rfl rfl ?_ | refine oa_not rfl ?_ | refine oa_extract rfl rfl ?_)))
      refine ia_nil (va_condF rfl (va_exit ?_))
      exact fin (fun h => absurd h hi) _ ⟨rfl, trivial⟩
    by_cases hn : n ≤ m
    rotate_left
    · (repeat (first | refine ia_gdN rfl ?_ | refine ia_gdU rfl ?_ | ((first | refine ia_op ?_ | refine ia_gdY rfl ?_); first | refine oa_move rfl ?_ | refine oa_assign rfl ?_ | refine oa_nilCheck rfl ?_ | refine oa_fieldAddr FpF.h (by decide) rfl ?_ | refine oa_lssF rfl rfl (by omega) ?_ | refine oa_lssT rfl rfl (by omega) ?_ | refine oa_leqF rfl rfl (by omega) ?_ | refine oa_leqT rfl rfl (by omega) ?_ | refine oa_gtrF rfl rfl (by omega) ?_ | refine oa_gtrT rfl rfl (by omega) ?_ | refine oa_geqF rfl rfl (by omega) ?_ | refine oa_geqT rfl rfl (by omega) ?_ | refine oa_eqlF rfl rfl (by omega) ?_ | refine oa_eqlT rfl rfl (by omega) ?_ | refine oa_neqF rfl rfl (by omega) ?_ | refine oa_neqT rfl rfl (by omega) ?_ | refine oa_pickT rfl rfl rfl ?_ | refine oa_pickF rfl rfl ?_ | refine oa_not rfl ?_ | refine oa_extract rfl rfl ?_)))
      refine ia_nil (va_condF rfl (va_exit ?_))
      exact fin (fun _ => by omega) _ ⟨rfl, trivial⟩
    (repeat (first | refine ia_gdN rfl ?_ | refine ia_gdU rfl ?_ | ((first | refine ia_op ?_ | refine ia_gdY rfl ?_); first | refine oa_move rfl ?_ | refine oa_assign rfl ?_ | refine oa_nilCheck rfl ?_ | refine oa_fieldAddr FpF.h (by decide) rfl ?_ | refine oa_lssF rfl rfl (by omega) ?_ | refine oa_lssT rfl rfl (by omega) ?_ | refine oa_leqF rfl rfl (by omega) ?_ | refine oa_leqT rfl rfl (by omega) ?_ | refine oa_gtrF rfl rfl (by omega) ?_ | refine oa_gtrT rfl rfl (by omega) ?_ | refine oa_geqF rfl rfl (by omega) ?_ | refine oa_geqT rfl rfl (by omega) ?_ | refine oa_eqlF rfl rfl (by omega) ?_ | refine oa_eqlT rfl rfl (by omega) ?_ | refine oa_neqF rfl rfl (by omega) ?_ | refine oa_neqT rfl rfl (by omega) ?_ | refine oa_pickT rfl rfl rfl ?_ | refine oa_pickF rfl rfl ?_ | refine oa_not rfl ?_ | refine oa_extract rfl rfl ?_)))
    refine ia_nil (va_condT rfl (va_skip ?_))
    have hm' : 0 ≤ m := by omega
    have hC1 : Cut Ks (sizSs (l.take i)) m n := by
      rcases hC with ⟨h1, _⟩ | ⟨_, h2⟩
      · omega
      · exact h2
    obtain ⟨x, hx⟩ : ∃ x, l[i]? = some x := ⟨_, List.getElem?_eq_getElem hi⟩
    obtain ⟨cx, hcx, hSx⟩ := hel i x hx
    obtain ⟨vx, wx, ux, hcx2, _, _, hs1, hs2, hl1, hl2, hl3, hE1, hB1, hD1⟩ := hSx.out
    rw [hcx2] at hcx
    have hmem : x ∈ l := List.mem_of_getElem? hx
    have hszx : szSs x.body < k ∧ szSs x.els < k := by
      have h1 := szSs_mem hmem
      have h2 : szS x = szSs x.body + szSs x.els + 1 := by cases x; simp only [szS]; rfl
      omega
    refine va_seq (va_block ?_)
    refine va_seqr ?_
    refine ia_pl rfl ?_
    refine ia_op (oa_addW (c := n + 1) rfl rfl (wrap_i64 (by omega) (by omega)) ?_)
    refine ia_pl rfl ?_
    refine ia_op (oa_indexSl UnF.h SzF.h rfl hsl rfl rfl hi fun q0 hq0 => ?_)
    rw [hcx] at hq0
    refine ia_op (oa_pfieldAddr FpF.h (by decide) rfl hq0 fun q1 hq1 => ?_)
    refine ia_op (oa_pload PlF.h rfl hq1 rfl ?_)
    refine ia_op (oa_lenS rfl rfl rfl UnF.h rfl ?_)
    refine ia_op (oa_quoW (c := ((x.name.length / 8 : Nat) : Int)) rfl rfl (by decide) (wrap_i64 (z := ((x.name.length / 8 : Nat) : Int)) (by omega) (by omega)) ?_)
    refine ia_op (oa_addW (c := n + 1 + (x.name.length / 8 : Nat)) rfl rfl (wrap_i64 (by omega) (by omega)) ?_)
    refine ia_pl rfl ?_
    refine ia_op (oa_indexSl UnF.h SzF.h rfl hsl rfl rfl hi fun q0 hq0 => ?_)
    rw [hcx] at hq0
    refine ia_op (oa_pfieldAddr FpF.h (by decide) rfl hq0 fun q1 hq1 => ?_)
    refine ia_op (oa_pload PlF.h rfl hq1 rfl ?_)
    refine ia_op (oa_lenS rfl rfl rfl UnF.h rfl ?_)
    refine ia_op (oa_quoW (c := ((x.proc.length / 8 : Nat) : Int)) rfl rfl (by decide) (wrap_i64 (z := ((x.proc.length / 8 : Nat) : Int)) (by omega) (by omega)) ?_)
    refine ia_op (oa_addW (c := n + 1 + (x.name.length / 8 : Nat) + (x.proc.length / 8 : Nat)) rfl rfl (wrap_i64 (by omega) (by omega)) ?_)
    refine ia_pl rfl ?_
    refine ia_nil (va_seq ?_)
    -- the expressions
    obtain ⟨ss, hss⟩ : ∃ ss, ss = sizSs (l.take i) + 1 + x.name.length / 8 + x.proc.length / 8 := ⟨_, rfl⟩
    have hC2 : Cut Ks ss m (n + 1 + (x.name.length / 8 : Nat) + (x.proc.length / 8 : Nat)) := by
      unfold Cut at *
      omega
    refine va_cut (fun l' H' => ∃ n' : Int, Keep Non H2 H' ∧ Cut Ks (ss + sizEs x.e) m n' ∧ Sb [(0, v), (1, .int .i64 m), (5, .int .i64 n'), (6, .int .i64 (i : Int))] l') ?_ ?_
    · refine va_seqr ?_
      refine ia_pl rfl ?_
      refine ia_nil (va_block ?_)
      refine va_loop (fun (a : Nat × Int) => [(0, v), (1, .int .i64 m), (5, .int .i64 a.2), (6, .int .i64 (i : Int)), (7, .int .i64 (a.1 : Int))]) (fun a H' => Keep Non H2 H' ∧ a.1 ≤ x.e.length ∧ Cut Ks (ss + sizEs (x.e.take a.1)) m a.2) (fun a => x.e.length - a.1) ?_ (0, n + 1 + (x.name.length / 8 : Nat) + (x.proc.length / 8 : Nat)) _ H2 ⟨rfl, rfl, rfl, rfl, rfl, trivial⟩ ⟨.refl _ _, Nat.zero_le _, by simp only [List.take_zero, sizEs, Nat.add_zero]; exact hC2⟩
      rintro ⟨j, n'⟩ H3 ⟨hk3, hle3, hC3⟩
      dsimp only at hle3 hC3 ⊢
      have hsl3 := hsl.keep0 hk3
      have hE3 := hE1.keep hk3 fun _ _ _ h => h.keep hk3
      obtain ⟨ees, hesl, heel⟩ := isLs_elem hE3
      have hlt3 := sizEs_take x.e j
      have hC3' := hC3
      unfold Cut at hC3'
      refine va_seq (va_seqr ?_)
      refine ia_pl rfl ?_
      refine ia_op (oa_indexSl UnF.h SzF.h rfl hsl3 rfl rfl hi fun q0 hq0 => ?_)
      rw [hcx] at hq0
      refine ia_op (oa_pfieldAddr FpF.h (by decide) rfl hq0 fun q1 hq1 => ?_)
      refine ia_op (oa_pload PlF.h rfl hq1 rfl ?_)
      refine ia_op (oa_lenSl rfl rfl rfl UnF.h rfl hesl ?_)
      have fin2 : (j < x.e.length → m < n') → Cut Ks (ss + sizEs x.e) m n' := by
        intro h
        by_cases hj : j < x.e.length
        · have := h hj
          unfold Cut at *
          omega
        · rw [List.take_of_length_le (by omega)] at hC3
          exact hC3
      by_cases hj : j < x.e.length
      rotate_left
      · (repeat (first | refine ia_gdN rfl ?_ | refine ia_gdU rfl ?_ | ((first | refine ia_op ?_ | refine ia_gdY rfl ?_); first | refine oa_move rfl ?_ | refine oa_assign rfl ?_ | refine oa_nilCheck rfl ?_ | refine oa_fieldAddr FpF.h (by decide) rfl ?_ | refine oa_lssF rfl rfl (by omega) ?_ | refine oa_lssT rfl rfl (by omega) ?_ | refine oa_leqF rfl rfl (by omega) ?_ | refine oa_leqT rfl rfl (by omega) ?_ | refine oa_gtrF rfl rfl (by omega) ?_ | refine oa_gtrT rfl rfl (by omega) ?_ | refine oa_geqF rfl rfl (by omega) ?_ | refine oa_geqT rfl rfl (by omega) ?_ | refine oa_eqlF rfl rfl (by omega) ?_ | refine oa_eqlT rfl rfl (by omega) ?_ | refine oa_neqF rfl rfl (by omega) ?_ | refine oa_neqT rfl rfl (by omega) ?_ | refine oa_pickT rfl rfl rfl ?_ | refine oa_pickF rfl rfl ?_ | refine oa_not rfl ?_ | refine oa_extract rfl rfl ?_)))
        exact ia_nil (va_condF rfl (va_exit ⟨n', hk3, fin2 fun h => absurd h hj, rfl, rfl, rfl, rfl, trivial⟩))
      by_cases hn' : n' ≤ m
      rotate_left
      · (repeat (first | refine ia_gdN rfl ?_ | refine ia_gdU rfl ?_ | ((first | refine ia_op ?_ | refine ia_gdY rfl ?_); first | refine oa_move rfl ?_ | refine oa_assign rfl ?_ | refine oa_nilCheck rfl ?_ | refine oa_fieldAddr FpF.h (by decide) rfl ?_ | refine oa_lssF rfl rfl (by omega) ?_ | refine oa_lssT rfl rfl (by omega) ?_ | refine oa_leqF rfl rfl (by omega) ?_ | refine oa_leqT rfl rfl (by omega) ?_ | refine oa_gtrF rfl rfl (by omega) ?_ | refine oa_gtrT rfl rfl (by omega) ?_ | refine oa_geqF rfl rfl (by omega) ?_ | refine oa_geqT rfl rfl (by omega) ?_ | refine oa_eqlF rfl rfl (by omega) ?_ | refine oa_eqlT rfl rfl (by omega) ?_ | refine oa_neqF rfl rfl (by omega) ?_ | refine oa_neqT rfl rfl (by omega) ?_ | refine oa_pickT rfl rfl rfl ?_ | refine oa_pickF rfl rfl ?_ | refine oa_not rfl ?_ | refine oa_extract rfl rfl ?_)))
        exact ia_nil (va_condF rfl (va_exit ⟨n', hk3, fin2 fun _ => by omega, rfl, rfl, rfl, rfl, trivial⟩))
      (repeat (first | refine ia_gdN rfl ?_ | refine ia_gdU rfl ?_ | ((first | refine ia_op ?_ | refine ia_gdY rfl ?_); first | refine oa_move rfl ?_ | refine oa_assign rfl ?_ | refine oa_nilCheck rfl ?_ | refine oa_fieldAddr FpF.h (by decide) rfl ?_ | refine oa_lssF rfl rfl (by omega) ?_ | refine oa_lssT rfl rfl (by omega) ?_ | refine oa_leqF rfl rfl (by omega) ?_ | refine oa_leqT rfl rfl (by omega) ?_ | refine oa_gtrF rfl rfl (by omega) ?_ | refine oa_gtrT rfl rfl (by omega) ?_ | refine oa_geqF rfl rfl (by omega) ?_ | refine oa_geqT rfl rfl (by omega) ?_ | refine oa_eqlF rfl rfl (by omega) ?_ | refine oa_eqlT rfl rfl (by omega) ?_ | refine oa_neqF rfl rfl (by omega) ?_ | refine oa_neqT rfl rfl (by omega) ?_ | refine oa_pickT rfl rfl rfl ?_ | refine oa_pickF rfl rfl ?_ | refine oa_not rfl ?_ | refine oa_extract rfl rfl ?_)))
      refine ia_nil (va_condT rfl (va_skip ?_))
      obtain ⟨y, hy⟩ : ∃ y, x.e[j]? = some y := ⟨_, List.getElem?_eq_getElem hj⟩
      obtain ⟨cy, hcy, hEy⟩ := heel j y hy
      obtain ⟨vy, hcy2, _⟩ := hEy.out
      rw [hcy2] at hcy hEy
      refine va_seq (va_block (va_reg ?_))
      refine ia_pl rfl ?_
      refine ia_op (oa_indexSl UnF.h SzF.h rfl hsl3 rfl rfl hi fun q0 hq0 => ?_)
      rw [hcx] at hq0
      refine ia_op (oa_pfieldAddr FpF.h (by decide) rfl hq0 fun q1 hq1 => ?_)
      refine ia_op (oa_pload PlF.h rfl hq1 rfl ?_)
      refine ia_pl rfl ?_
      refine ia_op (oa_indexSl UnF.h SzF.h rfl hesl rfl rfl hj fun q0 hq0 => ?_)
      rw [hcy] at hq0
      refine ia_op (oa_ploadN (k := 4) PlF.h rfl (by decide) rfl hq0 ?_)
      refine ia_pl rfl ?_
      refine ia_op (oa_subW (c := m - n') rfl rfl (wrap_i64 (by omega) (by omega)) ?_)
      refine ia_op (oa_call rfl rfl rfl (ExprSize_ok (szE y + 1) (by omega) hEy (by omega) (by omega) fun r H4 hk4 hr => ?_))
      have hA := hC3.add hn' (hr.wide (by omega))
      have hA' := hA
      unfold Cut at hA'
      refine ia_op (oa_addW (c := n' + r) rfl rfl (wrap_i64 (by omega) (by omega)) ?_)
      refine ia_pl rfl ?_
      refine ia_nil (va_reg ?_)
      refine ia_pl rfl ?_
      refine ia_op (oa_addW (c := ((j + 1 : Nat) : Int)) rfl rfl (wrapE_i64 (by omega) (by omega) (by omega)) ?_)
      refine ia_pl rfl ?_
      refine ia_nil ⟨(j + 1, n' + r), ?_, ⟨rfl, rfl, rfl, rfl, rfl, trivial⟩, hk3.trans0 hk4, by dsimp only; omega, ?_⟩
      · show x.e.length - (j + 1) < x.e.length - j
        omega
      · dsimp only
        rw [take_snoc hy, sizEs_snoc, ← Nat.add_assoc]
        exact hA
    rintro l3 H3 ⟨n3, hk3, hC3, hs3⟩
    have hC3' := hC3
    unfold Cut at hC3'
    have hsl3 := hsl.keep0 hk3
    refine VA.sub hs3 (va_seqr ?_)
    refine ia_pl rfl ?_
    refine ia_op (oa_indexSl UnF.h SzF.h rfl hsl3 rfl rfl hi fun q0 hq0 => ?_)
    rw [hcx] at hq0
    refine ia_op (oa_pfieldAddr FpF.h (by decide) rfl hq0 fun q1 hq1 => ?_)
    refine ia_op (oa_pload PlF.h rfl hq1 rfl ?_)
    refine ia_pl rfl ?_
    refine ia_op (oa_subW (c := m - n3) rfl rfl (wrap_i64 (by omega) (by omega)) ?_)
    refine ia_op (oa_call rfl rfl rfl (StmtsSize_ok k hszx.1 (hB1.keep hk3 fun _ _ _ h => h.keep hk3) hl2 (by omega) (by omega) fun r H4 hk4 hr => ?_))
    have hC4 := hC3.addS hr
    have hC4' := hC4
    unfold Cut at hC4'
    have hsl4 := hsl3.keep0 hk4
    refine ia_op (oa_addW (c := n3 + r) rfl rfl (wrap_i64 (by omega) (by omega)) ?_)
    refine ia_pl rfl ?_
    refine ia_nil (va_reg ?_)
    refine ia_pl rfl ?_
    refine ia_op (oa_indexSl UnF.h SzF.h rfl hsl4 rfl rfl hi fun q0 hq0 => ?_)
    rw [hcx] at hq0
    refine ia_op (oa_pfieldAddr FpF.h (by decide) rfl hq0 fun q1 hq1 => ?_)
    refine ia_op (oa_pload PlF.h rfl hq1 rfl ?_)
    refine ia_pl rfl ?_
    refine ia_op (oa_subW (c := m - (n3 + r)) rfl rfl (wrap_i64 (by omega) (by omega)) ?_)
    refine ia_op (oa_call rfl rfl rfl (StmtsSize_ok k hszx.2 ((hD1.keep hk3 fun _ _ _ h => h.keep hk3).keep hk4 fun _ _ _ h => h.keep hk4) hl3 (by omega) (by omega) fun r' H5 hk5 hr' => ?_))
    have hC5 := hC4.addS hr'
    have hC5' := hC5
    unfold Cut at hC5'
    refine ia_op (oa_addW (c := n3 + r + r') rfl rfl (wrap_i64 (by omega) (by omega)) ?_)
    refine ia_pl rfl ?_
    refine ia_nil (va_reg ?_)
    refine ia_pl rfl ?_
    refine ia_op (oa_addW (c := ((i + 1 : Nat) : Int)) rfl rfl (wrapE_i64 (by omega) (by omega) (by omega)) ?_)
    refine ia_pl rfl ?_
    refine ia_nil ⟨(i + 1, n3 + r + r'), ?_, ⟨rfl, rfl, rfl, rfl, trivial⟩, hk2.trans0 (hk3.trans0 (hk4.trans0 hk5)), by dsimp only; omega, .inr ⟨hm', ?_⟩⟩
    · show l.length - (i + 1) < l.length - i
      omega
    · dsimp only
      rw [take_snoc hx, sizSs_snoc, sizS_eq]
      have : sizSs (l.take i) + (1 + x.name.length / 8 + x.proc.length / 8 + sizEs x.e + sizSs x.body + sizSs x.els) = ss + sizEs x.e + sizSs x.body + sizSs x.els := by omega
      rw [this]
      exact hC5
def Kp : Nat := 1 + 3 * rB
set_option maxHeartbeats 0 in
theorem Size_ok {p : List Prc} (hp : IsPg H v p) (hQ : ∀ n H', Keep Non H H' → Cut Kp (sizPs p) 500 n → Q (.int .i64 n) H') : WpF Tryz.prog tb gl 22 [v, .int .i64 500] H Q := by
  have hKs : Ks = 281474976702465 := rfl
  have hKp : Kp = 422212465053697 := rfl
  have hrB : rB = 140737488351232 := rfl
  obtain ⟨hpl, u, rfl, hL⟩ := hp
  refine fa Tryz.func22 b22_eq v22_eq r22_eq (.inr (by simp)) ?_
  refine va_seqr ?_
  refine ia_op (oa_box rfl fun H1 hk1 hr1 => ?_)
  obtain ⟨b, hb⟩ : ∃ b, b = H.nx := ⟨_, rfl⟩
  rw [← hb] at hr1 ⊢
  have hr1 : IsRow H1 b [u] false false := hr1
  refine ia_pl rfl ?_; (repeat ((first | refine ia_op (oa_nilCheck rfl ?_) | refine ia_op (oa_fieldAddr FpF.h (by decide) rfl ?_) | refine ia_op (oa_load1 PlF.h rfl hr1 rfl ?_)); refine ia_pl rfl ?_))
  refine ia_nil (va_seqr ?_)
  refine ia_pl rfl ?_
  refine ia_nil (va_seq (va_seqr ?_))
  refine ia_pl rfl ?_
  refine ia_nil (va_block ?_)
  refine va_loop (fun (a : Nat × Int) => [(1, .int .i64 500), (2, .ptr b 0), (5, .int .i64 a.2), (6, .int .i64 (a.1 : Int))]) (fun a H' => Keep Non H1 H' ∧ a.1 ≤ p.length ∧ Cut Kp (sizPs (p.take a.1)) 500 a.2) (fun a => p.length - a.1) ?_ (0, 0) _ H1 ⟨rfl, rfl, rfl, rfl, trivial⟩ ⟨.refl _ _, Nat.zero_le _, by simp only [List.take_zero, sizPs, Cut]; omega⟩
  rintro ⟨i, n⟩ H2 ⟨hk2, hle, hC⟩
  dsimp only at hle hC ⊢
  have hr2 := hr1.keep0 hk2
  have hL2 := (hL.keep (hk1.trans0 hk2) fun _ _ _ h => h.keep (hk1.trans0 hk2))
  obtain ⟨els, hsl, hel⟩ := isLs_elem hL2
  have hlt := sizPs_take p i
  have hC' := hC
  unfold Cut at hC'
  refine va_seq (va_seqr ?_)
  refine ia_pl rfl ?_; (repeat ((first | refine ia_op (oa_nilCheck rfl ?_) | refine ia_op (oa_fieldAddr FpF.h (by decide) rfl ?_) | refine ia_op (oa_load1 PlF.h rfl hr2 rfl ?_) | refine ia_op (oa_lenSl rfl rfl rfl UnF.h rfl hsl ?_)); refine ia_pl rfl ?_))
  have fin : (i < p.length → 500 < n) → ∀ l', Sb [(5, .int .i64 n)] l' → VA Tryz.prog tb gl v22t3 l' H2 (leftA [.tmp 4] Q) := by
    intro h l' hs'
    refine VA.sub hs' (va_seqr ?_)
    refine ia_pl rfl ?_
    refine ia_nil (va_ret ⟨_, rfl, hQ _ _ (hk1.trans0 hk2) ?_⟩)
    by_cases hi : i < p.length
    · have := h hi
      unfold Cut
      omega
    · rw [List.take_of_length_le (by omega)] at hC
      exact hC
  by_cases hi : i < p.length
  rotate_left
  · (repeat (first | refine ia_gdN rfl ?_ | refine ia_gdU rfl ?_ | ((first | refine ia_op ?_ | refine ia_gdY rfl ?_); first | refine oa_move rfl ?_ | refine oa_assign rfl ?_ | refine oa_nilCheck rfl ?_ | refine oa_fieldAddr FpF.h (by decide) rfl ?_ | refine oa_lssF rfl rfl (by omega) ?_ | refine oa_lssT rfl rfl (by omega) ?_ | refine oa_leqF rfl rfl (by omega) ?_ | refine oa_leqT rfl rfl (by omega) ?_ | refine oa_gtrF rfl rfl (by omega) ?_ | refine oa_gtrT rfl rfl (by omega) ?_ | refine oa_geqF rfl rfl (by omega) ?_ | refine oa_geqT rfl rfl (by omega) ?_ | refine oa_eqlF rfl rfl (by omega) ?_ | refine oa_eqlT rfl rfl (by omega) ?_ | refine oa_neqF rfl rfl (by omega) ?_ | refine oa_neqT rfl rfl (by omega) ?_ | refine oa_pickT rfl rfl rfl ?_ | refine oa_pickF rfl rfl ?_ | refine oa_not rfl ?_ | refine oa_extract rfl rfl ?_)))
    refine ia_nil (va_condF rfl (va_exit ?_))
    exact fin (fun h => absurd h hi) _ ⟨rfl, trivial⟩
  by_cases hn : n ≤ 500
  rotate_left
  · (repeat (first | refine ia_gdN rfl ?_ | refine ia_gdU rfl ?_ | ((first | refine ia_op ?_ | refine ia_gdY rfl ?_); first | refine oa_move rfl ?_ | refine oa_assign rfl ?_ | refine oa_nilCheck rfl ?_ | refine oa_fieldAddr FpF.h (by decide) rfl ?_ | refine oa_lssF rfl rfl (by omega) ?_ | refine oa_lssT rfl rfl (by omega) ?_ | refine oa_leqF rfl rfl (by omega) ?_ | refine oa_leqT rfl rfl (by omega) ?_ | refine oa_gtrF rfl rfl (by omega) ?_ | refine oa_gtrT rfl rfl (by omega) ?_ | refine oa_geqF rfl rfl (by omega) ?_ | refine oa_geqT rfl rfl (by omega) ?_ | refine oa_eqlF rfl rfl (by omega) ?_ | refine oa_eqlT rfl rfl (by omega) ?_ | refine oa_neqF rfl rfl (by omega) ?_ | refine oa_neqT rfl rfl (by omega) ?_ | refine oa_pickT rfl rfl rfl ?_ | refine oa_pickF rfl rfl ?_ | refine oa_not rfl ?_ | refine oa_extract rfl rfl ?_)))
    refine ia_nil (va_condF rfl (va_exit ?_))
    exact fin (fun _ => by omega) _ ⟨rfl, trivial⟩
  (repeat (first | refine ia_gdN rfl ?_ | refine ia_gdU rfl ?_ | ((first | refine ia_op ?_ | refine ia_gdY rfl ?_); first | refine oa_move rfl ?_ | refine oa_assign rfl ?_ | refine oa_nilCheck rfl ?_ | refine oa_fieldAddr FpF.h (by decide) rfl ?_ | refine oa_lssF rfl rfl (by omega) ?_ | refine oa_lssT rfl rfl (by omega) ?_ | refine oa_leqF rfl rfl (by omega) ?_ | refine oa_leqT rfl rfl (by omega) ?_ | refine oa_gtrF rfl rfl (by omega) ?_ | refine oa_gtrT rfl rfl (by omega) ?_ | refine oa_geqF rfl rfl (by omega) ?_ | refine oa_geqT rfl rfl (by omega) ?_ | refine oa_eqlF rfl rfl (by omega) ?_ | refine oa_eqlT rfl rfl (by omega) ?_ | refine oa_neqF rfl rfl (by omega) ?_ | refine oa_neqT rfl rfl (by omega) ?_ | refine oa_pickT rfl rfl rfl ?_ | refine oa_pickF rfl rfl ?_ | refine oa_not rfl ?_ | refine oa_extract rfl rfl ?_)))
  refine ia_nil (va_condT rfl (va_skip ?_))
  obtain ⟨x, hx⟩ : ∃ x, p[i]? = some x := ⟨_, List.getElem?_eq_getElem hi⟩
  obtain ⟨cx, hcx, hPx⟩ := hel i x hx
  obtain ⟨vm, vb, hcx2, hs1, _, hl1, hl2, hM1, hB1⟩ := hPx
  rw [hcx2] at hcx
  obtain ⟨mels, hmsl, hmel⟩ := isLs_elem hM1
  refine va_seq (va_block ?_)
  refine va_seqr ?_
  refine ia_pl rfl ?_
  refine ia_op (oa_addW (c := n + 1) rfl rfl (wrap_i64 (by omega) (by omega)) ?_)
  refine ia_pl rfl ?_; (repeat ((first | refine ia_op (oa_nilCheck rfl ?_) | refine ia_op (oa_fieldAddr FpF.h (by decide) rfl ?_) | refine ia_op (oa_load1 PlF.h rfl hr2 rfl ?_)); refine ia_pl rfl ?_))
  refine ia_op (oa_indexSl UnF.h SzF.h rfl hsl rfl rfl hi fun q0 hq0 => ?_)
  rw [hcx] at hq0
  refine ia_op (oa_pfieldAddr FpF.h (by decide) rfl hq0 fun q1 hq1 => ?_)
  refine ia_op (oa_pload PlF.h rfl hq1 rfl ?_)
  refine ia_op (oa_lenS rfl rfl rfl UnF.h rfl ?_)
  refine ia_op (oa_quoW (c := ((x.name.length / 8 : Nat) : Int)) rfl rfl (by decide) (wrap_i64 (z := ((x.name.length / 8 : Nat) : Int)) (by omega) (by omega)) ?_)
  refine ia_op (oa_addW (c := n + 1 + (x.name.length / 8 : Nat)) rfl rfl (wrap_i64 (by omega) (by omega)) ?_)
  refine ia_pl rfl ?_; (repeat ((first | refine ia_op (oa_nilCheck rfl ?_) | refine ia_op (oa_fieldAddr FpF.h (by decide) rfl ?_) | refine ia_op (oa_load1 PlF.h rfl hr2 rfl ?_)); refine ia_pl rfl ?_))
  refine ia_op (oa_indexSl UnF.h SzF.h rfl hsl rfl rfl hi fun q0 hq0 => ?_)
  rw [hcx] at hq0
  refine ia_op (oa_pfieldAddr FpF.h (by decide) rfl hq0 fun q1 hq1 => ?_)
  refine ia_op (oa_pload PlF.h rfl hq1 rfl ?_)
  refine ia_op (oa_lenSl rfl rfl rfl UnF.h rfl hmsl ?_)
  refine ia_op (oa_addW (c := n + 1 + (x.name.length / 8 : Nat) + (x.params.length : Nat)) rfl rfl (wrap_i64 (by omega) (by omega)) ?_)
  refine ia_pl rfl ?_
  refine ia_nil (va_seq ?_)
  obtain ⟨ss, hss⟩ : ∃ ss, ss = sizPs (p.take i) + 1 + x.name.length / 8 + x.params.length := ⟨_, rfl⟩
  have hC2 : Cut Kp ss 500 (n + 1 + (x.name.length / 8 : Nat) + (x.params.length : Nat)) := by
    unfold Cut at *
    omega
  refine va_cut (fun l' H' => ∃ n' : Int, Keep Non H2 H' ∧ Cut Kp (ss + sizM x.params) 500 n' ∧ Sb [(1, .int .i64 500), (2, .ptr b 0), (5, .int .i64 n'), (6, .int .i64 (i : Int))] l') ?_ ?_
  · refine va_seqr ?_
    refine ia_pl rfl ?_
    refine ia_nil (va_block ?_)
    refine va_loop (fun (a : Nat × Int) => [(1, .int .i64 500), (2, .ptr b 0), (5, .int .i64 a.2), (6, .int .i64 (i : Int)), (7, .int .i64 (a.1 : Int))]) (fun a H' => H' = H2 ∧ a.1 ≤ x.params.length ∧ Cut Kp (ss + sizM (x.params.take a.1)) 500 a.2) (fun a => x.params.length - a.1) ?_ (0, n + 1 + (x.name.length / 8 : Nat) + (x.params.length : Nat)) _ H2 ⟨rfl, rfl, rfl, rfl, rfl, trivial⟩ ⟨rfl, Nat.zero_le _, by simp only [List.take_zero, sizM, Nat.add_zero]; exact hC2⟩
    rintro ⟨j, n'⟩ H3 ⟨hH3, hle3, hC3⟩
    subst hH3
    dsimp only at hle3 hC3 ⊢
    have hlt3 := sizM_take x.params j
    have hC3' := hC3
    unfold Cut at hC3'
    refine va_seq (va_seqr ?_)
    refine ia_pl rfl ?_; (repeat ((first | refine ia_op (oa_nilCheck rfl ?_) | refine ia_op (oa_fieldAddr FpF.h (by decide) rfl ?_) | refine ia_op (oa_load1 PlF.h rfl hr2 rfl ?_)); refine ia_pl rfl ?_))
    refine ia_op (oa_indexSl UnF.h SzF.h rfl hsl rfl rfl hi fun q0 hq0 => ?_)
    rw [hcx] at hq0
    refine ia_op (oa_pfieldAddr FpF.h (by decide) rfl hq0 fun q1 hq1 => ?_)
    refine ia_op (oa_pload PlF.h rfl hq1 rfl ?_)
    refine ia_op (oa_lenSl rfl rfl rfl UnF.h rfl hmsl ?_)
    have fin2 : (j < x.params.length → 500 < n') → Cut Kp (ss + sizM x.params) 500 n' := by
      intro h
      by_cases hj : j < x.params.length
      · have := h hj
        unfold Cut at *
        omega
      · rw [List.take_of_length_le (by omega)] at hC3
        exact hC3
    by_cases hj : j < x.params.length
    rotate_left
    · (repeat (first | refine ia_gdN rfl ?_ | refine ia_gdU rfl ?_ | ((first | refine ia_op ?_ | refine ia_gdY rfl ?_); first | refine oa_move rfl ?_ | refine oa_assign rfl ?_ | refine oa_nilCheck rfl ?_ | refine oa_fieldAddr FpF.h (by decide) rfl ?_ | refine oa_lssF rfl rfl (by omega) ?_ | refine oa_lssT rfl rfl (by omega) ?_ | refine oa_leqF rfl rfl (by omega) ?_ | refine oa_leqT rfl rfl (by omega) ?_ | refine oa_gtrF rfl rfl (by omega) ?_ | refine oa_gtrT rfl rfl (by omega) ?_ | refine oa_geqF rfl rfl (by omega) ?_ | refine oa_geqT rfl rfl (by omega) ?_ | refine oa_eqlF rfl rfl (by omega) ?_ | refine oa_eqlT rfl rfl (by omega) ?_ | refine oa_neqF rfl rfl (by omega) ?_ | refine oa_neqT rfl rfl (by omega) ?_ | refine oa_pickT rfl rfl rfl ?_ | refine oa_pickF rfl rfl ?_ | refine oa_not rfl ?_ | refine oa_extract rfl rfl ?_)))
      exact ia_nil (va_condF rfl (va_exit ⟨n', .refl _ _, fin2 fun h => absurd h hj, rfl, rfl, rfl, rfl, trivial⟩))
    by_cases hn' : n' ≤ 500
    rotate_left
    · (repeat (first | refine ia_gdN rfl ?_ | refine ia_gdU rfl ?_ | ((first | refine ia_op ?_ | refine ia_gdY rfl ?_); first | refine oa_move rfl ?_ | refine oa_assign rfl ?_ | refine oa_nilCheck rfl ?_ | refine oa_fieldAddr FpF.h (by decide) rfl ?_ | refine oa_lssF rfl rfl (by omega) ?_ | refine oa_lssT rfl rfl (by omega) ?_ | refine oa_leqF rfl rfl (by omega) ?_ | refine oa_leqT rfl rfl (by omega) ?_ | refine oa_gtrF rfl rfl (by omega) ?_ | refine oa_gtrT rfl rfl (by omega) ?_ | refine oa_geqF rfl rfl (by omega) ?_ | refine oa_geqT rfl rfl (by omega) ?_ | refine oa_eqlF rfl rfl (by omega) ?_ | refine oa_eqlT rfl rfl (by omega) ?_ | refine oa_neqF rfl rfl (by omega) ?_ | refine oa_neqT rfl rfl (by omega) ?_ | refine oa_pickT rfl rfl rfl ?_ | refine oa_pickF rfl rfl ?_ | refine oa_not rfl ?_ | refine oa_extract rfl rfl ?_)))
      exact ia_nil (va_condF rfl (va_exit ⟨n', .refl _ _, fin2 fun _ => by omega, rfl, rfl, rfl, rfl, trivial⟩))
    (repeat (first | refine ia_gdN rfl ?_ | refine ia_gdU rfl ?_ | ((first | refine ia_op ?_ | refine ia_gdY rfl ?_); first | refine oa_move rfl ?_ | refine oa_assign rfl ?_ | refine oa_nilCheck rfl ?_ | refine oa_fieldAddr FpF.h (by decide) rfl ?_ | refine oa_lssF rfl rfl (by omega) ?_ | refine oa_lssT rfl rfl (by omega) ?_ | refine oa_leqF rfl rfl (by omega) ?_ | refine oa_leqT rfl rfl (by omega) ?_ | refine oa_gtrF rfl rfl (by omega) ?_ | refine oa_gtrT rfl rfl (by omega) ?_ | refine oa_geqF rfl rfl (by omega) ?_ | refine oa_geqT rfl rfl (by omega) ?_ | refine oa_eqlF rfl rfl (by omega) ?_ | refine oa_eqlT rfl rfl (by omega) ?_ | refine oa_neqF rfl rfl (by omega) ?_ | refine oa_neqT rfl rfl (by omega) ?_ | refine oa_pickT rfl rfl rfl ?_ | refine oa_pickF rfl rfl ?_ | refine oa_not rfl ?_ | refine oa_extract rfl rfl ?_)))
    refine ia_nil (va_condT rfl (va_skip ?_))
    obtain ⟨y, hy⟩ : ∃ y, x.params[j]? = some y := ⟨_, List.getElem?_eq_getElem hj⟩
    obtain ⟨cy, hcy, hcy2, hys, _⟩ := hmel j y hy
    rw [hcy2] at hcy
    refine va_seq (va_block (va_reg ?_))
    refine ia_pl rfl ?_; (repeat ((first | refine ia_op (oa_nilCheck rfl ?_) | refine ia_op (oa_fieldAddr FpF.h (by decide) rfl ?_) | refine ia_op (oa_load1 PlF.h rfl hr2 rfl ?_)); refine ia_pl rfl ?_))
    refine ia_op (oa_indexSl UnF.h SzF.h rfl hsl rfl rfl hi fun q0 hq0 => ?_)
    rw [hcx] at hq0
    refine ia_op (oa_pfieldAddr FpF.h (by decide) rfl hq0 fun q1 hq1 => ?_)
    refine ia_op (oa_pload PlF.h rfl hq1 rfl ?_)
    refine ia_pl rfl ?_
    refine ia_op (oa_indexSl UnF.h SzF.h rfl hmsl rfl rfl hj fun q0 hq0 => ?_)
    rw [hcy] at hq0
    refine ia_op (oa_pfieldAddr FpF.h (by decide) rfl hq0 fun q1 hq1 => ?_)
    refine ia_op (oa_pload PlF.h rfl hq1 rfl ?_)
    refine ia_op (oa_lenS rfl rfl rfl UnF.h rfl ?_)
    refine ia_op (oa_quoW (c := ((y.name.length / 8 : Nat) : Int)) rfl rfl (by decide) (wrap_i64 (z := ((y.name.length / 8 : Nat) : Int)) (by omega) (by omega)) ?_)
    refine ia_op (oa_addW (c := n' + (y.name.length / 8 : Nat)) rfl rfl (wrap_i64 (by omega) (by omega)) ?_)
    refine ia_pl rfl ?_
    refine ia_nil (va_reg ?_)
    refine ia_pl rfl ?_
    refine ia_op (oa_addW (c := ((j + 1 : Nat) : Int)) rfl rfl (wrapE_i64 (by omega) (by omega) (by omega)) ?_)
    refine ia_pl rfl ?_
    refine ia_nil ⟨(j + 1, n' + (y.name.length / 8 : Nat)), ?_, ⟨rfl, rfl, rfl, rfl, rfl, trivial⟩, rfl, by dsimp only; omega, ?_⟩
    · show x.params.length - (j + 1) < x.params.length - j
      omega
    · dsimp only
      rw [take_snoc hy, sizM_snoc, ← Nat.add_assoc]
      unfold Cut at *
      omega
  rintro l3 H3 ⟨n3, hk3, hC3, hs3⟩
  have hC3' := hC3
  unfold Cut at hC3'
  have hsl3 := hsl.keep0 hk3
  have hr3 := hr2.keep0 hk3
  refine VA.sub hs3 (va_reg ?_)
  refine ia_pl rfl ?_; (repeat ((first | refine ia_op (oa_nilCheck rfl ?_) | refine ia_op (oa_fieldAddr FpF.h (by decide) rfl ?_) | refine ia_op (oa_load1 PlF.h rfl hr3 rfl ?_)); refine ia_pl rfl ?_))
  refine ia_op (oa_indexSl UnF.h SzF.h rfl hsl3 rfl rfl hi fun q0 hq0 => ?_)
  rw [hcx] at hq0
  refine ia_op (oa_pfieldAddr FpF.h (by decide) rfl hq0 fun q1 hq1 => ?_)
  refine ia_op (oa_pload PlF.h rfl hq1 rfl ?_)
  refine ia_pl rfl ?_
  refine ia_op (oa_subW (c := 500 - n3) rfl rfl (wrap_i64 (by omega) (by omega)) ?_)
  refine ia_op (oa_call rfl rfl rfl (StmtsSize_ok (szSs x.body + 1) (by omega) (hB1.keep hk3 fun _ _ _ h => h.keep hk3) hl2 (by omega) (by omega) fun r H4 hk4 hr => ?_))
  have hC4 : Cut Kp (ss + sizM x.params + sizSs x.body) 500 (n3 + r) := hC3.addS ⟨hr.1, fun h => (hr.2 h).wide (by omega)⟩
  have hC4' := hC4
  unfold Cut at hC4'
  refine ia_op (oa_addW (c := n3 + r) rfl rfl (wrap_i64 (by omega) (by omega)) ?_)
  refine ia_pl rfl ?_
  refine ia_nil (va_reg ?_)
  refine ia_pl rfl ?_
  refine ia_op (oa_addW (c := ((i + 1 : Nat) : Int)) rfl rfl (wrapE_i64 (by omega) (by omega) (by omega)) ?_)
  refine ia_pl rfl ?_
  refine ia_nil ⟨(i + 1, n3 + r), ?_, ⟨rfl, rfl, rfl, rfl, trivial⟩, hk2.trans0 (hk3.trans0 hk4), by dsimp only; omega, ?_⟩
  · show p.length - (i + 1) < p.length - i
    omega
  · dsimp only
    rw [take_snoc hx, sizPs_snoc]
    have : sizPs (p.take i) + sizP x = ss + sizM x.params + sizSs x.body := by simp only [sizP]; omega
    rw [this]
    exact hC4
end
end Go.Proofs.YtalnmaalhocjfaaGreatDoor
