/-
  Matched calls: what is sorted already stays as it is (slices.SortFunc), walked. Conditions: the number of pairs.
-/
import Derived.Test.YtndhniapohlniaaGreatDoorKeeps7
namespace Go.Proofs.YtndhniapohlniaaGreatDoor
open Go Go.Proofs.YtndhniapohlniaaGreatDoor.Eng
/-! facts about types -/
theorem un_156 : Tryz.prog.underlying 156 = some (.int .u64) := by kernel_rfl
instance iun_156 : UnF Tryz.prog 156 (.int .u64) := ⟨un_156⟩
theorem un_244 : Tryz.prog.underlying 244 = some (.int .u32) := by kernel_rfl
instance iun_244 : UnF Tryz.prog 244 (.int .u32) := ⟨un_244⟩
theorem un_195 : Tryz.prog.underlying 195 = some (.int .u64) := by kernel_rfl
instance iun_195 : UnF Tryz.prog 195 (.int .u64) := ⟨un_195⟩
theorem un_5 : Tryz.prog.underlying 5 = some (.int .u8) := by kernel_rfl
instance iun_5 : UnF Tryz.prog 5 (.int .u8) := ⟨un_5⟩
theorem un_9 : Tryz.prog.underlying 9 = some (.string) := by kernel_rfl
instance iun_9 : UnF Tryz.prog 9 (.string) := ⟨un_9⟩
theorem un_237 : Tryz.prog.underlying 237 = some (.int .i64) := by kernel_rfl
instance iun_237 : UnF Tryz.prog 237 (.int .i64) := ⟨un_237⟩
theorem un_333 : Tryz.prog.underlying 333 = some (.pointer 3) := by kernel_rfl
instance iun_333 : UnF Tryz.prog 333 (.pointer 3) := ⟨un_333⟩
/-! f20: parallax/calls.Match$1, parameters #[44, 44] -/
def v20t1 : CV := .seq (.reg [.op (some 5) (.fieldAddr 44 (.tmp 2) 0),
    .op (some 6) (.load 3 (.tmp 5)),
    .op (some 7) (.fieldAddr 44 (.tmp 3) 0),
    .op (some 8) (.load 3 (.tmp 7)),
    .op (some 9) (.binOp .sub 3 (.tmp 6) (.tmp 8) 3),
    .op (some 4) (.assign (.tmp 9))])
  (.ret)
def v20 : CV := .seq (.reg [.op (some 2) (.box 44 (.tmp 0)),
    .op (some 3) (.box 44 (.tmp 1)),
    .op (some 4) (.assign (.const (.int .i64 0)))]) v20t1
noncomputable def b20 : Code := Tryz.f20.body.getD .skip
theorem b20_eq : Tryz.f20.body = some b20 := by kernel_rfl
theorem v20_eq : viewC Tryz.prog b20 = some v20 := by kernel_rfl
theorem r20_eq : Tryz.f20.results.toList = [.tmp 4] := by kernel_rfl
/-! f19: slices.SortFunc[[]parallax/align.Pair,parallax/align.Pair], parameters #[29, 91] -/
def v19 : CV := .seq (.reg [.op (some 5) (.move (.tmp 0)),
    .op (some 6) (.call ⟨.builtin .len, #[(.tmp 5)], #[29]⟩),
    .op (some 4) (.assign (.tmp 6))])
  (.reg [.op (some 7) (.move (.tmp 0)),
    .op (some 8) (.move (.tmp 4)),
    .op (some 9) (.move (.tmp 4)),
    .op (some 10) (.convert 3 156 (.tmp 9)),
    .op (some 11) (.call ⟨.value (.func 44), #[(.tmp 10)], #[156]⟩),
    .op (some 12) (.move (.tmp 1)),
    .op (some 13) (.call ⟨.value (.func 43), #[(.tmp 7), (.const (.int .i64 0)), (.tmp 8), (.tmp 11), (.tmp 12)], #[29, 3, 3, 3, 91]⟩)])
noncomputable def b19 : Code := Tryz.f19.body.getD .skip
theorem b19_eq : Tryz.f19.body = some b19 := by kernel_rfl
theorem v19_eq : viewC Tryz.prog b19 = some v19 := by kernel_rfl
theorem r19_eq : Tryz.f19.results.toList = [] := by kernel_rfl
/-! f44: math/bits.Len, parameters #[156] -/
def v44c0 : CV := .seq (.reg [.op (some 3) (.move (.tmp 0)),
    .op (some 4) (.convert 156 244 (.tmp 3)),
    .op (some 5) (.call ⟨.value (.func 93), #[(.tmp 4)], #[244]⟩),
    .op (some 2) (.assign (.tmp 5))])
  (.ret)
def v44t2 : CV := .seq (.reg [.op (some 6) (.move (.tmp 0)),
    .op (some 7) (.call ⟨.value (.func 94), #[(.tmp 6)], #[195]⟩),
    .op (some 2) (.assign (.tmp 7))])
  (.ret)
def v44t1 : CV := .seq (.cond (.const (.bool false)) v44c0 (.skip)) v44t2
def v44 : CV := .seq (.reg [.op (some 2) (.assign (.const (.int .i64 0)))]) v44t1
noncomputable def b44 : Code := Tryz.f44.body.getD .skip
theorem b44_eq : Tryz.f44.body = some b44 := by kernel_rfl
theorem v44_eq : viewC Tryz.prog b44 = some v44 := by kernel_rfl
theorem r44_eq : Tryz.f44.results.toList = [.tmp 2] := by kernel_rfl
/-! f94: math/bits.Len64, parameters #[195] -/
def v94c0 : CV := .seq (.reg [.op (some 5) (.move (.tmp 0)),
    .op (some 6) (.binOp .shr 195 (.tmp 5) (.const (.int .u64 32)) 156),
    .op (some 0) (.assign (.tmp 6))])
  (.reg [.op (some 2) (.assign (.const (.int .i64 32)))])
def v94h1 : CV := .seq (.reg [.op (some 3) (.move (.tmp 0)),
    .op (some 4) (.binOp .geq 195 (.tmp 3) (.const (.int .u64 4294967296)) 195)])
  (.cond (.tmp 4) v94c0 (.skip))
def v94c1 : CV := .seq (.reg [.op (some 9) (.move (.tmp 0)),
    .op (some 10) (.binOp .shr 195 (.tmp 9) (.const (.int .u64 16)) 156),
    .op (some 0) (.assign (.tmp 10))])
  (.reg [.op (some 11) (.move (.tmp 2)),
    .op (some 12) (.binOp .add 3 (.tmp 11) (.const (.int .i64 16)) 3),
    .op (some 2) (.assign (.tmp 12))])
def v94h2 : CV := .seq (.reg [.op (some 7) (.move (.tmp 0)),
    .op (some 8) (.binOp .geq 195 (.tmp 7) (.const (.int .u64 65536)) 195)])
  (.cond (.tmp 8) v94c1 (.skip))
def v94c2 : CV := .seq (.reg [.op (some 15) (.move (.tmp 0)),
    .op (some 16) (.binOp .shr 195 (.tmp 15) (.const (.int .u64 8)) 156),
    .op (some 0) (.assign (.tmp 16))])
  (.reg [.op (some 17) (.move (.tmp 2)),
    .op (some 18) (.binOp .add 3 (.tmp 17) (.const (.int .i64 8)) 3),
    .op (some 2) (.assign (.tmp 18))])
def v94h3 : CV := .seq (.reg [.op (some 13) (.move (.tmp 0)),
    .op (some 14) (.binOp .geq 195 (.tmp 13) (.const (.int .u64 256)) 195)])
  (.cond (.tmp 14) v94c2 (.skip))
def v94t4 : CV := .seq (.reg [.op (some 19) (.move (.tmp 2)),
    .op (some 20) (.move (.tmp 0)),
    .op (some 21) (.convert 195 5 (.tmp 20)),
    .op (some 22) (.index 9 (.const (.string ⟨⟨[0, 1, 2, 2, 3, 3, 3, 3, 4, 4, 4, 4, 4, 4, 4, 4, 5, 5, 5, 5, 5, 5, 5, 5, 5, 5, 5, 5, 5, 5, 5, 5, 6, 6, 6, 6, 6, 6, 6, 6, 6, 6, 6, 6, 6, 6, 6, 6, 6, 6, 6, 6, 6, 6, 6, 6, 6, 6, 6, 6, 6, 6, 6, 6, 7, 7, 7, 7, 7, 7, 7, 7, 7, 7, 7, 7, 7, 7, 7, 7, 7, 7, 7, 7, 7, 7, 7, 7, 7, 7, 7, 7, 7, 7, 7, 7, 7, 7, 7, 7, 7, 7, 7, 7, 7, 7, 7, 7, 7, 7, 7, 7, 7, 7, 7, 7, 7, 7, 7, 7, 7, 7, 7, 7, 7, 7, 7, 7, 8, 8, 8, 8, 8, 8, 8, 8, 8, 8, 8, 8, 8, 8, 8, 8, 8, 8, 8, 8, 8, 8, 8, 8, 8, 8, 8, 8, 8, 8, 8, 8, 8, 8, 8, 8, 8, 8, 8, 8, 8, 8, 8, 8, 8, 8, 8, 8, 8, 8, 8, 8, 8, 8, 8, 8, 8, 8, 8, 8, 8, 8, 8, 8, 8, 8, 8, 8, 8, 8, 8, 8, 8, 8, 8, 8, 8, 8, 8, 8, 8, 8, 8, 8, 8, 8, 8, 8, 8, 8, 8, 8, 8, 8, 8, 8, 8, 8, 8, 8, 8, 8, 8, 8, 8, 8, 8, 8, 8, 8, 8, 8, 8, 8, 8, 8, 8, 8, 8, 8, 8, 8, 8, 8, 8, 8, 8, 8]⟩⟩)) (.tmp 21)),
    .op (some 23) (.convert 5 3 (.tmp 22)),
    .op (some 24) (.binOp .add 3 (.tmp 19) (.tmp 23) 3),
    .op (some 2) (.assign (.tmp 24))])
  (.ret)
def v94t3 : CV := .seq v94h3 v94t4
def v94t2 : CV := .seq v94h2 v94t3
def v94t1 : CV := .seq v94h1 v94t2
def v94 : CV := .seq (.reg [.op (some 2) (.assign (.const (.int .i64 0)))]) v94t1
noncomputable def b94 : Code := Tryz.f94.body.getD .skip
theorem b94_eq : Tryz.f94.body = some b94 := by kernel_rfl
theorem v94_eq : viewC Tryz.prog b94 = some v94 := by kernel_rfl
theorem r94_eq : Tryz.f94.results.toList = [.tmp 2] := by kernel_rfl
/-! f43: slices.pdqsortCmpFunc[parallax/align.Pair], parameters #[29, 3, 3, 3, 91] -/
def v43c1 : CV := .seq (.reg [.op (some 26) (.move (.tmp 0)),
    .op (some 27) (.move (.tmp 1)),
    .op (some 28) (.move (.tmp 2)),
    .op (some 29) (.move (.tmp 4)),
    .op (some 30) (.call ⟨.value (.func 85), #[(.tmp 26), (.tmp 27), (.tmp 28), (.tmp 29)], #[29, 3, 3, 91]⟩)])
  (.ret)
def v43k0h1 : CV := .seq (.reg [.op (some 24) (.move (.tmp 12)),
    .op (some 25) (.binOp .leq 3 (.tmp 24) (.const (.int .i64 12)) 3)])
  (.cond (.tmp 25) v43c1 (.skip))
def v43c2 : CV := .seq (.reg [.op (some 33) (.move (.tmp 0)),
    .op (some 34) (.move (.tmp 1)),
    .op (some 35) (.move (.tmp 2)),
    .op (some 36) (.move (.tmp 4)),
    .op (some 37) (.call ⟨.value (.func 86), #[(.tmp 33), (.tmp 34), (.tmp 35), (.tmp 36)], #[29, 3, 3, 91]⟩)])
  (.ret)
def v43k0h2 : CV := .seq (.reg [.op (some 31) (.move (.tmp 3)),
    .op (some 32) (.binOp .eql 3 (.tmp 31) (.const (.int .i64 0)) 3)])
  (.cond (.tmp 32) v43c2 (.skip))
def v43c3 : CV := .seq (.reg [.op (some 40) (.move (.tmp 0)),
    .op (some 41) (.move (.tmp 1)),
    .op (some 42) (.move (.tmp 2)),
    .op (some 43) (.move (.tmp 4)),
    .op (some 44) (.call ⟨.value (.func 87), #[(.tmp 40), (.tmp 41), (.tmp 42), (.tmp 43)], #[29, 3, 3, 91]⟩)])
  (.reg [.op (some 45) (.move (.tmp 3)),
    .op (some 46) (.binOp .sub 3 (.tmp 45) (.const (.int .i64 1)) 3),
    .op (some 3) (.assign (.tmp 46))])
def v43k0h3 : CV := .seq (.reg [.op (some 38) (.move (.tmp 10)),
    .op (some 39) (.unOp .not 4 (.tmp 38))])
  (.cond (.tmp 39) v43c3 (.skip))
def v43c4t1 : CV := .seq (.reg [.op (some 62) (.move (.tmp 2)),
    .op (some 63) (.binOp .sub 3 (.tmp 62) (.const (.int .i64 1)) 3),
    .op (some 64) (.move (.tmp 13)),
    .op (some 65) (.move (.tmp 1)),
    .op (some 66) (.binOp .sub 3 (.tmp 64) (.tmp 65) 3),
    .op (some 67) (.binOp .sub 3 (.tmp 63) (.tmp 66) 3),
    .op (some 13) (.assign (.tmp 67))])
  (.reg [.op (some 14) (.assign (.const (.int .i64 1)))])
def v43c4 : CV := .seq (.reg [.op (some 57) (.move (.tmp 0)),
    .op (some 58) (.move (.tmp 1)),
    .op (some 59) (.move (.tmp 2)),
    .op (some 60) (.move (.tmp 4)),
    .op (some 61) (.call ⟨.value (.func 89), #[(.tmp 57), (.tmp 58), (.tmp 59), (.tmp 60)], #[29, 3, 3, 91]⟩)]) v43c4t1
def v43k0h5 : CV := .seq (.reg [.op (some 55) (.move (.tmp 14)),
    .op (some 56) (.binOp .eql 237 (.tmp 55) (.const (.int .i64 2)) 237)])
  (.cond (.tmp 56) v43c4 (.skip))
def v43c5 : CV := .seq (.reg [.op (some 76) (.move (.tmp 0)),
    .op (some 77) (.move (.tmp 1)),
    .op (some 78) (.move (.tmp 2)),
    .op (some 79) (.move (.tmp 4)),
    .op (some 80) (.call ⟨.value (.func 90), #[(.tmp 76), (.tmp 77), (.tmp 78), (.tmp 79)], #[29, 3, 3, 91]⟩)])
  (.cond (.tmp 80) (.ret) (.skip))
def v43k0h6 : CV := .seq (.reg [.op (some 68) (.move (.tmp 10)),
    .op (some 69) (.move (.tmp 68)),
    .gd 69 true (some 70) (.move (.tmp 11)),
    .op (some 71) (.pick (.tmp 69) (.tmp 70) (.const (.bool false))),
    .op (some 72) (.move (.tmp 71)),
    .gd 72 true (some 73) (.move (.tmp 14)),
    .gd 72 true (some 74) (.binOp .eql 237 (.tmp 73) (.const (.int .i64 1)) 237),
    .op (some 75) (.pick (.tmp 72) (.tmp 74) (.const (.bool false)))])
  (.cond (.tmp 75) v43c5 (.skip))
def v43c6t1 : CV := .seq (.reg [.op (some 104) (.move (.tmp 15)),
    .op (some 1) (.assign (.tmp 104))])
  (.exit 1)
def v43c6 : CV := .seq (.reg [.op (some 98) (.move (.tmp 0)),
    .op (some 99) (.move (.tmp 1)),
    .op (some 100) (.move (.tmp 2)),
    .op (some 101) (.move (.tmp 13)),
    .op (some 102) (.move (.tmp 4)),
    .op (some 103) (.call ⟨.value (.func 91), #[(.tmp 98), (.tmp 99), (.tmp 100), (.tmp 101), (.tmp 102)], #[29, 3, 3, 3, 91]⟩),
    .op (some 15) (.assign (.tmp 103))]) v43c6t1
def v43k0h7 : CV := .seq (.reg [.op (some 81) (.move (.tmp 1)),
    .op (some 82) (.binOp .gtr 3 (.tmp 81) (.const (.int .i64 0)) 3),
    .op (some 83) (.move (.tmp 82)),
    .gd 83 true (some 84) (.move (.tmp 4)),
    .gd 83 true (some 85) (.move (.tmp 0)),
    .gd 83 true (some 86) (.move (.tmp 1)),
    .gd 83 true (some 87) (.binOp .sub 3 (.tmp 86) (.const (.int .i64 1)) 3),
    .gd 83 true (some 88) (.indexAddr 29 (.tmp 85) (.tmp 87)),
    .gd 83 true (some 89) (.load 44 (.tmp 88)),
    .gd 83 true (some 90) (.move (.tmp 0)),
    .gd 83 true (some 91) (.move (.tmp 13)),
    .gd 83 true (some 92) (.indexAddr 29 (.tmp 90) (.tmp 91)),
    .gd 83 true (some 93) (.load 44 (.tmp 92)),
    .gd 83 true (some 94) (.call ⟨.value (.tmp 84), #[(.tmp 89), (.tmp 93)], #[44, 44]⟩),
    .gd 83 true (some 95) (.binOp .lss 3 (.tmp 94) (.const (.int .i64 0)) 3),
    .gd 83 true (some 96) (.unOp .not 4 (.tmp 95)),
    .op (some 97) (.pick (.tmp 83) (.tmp 96) (.const (.bool false)))])
  (.cond (.tmp 97) v43c6 (.skip))
def v43c7t1 : CV := .seq (.reg [.op (some 129) (.move (.tmp 0)),
    .op (some 130) (.move (.tmp 1)),
    .op (some 131) (.move (.tmp 16)),
    .op (some 132) (.move (.tmp 3)),
    .op (some 133) (.move (.tmp 4)),
    .op (some 134) (.call ⟨.value (.func 43), #[(.tmp 129), (.tmp 130), (.tmp 131), (.tmp 132), (.tmp 133)], #[29, 3, 3, 3, 91]⟩)])
  (.reg [.op (some 135) (.move (.tmp 16)),
    .op (some 136) (.binOp .add 3 (.tmp 135) (.const (.int .i64 1)) 3),
    .op (some 1) (.assign (.tmp 136))])
def v43c7 : CV := .seq (.reg [.op (some 126) (.move (.tmp 18)),
    .op (some 127) (.move (.tmp 20)),
    .op (some 128) (.binOp .geq 3 (.tmp 126) (.tmp 127) 3),
    .op (some 10) (.assign (.tmp 128))]) v43c7t1
def v43c8t1 : CV := .seq (.reg [.op (some 140) (.move (.tmp 0)),
    .op (some 141) (.move (.tmp 16)),
    .op (some 142) (.binOp .add 3 (.tmp 141) (.const (.int .i64 1)) 3),
    .op (some 143) (.move (.tmp 2)),
    .op (some 144) (.move (.tmp 3)),
    .op (some 145) (.move (.tmp 4)),
    .op (some 146) (.call ⟨.value (.func 43), #[(.tmp 140), (.tmp 142), (.tmp 143), (.tmp 144), (.tmp 145)], #[29, 3, 3, 3, 91]⟩)])
  (.reg [.op (some 147) (.move (.tmp 16)),
    .op (some 2) (.assign (.tmp 147))])
def v43c8 : CV := .seq (.reg [.op (some 137) (.move (.tmp 19)),
    .op (some 138) (.move (.tmp 20)),
    .op (some 139) (.binOp .geq 3 (.tmp 137) (.tmp 138) 3),
    .op (some 10) (.assign (.tmp 139))]) v43c8t1
def v43k0t12 : CV := .seq (.reg [.op (some 123) (.move (.tmp 18)),
    .op (some 124) (.move (.tmp 19)),
    .op (some 125) (.binOp .lss 3 (.tmp 123) (.tmp 124) 3)])
  (.cond (.tmp 125) v43c7 v43c8)
def v43k0t11 : CV := .seq (.reg [.op (some 121) (.move (.tmp 12)),
    .op (some 122) (.binOp .quo 3 (.tmp 121) (.const (.int .i64 8)) 3),
    .op (some 20) (.assign (.tmp 122))]) v43k0t12
def v43k0t10 : CV := .seq (.reg [.op (some 115) (.move (.tmp 16)),
    .op (some 116) (.move (.tmp 1)),
    .op (some 117) (.binOp .sub 3 (.tmp 115) (.tmp 116) 3),
    .op (some 118) (.move (.tmp 2)),
    .op (some 119) (.move (.tmp 16)),
    .op (some 120) (.binOp .sub 3 (.tmp 118) (.tmp 119) 3),
    .op (some 18) (.assign (.tmp 117)),
    .op (some 19) (.assign (.tmp 120))]) v43k0t11
def v43k0t9 : CV := .seq (.reg [.op (some 114) (.move (.tmp 17)),
    .op (some 11) (.assign (.tmp 114))]) v43k0t10
def v43k0t8 : CV := .seq (.reg [.op (some 106) (.move (.tmp 0)),
    .op (some 107) (.move (.tmp 1)),
    .op (some 108) (.move (.tmp 2)),
    .op (some 109) (.move (.tmp 13)),
    .op (some 110) (.move (.tmp 4)),
    .op (some 111) (.call ⟨.value (.func 92), #[(.tmp 106), (.tmp 107), (.tmp 108), (.tmp 109), (.tmp 110)], #[29, 3, 3, 3, 91]⟩),
    .op (some 105) (.move (.tmp 111)),
    .op (some 112) (.extract (.tmp 105) 0),
    .op (some 113) (.extract (.tmp 105) 1),
    .op (some 16) (.assign (.tmp 112)),
    .op (some 17) (.assign (.tmp 113))]) v43k0t9
def v43k0t7 : CV := .seq v43k0h7 v43k0t8
def v43k0t6 : CV := .seq v43k0h6 v43k0t7
def v43k0t5 : CV := .seq v43k0h5 v43k0t6
def v43k0t4 : CV := .seq (.reg [.op (some 48) (.move (.tmp 0)),
    .op (some 49) (.move (.tmp 1)),
    .op (some 50) (.move (.tmp 2)),
    .op (some 51) (.move (.tmp 4)),
    .op (some 52) (.call ⟨.value (.func 88), #[(.tmp 48), (.tmp 49), (.tmp 50), (.tmp 51)], #[29, 3, 3, 91]⟩),
    .op (some 47) (.move (.tmp 52)),
    .op (some 53) (.extract (.tmp 47) 0),
    .op (some 54) (.extract (.tmp 47) 1),
    .op (some 13) (.assign (.tmp 53)),
    .op (some 14) (.assign (.tmp 54))]) v43k0t5
def v43k0t3 : CV := .seq v43k0h3 v43k0t4
def v43k0t2 : CV := .seq v43k0h2 v43k0t3
def v43k0t1 : CV := .seq v43k0h1 v43k0t2
def v43k0 : CV := .seq (.reg [.op (some 21) (.move (.tmp 2)),
    .op (some 22) (.move (.tmp 1)),
    .op (some 23) (.binOp .sub 3 (.tmp 21) (.tmp 22) 3),
    .op (some 12) (.assign (.tmp 23))]) v43k0t1
def v43l0 : CV := .block 1 v43k0
def v43t1 : CV := .seq (.reg [.op (some 11) (.assign (.const (.bool true)))])
  (.block 0 (.loop v43l0))
def v43 : CV := .seq (.reg [.op (some 10) (.assign (.const (.bool true)))]) v43t1
noncomputable def b43 : Code := Tryz.f43.body.getD .skip
theorem b43_eq : Tryz.f43.body = some b43 := by kernel_rfl
theorem v43_eq : viewC Tryz.prog b43 = some v43 := by kernel_rfl
theorem r43_eq : Tryz.f43.results.toList = [] := by kernel_rfl
/-! f85: slices.insertionSortCmpFunc[parallax/align.Pair], parameters #[29, 3, 3, 91] -/
def v85l0h0 : CV := .seq (.reg [.op (some 12) (.move (.tmp 8)),
    .op (some 13) (.move (.tmp 2)),
    .op (some 14) (.binOp .lss 3 (.tmp 12) (.tmp 13) 3)])
  (.cond (.tmp 14) (.skip) (.exit 0))
def v85l1h0 : CV := .seq (.reg [.op (some 18) (.move (.tmp 9)),
    .op (some 19) (.move (.tmp 1)),
    .op (some 20) (.binOp .gtr 3 (.tmp 18) (.tmp 19) 3),
    .op (some 21) (.move (.tmp 20)),
    .gd 21 true (some 22) (.move (.tmp 3)),
    .gd 21 true (some 23) (.move (.tmp 0)),
    .gd 21 true (some 24) (.move (.tmp 9)),
    .gd 21 true (some 25) (.indexAddr 29 (.tmp 23) (.tmp 24)),
    .gd 21 true (some 26) (.load 44 (.tmp 25)),
    .gd 21 true (some 27) (.move (.tmp 0)),
    .gd 21 true (some 28) (.move (.tmp 9)),
    .gd 21 true (some 29) (.binOp .sub 3 (.tmp 28) (.const (.int .i64 1)) 3),
    .gd 21 true (some 30) (.indexAddr 29 (.tmp 27) (.tmp 29)),
    .gd 21 true (some 31) (.load 44 (.tmp 30)),
    .gd 21 true (some 32) (.call ⟨.value (.tmp 22), #[(.tmp 26), (.tmp 31)], #[44, 44]⟩),
    .gd 21 true (some 33) (.binOp .lss 3 (.tmp 32) (.const (.int .i64 0)) 3),
    .op (some 34) (.pick (.tmp 21) (.tmp 33) (.const (.bool false)))])
  (.cond (.tmp 34) (.skip) (.exit 2))
def v85l1t1 : CV := .seq (.block 3 (.reg [.op (some 37) (.move (.tmp 0)),
    .op (some 38) (.move (.tmp 9)),
    .op (some 39) (.move (.tmp 0)),
    .op (some 40) (.move (.tmp 9)),
    .op (some 41) (.binOp .sub 3 (.tmp 40) (.const (.int .i64 1)) 3),
    .op (some 42) (.move (.tmp 0)),
    .op (some 43) (.move (.tmp 9)),
    .op (some 44) (.binOp .sub 3 (.tmp 43) (.const (.int .i64 1)) 3),
    .op (some 45) (.indexAddr 29 (.tmp 42) (.tmp 44)),
    .op (some 46) (.load 44 (.tmp 45)),
    .op (some 47) (.move (.tmp 0)),
    .op (some 48) (.move (.tmp 9)),
    .op (some 49) (.indexAddr 29 (.tmp 47) (.tmp 48)),
    .op (some 50) (.load 44 (.tmp 49)),
    .op (some 51) (.indexAddr 29 (.tmp 37) (.tmp 38)),
    .op none (.store 44 (.tmp 51) (.tmp 46)),
    .op (some 52) (.indexAddr 29 (.tmp 39) (.tmp 41)),
    .op none (.store 44 (.tmp 52) (.tmp 50))]))
  (.reg [.op (some 35) (.move (.tmp 9)),
    .op (some 36) (.binOp .sub 3 (.tmp 35) (.const (.int .i64 1)) 3),
    .op (some 9) (.assign (.tmp 36))])
def v85l1 : CV := .seq v85l1h0 v85l1t1
def v85k0 : CV := .seq (.reg [.op (some 17) (.move (.tmp 8)),
    .op (some 9) (.assign (.tmp 17))])
  (.block 2 (.loop v85l1))
def v85l0t1 : CV := .seq (.block 1 v85k0)
  (.reg [.op (some 15) (.move (.tmp 8)),
    .op (some 16) (.binOp .add 3 (.tmp 15) (.const (.int .i64 1)) 3),
    .op (some 8) (.assign (.tmp 16))])
def v85l0 : CV := .seq v85l0h0 v85l0t1
def v85 : CV := .seq (.reg [.op (some 10) (.move (.tmp 1)),
    .op (some 11) (.binOp .add 3 (.tmp 10) (.const (.int .i64 1)) 3),
    .op (some 8) (.assign (.tmp 11))])
  (.block 0 (.loop v85l0))
noncomputable def b85 : Code := Tryz.f85.body.getD .skip
theorem b85_eq : Tryz.f85.body = some b85 := by kernel_rfl
theorem v85_eq : viewC Tryz.prog b85 = some v85 := by kernel_rfl
theorem r85_eq : Tryz.f85.results.toList = [] := by kernel_rfl
/-! f88: slices.choosePivotCmpFunc[parallax/align.Pair], parameters #[29, 3, 3, 91] -/
def v88c1t1 : CV := .seq (.reg [.op (some 41) (.move (.tmp 0)),
    .op (some 42) (.move (.tmp 13)),
    .op (some 43) (.move (.tmp 3)),
    .op (some 44) (.call ⟨.value (.func 172), #[(.tmp 41), (.tmp 42), (.tmp 11), (.tmp 43)], #[29, 3, 333, 91]⟩),
    .op (some 13) (.assign (.tmp 44))])
  (.reg [.op (some 45) (.move (.tmp 0)),
    .op (some 46) (.move (.tmp 14)),
    .op (some 47) (.move (.tmp 3)),
    .op (some 48) (.call ⟨.value (.func 172), #[(.tmp 45), (.tmp 46), (.tmp 11), (.tmp 47)], #[29, 3, 333, 91]⟩),
    .op (some 14) (.assign (.tmp 48))])
def v88c1 : CV := .seq (.reg [.op (some 37) (.move (.tmp 0)),
    .op (some 38) (.move (.tmp 12)),
    .op (some 39) (.move (.tmp 3)),
    .op (some 40) (.call ⟨.value (.func 172), #[(.tmp 37), (.tmp 38), (.tmp 11), (.tmp 39)], #[29, 3, 333, 91]⟩),
    .op (some 12) (.assign (.tmp 40))]) v88c1t1
def v88c0h0 : CV := .seq (.reg [.op (some 35) (.move (.tmp 10)),
    .op (some 36) (.binOp .geq 3 (.tmp 35) (.const (.int .i64 50)) 3)])
  (.cond (.tmp 36) v88c1 (.skip))
def v88c0 : CV := .seq v88c0h0
  (.reg [.op (some 49) (.move (.tmp 0)),
    .op (some 50) (.move (.tmp 12)),
    .op (some 51) (.move (.tmp 13)),
    .op (some 52) (.move (.tmp 14)),
    .op (some 53) (.move (.tmp 3)),
    .op (some 54) (.call ⟨.value (.func 173), #[(.tmp 49), (.tmp 50), (.tmp 51), (.tmp 52), (.tmp 11), (.tmp 53)], #[29, 3, 3, 3, 333, 91]⟩),
    .op (some 13) (.assign (.tmp 54))])
def v88h6 : CV := .seq (.reg [.op (some 33) (.move (.tmp 10)),
    .op (some 34) (.binOp .geq 3 (.tmp 33) (.const (.int .i64 8)) 3)])
  (.cond (.tmp 34) v88c0 (.skip))
def v88c2 : CV := .seq (.reg [.op (some 59) (.move (.tmp 13)),
    .op (some 8) (.assign (.tmp 59)),
    .op (some 9) (.assign (.const (.int .i64 1)))])
  (.ret)
def v88c4 : CV := .seq (.reg [.op (some 62) (.move (.tmp 13)),
    .op (some 8) (.assign (.tmp 62)),
    .op (some 9) (.assign (.const (.int .i64 2)))])
  (.ret)
def v88c5 : CV := .seq (.reg [.op (some 56) (.move (.tmp 13)),
    .op (some 8) (.assign (.tmp 56)),
    .op (some 9) (.assign (.const (.int .i64 0)))])
  (.ret)
def v88c3 : CV := .seq (.reg [.op (some 61) (.binOp .eql 3 (.tmp 55) (.const (.int .i64 12)) 3),
    .op (some 60) (.assign (.tmp 61))])
  (.cond (.tmp 60) v88c4 v88c5)
def v88k0 : CV := .seq (.reg [.op (some 58) (.binOp .eql 3 (.tmp 55) (.const (.int .i64 0)) 3),
    .op (some 57) (.assign (.tmp 58))])
  (.cond (.tmp 57) v88c2 v88c3)
def v88t7 : CV := .seq (.reg [.op (some 55) (.load 3 (.tmp 11))])
  (.block 0 v88k0)
def v88t6 : CV := .seq v88h6 v88t7
def v88t5 : CV := .seq (.reg [.op (some 28) (.move (.tmp 1)),
    .op (some 29) (.move (.tmp 10)),
    .op (some 30) (.binOp .quo 3 (.tmp 29) (.const (.int .i64 4)) 3),
    .op (some 31) (.binOp .mul 3 (.tmp 30) (.const (.int .i64 3)) 3),
    .op (some 32) (.binOp .add 3 (.tmp 28) (.tmp 31) 3),
    .op (some 14) (.assign (.tmp 32))]) v88t6
def v88t4 : CV := .seq (.reg [.op (some 23) (.move (.tmp 1)),
    .op (some 24) (.move (.tmp 10)),
    .op (some 25) (.binOp .quo 3 (.tmp 24) (.const (.int .i64 4)) 3),
    .op (some 26) (.binOp .mul 3 (.tmp 25) (.const (.int .i64 2)) 3),
    .op (some 27) (.binOp .add 3 (.tmp 23) (.tmp 26) 3),
    .op (some 13) (.assign (.tmp 27))]) v88t5
def v88t3 : CV := .seq (.reg [.op (some 18) (.move (.tmp 1)),
    .op (some 19) (.move (.tmp 10)),
    .op (some 20) (.binOp .quo 3 (.tmp 19) (.const (.int .i64 4)) 3),
    .op (some 21) (.binOp .mul 3 (.tmp 20) (.const (.int .i64 1)) 3),
    .op (some 22) (.binOp .add 3 (.tmp 18) (.tmp 21) 3),
    .op (some 12) (.assign (.tmp 22))]) v88t4
def v88t2 : CV := .seq (.reg [.op (some 11) (.alloc 3)]) v88t3
def v88t1 : CV := .seq (.reg [.op (some 15) (.move (.tmp 2)),
    .op (some 16) (.move (.tmp 1)),
    .op (some 17) (.binOp .sub 3 (.tmp 15) (.tmp 16) 3),
    .op (some 10) (.assign (.tmp 17))]) v88t2
def v88 : CV := .seq (.reg [.op (some 8) (.assign (.const (.int .i64 0))),
    .op (some 9) (.assign (.const (.int .i64 0)))]) v88t1
noncomputable def b88 : Code := Tryz.f88.body.getD .skip
theorem b88_eq : Tryz.f88.body = some b88 := by kernel_rfl
theorem v88_eq : viewC Tryz.prog b88 = some v88 := by kernel_rfl
theorem r88_eq : Tryz.f88.results.toList = [.tmp 8, .tmp 9] := by kernel_rfl
/-! f90: slices.partialInsertionSortCmpFunc[parallax/align.Pair], parameters #[29, 3, 3, 91] -/
def v90l0h0 : CV := .seq (.reg [.op (some 15) (.move (.tmp 10)),
    .op (some 16) (.binOp .lss 3 (.tmp 15) (.const (.int .i64 5)) 3)])
  (.cond (.tmp 16) (.skip) (.exit 0))
def v90l1h0 : CV := .seq (.reg [.op (some 19) (.move (.tmp 9)),
    .op (some 20) (.move (.tmp 2)),
    .op (some 21) (.binOp .lss 3 (.tmp 19) (.tmp 20) 3),
    .op (some 22) (.move (.tmp 21)),
    .gd 22 true (some 23) (.move (.tmp 3)),
    .gd 22 true (some 24) (.move (.tmp 0)),
    .gd 22 true (some 25) (.move (.tmp 9)),
    .gd 22 true (some 26) (.indexAddr 29 (.tmp 24) (.tmp 25)),
    .gd 22 true (some 27) (.load 44 (.tmp 26)),
    .gd 22 true (some 28) (.move (.tmp 0)),
    .gd 22 true (some 29) (.move (.tmp 9)),
    .gd 22 true (some 30) (.binOp .sub 3 (.tmp 29) (.const (.int .i64 1)) 3),
    .gd 22 true (some 31) (.indexAddr 29 (.tmp 28) (.tmp 30)),
    .gd 22 true (some 32) (.load 44 (.tmp 31)),
    .gd 22 true (some 33) (.call ⟨.value (.tmp 23), #[(.tmp 27), (.tmp 32)], #[44, 44]⟩),
    .gd 22 true (some 34) (.binOp .lss 3 (.tmp 33) (.const (.int .i64 0)) 3),
    .gd 22 true (some 35) (.unOp .not 4 (.tmp 34)),
    .op (some 36) (.pick (.tmp 22) (.tmp 35) (.const (.bool false)))])
  (.cond (.tmp 36) (.skip) (.exit 2))
def v90l1 : CV := .seq v90l1h0
  (.block 3 (.reg [.op (some 37) (.move (.tmp 9)),
    .op (some 38) (.binOp .add 3 (.tmp 37) (.const (.int .i64 1)) 3),
    .op (some 9) (.assign (.tmp 38))]))
def v90c2 : CV := .seq (.reg [.op (some 8) (.assign (.const (.bool true)))])
  (.ret)
def v90k0h1 : CV := .seq (.reg [.op (some 39) (.move (.tmp 9)),
    .op (some 40) (.move (.tmp 2)),
    .op (some 41) (.binOp .eql 3 (.tmp 39) (.tmp 40) 3)])
  (.cond (.tmp 41) v90c2 (.skip))
def v90c3 : CV := .seq (.reg [.op (some 8) (.assign (.const (.bool false)))])
  (.ret)
def v90k0h2 : CV := .seq (.reg [.op (some 42) (.move (.tmp 2)),
    .op (some 43) (.move (.tmp 1)),
    .op (some 44) (.binOp .sub 3 (.tmp 42) (.tmp 43) 3),
    .op (some 45) (.binOp .lss 3 (.tmp 44) (.const (.int .i64 50)) 3)])
  (.cond (.tmp 45) v90c3 (.skip))
def v90l5h0 : CV := .seq (.reg [.op (some 68) (.move (.tmp 11)),
    .op (some 69) (.binOp .geq 3 (.tmp 68) (.const (.int .i64 1)) 3)])
  (.cond (.tmp 69) (.skip) (.exit 4))
def v90k1h0 : CV := .seq (.reg [.op (some 72) (.move (.tmp 3)),
    .op (some 73) (.move (.tmp 0)),
    .op (some 74) (.move (.tmp 11)),
    .op (some 75) (.indexAddr 29 (.tmp 73) (.tmp 74)),
    .op (some 76) (.load 44 (.tmp 75)),
    .op (some 77) (.move (.tmp 0)),
    .op (some 78) (.move (.tmp 11)),
    .op (some 79) (.binOp .sub 3 (.tmp 78) (.const (.int .i64 1)) 3),
    .op (some 80) (.indexAddr 29 (.tmp 77) (.tmp 79)),
    .op (some 81) (.load 44 (.tmp 80)),
    .op (some 82) (.call ⟨.value (.tmp 72), #[(.tmp 76), (.tmp 81)], #[44, 44]⟩),
    .op (some 83) (.binOp .lss 3 (.tmp 82) (.const (.int .i64 0)) 3),
    .op (some 84) (.unOp .not 4 (.tmp 83))])
  (.cond (.tmp 84) (.exit 4) (.skip))
def v90k1 : CV := .seq v90k1h0
  (.reg [.op (some 85) (.move (.tmp 0)),
    .op (some 86) (.move (.tmp 11)),
    .op (some 87) (.move (.tmp 0)),
    .op (some 88) (.move (.tmp 11)),
    .op (some 89) (.binOp .sub 3 (.tmp 88) (.const (.int .i64 1)) 3),
    .op (some 90) (.move (.tmp 0)),
    .op (some 91) (.move (.tmp 11)),
    .op (some 92) (.binOp .sub 3 (.tmp 91) (.const (.int .i64 1)) 3),
    .op (some 93) (.indexAddr 29 (.tmp 90) (.tmp 92)),
    .op (some 94) (.load 44 (.tmp 93)),
    .op (some 95) (.move (.tmp 0)),
    .op (some 96) (.move (.tmp 11)),
    .op (some 97) (.indexAddr 29 (.tmp 95) (.tmp 96)),
    .op (some 98) (.load 44 (.tmp 97)),
    .op (some 99) (.indexAddr 29 (.tmp 85) (.tmp 86)),
    .op none (.store 44 (.tmp 99) (.tmp 94)),
    .op (some 100) (.indexAddr 29 (.tmp 87) (.tmp 89)),
    .op none (.store 44 (.tmp 100) (.tmp 98))])
def v90l5t1 : CV := .seq (.block 5 v90k1)
  (.reg [.op (some 70) (.move (.tmp 11)),
    .op (some 71) (.binOp .sub 3 (.tmp 70) (.const (.int .i64 1)) 3),
    .op (some 11) (.assign (.tmp 71))])
def v90l5 : CV := .seq v90l5h0 v90l5t1
def v90c4 : CV := .seq (.reg [.op (some 66) (.move (.tmp 9)),
    .op (some 67) (.binOp .sub 3 (.tmp 66) (.const (.int .i64 1)) 3),
    .op (some 11) (.assign (.tmp 67))])
  (.block 4 (.loop v90l5))
def v90k0h4 : CV := .seq (.reg [.op (some 62) (.move (.tmp 9)),
    .op (some 63) (.move (.tmp 1)),
    .op (some 64) (.binOp .sub 3 (.tmp 62) (.tmp 63) 3),
    .op (some 65) (.binOp .geq 3 (.tmp 64) (.const (.int .i64 2)) 3)])
  (.cond (.tmp 65) v90c4 (.skip))
def v90l7h0 : CV := .seq (.reg [.op (some 107) (.move (.tmp 12)),
    .op (some 108) (.move (.tmp 2)),
    .op (some 109) (.binOp .lss 3 (.tmp 107) (.tmp 108) 3)])
  (.cond (.tmp 109) (.skip) (.exit 6))
def v90k2h0 : CV := .seq (.reg [.op (some 112) (.move (.tmp 3)),
    .op (some 113) (.move (.tmp 0)),
    .op (some 114) (.move (.tmp 12)),
    .op (some 115) (.indexAddr 29 (.tmp 113) (.tmp 114)),
    .op (some 116) (.load 44 (.tmp 115)),
    .op (some 117) (.move (.tmp 0)),
    .op (some 118) (.move (.tmp 12)),
    .op (some 119) (.binOp .sub 3 (.tmp 118) (.const (.int .i64 1)) 3),
    .op (some 120) (.indexAddr 29 (.tmp 117) (.tmp 119)),
    .op (some 121) (.load 44 (.tmp 120)),
    .op (some 122) (.call ⟨.value (.tmp 112), #[(.tmp 116), (.tmp 121)], #[44, 44]⟩),
    .op (some 123) (.binOp .lss 3 (.tmp 122) (.const (.int .i64 0)) 3),
    .op (some 124) (.unOp .not 4 (.tmp 123))])
  (.cond (.tmp 124) (.exit 6) (.skip))
def v90k2 : CV := .seq v90k2h0
  (.reg [.op (some 125) (.move (.tmp 0)),
    .op (some 126) (.move (.tmp 12)),
    .op (some 127) (.move (.tmp 0)),
    .op (some 128) (.move (.tmp 12)),
    .op (some 129) (.binOp .sub 3 (.tmp 128) (.const (.int .i64 1)) 3),
    .op (some 130) (.move (.tmp 0)),
    .op (some 131) (.move (.tmp 12)),
    .op (some 132) (.binOp .sub 3 (.tmp 131) (.const (.int .i64 1)) 3),
    .op (some 133) (.indexAddr 29 (.tmp 130) (.tmp 132)),
    .op (some 134) (.load 44 (.tmp 133)),
    .op (some 135) (.move (.tmp 0)),
    .op (some 136) (.move (.tmp 12)),
    .op (some 137) (.indexAddr 29 (.tmp 135) (.tmp 136)),
    .op (some 138) (.load 44 (.tmp 137)),
    .op (some 139) (.indexAddr 29 (.tmp 125) (.tmp 126)),
    .op none (.store 44 (.tmp 139) (.tmp 134)),
    .op (some 140) (.indexAddr 29 (.tmp 127) (.tmp 129)),
    .op none (.store 44 (.tmp 140) (.tmp 138))])
def v90l7t1 : CV := .seq (.block 7 v90k2)
  (.reg [.op (some 110) (.move (.tmp 12)),
    .op (some 111) (.binOp .add 3 (.tmp 110) (.const (.int .i64 1)) 3),
    .op (some 12) (.assign (.tmp 111))])
def v90l7 : CV := .seq v90l7h0 v90l7t1
def v90c6 : CV := .seq (.reg [.op (some 105) (.move (.tmp 9)),
    .op (some 106) (.binOp .add 3 (.tmp 105) (.const (.int .i64 1)) 3),
    .op (some 12) (.assign (.tmp 106))])
  (.block 6 (.loop v90l7))
def v90k0t5 : CV := .seq (.reg [.op (some 101) (.move (.tmp 2)),
    .op (some 102) (.move (.tmp 9)),
    .op (some 103) (.binOp .sub 3 (.tmp 101) (.tmp 102) 3),
    .op (some 104) (.binOp .geq 3 (.tmp 103) (.const (.int .i64 2)) 3)])
  (.cond (.tmp 104) v90c6 (.skip))
def v90k0t4 : CV := .seq v90k0h4 v90k0t5
def v90k0t3 : CV := .seq (.reg [.op (some 46) (.move (.tmp 0)),
    .op (some 47) (.move (.tmp 9)),
    .op (some 48) (.move (.tmp 0)),
    .op (some 49) (.move (.tmp 9)),
    .op (some 50) (.binOp .sub 3 (.tmp 49) (.const (.int .i64 1)) 3),
    .op (some 51) (.move (.tmp 0)),
    .op (some 52) (.move (.tmp 9)),
    .op (some 53) (.binOp .sub 3 (.tmp 52) (.const (.int .i64 1)) 3),
    .op (some 54) (.indexAddr 29 (.tmp 51) (.tmp 53)),
    .op (some 55) (.load 44 (.tmp 54)),
    .op (some 56) (.move (.tmp 0)),
    .op (some 57) (.move (.tmp 9)),
    .op (some 58) (.indexAddr 29 (.tmp 56) (.tmp 57)),
    .op (some 59) (.load 44 (.tmp 58)),
    .op (some 60) (.indexAddr 29 (.tmp 46) (.tmp 47)),
    .op none (.store 44 (.tmp 60) (.tmp 55)),
    .op (some 61) (.indexAddr 29 (.tmp 48) (.tmp 50)),
    .op none (.store 44 (.tmp 61) (.tmp 59))]) v90k0t4
def v90k0t2 : CV := .seq v90k0h2 v90k0t3
def v90k0t1 : CV := .seq v90k0h1 v90k0t2
def v90k0 : CV := .seq (.block 2 (.loop v90l1)) v90k0t1
def v90l0t1 : CV := .seq (.block 1 v90k0)
  (.reg [.op (some 17) (.move (.tmp 10)),
    .op (some 18) (.binOp .add 3 (.tmp 17) (.const (.int .i64 1)) 3),
    .op (some 10) (.assign (.tmp 18))])
def v90l0 : CV := .seq v90l0h0 v90l0t1
def v90h2 : CV := .seq (.reg [.op (some 10) (.assign (.const (.int .i64 0)))])
  (.block 0 (.loop v90l0))
def v90t3 : CV := .seq (.reg [.op (some 8) (.assign (.const (.bool false)))])
  (.ret)
def v90t2 : CV := .seq v90h2 v90t3
def v90t1 : CV := .seq (.reg [.op (some 13) (.move (.tmp 1)),
    .op (some 14) (.binOp .add 3 (.tmp 13) (.const (.int .i64 1)) 3),
    .op (some 9) (.assign (.tmp 14))]) v90t2
def v90 : CV := .seq (.reg [.op (some 8) (.assign (.const (.bool false)))]) v90t1
noncomputable def b90 : Code := Tryz.f90.body.getD .skip
theorem b90_eq : Tryz.f90.body = some b90 := by kernel_rfl
theorem v90_eq : viewC Tryz.prog b90 = some v90 := by kernel_rfl
theorem r90_eq : Tryz.f90.results.toList = [.tmp 8] := by kernel_rfl
/-! f172: slices.medianAdjacentCmpFunc[parallax/align.Pair], parameters #[29, 3, 333, 91] -/
def v172t1 : CV := .seq (.reg [.op (some 9) (.move (.tmp 0)),
    .op (some 10) (.move (.tmp 1)),
    .op (some 11) (.binOp .sub 3 (.tmp 10) (.const (.int .i64 1)) 3),
    .op (some 12) (.move (.tmp 1)),
    .op (some 13) (.move (.tmp 1)),
    .op (some 14) (.binOp .add 3 (.tmp 13) (.const (.int .i64 1)) 3),
    .op (some 15) (.move (.tmp 2)),
    .op (some 16) (.move (.tmp 3)),
    .op (some 17) (.call ⟨.value (.func 173), #[(.tmp 9), (.tmp 11), (.tmp 12), (.tmp 14), (.tmp 15), (.tmp 16)], #[29, 3, 3, 3, 333, 91]⟩),
    .op (some 8) (.assign (.tmp 17))])
  (.ret)
def v172 : CV := .seq (.reg [.op (some 8) (.assign (.const (.int .i64 0)))]) v172t1
noncomputable def b172 : Code := Tryz.f172.body.getD .skip
theorem b172_eq : Tryz.f172.body = some b172 := by kernel_rfl
theorem v172_eq : viewC Tryz.prog b172 = some v172 := by kernel_rfl
theorem r172_eq : Tryz.f172.results.toList = [.tmp 8] := by kernel_rfl
/-! f173: slices.medianCmpFunc[parallax/align.Pair], parameters #[29, 3, 3, 3, 333, 91] -/
def v173t4 : CV := .seq (.reg [.op (some 40) (.move (.tmp 2)),
    .op (some 12) (.assign (.tmp 40))])
  (.ret)
def v173t3 : CV := .seq (.reg [.op (some 32) (.move (.tmp 0)),
    .op (some 33) (.move (.tmp 1)),
    .op (some 34) (.move (.tmp 2)),
    .op (some 35) (.move (.tmp 4)),
    .op (some 36) (.move (.tmp 5)),
    .op (some 37) (.call ⟨.value (.func 232), #[(.tmp 32), (.tmp 33), (.tmp 34), (.tmp 35), (.tmp 36)], #[29, 3, 3, 333, 91]⟩),
    .op (some 31) (.move (.tmp 37)),
    .op (some 38) (.extract (.tmp 31) 0),
    .op (some 39) (.extract (.tmp 31) 1),
    .op (some 1) (.assign (.tmp 38)),
    .op (some 2) (.assign (.tmp 39))]) v173t4
def v173t2 : CV := .seq (.reg [.op (some 23) (.move (.tmp 0)),
    .op (some 24) (.move (.tmp 2)),
    .op (some 25) (.move (.tmp 3)),
    .op (some 26) (.move (.tmp 4)),
    .op (some 27) (.move (.tmp 5)),
    .op (some 28) (.call ⟨.value (.func 232), #[(.tmp 23), (.tmp 24), (.tmp 25), (.tmp 26), (.tmp 27)], #[29, 3, 3, 333, 91]⟩),
    .op (some 22) (.move (.tmp 28)),
    .op (some 29) (.extract (.tmp 22) 0),
    .op (some 30) (.extract (.tmp 22) 1),
    .op (some 2) (.assign (.tmp 29)),
    .op (some 3) (.assign (.tmp 30))]) v173t3
def v173t1 : CV := .seq (.reg [.op (some 14) (.move (.tmp 0)),
    .op (some 15) (.move (.tmp 1)),
    .op (some 16) (.move (.tmp 2)),
    .op (some 17) (.move (.tmp 4)),
    .op (some 18) (.move (.tmp 5)),
    .op (some 19) (.call ⟨.value (.func 232), #[(.tmp 14), (.tmp 15), (.tmp 16), (.tmp 17), (.tmp 18)], #[29, 3, 3, 333, 91]⟩),
    .op (some 13) (.move (.tmp 19)),
    .op (some 20) (.extract (.tmp 13) 0),
    .op (some 21) (.extract (.tmp 13) 1),
    .op (some 1) (.assign (.tmp 20)),
    .op (some 2) (.assign (.tmp 21))]) v173t2
def v173 : CV := .seq (.reg [.op (some 12) (.assign (.const (.int .i64 0)))]) v173t1
noncomputable def b173 : Code := Tryz.f173.body.getD .skip
theorem b173_eq : Tryz.f173.body = some b173 := by kernel_rfl
theorem v173_eq : viewC Tryz.prog b173 = some v173 := by kernel_rfl
theorem r173_eq : Tryz.f173.results.toList = [.tmp 12] := by kernel_rfl
/-! f232: slices.order2CmpFunc[parallax/align.Pair], parameters #[29, 3, 3, 333, 91] -/
def v232c0t1 : CV := .seq (.reg [.op (some 28) (.move (.tmp 2)),
    .op (some 29) (.move (.tmp 1)),
    .op (some 10) (.assign (.tmp 28)),
    .op (some 11) (.assign (.tmp 29))])
  (.ret)
def v232c0 : CV := .seq (.reg [.op (some 23) (.move (.tmp 3)),
    .op (some 24) (.nilCheck (.tmp 23)),
    .op (some 25) (.load 3 (.tmp 24)),
    .op (some 26) (.binOp .add 3 (.tmp 25) (.const (.int .i64 1)) 3),
    .op (some 27) (.nilCheck (.tmp 23)),
    .op none (.store 3 (.tmp 27) (.tmp 26))]) v232c0t1
def v232h1 : CV := .seq (.reg [.op (some 12) (.move (.tmp 4)),
    .op (some 13) (.move (.tmp 0)),
    .op (some 14) (.move (.tmp 2)),
    .op (some 15) (.indexAddr 29 (.tmp 13) (.tmp 14)),
    .op (some 16) (.load 44 (.tmp 15)),
    .op (some 17) (.move (.tmp 0)),
    .op (some 18) (.move (.tmp 1)),
    .op (some 19) (.indexAddr 29 (.tmp 17) (.tmp 18)),
    .op (some 20) (.load 44 (.tmp 19)),
    .op (some 21) (.call ⟨.value (.tmp 12), #[(.tmp 16), (.tmp 20)], #[44, 44]⟩),
    .op (some 22) (.binOp .lss 3 (.tmp 21) (.const (.int .i64 0)) 3)])
  (.cond (.tmp 22) v232c0 (.skip))
def v232t2 : CV := .seq (.reg [.op (some 30) (.move (.tmp 1)),
    .op (some 31) (.move (.tmp 2)),
    .op (some 10) (.assign (.tmp 30)),
    .op (some 11) (.assign (.tmp 31))])
  (.ret)
def v232t1 : CV := .seq v232h1 v232t2
def v232 : CV := .seq (.reg [.op (some 10) (.assign (.const (.int .i64 0))),
    .op (some 11) (.assign (.const (.int .i64 0)))]) v232t1
noncomputable def b232 : Code := Tryz.f232.body.getD .skip
theorem b232_eq : Tryz.f232.body = some b232 := by kernel_rfl
theorem v232_eq : viewC Tryz.prog b232 = some v232 := by kernel_rfl
theorem r232_eq : Tryz.f232.results.toList = [.tmp 10, .tmp 11] := by kernel_rfl

def lenTab : List UInt8 := [0, 1, 2, 2, 3, 3, 3, 3, 4, 4, 4, 4, 4, 4, 4, 4, 5, 5, 5, 5, 5, 5, 5, 5, 5, 5, 5, 5, 5, 5, 5, 5, 6, 6, 6, 6, 6, 6, 6, 6, 6, 6, 6, 6, 6, 6, 6, 6, 6, 6, 6, 6, 6, 6, 6, 6, 6, 6, 6, 6, 6, 6, 6, 6, 7, 7, 7, 7, 7, 7, 7, 7, 7, 7, 7, 7, 7, 7, 7, 7, 7, 7, 7, 7, 7, 7, 7, 7, 7, 7, 7, 7, 7, 7, 7, 7, 7, 7, 7, 7, 7, 7, 7, 7, 7, 7, 7, 7, 7, 7, 7, 7, 7, 7, 7, 7, 7, 7, 7, 7, 7, 7, 7, 7, 7, 7, 7, 7, 8, 8, 8, 8, 8, 8, 8, 8, 8, 8, 8, 8, 8, 8, 8, 8, 8, 8, 8, 8, 8, 8, 8, 8, 8, 8, 8, 8, 8, 8, 8, 8, 8, 8, 8, 8, 8, 8, 8, 8, 8, 8, 8, 8, 8, 8, 8, 8, 8, 8, 8, 8, 8, 8, 8, 8, 8, 8, 8, 8, 8, 8, 8, 8, 8, 8, 8, 8, 8, 8, 8, 8, 8, 8, 8, 8, 8, 8, 8, 8, 8, 8, 8, 8, 8, 8, 8, 8, 8, 8, 8, 8, 8, 8, 8, 8, 8, 8, 8, 8, 8, 8, 8, 8, 8, 8, 8, 8, 8, 8, 8, 8, 8, 8, 8, 8, 8, 8, 8, 8, 8, 8, 8, 8, 8, 8, 8, 8]
theorem lenTab_pos : ((List.range 256).all fun j => decide (j ≤ 12) || (match lenTab[j]? with | some c => decide (0 < c.toNat) | none => false)) = true := by decide +kernel
theorem lenTab_get {j : Nat} (h1 : 12 < j) (h2 : j < 256) : ∃ c, lenTab[j]? = some c ∧ 0 < c.toNat := by
  have := List.all_eq_true.1 lenTab_pos j (List.mem_range.2 h2)
  rw [Bool.or_eq_true] at this
  rcases this with h | h
  · have := of_decide_eq_true h; omega
  · cases hc : lenTab[j]? with
    | none => rw [hc] at h; cases h
    | some c => rw [hc] at h; exact ⟨c, rfl, of_decide_eq_true h⟩
theorem lenTab_any {j : Nat} (h2 : j < 256) : ∃ c, lenTab[j]? = some c := ⟨_, List.getElem?_eq_getElem (by rw [show lenTab.length = 256 by decide +kernel]; exact h2)⟩
/-- a row of pairs that rises -/
structure Srt (H : Heap) (v : AV) (out : List (Nat × Nat)) : Prop where
  sl : IsSl H v 2 out.length (out.flatMap prN)
  up : out.Pairwise fun p q => p.1 < q.1
  bd : ∀ p ∈ out, p.1 < 1000000
  ln : out.length < 256
theorem Srt.to {H H' : Heap} {v : AV} {out : List (Nat × Nat)} (h : Srt H v out) (k : Keep Non H H') : Srt H' v out := ⟨h.sl.keep0 k, h.up, h.bd, h.ln⟩
theorem Srt.get {H : Heap} {v : AV} {out : List (Nat × Nat)} (h : Srt H v out) {i : Nat} (hi : i < out.length) : ∃ p, out[i]? = some p ∧ p.1 < 1000000 ∧ (((out.flatMap prN).drop (i * 2)).take 2) = prN p := by
  have hp : out[i]? = some out[i] := List.getElem?_eq_getElem hi
  exact ⟨out[i], hp, h.bd _ (List.mem_of_getElem? hp), flat_chunk prN_len out i _ hp⟩
theorem Srt.lt {H : Heap} {v : AV} {out : List (Nat × Nat)} (h : Srt H v out) {i j : Nat} (hij : i < j) {p q : Nat × Nat} (hp : out[i]? = some p) (hq : out[j]? = some q) : p.1 < q.1 := by
  obtain ⟨a, ha⟩ := List.getElem?_eq_some_iff.1 hp
  obtain ⟨b, hb⟩ := List.getElem?_eq_some_iff.1 hq
  rw [← ha, ← hb]
  exact List.pairwise_iff_getElem.1 h.up i j a b hij
section
variable {tb : List FuncId} {gl : List (List AV)} {H : Heap} {v : AV} {Q : AV → Heap → Prop} {out : List (Nat × Nat)}
abbrev cmpF : AV := .fn 20 []
set_option maxHeartbeats 0 in
theorem cmp_ok {p q : Nat × Nat} (hp : p.1 < 1000000) (hq : q.1 < 1000000) (hQ : ∀ H', Keep Non H H' → Q (.int .i64 ((p.1 : Int) - (q.1 : Int))) H') : WpF Tryz.prog tb gl 20 [.agg (prN p), .agg (prN q)] H Q := by
  refine fa Tryz.func20 b20_eq v20_eq r20_eq (.inr (by simp)) ?_
  refine va_seqr ?_
  refine ia_op (oa_box rfl fun H1 hk1 hr1 => ?_)
  refine ia_op (oa_box rfl fun H2 hk2 hr2 => ?_)
  have r1 : IsRow H2 H.nx (prN p) false false := IsRow.keep0 hr1 hk2
  have r2 : IsRow H2 H1.nx (prN q) false false := hr2
  refine ia_pl rfl ?_
  refine ia_nil (va_seqr ?_)
  refine ia_pl rfl ?_; (repeat ((first | refine ia_op (oa_nilCheck rfl ?_) | refine ia_op (oa_fieldAddr FpF.h (by decide) rfl ?_) | refine ia_op (oa_load1 PlF.h rfl r1 rfl ?_) | refine ia_op (oa_load1 PlF.h rfl r2 rfl ?_)); refine ia_pl rfl ?_))
  refine ia_op (oa_subW (c := (p.1 : Int) - (q.1 : Int)) rfl rfl (wrapE_i64 rfl (by omega) (by omega)) ?_)
  refine ia_pl rfl ?_
  exact ia_nil (va_ret ⟨_, rfl, hQ H2 (hk1.trans0 hk2)⟩)
set_option maxHeartbeats 0 in
theorem order2_ok (S : Srt H v out) {a b : Nat} {sw : AV} (hab : a < b) (hb : b < out.length) (hQ : ∀ H', Keep Non H H' → Q (.tup [.int .i64 (a : Int), .int .i64 (b : Int)]) H') : WpF Tryz.prog tb gl 232 [v, .int .i64 (a : Int), .int .i64 (b : Int), sw, cmpF] H Q := by
  obtain ⟨p, hp, hp1, hc1⟩ := S.get (i := a) (by omega)
  obtain ⟨q, hq, hq1, hc2⟩ := S.get (i := b) hb
  have hlt := S.lt hab hp hq
  refine fa Tryz.func232 b232_eq v232_eq r232_eq (.inr (by simp)) ?_
  refine va_seqr ?_
  refine ia_pl rfl ?_
  refine ia_nil (va_seq (va_seqr ?_))
  refine ia_pl rfl ?_
  refine ia_op (oa_indexSl UnF.h SzF.h rfl S.sl rfl rfl hb fun q0 hq0 => ?_)
  rw [hc2] at hq0
  refine ia_op (oa_ploadN (k := 2) PlF.h rfl (by decide) rfl hq0 ?_)
  refine ia_pl rfl ?_
  refine ia_op (oa_indexSl UnF.h SzF.h rfl S.sl rfl rfl (by omega) fun q0 hq0 => ?_)
  rw [hc1] at hq0
  refine ia_op (oa_ploadN (k := 2) PlF.h rfl (by decide) rfl hq0 ?_)
  refine ia_op (oa_call rfl rfl rfl (cmp_ok hq1 hp1 fun H1 hk1 => ?_))
  refine ia_op (oa_lssW rfl rfl (decide_eq_false (by omega)) (ia_nil (va_condF rfl (va_skip (va_seqr ?_)))))
  refine ia_pl rfl ?_
  exact ia_nil (va_ret ⟨_, rfl, hQ H1 hk1⟩)
set_option maxHeartbeats 0 in
theorem median_ok (S : Srt H v out) {a b c : Nat} {sw : AV} (hab : a < b) (hbc : b < c) (hc : c < out.length) (hQ : ∀ H', Keep Non H H' → Q (.int .i64 (b : Int)) H') : WpF Tryz.prog tb gl 173 [v, .int .i64 (a : Int), .int .i64 (b : Int), .int .i64 (c : Int), sw, cmpF] H Q := by
  refine fa Tryz.func173 b173_eq v173_eq r173_eq (.inr (by simp)) ?_
  refine va_seqr ?_
  refine ia_pl rfl ?_
  refine ia_nil (va_seqr ?_)
  refine ia_pl rfl ?_
  refine ia_op (oa_call rfl rfl rfl (order2_ok S hab (by omega) fun H1 hk1 => ?_))
  refine ia_pl rfl ?_
  refine ia_nil (va_seqr ?_)
  refine ia_pl rfl ?_
  refine ia_op (oa_call rfl rfl rfl (order2_ok (S.to hk1) hbc hc fun H2 hk2 => ?_))
  refine ia_pl rfl ?_
  refine ia_nil (va_seqr ?_)
  refine ia_pl rfl ?_
  refine ia_op (oa_call rfl rfl rfl (order2_ok ((S.to hk1).to hk2) hab (by omega) fun H3 hk3 => ?_))
  refine ia_pl rfl ?_
  refine ia_nil (va_seqr ?_)
  refine ia_pl rfl ?_
  exact ia_nil (va_ret ⟨_, rfl, hQ H3 ((hk1.trans0 hk2).trans0 hk3)⟩)
set_option maxHeartbeats 0 in
theorem medianAdjacent_ok (S : Srt H v out) {a : Nat} {sw : AV} (ha : 0 < a) (hc : a + 1 < out.length) (hQ : ∀ H', Keep Non H H' → Q (.int .i64 (a : Int)) H') : WpF Tryz.prog tb gl 172 [v, .int .i64 (a : Int), sw, cmpF] H Q := by
  have hln := S.ln
  refine fa Tryz.func172 b172_eq v172_eq r172_eq (.inr (by simp)) ?_
  refine va_seqr ?_
  refine ia_pl rfl ?_
  refine ia_nil (va_seqr ?_)
  refine ia_pl rfl ?_
  refine ia_op (oa_subW (c := ((a - 1 : Nat) : Int)) rfl rfl (wrapE_i64 (by omega) (by omega) (by omega)) ?_)
  refine ia_pl rfl ?_
  refine ia_op (oa_addW (c := ((a + 1 : Nat) : Int)) rfl rfl (wrapE_i64 (by omega) (by omega) (by omega)) ?_)
  refine ia_pl rfl ?_
  refine ia_op (oa_call rfl rfl rfl (median_ok S (a := a - 1) (b := a) (c := a + 1) (by omega) (by omega) hc fun H1 hk1 => ?_))
  refine ia_pl rfl ?_
  exact ia_nil (va_ret ⟨_, rfl, hQ H1 hk1⟩)
set_option maxHeartbeats 0 in
theorem insertion_ok (S : Srt H v out) (hQ : ∀ H', Keep Non H H' → Q (.tup []) H') : WpF Tryz.prog tb gl 85 [v, .int .i64 0, .int .i64 (out.length : Int), cmpF] H Q := by
  have hln := S.ln
  refine fa Tryz.func85 b85_eq v85_eq r85_eq (.inr (by simp)) ?_
  refine va_seqr ?_
  refine ia_pl rfl ?_
  refine ia_op (oa_addW (c := ((0 + 1 : Nat) : Int)) rfl rfl (wrapE_i64 (by omega) (by omega) (by omega)) ?_)
  refine ia_pl rfl ?_
  refine ia_nil (va_block ?_)
  refine va_loop (fun (k : Nat) => [(0, v), (1, .int .i64 0), (2, .int .i64 (out.length : Int)), (3, cmpF), (8, .int .i64 ((k + 1 : Nat) : Int))]) (fun k H' => Keep Non H H' ∧ k ≤ out.length) (fun k => out.length - k) ?_ 0 _ H ⟨rfl, rfl, rfl, rfl, rfl, trivial⟩ ⟨.refl _ _, Nat.zero_le _⟩
  rintro k H1 ⟨hk, hkl⟩
  refine va_seq (va_seqr ?_)
  refine ia_pl rfl ?_
  by_cases hi : k + 1 < out.length
  rotate_left
  · refine ia_op (oa_lssW rfl rfl (decide_eq_false (by omega)) (ia_nil (va_condF rfl (va_exit ⟨[], rfl, hQ H1 hk⟩))))
  refine ia_op (oa_lssW rfl rfl (decide_eq_true (by omega)) (ia_nil (va_condT rfl (va_skip (va_seq (va_block (va_seqr ?_)))))))
  have S1 := S.to hk
  obtain ⟨p, hp, hp1, hc1⟩ := S1.get (i := k) (by omega)
  obtain ⟨q, hq, hq1, hc2⟩ := S1.get (i := k + 1) hi
  have hlt := S1.lt (Nat.lt_succ_self k) hp hq
  refine ia_pl rfl ?_
  refine ia_nil (va_block ?_)
  refine va_loop (fun (_ : Unit) => [(0, v), (1, .int .i64 0), (2, .int .i64 (out.length : Int)), (3, cmpF), (8, .int .i64 ((k + 1 : Nat) : Int)), (9, .int .i64 ((k + 1 : Nat) : Int))]) (fun _ H' => H' = H1) (fun _ => 0) ?_ () _ H1 ⟨rfl, rfl, rfl, rfl, rfl, rfl, trivial⟩ rfl
  rintro _ H2 he
  subst he
  refine va_seq (va_seqr ?_)
  refine ia_pl rfl ?_
  refine ia_op (oa_gtrW rfl rfl (decide_eq_true (by omega)) ?_)
  refine ia_pl rfl ?_
  iterate 3 refine ia_gdY rfl (oa_move rfl ?_)
  refine ia_gdY rfl (oa_indexSl UnF.h SzF.h rfl S1.sl rfl rfl hi fun q0 hq0 => ?_)
  rw [hc2] at hq0
  refine ia_gdY rfl (oa_ploadN (k := 2) PlF.h rfl (by decide) rfl hq0 ?_)
  iterate 2 refine ia_gdY rfl (oa_move rfl ?_)
  refine ia_gdY rfl (oa_subW (c := (k : Int)) rfl rfl (wrapE_i64 (by omega) (by omega) (by omega)) ?_)
  refine ia_gdY rfl (oa_indexSl UnF.h SzF.h rfl S1.sl rfl rfl (by omega) fun q0 hq0 => ?_)
  rw [hc1] at hq0
  refine ia_gdY rfl (oa_ploadN (k := 2) PlF.h rfl (by decide) rfl hq0 ?_)
  refine ia_gdY rfl (oa_call rfl rfl rfl (cmp_ok hq1 hp1 fun H3 hk3 => ?_))
  refine ia_gdY rfl (oa_lssW rfl rfl (decide_eq_false (by omega)) ?_)
  refine ia_op (oa_pickT rfl rfl rfl (ia_nil (va_condF rfl (va_exit (va_reg ?_)))))
  refine ia_pl rfl ?_
  refine ia_op (oa_addW (c := ((k + 1 + 1 : Nat) : Int)) rfl rfl (wrapE_i64 (by omega) (by omega) (by omega)) ?_)
  refine ia_pl rfl ?_
  refine ia_nil ⟨k + 1, ?_, ⟨rfl, rfl, rfl, rfl, rfl, trivial⟩, hk.trans0 hk3, by omega⟩
  show out.length - (k + 1) < out.length - k
  omega
set_option maxHeartbeats 0 in
theorem partial_ok (S : Srt H v out) (h0 : 0 < out.length) (hQ : ∀ H', Keep Non H H' → Q (.bool true) H') : WpF Tryz.prog tb gl 90 [v, .int .i64 0, .int .i64 (out.length : Int), cmpF] H Q := by
  have hln := S.ln
  refine fa Tryz.func90 b90_eq v90_eq r90_eq (.inr (by simp)) ?_
  refine va_seqr ?_
  refine ia_pl rfl ?_
  refine ia_nil (va_seqr ?_)
  refine ia_pl rfl ?_
  refine ia_op (oa_addW (c := ((0 + 1 : Nat) : Int)) rfl rfl (wrapE_i64 (by omega) (by omega) (by omega)) ?_)
  refine ia_pl rfl ?_
  refine ia_nil (va_seq (va_seqr ?_))
  refine ia_pl rfl ?_
  refine ia_nil (va_block ?_)
  refine va_loop (fun (_ : Unit) => [(0, v), (1, .int .i64 0), (2, .int .i64 (out.length : Int)), (3, cmpF), (9, .int .i64 ((0 + 1 : Nat) : Int)), (10, .int .i64 0)]) (fun _ H' => H' = H) (fun _ => 0) ?_ () _ H ⟨rfl, rfl, rfl, rfl, rfl, rfl, trivial⟩ rfl
  rintro _ H2 he
  subst he
  refine va_seq (va_seqr ?_)
  refine ia_pl rfl ?_
  refine ia_op (oa_lssW rfl rfl (decide_eq_true (by omega)) (ia_nil (va_condT rfl (va_skip (va_seq (va_block (va_seq (va_block ?_))))))))
  refine va_loop (fun (k : Nat) => [(0, v), (1, .int .i64 0), (2, .int .i64 (out.length : Int)), (3, cmpF), (9, .int .i64 ((k + 1 : Nat) : Int))]) (fun k H' => Keep Non H2 H' ∧ k + 1 ≤ out.length) (fun k => out.length - k) ?_ 0 _ H2 ⟨rfl, rfl, rfl, rfl, rfl, trivial⟩ ⟨.refl _ _, h0⟩
  rintro k H1 ⟨hk, hkl⟩
  refine va_seq (va_seqr ?_)
  refine ia_pl rfl ?_
  by_cases hi : k + 1 < out.length
  rotate_left
  · refine ia_op (oa_lssW rfl rfl (decide_eq_false (by omega)) ?_)
    refine ia_pl rfl ?_
    iterate 13 refine ia_gdN rfl ?_
    refine ia_op (oa_pickF rfl rfl (ia_nil (va_condF rfl (va_exit (va_seq (va_seqr ?_))))))
    refine ia_pl rfl ?_
    refine ia_op (oa_eqlW rfl rfl (decide_eq_true (by omega)) (ia_nil (va_condT rfl (va_seqr ?_))))
    refine ia_pl rfl ?_
    exact ia_nil (va_ret ⟨_, rfl, hQ H1 hk⟩)
  have S1 := S.to hk
  obtain ⟨p, hp, hp1, hc1⟩ := S1.get (i := k) (by omega)
  obtain ⟨q, hq, hq1, hc2⟩ := S1.get (i := k + 1) hi
  have hlt := S1.lt (Nat.lt_succ_self k) hp hq
  refine ia_op (oa_lssW rfl rfl (decide_eq_true (by omega)) ?_)
  refine ia_pl rfl ?_
  iterate 3 refine ia_gdY rfl (oa_move rfl ?_)
  refine ia_gdY rfl (oa_indexSl UnF.h SzF.h rfl S1.sl rfl rfl hi fun q0 hq0 => ?_)
  rw [hc2] at hq0
  refine ia_gdY rfl (oa_ploadN (k := 2) PlF.h rfl (by decide) rfl hq0 ?_)
  iterate 2 refine ia_gdY rfl (oa_move rfl ?_)
  refine ia_gdY rfl (oa_subW (c := (k : Int)) rfl rfl (wrapE_i64 (by omega) (by omega) (by omega)) ?_)
  refine ia_gdY rfl (oa_indexSl UnF.h SzF.h rfl S1.sl rfl rfl (by omega) fun q0 hq0 => ?_)
  rw [hc1] at hq0
  refine ia_gdY rfl (oa_ploadN (k := 2) PlF.h rfl (by decide) rfl hq0 ?_)
  refine ia_gdY rfl (oa_call rfl rfl rfl (cmp_ok hq1 hp1 fun H3 hk3 => ?_))
  refine ia_gdY rfl (oa_lssW rfl rfl (decide_eq_false (by omega)) ?_)
  refine ia_gdY rfl (oa_not rfl ?_)
  refine ia_op (oa_pickT rfl rfl rfl (ia_nil (va_condT rfl (va_skip (va_block (va_reg ?_))))))
  refine ia_pl rfl ?_
  refine ia_op (oa_addW (c := ((k + 1 + 1 : Nat) : Int)) rfl rfl (wrapE_i64 (by omega) (by omega) (by omega)) ?_)
  refine ia_pl rfl ?_
  refine ia_nil ⟨k + 1, ?_, ⟨rfl, rfl, rfl, rfl, rfl, trivial⟩, hk.trans0 hk3, by omega⟩
  show out.length - (k + 1) < out.length - k
  omega
set_option maxHeartbeats 0 in
theorem pivot_ok (S : Srt H v out) (h0 : 12 < out.length) (hQ : ∀ (j : Nat) H', Keep Non H H' → Q (.tup [.int .i64 (j : Int), .int .i64 1]) H') : WpF Tryz.prog tb gl 88 [v, .int .i64 0, .int .i64 (out.length : Int), cmpF] H Q := by
  have hln := S.ln
  obtain ⟨d, hd⟩ : ∃ d, d = out.length / 4 := ⟨_, rfl⟩
  have hd4 : d * 4 ≤ out.length := by omega
  have hd5 : out.length < d * 4 + 4 := by omega
  refine fa Tryz.func88 b88_eq v88_eq r88_eq (.inr (by simp)) ?_
  refine va_seqr ?_
  refine ia_pl rfl ?_
  refine ia_nil (va_seqr ?_)
  refine ia_pl rfl ?_
  refine ia_op (oa_subW (c := (out.length : Int)) rfl rfl (wrapE_i64 (by omega) (by omega) (by omega)) ?_)
  refine ia_pl rfl ?_
  refine ia_nil (va_seqr ?_)
  refine ia_op (oa_alloc ZeF.h fun H1 hk1 hr1 => ?_)
  obtain ⟨sw, hsw⟩ : ∃ b, b = H.nx := ⟨_, rfl⟩
  rw [← hsw] at hr1 ⊢
  have S1 := S.to hk1
  refine ia_nil (va_seqr ?_)
  refine ia_pl rfl ?_
  refine ia_op (oa_quoW (c := (d : Int)) rfl rfl (by decide) (wrapE_i64 ((tdiv_nat out.length 4).trans (by rw [← hd])) (by omega) (by omega)) ?_)
  refine ia_op (oa_mulW (c := (d : Int)) rfl rfl (wrapE_i64 (by omega) (by omega) (by omega)) ?_)
  refine ia_op (oa_addW (c := (d : Int)) rfl rfl (wrapE_i64 (by omega) (by omega) (by omega)) ?_)
  refine ia_pl rfl ?_
  refine ia_nil (va_seqr ?_)
  refine ia_pl rfl ?_
  refine ia_op (oa_quoW (c := (d : Int)) rfl rfl (by decide) (wrapE_i64 ((tdiv_nat out.length 4).trans (by rw [← hd])) (by omega) (by omega)) ?_)
  refine ia_op (oa_mulW (c := ((2 * d : Nat) : Int)) rfl rfl (wrapE_i64 (by omega) (by omega) (by omega)) ?_)
  refine ia_op (oa_addW (c := ((2 * d : Nat) : Int)) rfl rfl (wrapE_i64 (by omega) (by omega) (by omega)) ?_)
  refine ia_pl rfl ?_
  refine ia_nil (va_seqr ?_)
  refine ia_pl rfl ?_
  refine ia_op (oa_quoW (c := (d : Int)) rfl rfl (by decide) (wrapE_i64 ((tdiv_nat out.length 4).trans (by rw [← hd])) (by omega) (by omega)) ?_)
  refine ia_op (oa_mulW (c := ((3 * d : Nat) : Int)) rfl rfl (wrapE_i64 (by omega) (by omega) (by omega)) ?_)
  refine ia_op (oa_addW (c := ((3 * d : Nat) : Int)) rfl rfl (wrapE_i64 (by omega) (by omega) (by omega)) ?_)
  refine ia_pl rfl ?_
  refine ia_nil (va_seq (va_seqr ?_))
  refine ia_pl rfl ?_
  refine ia_op (oa_geqW rfl rfl (decide_eq_true (by omega)) (ia_nil (va_condT rfl (va_seq ?_))))
  refine va_cut (fun l' H' => Keep Non H1 H' ∧ Sb [(0, v), (3, cmpF), (11, .ptr sw 0), (12, .int .i64 (d : Int)), (13, .int .i64 ((2 * d : Nat) : Int)), (14, .int .i64 ((3 * d : Nat) : Int))] l') ?_ ?_
  · refine va_seqr ?_
    refine ia_pl rfl ?_
    by_cases h50 : 50 ≤ out.length
    · refine ia_op (oa_geqW rfl rfl (decide_eq_true (by omega)) (ia_nil (va_condT rfl (va_seqr ?_))))
      refine ia_pl rfl ?_
      refine ia_op (oa_call rfl rfl rfl (medianAdjacent_ok S1 (a := d) (by omega) (by omega) fun H2 hk2 => ?_))
      refine ia_pl rfl ?_
      refine ia_nil (va_seqr ?_)
      refine ia_pl rfl ?_
      refine ia_op (oa_call rfl rfl rfl (medianAdjacent_ok (S1.to hk2) (a := 2 * d) (by omega) (by omega) fun H3 hk3 => ?_))
      refine ia_pl rfl ?_
      refine ia_nil (va_reg ?_)
      refine ia_pl rfl ?_
      refine ia_op (oa_call rfl rfl rfl (medianAdjacent_ok ((S1.to hk2).to hk3) (a := 3 * d) (by omega) (by omega) fun H4 hk4 => ?_))
      refine ia_pl rfl ?_
      exact ia_nil ⟨(hk2.trans0 hk3).trans0 hk4, rfl, rfl, rfl, rfl, rfl, rfl, trivial⟩
    · refine ia_op (oa_geqW rfl rfl (decide_eq_false (by omega)) (ia_nil (va_condF rfl (va_skip ⟨.refl _ _, rfl, rfl, rfl, rfl, rfl, rfl, trivial⟩))))
  rintro l2 H2 ⟨hk2, hs⟩
  refine VA.sub hs (va_reg ?_)
  refine ia_pl rfl ?_
  refine ia_op (oa_call rfl rfl rfl (median_ok (S1.to hk2) (a := d) (b := 2 * d) (c := 3 * d) (by omega) (by omega) (by omega) fun H3 hk3 => ?_))
  refine ia_pl rfl ?_
  have hr3 : IsRow H3 sw [.int .i64 0] false false := IsRow.keep0 (IsRow.keep0 hr1 hk2) hk3
  refine ia_nil (va_seqr ?_)
  refine ia_pl rfl ?_; (repeat ((first | refine ia_op (oa_nilCheck rfl ?_) | refine ia_op (oa_fieldAddr FpF.h (by decide) rfl ?_) | refine ia_op (oa_load1 PlF.h rfl hr3 rfl ?_)); refine ia_pl rfl ?_))
  refine ia_nil (va_block (va_seqr ?_))
  refine ia_op (oa_eqlW rfl rfl (decide_eq_true rfl) ?_)
  refine ia_pl rfl ?_
  refine ia_nil (va_condT rfl (va_seqr ?_))
  refine ia_pl rfl ?_
  exact ia_nil (va_ret ⟨_, rfl, hQ (2 * d) H3 ((hk1.trans0 hk2).trans0 hk3)⟩)
set_option maxHeartbeats 0 in
theorem len64_ok {n : Nat} (hn : n < 256) (hQ : ∀ c : Nat, (12 < n → 0 < c) → c < 1000 → Q (.int .i64 (c : Int)) H) : WpF Tryz.prog tb gl 94 [.int .u64 (n : Int)] H Q := by
  obtain ⟨c, hc⟩ := lenTab_any hn
  have hcp : 12 < n → 0 < c.toNat := fun h => by
    obtain ⟨c', h1, h2⟩ := lenTab_get h hn
    rw [hc] at h1
    injection h1 with h1
    rw [h1]; exact h2
  have hcl : c.toNat < 256 := c.toNat_lt
  refine fa Tryz.func94 b94_eq v94_eq r94_eq (.inr (by simp)) ?_
  refine va_seqr ?_
  refine ia_pl rfl ?_
  refine ia_nil (va_seq (va_seqr ?_))
  refine ia_pl rfl ?_
  refine ia_op (oa_geqW rfl rfl (decide_eq_false (by omega)) (ia_nil (va_condF rfl (va_skip (va_seq (va_seqr ?_))))))
  refine ia_pl rfl ?_
  refine ia_op (oa_geqW rfl rfl (decide_eq_false (by omega)) (ia_nil (va_condF rfl (va_skip (va_seq (va_seqr ?_))))))
  refine ia_pl rfl ?_
  refine ia_op (oa_geqW rfl rfl (decide_eq_false (by omega)) (ia_nil (va_condF rfl (va_skip (va_seqr ?_)))))
  refine ia_pl rfl ?_
  refine ia_op (oa_convW UnF.h UnF.h rfl (wrapE_u8 (c := (n : Int)) rfl (by omega) (by omega)) ?_)
  refine ia_op (oa_indexS (p := lenTab) UnF.h rfl rfl rfl hc ?_)
  refine ia_op (oa_convW UnF.h UnF.h rfl (wrapE_i64 (c := (c.toNat : Int)) rfl (by omega) (by omega)) ?_)
  refine ia_op (oa_addW (c := (c.toNat : Int)) rfl rfl (wrapE_i64 (by omega) (by omega) (by omega)) ?_)
  refine ia_pl rfl ?_
  exact ia_nil (va_ret ⟨_, rfl, hQ c.toNat hcp (by omega)⟩)
set_option maxHeartbeats 0 in
theorem len_ok {n : Nat} (hn : n < 256) (hQ : ∀ c : Nat, (12 < n → 0 < c) → c < 1000 → Q (.int .i64 (c : Int)) H) : WpF Tryz.prog tb gl 44 [.int .u64 (n : Int)] H Q := by
  refine fa Tryz.func44 b44_eq v44_eq r44_eq (.inr (by simp)) ?_
  refine va_seqr ?_
  refine ia_pl rfl ?_
  refine ia_nil (va_seq (va_condF rfl (va_skip (va_seqr ?_))))
  refine ia_pl rfl ?_
  refine ia_op (oa_call rfl rfl rfl (len64_ok hn fun c h1 h2 => ?_))
  refine ia_pl rfl ?_
  exact ia_nil (va_ret ⟨_, rfl, hQ c h1 h2⟩)
set_option maxHeartbeats 0 in
theorem pdq_ok (S : Srt H v out) {c : Nat} (hc : 12 < out.length → 0 < c) (hQ : ∀ H', Keep Non H H' → Q (.tup []) H') : WpF Tryz.prog tb gl 43 [v, .int .i64 0, .int .i64 (out.length : Int), .int .i64 (c : Int), cmpF] H Q := by
  have hln := S.ln
  refine fa Tryz.func43 b43_eq v43_eq r43_eq (.inr (by simp)) ?_
  refine va_seqr ?_
  refine ia_pl rfl ?_
  refine ia_nil (va_seqr ?_)
  refine ia_pl rfl ?_
  refine ia_nil (va_block ?_)
  refine va_loop (fun (_ : Unit) => [(0, v), (1, .int .i64 0), (2, .int .i64 (out.length : Int)), (3, .int .i64 (c : Int)), (4, cmpF), (10, .bool true), (11, .bool true)]) (fun _ H' => H' = H) (fun _ => 0) ?_ () _ H ⟨rfl, rfl, rfl, rfl, rfl, rfl, rfl, trivial⟩ rfl
  rintro _ H1 he
  subst he
  refine va_block (va_seqr ?_)
  refine ia_pl rfl ?_
  refine ia_op (oa_subW (c := (out.length : Int)) rfl rfl (wrapE_i64 (by omega) (by omega) (by omega)) ?_)
  refine ia_pl rfl ?_
  refine ia_nil (va_seq (va_seqr ?_))
  refine ia_pl rfl ?_
  by_cases h12 : out.length ≤ 12
  · refine ia_op (oa_leqW rfl rfl (decide_eq_true (by omega)) (ia_nil (va_condT rfl (va_seqr ?_))))
    refine ia_pl rfl ?_
    refine ia_op (oa_call rfl rfl rfl (insertion_ok S fun H2 hk2 => ?_))
    exact ia_nil (va_ret ⟨[], rfl, hQ H2 hk2⟩)
  have hc0 := hc (by omega)
  refine ia_op (oa_leqW rfl rfl (decide_eq_false (by omega)) (ia_nil (va_condF rfl (va_skip (va_seq (va_seqr ?_))))))
  refine ia_pl rfl ?_
  refine ia_op (oa_eqlW rfl rfl (decide_eq_false (by omega)) (ia_nil (va_condF rfl (va_skip (va_seq (va_seqr ?_))))))
  refine ia_pl rfl ?_
  refine ia_nil (va_condF rfl (va_skip (va_seqr ?_)))
  refine ia_pl rfl ?_
  refine ia_op (oa_call rfl rfl rfl (pivot_ok S (by omega) fun j H2 hk2 => ?_))
  refine ia_pl rfl ?_
  refine ia_nil (va_seq (va_seqr ?_))
  refine ia_pl rfl ?_
  refine ia_op (oa_eqlW rfl rfl (decide_eq_false (by omega)) (ia_nil (va_condF rfl (va_skip (va_seq (va_seqr ?_))))))
  refine ia_pl rfl ?_
  refine ia_gdY rfl (oa_move rfl ?_)
  refine ia_op (oa_pickT rfl rfl rfl ?_)
  refine ia_pl rfl ?_
  refine ia_gdY rfl (oa_move rfl ?_)
  refine ia_gdY rfl (oa_eqlW rfl rfl (decide_eq_true rfl) ?_)
  refine ia_op (oa_pickT rfl rfl rfl (ia_nil (va_condT rfl (va_seqr ?_))))
  refine ia_pl rfl ?_
  refine ia_op (oa_call rfl rfl rfl (partial_ok (S.to hk2) (by omega) fun H3 hk3 => ?_))
  exact ia_nil (va_condT rfl (va_ret ⟨[], rfl, hQ H3 (hk2.trans0 hk3)⟩))
set_option maxHeartbeats 0 in
theorem sort_ok (S : Srt H v out) (hQ : ∀ H', Keep Non H H' → Q (.tup []) H') : WpF Tryz.prog tb gl 19 [v, cmpF] H Q := by
  have hln := S.ln
  refine fa Tryz.func19 b19_eq v19_eq r19_eq (.inr (by simp)) ?_
  refine va_seqr ?_
  refine ia_pl rfl ?_; (repeat ((first | refine ia_op (oa_lenSl rfl rfl rfl UnF.h rfl S.sl ?_)); refine ia_pl rfl ?_))
  refine ia_nil (va_reg ?_)
  refine ia_pl rfl ?_
  refine ia_op (oa_convW UnF.h UnF.h rfl (wrapE_u64 (c := (out.length : Int)) rfl (by omega) (by omega)) ?_)
  refine ia_op (oa_call rfl rfl rfl (len_ok hln fun c h1 h2 => ?_))
  refine ia_pl rfl ?_
  refine ia_op (oa_call rfl rfl rfl (pdq_ok S h1 fun H2 hk2 => ?_))
  exact ia_nil ⟨[], rfl, hQ H2 hk2⟩
end
end Go.Proofs.YtndhniapohlniaaGreatDoor
