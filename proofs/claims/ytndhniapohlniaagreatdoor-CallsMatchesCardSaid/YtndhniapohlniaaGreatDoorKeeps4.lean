/-
  Matched calls: rows of events matched (align.Match), walked. Conditions: the rows' lengths.
-/
import Derived.Test.YtndhniapohlniaaGreatDoorMatchT
import Derived.Test.YtndhniapohlniaaGreatDoorCore8
namespace Go.Proofs.YtndhniapohlniaaGreatDoor
open Go Go.Proofs.YtndhniapohlniaaGreatDoor.Eng
/-! facts about types -/
theorem ze_390 : zeroOf Tryz.prog 390 = some (.agg [.int .i64 0, .nils]) := by kernel_rfl
instance ize_390 : ZeF Tryz.prog 390 (.agg [.int .i64 0, .nils]) := ⟨ze_390⟩
theorem bs_390 : structOK Tryz.prog 390 = true := by kernel_rfl
instance ibs_390 : BsF Tryz.prog 390 := ⟨bs_390⟩
theorem ps_390 : plcsOK Tryz.prog 390 0 [(0, 1), (1, 1)] = true := by kernel_rfl
instance ips_390 : PsF Tryz.prog 390 [(0, 1), (1, 1)] := ⟨ps_390⟩
theorem sz_390 : szOf Tryz.prog 390 = some 2 := by kernel_rfl
instance isz_390 : SzF Tryz.prog 390 2 := ⟨sz_390⟩
theorem fp_390_1 : fieldPlc Tryz.prog 390 1 = some ⟨1, false, 1⟩ := by kernel_rfl
instance ifp_390_1 : FpF Tryz.prog 390 1 ⟨1, false, 1⟩ := ⟨fp_390_1⟩
theorem fp_390_0 : fieldPlc Tryz.prog 390 0 = some ⟨0, false, 1⟩ := by kernel_rfl
instance ifp_390_0 : FpF Tryz.prog 390 0 ⟨0, false, 1⟩ := ⟨fp_390_0⟩
theorem un_324 : Tryz.prog.underlying 324 = some (.pointer 390) := by kernel_rfl
instance iun_324 : UnF Tryz.prog 324 (.pointer 390) := ⟨un_324⟩
theorem ze_44 : zeroOf Tryz.prog 44 = some (.agg [.int .i64 0, .int .i64 0]) := by kernel_rfl
instance ize_44 : ZeF Tryz.prog 44 (.agg [.int .i64 0, .int .i64 0]) := ⟨ze_44⟩
theorem bs_44 : structOK Tryz.prog 44 = true := by kernel_rfl
instance ibs_44 : BsF Tryz.prog 44 := ⟨bs_44⟩
theorem ps_44 : plcsOK Tryz.prog 44 0 [(0, 1), (1, 1)] = true := by kernel_rfl
instance ips_44 : PsF Tryz.prog 44 [(0, 1), (1, 1)] := ⟨ps_44⟩
theorem el_29 : elemI Tryz.prog 29 = some ⟨44, 2, .agg [.int .i64 0, .int .i64 0]⟩ := by kernel_rfl
instance iel_29 : ElF Tryz.prog 29 ⟨44, 2, .agg [.int .i64 0, .int .i64 0]⟩ := ⟨el_29⟩
theorem un_29 : Tryz.prog.underlying 29 = some (.slice 44) := by kernel_rfl
instance iun_29 : UnF Tryz.prog 29 (.slice 44) := ⟨un_29⟩
/-! f83: parallax/align.Parting, parameters #[151, 151] -/
def v83c1 : CV := .seq (.reg [.op (some 25) (.move (.tmp 6)),
    .op (some 4) (.assign (.tmp 25))])
  (.ret)
def v83k0t1 : CV := .seq (.reg [.op (some 16) (.move (.tmp 0)),
    .op (some 17) (.move (.tmp 6)),
    .op (some 18) (.indexAddr 151 (.tmp 16) (.tmp 17)),
    .op (some 19) (.load 235 (.tmp 18)),
    .op (some 20) (.move (.tmp 1)),
    .op (some 21) (.move (.tmp 6)),
    .op (some 22) (.indexAddr 151 (.tmp 20) (.tmp 21)),
    .op (some 23) (.load 235 (.tmp 22)),
    .op (some 24) (.binOp .neq 235 (.tmp 19) (.tmp 23) 235)])
  (.cond (.tmp 24) v83c1 (.skip))
def v83k0 : CV := .seq (.reg [.op (some 15) (.move (.tmp 13)),
    .op (some 6) (.assign (.tmp 15))]) v83k0t1
def v83l0t2 : CV := .seq (.block 1 v83k0)
  (.reg [.op (some 26) (.binOp .add 3 (.tmp 13) (.const (.int .i64 1)) 3),
    .op (some 13) (.move (.tmp 26))])
def v83l0t1 : CV := .seq (.cond (.tmp 14) (.skip) (.exit 0)) v83l0t2
def v83l0 : CV := .seq (.reg [.op (some 14) (.binOp .lss 3 (.tmp 13) (.tmp 12) 3)]) v83l0t1
def v83h2 : CV := .seq (.reg [.op (some 12) (.move (.tmp 5)),
    .op (some 13) (.move (.const (.int .i64 0)))])
  (.block 0 (.loop v83l0))
def v83c2 : CV := .seq (.reg [.op (some 4) (.assign (.const (.int .i64 (-1))))])
  (.ret)
def v83h3 : CV := .seq (.reg [.op (some 27) (.move (.tmp 0)),
    .op (some 28) (.call ⟨.builtin .len, #[(.tmp 27)], #[151]⟩),
    .op (some 29) (.move (.tmp 1)),
    .op (some 30) (.call ⟨.builtin .len, #[(.tmp 29)], #[151]⟩),
    .op (some 31) (.binOp .eql 3 (.tmp 28) (.tmp 30) 3)])
  (.cond (.tmp 31) v83c2 (.skip))
def v83t4 : CV := .seq (.reg [.op (some 32) (.move (.tmp 5)),
    .op (some 4) (.assign (.tmp 32))])
  (.ret)
def v83t3 : CV := .seq v83h3 v83t4
def v83t2 : CV := .seq v83h2 v83t3
def v83t1 : CV := .seq (.reg [.op (some 7) (.move (.tmp 0)),
    .op (some 8) (.call ⟨.builtin .len, #[(.tmp 7)], #[151]⟩),
    .op (some 9) (.move (.tmp 1)),
    .op (some 10) (.call ⟨.builtin .len, #[(.tmp 9)], #[151]⟩),
    .op (some 11) (.call ⟨.builtin .min, #[(.tmp 8), (.tmp 10)], #[3, 3]⟩),
    .op (some 5) (.assign (.tmp 11))]) v83t2
def v83 : CV := .seq (.reg [.op (some 4) (.assign (.const (.int .i64 0)))]) v83t1
noncomputable def b83 : Code := Tryz.f83.body.getD .skip
theorem b83_eq : Tryz.f83.body = some b83 := by kernel_rfl
theorem v83_eq : viewC Tryz.prog b83 = some v83 := by kernel_rfl
theorem r83_eq : Tryz.f83.results.toList = [.tmp 4] := by kernel_rfl
/-! f166: parallax/align.sizes, parameters #[151, 151] -/
def v166k1t3 : CV := .seq (.reg [.op (some 108) (.move (.tmp 0)),
    .op (some 109) (.move (.tmp 9)),
    .op (some 110) (.indexAddr 151 (.tmp 108) (.tmp 109)),
    .op (some 111) (.load 235 (.tmp 110)),
    .op (some 112) (.move (.tmp 1)),
    .op (some 113) (.move (.tmp 13)),
    .op (some 114) (.indexAddr 151 (.tmp 112) (.tmp 113)),
    .op (some 115) (.load 235 (.tmp 114)),
    .op (some 116) (.binOp .eql 235 (.tmp 111) (.tmp 115) 235)])
  (.cond (.tmp 116) (.reg [.op (some 117) (.move (.tmp 10)),
    .op (some 118) (.move (.tmp 13)),
    .op (some 119) (.move (.tmp 11)),
    .op (some 120) (.move (.tmp 13)),
    .op (some 121) (.binOp .add 3 (.tmp 120) (.const (.int .i64 1)) 3),
    .op (some 122) (.indexAddr 52 (.tmp 119) (.tmp 121)),
    .op (some 123) (.load 3 (.tmp 122)),
    .op (some 124) (.binOp .add 3 (.tmp 123) (.const (.int .i64 1)) 3),
    .op (some 125) (.indexAddr 52 (.tmp 117) (.tmp 118)),
    .op none (.store 3 (.tmp 125) (.tmp 124))]) (.skip))
def v166k1t2 : CV := .seq (.reg [.op (some 95) (.move (.tmp 10)),
    .op (some 96) (.move (.tmp 13)),
    .op (some 97) (.move (.tmp 11)),
    .op (some 98) (.move (.tmp 13)),
    .op (some 99) (.indexAddr 52 (.tmp 97) (.tmp 98)),
    .op (some 100) (.load 3 (.tmp 99)),
    .op (some 101) (.move (.tmp 10)),
    .op (some 102) (.move (.tmp 13)),
    .op (some 103) (.binOp .add 3 (.tmp 102) (.const (.int .i64 1)) 3),
    .op (some 104) (.indexAddr 52 (.tmp 101) (.tmp 103)),
    .op (some 105) (.load 3 (.tmp 104)),
    .op (some 106) (.call ⟨.builtin .max, #[(.tmp 100), (.tmp 105)], #[3, 3]⟩),
    .op (some 107) (.indexAddr 52 (.tmp 95) (.tmp 96)),
    .op none (.store 3 (.tmp 107) (.tmp 106))]) v166k1t3
def v166k1t1 : CV := .seq (.reg [.op (some 91) (.move (.tmp 6)),
    .op (some 92) (.binOp .sub 3 (.tmp 91) (.const (.int .i64 1)) 3),
    .op (some 93) (.move (.tmp 12)),
    .op (some 94) (.binOp .sub 3 (.tmp 92) (.tmp 93) 3),
    .op (some 13) (.assign (.tmp 94))]) v166k1t2
def v166k1 : CV := .seq (.reg [.op (some 90) (.move (.tmp 88)),
    .op (some 12) (.assign (.tmp 90))]) v166k1t1
def v166l1t2 : CV := .seq (.block 3 v166k1)
  (.reg [.op (some 126) (.binOp .add 3 (.tmp 88) (.const (.int .i64 1)) 3),
    .op (some 88) (.move (.tmp 126))])
def v166l1t1 : CV := .seq (.cond (.tmp 89) (.skip) (.exit 2)) v166l1t2
def v166l1 : CV := .seq (.reg [.op (some 89) (.binOp .lss 3 (.tmp 88) (.tmp 87) 3)]) v166l1t1
def v166k0t4 : CV := .seq (.reg [.op (some 87) (.move (.tmp 6)),
    .op (some 88) (.move (.const (.int .i64 0)))])
  (.block 2 (.loop v166l1))
def v166k0t3 : CV := .seq (.reg [.op (some 61) (.move (.tmp 7)),
    .op (some 62) (.nilCheck (.tmp 61)),
    .op (some 63) (.fieldAddr 390 (.tmp 62) 1),
    .op (some 64) (.load 52 (.tmp 63)),
    .op (some 65) (.move (.tmp 9)),
    .op (some 66) (.binOp .add 3 (.tmp 65) (.const (.int .i64 1)) 3),
    .op (some 67) (.move (.tmp 7)),
    .op (some 68) (.nilCheck (.tmp 67)),
    .op (some 69) (.fieldAddr 390 (.tmp 68) 0),
    .op (some 70) (.load 3 (.tmp 69)),
    .op (some 71) (.binOp .mul 3 (.tmp 66) (.tmp 70) 3),
    .op (some 72) (.move (.tmp 9)),
    .op (some 73) (.binOp .add 3 (.tmp 72) (.const (.int .i64 2)) 3),
    .op (some 74) (.move (.tmp 7)),
    .op (some 75) (.nilCheck (.tmp 74)),
    .op (some 76) (.fieldAddr 390 (.tmp 75) 0),
    .op (some 77) (.load 3 (.tmp 76)),
    .op (some 78) (.binOp .mul 3 (.tmp 73) (.tmp 77) 3),
    .op (some 79) (.move (.tmp 9)),
    .op (some 80) (.binOp .add 3 (.tmp 79) (.const (.int .i64 2)) 3),
    .op (some 81) (.move (.tmp 7)),
    .op (some 82) (.nilCheck (.tmp 81)),
    .op (some 83) (.fieldAddr 390 (.tmp 82) 0),
    .op (some 84) (.load 3 (.tmp 83)),
    .op (some 85) (.binOp .mul 3 (.tmp 80) (.tmp 84) 3),
    .op (some 86) (.slice 52 (.tmp 64) (some (.tmp 71)) (some (.tmp 78)) (some (.tmp 85))),
    .op (some 11) (.assign (.tmp 86))]) v166k0t4
def v166k0t2 : CV := .seq (.reg [.op (some 36) (.move (.tmp 7)),
    .op (some 37) (.nilCheck (.tmp 36)),
    .op (some 38) (.fieldAddr 390 (.tmp 37) 1),
    .op (some 39) (.load 52 (.tmp 38)),
    .op (some 40) (.move (.tmp 9)),
    .op (some 41) (.move (.tmp 7)),
    .op (some 42) (.nilCheck (.tmp 41)),
    .op (some 43) (.fieldAddr 390 (.tmp 42) 0),
    .op (some 44) (.load 3 (.tmp 43)),
    .op (some 45) (.binOp .mul 3 (.tmp 40) (.tmp 44) 3),
    .op (some 46) (.move (.tmp 9)),
    .op (some 47) (.binOp .add 3 (.tmp 46) (.const (.int .i64 1)) 3),
    .op (some 48) (.move (.tmp 7)),
    .op (some 49) (.nilCheck (.tmp 48)),
    .op (some 50) (.fieldAddr 390 (.tmp 49) 0),
    .op (some 51) (.load 3 (.tmp 50)),
    .op (some 52) (.binOp .mul 3 (.tmp 47) (.tmp 51) 3),
    .op (some 53) (.move (.tmp 9)),
    .op (some 54) (.binOp .add 3 (.tmp 53) (.const (.int .i64 1)) 3),
    .op (some 55) (.move (.tmp 7)),
    .op (some 56) (.nilCheck (.tmp 55)),
    .op (some 57) (.fieldAddr 390 (.tmp 56) 0),
    .op (some 58) (.load 3 (.tmp 57)),
    .op (some 59) (.binOp .mul 3 (.tmp 54) (.tmp 58) 3),
    .op (some 60) (.slice 52 (.tmp 39) (some (.tmp 45)) (some (.tmp 52)) (some (.tmp 59))),
    .op (some 10) (.assign (.tmp 60))]) v166k0t3
def v166k0t1 : CV := .seq (.reg [.op (some 32) (.move (.tmp 5)),
    .op (some 33) (.binOp .sub 3 (.tmp 32) (.const (.int .i64 1)) 3),
    .op (some 34) (.move (.tmp 8)),
    .op (some 35) (.binOp .sub 3 (.tmp 33) (.tmp 34) 3),
    .op (some 9) (.assign (.tmp 35))]) v166k0t2
def v166k0 : CV := .seq (.reg [.op (some 31) (.move (.tmp 29)),
    .op (some 8) (.assign (.tmp 31))]) v166k0t1
def v166l0t2 : CV := .seq (.block 1 v166k0)
  (.reg [.op (some 127) (.binOp .add 3 (.tmp 29) (.const (.int .i64 1)) 3),
    .op (some 29) (.move (.tmp 127))])
def v166l0t1 : CV := .seq (.cond (.tmp 30) (.skip) (.exit 0)) v166l0t2
def v166l0 : CV := .seq (.reg [.op (some 30) (.binOp .lss 3 (.tmp 29) (.tmp 28) 3)]) v166l0t1
def v166h3 : CV := .seq (.reg [.op (some 28) (.move (.tmp 5)),
    .op (some 29) (.move (.const (.int .i64 0)))])
  (.block 0 (.loop v166l0))
def v166t4 : CV := .seq (.reg [.op (some 128) (.move (.tmp 7)),
    .op (some 4) (.assign (.tmp 128))])
  (.ret)
def v166t3 : CV := .seq v166h3 v166t4
def v166t2 : CV := .seq (.reg [.op (some 18) (.move (.tmp 6)),
    .op (some 19) (.binOp .add 3 (.tmp 18) (.const (.int .i64 1)) 3),
    .op (some 20) (.move (.tmp 5)),
    .op (some 21) (.binOp .add 3 (.tmp 20) (.const (.int .i64 1)) 3),
    .op (some 22) (.move (.tmp 6)),
    .op (some 23) (.binOp .add 3 (.tmp 22) (.const (.int .i64 1)) 3),
    .op (some 24) (.binOp .mul 3 (.tmp 21) (.tmp 23) 3),
    .op (some 25) (.makeSlice 52 (.tmp 24) (.tmp 24)),
    .op (some 26) (.build 390 #[(0, (.tmp 19)), (1, (.tmp 25))]),
    .op (some 27) (.box 390 (.tmp 26)),
    .op (some 7) (.assign (.tmp 27))]) v166t3
def v166t1 : CV := .seq (.reg [.op (some 14) (.move (.tmp 0)),
    .op (some 15) (.call ⟨.builtin .len, #[(.tmp 14)], #[151]⟩),
    .op (some 16) (.move (.tmp 1)),
    .op (some 17) (.call ⟨.builtin .len, #[(.tmp 16)], #[151]⟩),
    .op (some 5) (.assign (.tmp 15)),
    .op (some 6) (.assign (.tmp 17))]) v166t2
def v166 : CV := .seq (.reg [.op (some 4) (.assign (.const (.pointer none)))]) v166t1
noncomputable def b166 : Code := Tryz.f166.body.getD .skip
theorem b166_eq : Tryz.f166.body = some b166 := by kernel_rfl
theorem v166_eq : viewC Tryz.prog b166 = some v166 := by kernel_rfl
theorem r166_eq : Tryz.f166.results.toList = [.tmp 4] := by kernel_rfl
/-! f167: (*parallax/align.table).at, parameters #[324, 3, 3] -/
def v167t1 : CV := .seq (.reg [.op (some 7) (.move (.tmp 0)),
    .op (some 8) (.nilCheck (.tmp 7)),
    .op (some 9) (.fieldAddr 390 (.tmp 8) 1),
    .op (some 10) (.load 52 (.tmp 9)),
    .op (some 11) (.move (.tmp 1)),
    .op (some 12) (.move (.tmp 0)),
    .op (some 13) (.nilCheck (.tmp 12)),
    .op (some 14) (.fieldAddr 390 (.tmp 13) 0),
    .op (some 15) (.load 3 (.tmp 14)),
    .op (some 16) (.binOp .mul 3 (.tmp 11) (.tmp 15) 3),
    .op (some 17) (.move (.tmp 2)),
    .op (some 18) (.binOp .add 3 (.tmp 16) (.tmp 17) 3),
    .op (some 19) (.indexAddr 52 (.tmp 10) (.tmp 18)),
    .op (some 20) (.load 3 (.tmp 19)),
    .op (some 6) (.assign (.tmp 20))])
  (.ret)
def v167 : CV := .seq (.reg [.op (some 6) (.assign (.const (.int .i64 0)))]) v167t1
noncomputable def b167 : Code := Tryz.f167.body.getD .skip
theorem b167_eq : Tryz.f167.body = some b167 := by kernel_rfl
theorem v167_eq : viewC Tryz.prog b167 = some v167 := by kernel_rfl
theorem r167_eq : Tryz.f167.results.toList = [.tmp 6] := by kernel_rfl
/-! f168: parallax/align.find, parameters #[324, 151, 151, 3, 3, 3] -/
def v168l0h0 : CV := .seq (.reg [.op (some 17) (.move (.tmp 14)),
    .op (some 18) (.move (.tmp 1)),
    .op (some 19) (.call ⟨.builtin .len, #[(.tmp 18)], #[151]⟩),
    .op (some 20) (.binOp .lss 3 (.tmp 17) (.tmp 19) 3)])
  (.cond (.tmp 20) (.skip) (.exit 0))
def v168l1h0 : CV := .seq (.reg [.op (some 24) (.move (.tmp 15)),
    .op (some 25) (.move (.tmp 2)),
    .op (some 26) (.call ⟨.builtin .len, #[(.tmp 25)], #[151]⟩),
    .op (some 27) (.binOp .lss 3 (.tmp 24) (.tmp 26) 3)])
  (.cond (.tmp 27) (.skip) (.exit 2))
def v168c2 : CV := .seq (.reg [.op (some 50) (.move (.tmp 14)),
    .op (some 51) (.move (.tmp 15)),
    .op (some 12) (.assign (.tmp 50)),
    .op (some 13) (.assign (.tmp 51))])
  (.ret)
def v168k1 : CV := .seq (.reg [.op (some 30) (.move (.tmp 1)),
    .op (some 31) (.move (.tmp 14)),
    .op (some 32) (.indexAddr 151 (.tmp 30) (.tmp 31)),
    .op (some 33) (.load 235 (.tmp 32)),
    .op (some 34) (.move (.tmp 2)),
    .op (some 35) (.move (.tmp 15)),
    .op (some 36) (.indexAddr 151 (.tmp 34) (.tmp 35)),
    .op (some 37) (.load 235 (.tmp 36)),
    .op (some 38) (.binOp .eql 235 (.tmp 33) (.tmp 37) 235),
    .op (some 39) (.move (.tmp 38)),
    .gd 39 true (some 40) (.move (.tmp 0)),
    .gd 39 true (some 41) (.move (.tmp 14)),
    .gd 39 true (some 42) (.binOp .add 3 (.tmp 41) (.const (.int .i64 1)) 3),
    .gd 39 true (some 43) (.move (.tmp 15)),
    .gd 39 true (some 44) (.binOp .add 3 (.tmp 43) (.const (.int .i64 1)) 3),
    .gd 39 true (some 47) (.move (.tmp 5)),
    .gd 39 true (some 45) (.call ⟨.value (.func 167), #[(.tmp 40), (.tmp 42), (.tmp 44)], #[324, 3, 3]⟩),
    .gd 39 true (some 46) (.binOp .add 3 (.tmp 45) (.const (.int .i64 1)) 3),
    .gd 39 true (some 48) (.binOp .eql 3 (.tmp 46) (.tmp 47) 3),
    .op (some 49) (.pick (.tmp 39) (.tmp 48) (.const (.bool false)))])
  (.cond (.tmp 49) v168c2 (.skip))
def v168l1t1 : CV := .seq (.block 3 v168k1)
  (.reg [.op (some 28) (.move (.tmp 15)),
    .op (some 29) (.binOp .add 3 (.tmp 28) (.const (.int .i64 1)) 3),
    .op (some 15) (.assign (.tmp 29))])
def v168l1 : CV := .seq v168l1h0 v168l1t1
def v168k0 : CV := .seq (.reg [.op (some 23) (.move (.tmp 4)),
    .op (some 15) (.assign (.tmp 23))])
  (.block 2 (.loop v168l1))
def v168l0t1 : CV := .seq (.block 1 v168k0)
  (.reg [.op (some 21) (.move (.tmp 14)),
    .op (some 22) (.binOp .add 3 (.tmp 21) (.const (.int .i64 1)) 3),
    .op (some 14) (.assign (.tmp 22))])
def v168l0 : CV := .seq v168l0h0 v168l0t1
def v168h1 : CV := .seq (.reg [.op (some 16) (.move (.tmp 3)),
    .op (some 14) (.assign (.tmp 16))])
  (.block 0 (.loop v168l0))
def v168t2 : CV := .seq (.reg [.op (some 12) (.assign (.const (.int .i64 0))),
    .op (some 13) (.assign (.const (.int .i64 0)))])
  (.ret)
def v168t1 : CV := .seq v168h1 v168t2
def v168 : CV := .seq (.reg [.op (some 12) (.assign (.const (.int .i64 0))),
    .op (some 13) (.assign (.const (.int .i64 0)))]) v168t1
noncomputable def b168 : Code := Tryz.f168.body.getD .skip
theorem b168_eq : Tryz.f168.body = some b168 := by kernel_rfl
theorem v168_eq : viewC Tryz.prog b168 = some v168 := by kernel_rfl
theorem r168_eq : Tryz.f168.results.toList = [.tmp 12, .tmp 13] := by kernel_rfl
/-! f84: parallax/align.least, parameters #[151, 151, 3] -/
def v84l0h0 : CV := .seq (.reg [.op (some 17) (.move (.tmp 7)),
    .op (some 18) (.move (.tmp 9)),
    .op (some 19) (.move (.tmp 10)),
    .op (some 20) (.call ⟨.value (.func 167), #[(.tmp 17), (.tmp 18), (.tmp 19)], #[324, 3, 3]⟩),
    .op (some 21) (.binOp .gtr 3 (.tmp 20) (.const (.int .i64 0)) 3)])
  (.cond (.tmp 21) (.skip) (.exit 0))
def v84k0t2 : CV := .seq (.reg [.op (some 36) (.move (.tmp 8)),
    .op (some 37) (.move (.tmp 2)),
    .op (some 38) (.move (.tmp 12)),
    .op (some 39) (.binOp .add 3 (.tmp 37) (.tmp 38) 3),
    .op (some 40) (.move (.tmp 2)),
    .op (some 41) (.move (.tmp 13)),
    .op (some 42) (.binOp .add 3 (.tmp 40) (.tmp 41) 3),
    .op (some 43) (.build 44 #[(0, (.tmp 39)), (1, (.tmp 42))]),
    .op (some 44) (.buildSlice 29 1 #[(0, (.tmp 43))]),
    .op (some 45) (.call ⟨.builtin .append, #[(.tmp 36), (.tmp 44)], #[29, 29]⟩),
    .op (some 8) (.assign (.tmp 45))])
  (.reg [.op (some 46) (.move (.tmp 12)),
    .op (some 47) (.binOp .add 3 (.tmp 46) (.const (.int .i64 1)) 3),
    .op (some 48) (.move (.tmp 13)),
    .op (some 49) (.binOp .add 3 (.tmp 48) (.const (.int .i64 1)) 3),
    .op (some 9) (.assign (.tmp 47)),
    .op (some 10) (.assign (.tmp 49))])
def v84k0t1 : CV := .seq (.reg [.op (some 27) (.move (.tmp 7)),
    .op (some 28) (.move (.tmp 0)),
    .op (some 29) (.move (.tmp 1)),
    .op (some 30) (.move (.tmp 9)),
    .op (some 31) (.move (.tmp 10)),
    .op (some 32) (.move (.tmp 11)),
    .op (some 33) (.call ⟨.value (.func 168), #[(.tmp 27), (.tmp 28), (.tmp 29), (.tmp 30), (.tmp 31), (.tmp 32)], #[324, 151, 151, 3, 3, 3]⟩),
    .op (some 26) (.move (.tmp 33)),
    .op (some 34) (.extract (.tmp 26) 0),
    .op (some 35) (.extract (.tmp 26) 1),
    .op (some 12) (.assign (.tmp 34)),
    .op (some 13) (.assign (.tmp 35))]) v84k0t2
def v84k0 : CV := .seq (.reg [.op (some 22) (.move (.tmp 7)),
    .op (some 23) (.move (.tmp 9)),
    .op (some 24) (.move (.tmp 10)),
    .op (some 25) (.call ⟨.value (.func 167), #[(.tmp 22), (.tmp 23), (.tmp 24)], #[324, 3, 3]⟩),
    .op (some 11) (.assign (.tmp 25))]) v84k0t1
def v84l0 : CV := .seq v84l0h0
  (.block 1 v84k0)
def v84t5 : CV := .seq (.reg [.op (some 50) (.move (.tmp 8)),
    .op (some 6) (.assign (.tmp 50))])
  (.ret)
def v84t4 : CV := .seq (.block 0 (.loop v84l0)) v84t5
def v84t3 : CV := .seq (.reg [.op (some 9) (.assign (.const (.int .i64 0))),
    .op (some 10) (.assign (.const (.int .i64 0)))]) v84t4
def v84t2 : CV := .seq (.reg [.op (some 8) (.assign (.const (.slice none 0 0)))]) v84t3
def v84t1 : CV := .seq (.reg [.op (some 14) (.move (.tmp 0)),
    .op (some 15) (.move (.tmp 1)),
    .op (some 16) (.call ⟨.value (.func 166), #[(.tmp 14), (.tmp 15)], #[151, 151]⟩),
    .op (some 7) (.assign (.tmp 16))]) v84t2
def v84 : CV := .seq (.reg [.op (some 6) (.assign (.const (.slice none 0 0)))]) v84t1
noncomputable def b84 : Code := Tryz.f84.body.getD .skip
theorem b84_eq : Tryz.f84.body = some b84 := by kernel_rfl
theorem v84_eq : viewC Tryz.prog b84 = some v84 := by kernel_rfl
theorem r84_eq : Tryz.f84.results.toList = [.tmp 6] := by kernel_rfl
/-! f40: parallax/align.Match, parameters #[151, 151, 3] -/
def v40h2 : CV := .seq (.reg [.op (some 16) (.move (.tmp 8)),
    .op (some 17) (.binOp .lss 3 (.tmp 16) (.const (.int .i64 0)) 3)])
  (.cond (.tmp 17) (.reg [.op (some 18) (.move (.tmp 0)),
    .op (some 19) (.call ⟨.builtin .len, #[(.tmp 18)], #[151]⟩),
    .op (some 8) (.assign (.tmp 19))]) (.skip))
def v40k0 : CV := .seq (.reg [.op (some 23) (.move (.tmp 21)),
    .op (some 10) (.assign (.tmp 23))])
  (.reg [.op (some 24) (.move (.tmp 9)),
    .op (some 25) (.move (.tmp 10)),
    .op (some 26) (.move (.tmp 10)),
    .op (some 27) (.build 44 #[(0, (.tmp 25)), (1, (.tmp 26))]),
    .op (some 28) (.buildSlice 29 1 #[(0, (.tmp 27))]),
    .op (some 29) (.call ⟨.builtin .append, #[(.tmp 24), (.tmp 28)], #[29, 29]⟩),
    .op (some 9) (.assign (.tmp 29))])
def v40l0t2 : CV := .seq (.block 1 v40k0)
  (.reg [.op (some 30) (.binOp .add 3 (.tmp 21) (.const (.int .i64 1)) 3),
    .op (some 21) (.move (.tmp 30))])
def v40l0t1 : CV := .seq (.cond (.tmp 22) (.skip) (.exit 0)) v40l0t2
def v40l0 : CV := .seq (.reg [.op (some 22) (.binOp .lss 3 (.tmp 21) (.tmp 20) 3)]) v40l0t1
def v40h4 : CV := .seq (.reg [.op (some 20) (.move (.tmp 8)),
    .op (some 21) (.move (.const (.int .i64 0)))])
  (.block 0 (.loop v40l0))
def v40c1 : CV := .seq (.reg [.op (some 49) (.move (.tmp 9)),
    .op (some 6) (.assign (.tmp 49)),
    .op (some 7) (.assign (.const (.bool true)))])
  (.ret)
def v40h6 : CV := .seq (.reg [.op (some 39) (.move (.tmp 11)),
    .op (some 40) (.binOp .gtr 3 (.tmp 39) (.const (.int .i64 0)) 3),
    .op (some 41) (.move (.tmp 40)),
    .gd 41 true (some 42) (.move (.tmp 12)),
    .gd 41 true (some 43) (.move (.tmp 2)),
    .gd 41 true (some 44) (.call ⟨.builtin .max, #[(.const (.int .i64 0)), (.tmp 43)], #[3, 3]⟩),
    .gd 41 true (some 45) (.move (.tmp 11)),
    .gd 41 true (some 46) (.binOp .quo 3 (.tmp 44) (.tmp 45) 3),
    .gd 41 true (some 47) (.binOp .gtr 3 (.tmp 42) (.tmp 46) 3),
    .op (some 48) (.pick (.tmp 41) (.tmp 47) (.const (.bool false)))])
  (.cond (.tmp 48) v40c1 (.skip))
def v40t7 : CV := .seq (.reg [.op (some 50) (.move (.tmp 9)),
    .op (some 51) (.move (.tmp 0)),
    .op (some 52) (.move (.tmp 8)),
    .op (some 53) (.slice 151 (.tmp 51) (some (.tmp 52)) none none),
    .op (some 54) (.move (.tmp 1)),
    .op (some 55) (.move (.tmp 8)),
    .op (some 56) (.slice 151 (.tmp 54) (some (.tmp 55)) none none),
    .op (some 57) (.move (.tmp 8)),
    .op (some 58) (.call ⟨.value (.func 84), #[(.tmp 53), (.tmp 56), (.tmp 57)], #[151, 151, 3]⟩),
    .op (some 59) (.call ⟨.builtin .append, #[(.tmp 50), (.tmp 58)], #[29, 29]⟩),
    .op (some 6) (.assign (.tmp 59)),
    .op (some 7) (.assign (.const (.bool false)))])
  (.ret)
def v40t6 : CV := .seq v40h6 v40t7
def v40t5 : CV := .seq (.reg [.op (some 31) (.move (.tmp 0)),
    .op (some 32) (.call ⟨.builtin .len, #[(.tmp 31)], #[151]⟩),
    .op (some 33) (.move (.tmp 8)),
    .op (some 34) (.binOp .sub 3 (.tmp 32) (.tmp 33) 3),
    .op (some 35) (.move (.tmp 1)),
    .op (some 36) (.call ⟨.builtin .len, #[(.tmp 35)], #[151]⟩),
    .op (some 37) (.move (.tmp 8)),
    .op (some 38) (.binOp .sub 3 (.tmp 36) (.tmp 37) 3),
    .op (some 11) (.assign (.tmp 34)),
    .op (some 12) (.assign (.tmp 38))]) v40t6
def v40t4 : CV := .seq v40h4 v40t5
def v40t3 : CV := .seq (.reg [.op (some 9) (.assign (.const (.slice none 0 0)))]) v40t4
def v40t2 : CV := .seq v40h2 v40t3
def v40t1 : CV := .seq (.reg [.op (some 13) (.move (.tmp 0)),
    .op (some 14) (.move (.tmp 1)),
    .op (some 15) (.call ⟨.value (.func 83), #[(.tmp 13), (.tmp 14)], #[151, 151]⟩),
    .op (some 8) (.assign (.tmp 15))]) v40t2
def v40 : CV := .seq (.reg [.op (some 6) (.assign (.const (.slice none 0 0))),
    .op (some 7) (.assign (.const (.bool false)))]) v40t1
noncomputable def b40 : Code := Tryz.f40.body.getD .skip
theorem b40_eq : Tryz.f40.body = some b40 := by kernel_rfl
theorem v40_eq : viewC Tryz.prog b40 = some v40 := by kernel_rfl
theorem r40_eq : Tryz.f40.results.toList = [.tmp 6, .tmp 7] := by kernel_rfl

theorem ff_ev : flatF Tryz.prog 235 = some [.int .i64, .int .i64] := by kernel_rfl
theorem eg_ev : Tryz.prog.eqGuardType Tryz.prog.depth 235 = false := by kernel_rfl
def prN (p : Nat × Nat) : List AV := [.int .i64 (p.1 : Int), .int .i64 (p.2 : Int)]
theorem prN_len (p : Nat × Nat) : (prN p).length = 2 := rfl
theorem evq (p q : Int × Int) : (decide (p.1 = q.1) && (decide (p.2 = q.2) && true)) = decide (p = q) := by
  rw [Bool.and_true, ← Bool.decide_and]
  exact decide_eq_decide.2 ⟨fun h => Prod.ext h.1 h.2, fun h => h ▸ ⟨rfl, rfl⟩⟩
theorem eqM_get {al bl : List (Int × Int)} {i j : Nat} {p q : Int × Int} (hp : al[i]? = some p) (hq : bl[j]? = some q) : eqM al bl i j = decide (p = q) := by
  unfold eqM
  rw [hp, hq]
  simp
theorem eqM_drop (al bl : List (Int × Int)) (k : Nat) : eqM (al.drop k) (bl.drop k) = fun i j => eqM al bl (k + i) (k + j) := by
  funext i j
  unfold eqM
  rw [List.getElem?_drop, List.getElem?_drop]
theorem flat_drop {α : Type} {f : α → List AV} {z : Nat} (hf : ∀ a, (f a).length = z) : ∀ (l : List α) (k : Nat), (l.flatMap f).drop (k * z) = (l.drop k).flatMap f
  | l, 0 => by rw [Nat.zero_mul]; rfl
  | [], k + 1 => by simp
  | a :: l, k + 1 => by
    rw [List.flatMap_cons, List.drop_succ_cons, ← flat_drop hf l k, Nat.succ_mul, Nat.add_comm, ← List.drop_drop, List.drop_left' (hf a)]
/-! ### the table of sizes -/
structure TabP (e : Nat → Nat → Bool) (n m k h : Nat) (cells : List AV) : Prop where
  len : cells.length = (n + 1) * (m + 1)
  val : ∀ i j, i ≤ n → j ≤ m → (n ≤ i + k ∨ (n = i + k + 1 ∧ m ≤ j + h) ∨ j = m) → cells[i * (m + 1) + j]? = some (.int .i64 (Lm e n m i j : Nat))
theorem idx_inj {w i j i' j' : Nat} (h : i * w + j = i' * w + j') (hj : j < w) (hj' : j' < w) : i = i' ∧ j = j' := by
  rcases Nat.lt_trichotomy i i' with x | x | x
  · have := Nat.mul_le_mul_right w (show i + 1 ≤ i' from x)
    rw [Nat.succ_mul] at this
    omega
  · subst x; omega
  · have := Nat.mul_le_mul_right w (show i' + 1 ≤ i from x)
    rw [Nat.succ_mul] at this
    omega
theorem idx_lt {n m i j : Nat} (hi : i ≤ n) (hj : j ≤ m) : i * (m + 1) + j < (n + 1) * (m + 1) := by
  have := Nat.mul_le_mul_right (m + 1) hi
  rw [Nat.succ_mul]
  omega
theorem TabP.init (e : Nat → Nat → Bool) (n m : Nat) : TabP e n m 0 0 (List.replicate ((n + 1) * (m + 1)) (.int .i64 0)) := by
  refine ⟨List.length_replicate, fun i j hi hj hc => ?_⟩
  rw [List.getElem?_replicate, if_pos (idx_lt hi hj), Lm_out (by omega)]
  rfl
theorem TabP.set {e : Nat → Nat → Bool} {n m k h : Nat} {cells : List AV} (T : TabP e n m k h cells) {i j : Nat} (hi : n = i + k + 1) (hj : m = j + h + 1) : TabP e n m k (h + 1) (cells.set (i * (m + 1) + j) (.int .i64 (Lm e n m i j : Nat))) := by
  refine ⟨by rw [List.length_set]; exact T.len, fun i' j' hi' hj' hc => ?_⟩
  by_cases he : i * (m + 1) + j = i' * (m + 1) + j'
  · obtain ⟨rfl, rfl⟩ := idx_inj he (by omega) (by omega)
    rw [List.getElem?_set_self (by rw [T.len]; exact idx_lt hi' hj')]
  · rw [List.getElem?_set_ne he]
    refine T.val i' j' hi' hj' ?_
    rcases hc with hc | ⟨h1, h2⟩ | hc
    · exact .inl hc
    · refine .inr (.inl ⟨h1, ?_⟩)
      obtain rfl : i' = i := by omega
      have : j' ≠ j := fun h => he (by rw [h])
      omega
    · exact .inr (.inr hc)
theorem TabP.next {e : Nat → Nat → Bool} {n m k : Nat} {cells : List AV} (T : TabP e n m k m cells) : TabP e n m (k + 1) 0 cells := by
  refine ⟨T.len, fun i j hi hj hc => T.val i j hi hj ?_⟩
  omega
theorem TabP.all {e : Nat → Nat → Bool} {n m : Nat} {cells : List AV} (T : TabP e n m n 0 cells) {i j : Nat} (hi : i ≤ n) (hj : j ≤ m) : cells[i * (m + 1) + j]? = some (.int .i64 (Lm e n m i j : Nat)) := T.val i j hi hj (.inl (by omega))
section
variable {tb : List FuncId} {gl : List (List AV)} {H : Heap} {v w : AV} {Q : AV → Heap → Prop}
set_option maxHeartbeats 0 in
theorem Parting_ok {al bl : List (Int × Int)} (hn : al.length ≤ 500) (hm : bl.length ≤ 500) (hv : IsSl H v 2 al.length (al.flatMap evC)) (hw : IsSl H w 2 bl.length (bl.flatMap evC))
    (hQ : ∀ k, Parts (eqM al bl) al.length bl.length k → Q (.int .i64 (if k = al.length ∧ k = bl.length then -1 else (k : Int))) H) : WpF Tryz.prog tb gl 83 [v, w] H Q := by
  refine fa Tryz.func83 b83_eq v83_eq r83_eq (.inr (by simp)) ?_
  refine va_seqr ?_
  refine ia_pl rfl ?_
  refine ia_nil (va_seqr ?_)
  refine ia_pl rfl ?_; (repeat ((first | refine ia_op (oa_lenSl rfl rfl rfl UnF.h rfl hv ?_) | refine ia_op (oa_lenSl rfl rfl rfl UnF.h rfl hw ?_)); refine ia_pl rfl ?_))
  refine ia_op (oa_minI (m := ((min al.length bl.length : Nat) : Int)) rfl rfl rfl rfl (by omega) ?_)
  refine ia_pl rfl ?_
  refine ia_nil (va_seq (va_seqr ?_))
  refine ia_pl rfl ?_
  refine ia_nil (va_block ?_)
  refine va_loop (fun (i : Nat) => [(0, v), (1, w), (5, .int .i64 ((min al.length bl.length : Nat) : Int)), (12, .int .i64 ((min al.length bl.length : Nat) : Int)), (13, .int .i64 (i : Int))])
    (fun i H' => H' = H ∧ i ≤ min al.length bl.length ∧ ∀ j, j < i → eqM al bl j j = true) (fun i => min al.length bl.length - i) ?_ 0 _ H ⟨rfl, rfl, rfl, rfl, rfl, trivial⟩ ⟨rfl, Nat.zero_le _, fun _ h => absurd h (Nat.not_lt_zero _)⟩
  rintro i H1 ⟨he, hle, hpre⟩
  subst he
  refine va_seqr ?_
  by_cases hi : i = min al.length bl.length
  · refine ia_op (oa_lssW rfl rfl (decide_eq_false (by omega)) (ia_nil (va_seq (va_condF rfl (va_exit (va_seq (va_seqr ?_)))))))
    have hk : Parts (eqM al bl) al.length bl.length i := ⟨by omega, by omega, hpre, fun h1 h2 => by omega⟩
    refine ia_pl rfl ?_; (repeat ((first | refine ia_op (oa_lenSl rfl rfl rfl UnF.h rfl hv ?_) | refine ia_op (oa_lenSl rfl rfl rfl UnF.h rfl hw ?_)); refine ia_pl rfl ?_))
    by_cases hl : al.length = bl.length
    · refine ia_op (oa_eqlW rfl rfl (decide_eq_true (by omega)) (ia_nil (va_condT rfl (va_seqr ?_))))
      refine ia_pl rfl ?_
      have := hQ i hk
      rw [if_pos (by omega)] at this
      exact ia_nil (va_ret ⟨_, rfl, this⟩)
    · refine ia_op (oa_eqlW rfl rfl (decide_eq_false (by omega)) (ia_nil (va_condF rfl (va_skip (va_seqr ?_)))))
      refine ia_pl rfl ?_
      have := hQ i hk
      rw [if_neg (by omega), hi] at this
      exact ia_nil (va_ret ⟨_, rfl, this⟩)
  refine ia_op (oa_lssW rfl rfl (decide_eq_true (by omega)) (ia_nil (va_seq (va_condT rfl (va_skip (va_seq (va_block (va_seqr ?_))))))))
  refine ia_pl rfl ?_
  refine ia_nil (va_seqr ?_)
  obtain ⟨p, hp⟩ : ∃ p, al[i]? = some p := ⟨_, List.getElem?_eq_getElem (by omega)⟩
  obtain ⟨q, hq⟩ : ∃ q, bl[i]? = some q := ⟨_, List.getElem?_eq_getElem (by omega)⟩
  have hc1 := flat_chunk evC_len al i p hp
  have hc2 := flat_chunk evC_len bl i q hq
  refine ia_pl rfl ?_
  refine ia_op (oa_indexSl UnF.h SzF.h rfl hv rfl rfl (by omega) fun q0 hq0 => ?_)
  rw [hc1] at hq0
  refine ia_op (oa_ploadN (k := 2) PlF.h rfl (by decide) rfl hq0 ?_)
  refine ia_pl rfl ?_
  refine ia_op (oa_indexSl UnF.h SzF.h rfl hw rfl rfl (by omega) fun q0 hq0 => ?_)
  rw [hc2] at hq0
  refine ia_op (oa_ploadN (k := 2) PlF.h rfl (by decide) rfl hq0 ?_)
  refine ia_op (oa_aneq ff_ev eg_ev rfl rfl (flatEq_int (flatEq_int rfl)) ?_)
  rw [evq, ← eqM_get hp hq]
  cases he : eqM al bl i i with
  | false =>
    refine ia_nil (va_condT rfl (va_seqr ?_))
    refine ia_pl rfl ?_
    have := hQ i ⟨by omega, by omega, hpre, fun _ _ => he⟩
    rw [if_neg (by omega)] at this
    exact ia_nil (va_ret ⟨_, rfl, this⟩)
  | true =>
    refine ia_nil (va_condF rfl (va_skip (va_reg ?_)))
    refine ia_op (oa_addW (c := ((i + 1 : Nat) : Int)) rfl rfl (wrapE_i64 (by omega) (by omega) (by omega)) ?_)
    refine ia_pl rfl ?_
    refine ia_nil ⟨i + 1, ?_, ⟨rfl, rfl, rfl, rfl, rfl, trivial⟩, rfl, by omega, fun j hj => ?_⟩
    · show min al.length bl.length - (i + 1) < min al.length bl.length - i
      omega
    · by_cases hji : j = i
      · rw [hji]; exact he
      · exact hpre j (by omega)
abbrev TbA := Nat × List AV
structure TbI (e : Nat → Nat → Bool) (n m : Nat) (H : Heap) (bt bc k h : Nat) (cells : List AV) (H' : Heap) : Prop where
  keep : Keep Non H H'
  row : IsRow H' bt [.int .i64 ((m + 1 : Nat) : Int), .sl bc 0 ((n + 1) * (m + 1)) ((n + 1) * (m + 1))] false false
  col : IsRow H' bc cells false false
  tab : TabP e n m k h cells
  ne : bt ≠ bc
set_option maxHeartbeats 0 in
theorem sizes_ok {al bl : List (Int × Int)} (hn : al.length ≤ 500) (hm : bl.length ≤ 500) (hv : IsSl H v 2 al.length (al.flatMap evC)) (hw : IsSl H w 2 bl.length (bl.flatMap evC))
    (hQ : ∀ bt bc cells H', TbI (eqM al bl) al.length bl.length H bt bc al.length 0 cells H' → Q (.ptr bt 0) H') : WpF Tryz.prog tb gl 166 [v, w] H Q := by
  have hlim : limit = 1000000 := rfl
  obtain ⟨n, hne⟩ : ∃ n, n = al.length := ⟨_, rfl⟩
  obtain ⟨m, hme⟩ : ∃ m, m = bl.length := ⟨_, rfl⟩
  obtain ⟨e, hee⟩ : ∃ e, e = eqM al bl := ⟨_, rfl⟩
  have hnm : (n + 1) * (m + 1) ≤ 501 * 501 := Nat.mul_le_mul (by omega) (by omega)
  rw [← hne] at hv hQ hn
  rw [← hme] at hw hQ hm
  rw [← hee] at hQ
  refine fa Tryz.func166 b166_eq v166_eq r166_eq (.inr (by simp)) ?_
  refine va_seqr ?_
  refine ia_pl rfl ?_
  refine ia_nil (va_seqr ?_)
  refine ia_pl rfl ?_; (repeat ((first | refine ia_op (oa_lenSl rfl rfl rfl UnF.h rfl hv ?_) | refine ia_op (oa_lenSl rfl rfl rfl UnF.h rfl hw ?_)); refine ia_pl rfl ?_))
  refine ia_nil (va_seqr ?_)
  refine ia_pl rfl ?_
  refine ia_op (oa_addW (c := ((m + 1 : Nat) : Int)) rfl rfl (wrapE_i64 (by omega) (by omega) (by omega)) ?_)
  refine ia_pl rfl ?_
  refine ia_op (oa_addW (c := ((n + 1 : Nat) : Int)) rfl rfl (wrapE_i64 (by omega) (by omega) (by omega)) ?_)
  refine ia_pl rfl ?_
  refine ia_op (oa_addW (c := ((m + 1 : Nat) : Int)) rfl rfl (wrapE_i64 (by omega) (by omega) (by omega)) ?_)
  refine ia_op (oa_mulN rfl rfl (by omega) ?_)
  refine ia_op (oa_makeSlice (n := (n + 1) * (m + 1)) (c := (n + 1) * (m + 1)) ElF.h rfl rfl rfl rfl (Nat.le_refl _) (by omega) rfl fun H1 hk1 hr1 => ?_)
  refine ia_op (oa_struct BsF.h ZeF.h PsF.h rfl ?_)
  refine ia_op (oa_box rfl fun H2 hk2 hr2 => ?_)
  rw [show ((AV.int .i64 0).cells) = [AV.int .i64 0] from rfl, repL_one] at hr1
  obtain ⟨bc, hbc⟩ : ∃ b, b = H.nx := ⟨_, rfl⟩
  obtain ⟨bt, hbt⟩ : ∃ b, b = H1.nx := ⟨_, rfl⟩
  rw [← hbc] at hr1 hr2 ⊢
  rw [← hbt] at hr2 ⊢
  have hx1 := hk1.nx
  have hl1 := hr1.1
  refine ia_pl rfl ?_
  refine ia_nil (va_seq (va_seqr ?_))
  refine ia_pl rfl ?_
  refine ia_nil (va_block ?_)
  refine va_loop (fun (a : TbA) => [(0, v), (1, w), (5, .int .i64 (n : Int)), (6, .int .i64 (m : Int)), (7, .ptr bt 0), (28, .int .i64 (n : Int)), (29, .int .i64 (a.1 : Int))])
    (fun a H' => a.1 ≤ n ∧ TbI e n m H bt bc a.1 0 a.2 H') (fun a => n - a.1) ?_ (0, _) _ H2 ⟨rfl, rfl, rfl, rfl, rfl, rfl, rfl, trivial⟩ ⟨Nat.zero_le _, hk1.trans0 hk2, hr2, hr1.keep0 hk2, .init e n m, by omega⟩
  rintro ⟨k, cells⟩ H3 ⟨hk, I⟩
  simp only at hk I
  refine va_seqr ?_
  by_cases hkn : k = n
  · refine ia_op (oa_lssW rfl rfl (decide_eq_false (by simp only; omega)) (ia_nil (va_seq (va_condF rfl (va_exit (va_seqr ?_))))))
    refine ia_pl rfl ?_
    subst hkn
    exact ia_nil (va_ret ⟨_, rfl, hQ bt bc cells H3 I⟩)
  refine ia_op (oa_lssW rfl rfl (decide_eq_true (by simp only; omega)) (ia_nil (va_seq (va_condT rfl (va_skip (va_seq (va_block (va_seqr ?_))))))))
  obtain ⟨i, hi⟩ : ∃ i, n = i + k + 1 := ⟨n - 1 - k, by omega⟩
  have hrt := I.row
  refine ia_pl rfl ?_
  refine ia_nil (va_seqr ?_)
  refine ia_pl rfl ?_
  refine ia_op (oa_subW (c := ((i + k : Nat) : Int)) rfl rfl (wrapE_i64 (by omega) (by omega) (by omega)) ?_)
  refine ia_pl rfl ?_
  refine ia_op (oa_subW (c := ((i : Nat) : Int)) rfl rfl (wrapE_i64 (by omega) (by omega) (by omega)) ?_)
  refine ia_pl rfl ?_
  refine ia_nil (va_seqr ?_)
  have hm1 : (i + 1) * (m + 1) = i * (m + 1) + (m + 1) := Nat.succ_mul _ _
  have hm2 : (i + 2) * (m + 1) = (i + 1) * (m + 1) + (m + 1) := Nat.succ_mul _ _
  have hm3 : (i + 2) * (m + 1) ≤ (n + 1) * (m + 1) := Nat.mul_le_mul_right _ (by omega)
  refine ia_pl rfl ?_; (repeat ((first | refine ia_op (oa_nilCheck rfl ?_) | refine ia_op (oa_fieldAddr FpF.h (by decide) rfl ?_) | refine ia_op (oa_load1 PlF.h rfl hrt rfl ?_)); refine ia_pl rfl ?_))
  refine ia_op (oa_mulN rfl rfl (by omega) ?_)
  refine ia_pl rfl ?_
  refine ia_op (oa_addW (c := ((i + 1 : Nat) : Int)) rfl rfl (wrapE_i64 (by omega) (by omega) (by omega)) ?_)
  refine ia_pl rfl ?_; (repeat ((first | refine ia_op (oa_nilCheck rfl ?_) | refine ia_op (oa_fieldAddr FpF.h (by decide) rfl ?_) | refine ia_op (oa_load1 PlF.h rfl hrt rfl ?_)); refine ia_pl rfl ?_))
  refine ia_op (oa_mulN rfl rfl (by omega) ?_)
  refine ia_pl rfl ?_
  refine ia_op (oa_addW (c := ((i + 1 : Nat) : Int)) rfl rfl (wrapE_i64 (by omega) (by omega) (by omega)) ?_)
  refine ia_pl rfl ?_; (repeat ((first | refine ia_op (oa_nilCheck rfl ?_) | refine ia_op (oa_fieldAddr FpF.h (by decide) rfl ?_) | refine ia_op (oa_load1 PlF.h rfl hrt rfl ?_)); refine ia_pl rfl ?_))
  refine ia_op (oa_mulN rfl rfl (by omega) ?_)
  refine ia_op (oa_cut3 (a := i * (m + 1)) (c := (i + 1) * (m + 1)) (d := (i + 1) * (m + 1)) UnF.h SzF.h rfl (bndA_of rfl rfl) (bndA_of rfl rfl) (bndA_of rfl rfl) (by omega) (Nat.le_refl _) (by omega) (by omega) ?_)
  rw [show 0 + i * (m + 1) * 1 = i * (m + 1) by omega, show (i + 1) * (m + 1) - i * (m + 1) = m + 1 by omega]
  refine ia_pl rfl ?_
  refine ia_nil (va_seqr ?_)
  refine ia_pl rfl ?_; (repeat ((first | refine ia_op (oa_nilCheck rfl ?_) | refine ia_op (oa_fieldAddr FpF.h (by decide) rfl ?_) | refine ia_op (oa_load1 PlF.h rfl hrt rfl ?_)); refine ia_pl rfl ?_))
  refine ia_op (oa_addW (c := ((i + 1 : Nat) : Int)) rfl rfl (wrapE_i64 (by omega) (by omega) (by omega)) ?_)
  refine ia_pl rfl ?_; (repeat ((first | refine ia_op (oa_nilCheck rfl ?_) | refine ia_op (oa_fieldAddr FpF.h (by decide) rfl ?_) | refine ia_op (oa_load1 PlF.h rfl hrt rfl ?_)); refine ia_pl rfl ?_))
  refine ia_op (oa_mulN rfl rfl (by omega) ?_)
  refine ia_pl rfl ?_
  refine ia_op (oa_addW (c := ((i + 2 : Nat) : Int)) rfl rfl (wrapE_i64 (by omega) (by omega) (by omega)) ?_)
  refine ia_pl rfl ?_; (repeat ((first | refine ia_op (oa_nilCheck rfl ?_) | refine ia_op (oa_fieldAddr FpF.h (by decide) rfl ?_) | refine ia_op (oa_load1 PlF.h rfl hrt rfl ?_)); refine ia_pl rfl ?_))
  refine ia_op (oa_mulN rfl rfl (by omega) ?_)
  refine ia_pl rfl ?_
  refine ia_op (oa_addW (c := ((i + 2 : Nat) : Int)) rfl rfl (wrapE_i64 (by omega) (by omega) (by omega)) ?_)
  refine ia_pl rfl ?_; (repeat ((first | refine ia_op (oa_nilCheck rfl ?_) | refine ia_op (oa_fieldAddr FpF.h (by decide) rfl ?_) | refine ia_op (oa_load1 PlF.h rfl hrt rfl ?_)); refine ia_pl rfl ?_))
  refine ia_op (oa_mulN rfl rfl (by omega) ?_)
  refine ia_op (oa_cut3 (a := (i + 1) * (m + 1)) (c := (i + 2) * (m + 1)) (d := (i + 2) * (m + 1)) UnF.h SzF.h rfl (bndA_of rfl rfl) (bndA_of rfl rfl) (bndA_of rfl rfl) (by omega) (Nat.le_refl _) (by omega) (by omega) ?_)
  rw [show 0 + (i + 1) * (m + 1) * 1 = (i + 1) * (m + 1) by omega, show (i + 2) * (m + 1) - (i + 1) * (m + 1) = m + 1 by omega]
  refine ia_pl rfl ?_
  refine ia_nil (va_seqr ?_)
  refine ia_pl rfl ?_
  refine ia_nil (va_block ?_)
  refine va_loop (fun (a : TbA) => [(0, v), (1, w), (5, .int .i64 (n : Int)), (6, .int .i64 (m : Int)), (7, .ptr bt 0), (28, .int .i64 (n : Int)), (29, .int .i64 (k : Int)), (9, .int .i64 (i : Int)), (10, .sl bc (i * (m + 1)) (m + 1) (m + 1)), (11, .sl bc ((i + 1) * (m + 1)) (m + 1) (m + 1)), (87, .int .i64 (m : Int)), (88, .int .i64 (a.1 : Int))])
    (fun a H' => a.1 ≤ m ∧ TbI e n m H bt bc k a.1 a.2 H') (fun a => m - a.1) ?_ (0, cells) _ H3 ⟨rfl, rfl, rfl, rfl, rfl, rfl, rfl, rfl, rfl, rfl, rfl, rfl, trivial⟩ ⟨Nat.zero_le _, I⟩
  clear I hrt
  rintro ⟨h, cells⟩ H4 ⟨hh, I⟩
  simp only at hh I
  refine va_seqr ?_
  by_cases hhm : h = m
  · refine ia_op (oa_lssW rfl rfl (decide_eq_false (by simp only; omega)) (ia_nil (va_seq (va_condF rfl (va_exit (va_reg ?_))))))
    refine ia_op (oa_addW (c := ((k + 1 : Nat) : Int)) rfl rfl (wrapE_i64 (by omega) (by omega) (by omega)) ?_)
    refine ia_pl rfl ?_
    subst hhm
    refine ia_nil ⟨(k + 1, cells), ?_, ⟨rfl, rfl, rfl, rfl, rfl, rfl, rfl, trivial⟩, by simp only; omega, I.keep, I.row, I.col, I.tab.next, I.ne⟩
    show n - (k + 1) < n - k
    omega
  refine ia_op (oa_lssW rfl rfl (decide_eq_true (by simp only; omega)) (ia_nil (va_seq (va_condT rfl (va_skip (va_seq (va_block (va_seqr ?_))))))))
  obtain ⟨j, hj⟩ : ∃ j, m = j + h + 1 := ⟨m - 1 - h, by omega⟩
  have hrc := I.col
  have T := I.tab
  have hlen := T.len
  have hij : i * (m + 1) + j < cells.length := by rw [hlen]; exact idx_lt (by omega) (by omega)
  refine ia_pl rfl ?_
  refine ia_nil (va_seqr ?_)
  refine ia_pl rfl ?_
  refine ia_op (oa_subW (c := ((j + h : Nat) : Int)) rfl rfl (wrapE_i64 (by omega) (by omega) (by omega)) ?_)
  refine ia_pl rfl ?_
  refine ia_op (oa_subW (c := ((j : Nat) : Int)) rfl rfl (wrapE_i64 (by omega) (by omega) (by omega)) ?_)
  refine ia_pl rfl ?_
  refine ia_nil (va_seqr ?_)
  refine ia_pl rfl ?_
  refine ia_op (oa_indexRowO (j := j) UnF.h SzF.h rfl rfl rfl (by omega) ?_)
  refine ia_op (oa_load1 PlF.h rfl hrc (by rw [Nat.mul_one]; exact T.val (i + 1) j (by omega) (by omega) (.inl (by omega))) ?_)
  refine ia_pl rfl ?_
  refine ia_op (oa_addW (c := ((j + 1 : Nat) : Int)) rfl rfl (wrapE_i64 (by omega) (by omega) (by omega)) ?_)
  refine ia_op (oa_indexRowO (j := j + 1) UnF.h SzF.h rfl rfl rfl (by omega) ?_)
  refine ia_op (oa_load1 PlF.h rfl hrc (by rw [Nat.mul_one]; exact T.val i (j + 1) (by omega) (by omega) (.inr (.inl ⟨by omega, by omega⟩))) ?_)
  refine ia_op (oa_maxI (m := ((max (Lm e n m (i + 1) j) (Lm e n m i (j + 1)) : Nat) : Int)) rfl rfl rfl rfl (by omega) ?_)
  refine ia_op (oa_indexRowO (j := j) UnF.h SzF.h rfl rfl rfl (by omega) ?_)
  rw [Nat.mul_one]
  refine ia_op (oa_store1 SzF.h rfl rfl rfl hrc hij fun H5 hk5 hn5 hr5 => ?_)
  have hK5 : Keep Non H H5 := I.keep.trans hk5 fun c hc => .inr (by omega)
  have hrow5 := I.row.keep hk5 (.inl I.ne)
  refine ia_nil (va_seqr ?_)
  obtain ⟨p, hp⟩ : ∃ p, al[i]? = some p := ⟨_, List.getElem?_eq_getElem (by omega)⟩
  obtain ⟨q, hq⟩ : ∃ q, bl[j]? = some q := ⟨_, List.getElem?_eq_getElem (by omega)⟩
  have hc1 := flat_chunk evC_len al i p hp
  have hc2 := flat_chunk evC_len bl j q hq
  refine ia_pl rfl ?_
  refine ia_op (oa_indexSl UnF.h SzF.h rfl (hv.keep0 hK5) rfl rfl (by omega) fun q0 hq0 => ?_)
  rw [hc1] at hq0
  refine ia_op (oa_ploadN (k := 2) PlF.h rfl (by decide) rfl hq0 ?_)
  refine ia_pl rfl ?_
  refine ia_op (oa_indexSl UnF.h SzF.h rfl (hw.keep0 hK5) rfl rfl (by omega) fun q0 hq0 => ?_)
  rw [hc2] at hq0
  refine ia_op (oa_ploadN (k := 2) PlF.h rfl (by decide) rfl hq0 ?_)
  refine ia_op (oa_aeql ff_ev eg_ev rfl rfl (flatEq_int (flatEq_int rfl)) ?_)
  rw [evq, ← eqM_get hp hq, ← hee]
  refine ia_nil (va_cut (fun l' H' => ∃ c2, TbI e n m H bt bc k (h + 1) c2 H' ∧ Sb [(0, v), (1, w), (5, .int .i64 (n : Int)), (6, .int .i64 (m : Int)), (7, .ptr bt 0), (28, .int .i64 (n : Int)), (29, .int .i64 (k : Int)), (9, .int .i64 (i : Int)), (10, .sl bc (i * (m + 1)) (m + 1) (m + 1)), (11, .sl bc ((i + 1) * (m + 1)) (m + 1) (m + 1)), (87, .int .i64 (m : Int)), (88, .int .i64 (h : Int))] l') ?_ ?_)
  rotate_left
  · rintro l' H' ⟨c2, I2, hs⟩
    refine VA.sub hs (va_reg ?_)
    refine ia_op (oa_addW (c := ((h + 1 : Nat) : Int)) rfl rfl (wrapE_i64 (by omega) (by omega) (by omega)) ?_)
    refine ia_pl rfl ?_
    refine ia_nil ⟨(h + 1, c2), ?_, ⟨rfl, rfl, rfl, rfl, rfl, rfl, rfl, rfl, rfl, rfl, rfl, rfl, trivial⟩, by simp only; omega, I2⟩
    show m - (h + 1) < m - h
    omega
  cases heq : e i j with
  | false =>
    refine va_condF rfl (va_skip ⟨_, ⟨hK5, hrow5, hr5, ?_, I.ne⟩, ⟨rfl, rfl, rfl, rfl, rfl, rfl, rfl, rfl, rfl, rfl, rfl, rfl, trivial⟩⟩)
    rw [← Lm_no (by omega) (by omega) heq]
    exact T.set hi hj
  | true =>
    refine va_condT rfl (va_reg ?_)
    refine ia_pl rfl ?_
    refine ia_op (oa_addW (c := ((j + 1 : Nat) : Int)) rfl rfl (wrapE_i64 (by omega) (by omega) (by omega)) ?_)
    refine ia_op (oa_indexRowO (j := j + 1) UnF.h SzF.h rfl rfl rfl (by omega) ?_)
    refine ia_op (oa_load1 PlF.h rfl hr5 (by rw [Nat.mul_one, List.getElem?_set_ne (by omega)]; exact T.val (i + 1) (j + 1) (by omega) (by omega) (.inl (by omega))) ?_)
    have hle := Lm_le (e := e) (n := n) (m := m) (i + 1) (j + 1)
    refine ia_op (oa_addW (c := ((Lm e n m (i + 1) (j + 1) + 1 : Nat) : Int)) rfl rfl (wrapE_i64 (by omega) (by omega) (by omega)) ?_)
    refine ia_op (oa_indexRowO (j := j) UnF.h SzF.h rfl rfl rfl (by omega) ?_)
    rw [Nat.mul_one]
    refine ia_op (oa_store1 SzF.h rfl rfl rfl hr5 (by rw [List.length_set]; exact hij) fun H6 hk6 hn6 hr6 => ?_)
    refine ia_nil ⟨_, ⟨hK5.trans hk6 fun c hc => .inr (by omega), hrow5.keep hk6 (.inl I.ne), hr6, ?_, I.ne⟩, ⟨rfl, rfl, rfl, rfl, rfl, rfl, rfl, rfl, rfl, rfl, rfl, rfl, trivial⟩⟩
    rw [List.set_set, ← Lm_yes (by omega) (by omega) heq]
    exact T.set hi hj
end
end Go.Proofs.YtndhniapohlniaaGreatDoor
