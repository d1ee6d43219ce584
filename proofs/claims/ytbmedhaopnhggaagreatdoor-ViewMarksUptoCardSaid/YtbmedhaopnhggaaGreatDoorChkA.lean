/-
  Checking a program (parallaxref04: total, Find, one, kinds, TypeOf, typed, is, holder, first), walked.
-/
import Derived.Test.YtbmedhaopnhggaaGreatDoorChkS
namespace Go.Proofs.YtbmedhaopnhggaaGreatDoor
open Go Eng Tryz
set_option maxHeartbeats 0
instance iun_90 : UnF prog 90 (.slice 143) := ⟨by kernel_rfl⟩
instance iel_90 : ElF prog 90 ⟨143, 5, .agg [.str 0 0, .int .i64 0, .int .i64 0, .int .i64 0, .int .i64 0]⟩ := ⟨by kernel_rfl⟩
instance isz_143 : SzF prog 143 5 := ⟨by kernel_rfl⟩
instance ifp_143_0 : FpF prog 143 0 ⟨0, false, 1⟩ := ⟨by kernel_rfl⟩
instance ifp_143_3 : FpF prog 143 3 ⟨3, false, 1⟩ := ⟨by kernel_rfl⟩
instance ifp_143_4 : FpF prog 143 4 ⟨4, false, 1⟩ := ⟨by kernel_rfl⟩
instance iel_40 : ElF prog 40 ⟨3, 1, .int .i64 0⟩ := ⟨by kernel_rfl⟩
instance iun_40 : UnF prog 40 (.slice 3) := ⟨by kernel_rfl⟩
instance ifp_143_2 : FpF prog 143 2 ⟨2, false, 1⟩ := ⟨by kernel_rfl⟩
instance ifp_143_1 : FpF prog 143 1 ⟨1, false, 1⟩ := ⟨by kernel_rfl⟩
instance iun_252 : UnF prog 252 (.slice 28) := ⟨by kernel_rfl⟩
instance iel_252 : ElF prog 252 ⟨28, 1, .int .i64 0⟩ := ⟨by kernel_rfl⟩
instance isz_28 : SzF prog 28 1 := ⟨by kernel_rfl⟩
instance ipl_28 : PlF prog 28 ⟨0, false, 1⟩ := ⟨by kernel_rfl⟩
def v30l0h0 : CV := Jt [Jd 5 4, Jd 6 0, Jj 7 6 72, Jc 8 (.binOp .lss 3 (Ja 5) (Ja 7) 3)] (.cond (Ja 8) (.skip) (.exit 0))
def v30k0t1 : CV := Jt [Jd 13 3, Jd 14 0, Jd 15 4, Jk 16 72 14 15, Jg 17 157 16 5, Jf 18 72 17, Jn 19 30 18 72, Jc 20 (.binOp .add 3 (Ja 13) (Ja 19) 3), Jh 3 20] (.reg [Jd 21 3, Jd 22 0, Jd 23 4, Jk 24 72 22 23, Jg 25 157 24 6, Jf 26 72 25, Jn 27 30 26 72, Jc 28 (.binOp .add 3 (Ja 21) (Ja 27) 3), Jh 3 28])
def v30k0 : CV := Jt [Jd 11 3, Jc 12 (.binOp .add 3 (Ja 11) (Jb 1) 3), Jh 3 12] v30k0t1
def v30l0t1 : CV := .seq (.block 1 v30k0) (.reg [Jd 9 4, Jc 10 (.binOp .add 3 (Ja 9) (Jb 1) 3), Jh 4 10])
def v30l0 : CV := .seq v30l0h0 v30l0t1
def v30h2 : CV := Jt [Ji 4 0] (.block 0 (.loop v30l0))
def v30t3 : CV := Jt [Jd 29 3, Jh 2 29] (.ret)
def v30t2 : CV := .seq v30h2 v30t3
def v30t1 : CV := Jt [Ji 3 0] v30t2
def v30 : CV := Jt [Ji 2 0] v30t1
noncomputable def b30 : Code := f30.body.getD .skip
theorem b30_eq : f30.body = some b30 := by kernel_rfl
theorem v30_eq : viewC prog b30 = some v30 := by kernel_rfl
theorem r30_eq : f30.results.toList = [.tmp 2] := by kernel_rfl
def v133l0h0 : CV := Jt [Jd 8 7, Jd 9 0, Jj 10 9 90, Jc 11 (.binOp .lss 3 (Ja 8) (Ja 10) 3)] (.cond (Ja 11) (.skip) (.exit 0))
def v133c1 : CV := Jt [Jd 39 7, Jh 6 39] (.ret)
def v133k0 : CV := Jt [Jd 14 0, Jd 15 7, Jk 16 90 14 15, Jg 17 143 16 0, Jf 18 9 17, Jd 19 1, Jc 20 (.binOp .eql 9 (Ja 18) (Ja 19) 9), Jd 21 20, Jp 21 true 22 2, Jp 21 true 23 0, Jp 21 true 24 7, Js 21 true 25 (.indexAddr 90 (Ja 23) (Ja 24)), Jq 21 true 26 143 25 3, Jr 21 true 27 3 26, Js 21 true 28 (.binOp .geq 3 (Ja 22) (Ja 27) 3), Jc 29 (.pick (Ja 21) (Ja 28) (.const (.bool false))), Jd 30 29, Jp 30 true 31 2, Jp 30 true 32 0, Jp 30 true 33 7, Js 30 true 34 (.indexAddr 90 (Ja 32) (Ja 33)), Jq 30 true 35 143 34 4, Jr 30 true 36 3 35, Js 30 true 37 (.binOp .leq 3 (Ja 31) (Ja 36) 3), Jc 38 (.pick (Ja 30) (Ja 37) (.const (.bool false)))] (.cond (Ja 38) v133c1 (.skip))
def v133l0t1 : CV := .seq (.block 1 v133k0) (.reg [Jd 12 7, Jc 13 (.binOp .add 3 (Ja 12) (Jb 1) 3), Jh 7 13])
def v133l0 : CV := .seq v133l0h0 v133l0t1
def v133h1 : CV := Jt [Ji 7 0] (.block 0 (.loop v133l0))
def v133t2 : CV := Jt [Ji 6 (-1)] (.ret)
def v133t1 : CV := .seq v133h1 v133t2
def v133 : CV := Jt [Ji 6 0] v133t1
noncomputable def b133 : Code := f133.body.getD .skip
theorem b133_eq : f133.body = some b133 := by kernel_rfl
theorem v133_eq : viewC prog b133 = some v133 := by kernel_rfl
theorem r133_eq : f133.results.toList = [.tmp 6] := by kernel_rfl
def v183c2 : CV := Jt [Jc 9 (.binOp .eql 9 (Ja 4) (.const (.string ⟨⟨[47]⟩⟩)) 9), Jh 5 9] (.cond (Ja 5) (.skip) (.reg [Jc 10 (.binOp .eql 9 (Ja 4) (.const (.string ⟨⟨[37]⟩⟩)) 9), Jh 5 10]))
def v183c1 : CV := Jt [Jc 8 (.binOp .eql 9 (Ja 4) (.const (.string ⟨⟨[42]⟩⟩)) 9), Jh 5 8] (.cond (Ja 5) (.skip) v183c2)
def v183c0 : CV := Jt [Jc 7 (.binOp .eql 9 (Ja 4) (.const (.string ⟨⟨[45]⟩⟩)) 9), Jh 5 7] (.cond (Ja 5) (.skip) v183c1)
def v183k0h0 : CV := Jt [Jc 6 (.binOp .eql 9 (Ja 4) (.const (.string ⟨⟨[43]⟩⟩)) 9), Jh 5 6] (.cond (Ja 5) (.skip) v183c0)
def v183c3 : CV := Jt [Ji 2 1, Ji 3 1] (.ret)
def v183c4h0 : CV := Jt [Jc 12 (.binOp .eql 9 (Ja 4) (.const (.string ⟨⟨[60]⟩⟩)) 9), Jh 11 12] (.cond (Ja 11) (.skip) (.reg [Jc 13 (.binOp .eql 9 (Ja 4) (.const (.string ⟨⟨[60, 61]⟩⟩)) 9), Jh 11 13]))
def v183c5 : CV := Jt [Ji 2 1, Ji 3 2] (.ret)
def v183c6h0 : CV := Jt [Jc 15 (.binOp .eql 9 (Ja 4) (.const (.string ⟨⟨[38, 38]⟩⟩)) 9), Jh 14 15] (.cond (Ja 14) (.skip) (.reg [Jc 16 (.binOp .eql 9 (Ja 4) (.const (.string ⟨⟨[124, 124]⟩⟩)) 9), Jh 14 16]))
def v183c7 : CV := Jt [Ji 2 2, Ji 3 2] (.ret)
def v183c8h0 : CV := Jt [Jc 18 (.binOp .eql 9 (Ja 4) (.const (.string ⟨⟨[61, 61]⟩⟩)) 9), Jh 17 18] (.cond (Ja 17) (.skip) (.reg [Jc 19 (.binOp .eql 9 (Ja 4) (.const (.string ⟨⟨[33, 61]⟩⟩)) 9), Jh 17 19]))
def v183c9 : CV := Jt [Ji 2 3, Ji 3 2] (.ret)
def v183c8 : CV := .seq v183c8h0 (.cond (Ja 17) v183c9 (.skip))
def v183c6 : CV := .seq v183c6h0 (.cond (Ja 14) v183c7 v183c8)
def v183c4 : CV := .seq v183c4h0 (.cond (Ja 11) v183c5 v183c6)
def v183k0 : CV := .seq v183k0h0 (.cond (Ja 5) v183c3 v183c4)
def v183h1 : CV := Jt [Jd 4 0] (.block 0 v183k0)
def v183t2 : CV := Jt [Ji 2 0, Ji 3 0] (.ret)
def v183t1 : CV := .seq v183h1 v183t2
def v183 : CV := Jt [Ji 2 0, Ji 3 0] v183t1
noncomputable def b183 : Code := f183.body.getD .skip
theorem b183_eq : f183.body = some b183 := by kernel_rfl
theorem v183_eq : viewC prog b183 = some v183 := by kernel_rfl
theorem r183_eq : f183.results.toList = [.tmp 2, .tmp 3] := by kernel_rfl
def v130c0 : CV := Jt [Ji 2 (-2)] (.ret)
def v130h2 : CV := Jt [Jd 5 0, Jc 6 (.binOp .lss 3 (Ja 5) (Jb 1) 3), Jd 7 6, Jp 7 false 8 0, Js 7 false 9 (.binOp .gtr 3 (Ja 8) (Jb 10) 3), Jc 10 (.pick (Ja 7) (.const (.bool true)) (Ja 9))] (.cond (Ja 10) v130c0 (.skip))
def v130t3 : CV := Jt [Jd 11 3, Jd 12 0, Jk 13 40 11 12, Jf 14 3 13, Jh 2 14] (.ret)
def v130t2 : CV := .seq v130h2 v130t3
def v130t1 : CV := Jt [Jc 4 (.buildSlice 40 11 #[(0, (Jb (-1))), (1, (Jb 0)), (2, (Jb 1)), (3, (Jb 2)), (4, (Jb 1)), (5, (Jb 1)), (6, (Jb (-1))), (7, (Jb (-1))), (8, (Jb 1)), (9, (Jb 0)), (10, (Jb 1))]), Jh 3 4] v130t2
def v130 : CV := Jt [Ji 2 0] v130t1
noncomputable def b130 : Code := f130.body.getD .skip
theorem b130_eq : f130.body = some b130 := by kernel_rfl
theorem v130_eq : viewC prog b130 = some v130 := by kernel_rfl
theorem r130_eq : f130.results.toList = [.tmp 2] := by kernel_rfl
def v135c0 : CV := Jt [Ji 6 0, Ji 7 32] (.ret)
def v135h2 : CV := Jt [Jg 17 180 3 0, Jf 18 3 17, Jc 19 (.binOp .lss 3 (Ja 18) (Jb 1) 3), Jd 20 19, Jq 20 false 21 180 3 0, Jr 20 false 22 3 21, Js 20 false 23 (.binOp .gtr 3 (Ja 22) (Jb 6) 3), Jc 24 (.pick (Ja 20) (.const (.bool true)) (Ja 23)), Jd 25 24, Jq 25 false 26 180 3 3, Jr 25 false 27 155 26, Js 25 false 28 (.call ⟨.builtin .len, #[(Ja 27)], #[155]⟩), Jp 25 false 29 8, Jq 25 false 30 180 3 0, Jr 25 false 31 3 30, Js 25 false 32 (.indexAddr 40 (Ja 29) (Ja 31)), Jr 25 false 33 3 32, Js 25 false 34 (.binOp .neq 3 (Ja 28) (Ja 33) 3), Jc 35 (.pick (Ja 25) (.const (.bool true)) (Ja 34))] (.cond (Ja 35) v135c0 (.skip))
def v135c1 : CV := Jt [Ji 6 0, Ji 7 32] (.ret)
def v135h3 : CV := Jt [Jg 36 180 3 0, Jf 37 3 36, Jc 38 (.binOp .eql 3 (Ja 37) (Jb 1) 3), Jd 39 38, Jq 39 true 40 180 3 2, Jr 39 true 41 2 40, Js 39 true 42 (.binOp .lss 2 (Ja 41) (Jb 0) 2), Jc 43 (.pick (Ja 39) (Ja 42) (.const (.bool false))), Jd 44 43, Jq 44 false 45 180 3 0, Jr 44 false 46 3 45, Js 44 false 47 (.binOp .eql 3 (Ja 46) (Jb 2) 3), Jp 44 false 48 47, Jq 48 true 49 180 3 2, Jr 48 true 50 2 49, Js 48 true 51 (.binOp .neq 2 (Ja 50) (Jb 0) 2), Js 44 false 52 (.pick (Ja 48) (Ja 51) (.const (.bool false))), Jp 44 false 53 52, Jq 53 true 54 180 3 2, Jr 53 true 55 2 54, Js 53 true 56 (.binOp .neq 2 (Ja 55) (Jb 1) 2), Js 44 false 57 (.pick (Ja 53) (Ja 56) (.const (.bool false))), Jc 58 (.pick (Ja 44) (.const (.bool true)) (Ja 57))] (.cond (Ja 58) v135c1 (.skip))
def v135c2 : CV := Jt [Ji 6 1, Ji 7 0] (.ret)
def v135h4 : CV := Jt [Jg 59 180 3 0, Jf 60 3 59, Jc 61 (.binOp .eql 3 (Ja 60) (Jb 1) 3)] (.cond (Ja 61) v135c2 (.skip))
def v135c3 : CV := Jt [Ji 6 2, Ji 7 0] (.ret)
def v135h5 : CV := Jt [Jg 62 180 3 0, Jf 63 3 62, Jc 64 (.binOp .eql 3 (Ja 63) (Jb 2) 3)] (.cond (Ja 64) v135c3 (.skip))
def v135c5 : CV := Jt [Ji 6 0, Ji 7 40] (.ret)
def v135c4h1 : CV := Jt [Jd 78 9, Jc 79 (.binOp .lss 3 (Ja 78) (Jb 0) 3)] (.cond (Ja 79) v135c5 (.skip))
def v135c6 : CV := Jt [Ji 6 0, Ji 7 41] (.ret)
def v135c4h2 : CV := Jt [Jd 80 1, Jd 81 9, Jk 82 90 80 81, Jg 83 143 82 2, Jf 84 3 83, Jc 85 (.binOp .gtr 3 (Ja 84) (Jb 0) 3), Jg 86 180 3 0, Jf 87 3 86, Jc 88 (.binOp .eql 3 (Ja 87) (Jb 4) 3), Jc 89 (.binOp .neq 4 (Ja 85) (Ja 88) 4), Jd 90 89, Jp 90 false 91 1, Jp 90 false 92 9, Js 90 false 93 (.indexAddr 90 (Ja 91) (Ja 92)), Jq 90 false 94 143 93 2, Jr 90 false 95 3 94, Js 90 false 96 (.binOp .lss 3 (Ja 95) (Jb 0) 3), Jp 90 false 97 96, Jq 97 true 98 180 3 0, Jr 97 true 99 3 98, Js 97 true 100 (.binOp .eql 3 (Ja 99) (Jb 3) 3), Js 90 false 101 (.pick (Ja 97) (Ja 100) (.const (.bool false))), Jc 102 (.pick (Ja 90) (.const (.bool true)) (Ja 101))] (.cond (Ja 102) v135c6 (.skip))
def v135c7 : CV := Jt [Jd 106 1, Jd 107 9, Jk 108 90 106 107, Jg 109 143 108 1, Jf 110 3 109, Jh 6 110, Ji 7 0] (.ret)
def v135c4h3 : CV := Jt [Jg 103 180 3 0, Jf 104 3 103, Jc 105 (.binOp .eql 3 (Ja 104) (Jb 3) 3)] (.cond (Ja 105) v135c7 (.skip))
def v135c4t4 : CV := Jt [Jg 111 180 3 3, Jf 112 155 111, Jc 113 (.indexAddr 155 (Ja 112) (Jb 0)), Jf 114 180 113, Jd 115 1, Jd 116 2, Jc 117 (.call ⟨.value (.func 182), #[(Ja 114), (Ja 115), (Ja 116), (Jb 1), (Jb 1)], #[180, 90, 3, 3, 3]⟩), Jl 118 117 0, Jl 119 117 1, Jh 6 118, Jh 7 119] (.ret)
def v135c4t3 : CV := .seq v135c4h3 v135c4t4
def v135c4t2 : CV := .seq v135c4h2 v135c4t3
def v135c4t1 : CV := .seq v135c4h1 v135c4t2
def v135c4 : CV := Jt [Jd 73 1, Jg 74 180 3 1, Jf 75 9 74, Jd 76 2, Jc 77 (.call ⟨.value (.func 133), #[(Ja 73), (Ja 75), (Ja 76)], #[90, 9, 3]⟩), Jh 9 77] v135c4t1
def v135h6 : CV := Jt [Jg 65 180 3 0, Jf 66 3 65, Jc 67 (.binOp .eql 3 (Ja 66) (Jb 3) 3), Jd 68 67, Jq 68 false 69 180 3 0, Jr 68 false 70 3 69, Js 68 false 71 (.binOp .eql 3 (Ja 70) (Jb 4) 3), Jc 72 (.pick (Ja 68) (.const (.bool true)) (Ja 71))] (.cond (Ja 72) v135c4 (.skip))
def v135c8 : CV := Jt [Jd 132 11, Ji 6 0, Jh 7 132] (.ret)
def v135h8 : CV := Jt [Jd 130 11, Jc 131 (.binOp .neq 28 (Ja 130) (Jb 0) 28)] (.cond (Ja 131) v135c8 (.skip))
def v135c10 : CV := Jt [Ji 6 0, Ji 7 32] (.ret)
def v135c9h0 : CV := Jt [Jg 136 180 3 1, Jf 137 9 136, Jc 138 (.binOp .neq 9 (Ja 137) (.const (.string ⟨⟨[45]⟩⟩)) 9), Jd 139 138, Jq 139 true 140 180 3 1, Jr 139 true 141 9 140, Js 139 true 142 (.binOp .neq 9 (Ja 141) (.const (.string ⟨⟨[33]⟩⟩)) 9), Jc 143 (.pick (Ja 139) (Ja 142) (.const (.bool false)))] (.cond (Ja 143) v135c10 (.skip))
def v135c11 : CV := Jt [Ji 6 0, Ji 7 41] (.ret)
def v135c9h1 : CV := Jt [Jg 144 180 3 1, Jf 145 9 144, Jc 146 (.binOp .eql 9 (Ja 145) (.const (.string ⟨⟨[45]⟩⟩)) 9), Jd 147 146, Jp 147 true 148 10, Js 147 true 149 (.binOp .neq 3 (Ja 148) (Jb 1) 3), Jc 150 (.pick (Ja 147) (Ja 149) (.const (.bool false))), Jd 151 150, Jq 151 false 152 180 3 1, Jr 151 false 153 9 152, Js 151 false 154 (.binOp .eql 9 (Ja 153) (.const (.string ⟨⟨[33]⟩⟩)) 9), Jp 151 false 155 154, Jp 155 true 156 10, Js 155 true 157 (.binOp .neq 3 (Ja 156) (Jb 2) 3), Js 151 false 158 (.pick (Ja 155) (Ja 157) (.const (.bool false))), Jc 159 (.pick (Ja 151) (.const (.bool true)) (Ja 158))] (.cond (Ja 159) v135c11 (.skip))
def v135c9t2 : CV := Jt [Jd 160 10, Jh 6 160, Ji 7 0] (.ret)
def v135c9t1 : CV := .seq v135c9h1 v135c9t2
def v135c9 : CV := .seq v135c9h0 v135c9t1
def v135h9 : CV := Jt [Jg 133 180 3 0, Jf 134 3 133, Jc 135 (.binOp .eql 3 (Ja 134) (Jb 5) 3)] (.cond (Ja 135) v135c9 (.skip))
def v135c12 : CV := Jt [Jd 173 13, Ji 6 0, Jh 7 173] (.ret)
def v135h11 : CV := Jt [Jd 171 13, Jc 172 (.binOp .neq 28 (Ja 171) (Jb 0) 28)] (.cond (Ja 172) v135c12 (.skip))
def v135c13 : CV := Jt [Ji 6 0, Ji 7 32] (.ret)
def v135h13 : CV := Jt [Jd 180 15, Jc 181 (.binOp .eql 3 (Ja 180) (Jb 0) 3)] (.cond (Ja 181) v135c13 (.skip))
def v135c14 : CV := Jt [Ji 6 0, Ji 7 41] (.ret)
def v135h14 : CV := Jt [Jd 182 10, Jd 183 12, Jc 184 (.binOp .neq 3 (Ja 182) (Ja 183) 3), Jd 185 184, Jp 185 false 186 14, Js 185 false 187 (.binOp .neq 3 (Ja 186) (Jb 3) 3), Jp 185 false 188 187, Jp 188 true 189 10, Jp 188 true 190 14, Js 188 true 191 (.binOp .neq 3 (Ja 189) (Ja 190) 3), Js 185 false 192 (.pick (Ja 188) (Ja 191) (.const (.bool false))), Jc 193 (.pick (Ja 185) (.const (.bool true)) (Ja 192))] (.cond (Ja 193) v135c14 (.skip))
def v135t15 : CV := Jt [Jd 194 15, Jh 6 194, Ji 7 0] (.ret)
def v135t14 : CV := .seq v135h14 v135t15
def v135t13 : CV := .seq v135h13 v135t14
def v135t12 : CV := Jt [Jg 175 180 3 1, Jf 176 9 175, Jn 177 183 176 9, Jd 174 177, Jl 178 174 0, Jl 179 174 1, Jh 14 178, Jh 15 179] v135t13
def v135t11 : CV := .seq v135h11 v135t12
def v135t10 : CV := Jt [Jg 162 180 3 3, Jf 163 155 162, Jc 164 (.indexAddr 155 (Ja 163) (Jb 1)), Jf 165 180 164, Jd 166 1, Jd 167 2, Jc 168 (.call ⟨.value (.func 135), #[(Ja 165), (Ja 166), (Ja 167)], #[180, 90, 3]⟩), Jd 161 168, Jl 169 161 0, Jl 170 161 1, Jh 12 169, Jh 13 170] v135t11
def v135t9 : CV := .seq v135h9 v135t10
def v135t8 : CV := .seq v135h8 v135t9
def v135t7 : CV := Jt [Jg 121 180 3 3, Jf 122 155 121, Jc 123 (.indexAddr 155 (Ja 122) (Jb 0)), Jf 124 180 123, Jd 125 1, Jd 126 2, Jc 127 (.call ⟨.value (.func 135), #[(Ja 124), (Ja 125), (Ja 126)], #[180, 90, 3]⟩), Jd 120 127, Jl 128 120 0, Jl 129 120 1, Jh 10 128, Jh 11 129] v135t8
def v135t6 : CV := .seq v135h6 v135t7
def v135t5 : CV := .seq v135h5 v135t6
def v135t4 : CV := .seq v135h4 v135t5
def v135t3 : CV := .seq v135h3 v135t4
def v135t2 : CV := .seq v135h2 v135t3
def v135t1 : CV := Jt [Jc 16 (.buildSlice 40 7 #[(0, (Jb (-1))), (1, (Jb 0)), (2, (Jb 0)), (3, (Jb 0)), (4, (Jb 1)), (5, (Jb 1)), (6, (Jb 2))]), Jh 8 16] v135t2
def v135 : CV := Jt [Jc 3 (.box 180 (Ja 0)), Ji 6 0, Ji 7 0] v135t1
noncomputable def b135 : Code := f135.body.getD .skip
theorem b135_eq : f135.body = some b135 := by kernel_rfl
theorem v135_eq : viewC prog b135 = some v135 := by kernel_rfl
theorem r135_eq : f135.results.toList = [.tmp 6, .tmp 7] := by kernel_rfl
def v182c0 : CV := Jt [Jd 23 13, Ji 10 0, Jh 11 23] (.ret)
def v182h2 : CV := Jt [Jd 21 13, Jc 22 (.binOp .neq 28 (Ja 21) (Jb 0) 28)] (.cond (Ja 22) v182c0 (.skip))
def v182c1 : CV := Jt [Ji 10 0, Ji 11 41] (.ret)
def v182h3 : CV := Jt [Jd 24 12, Jd 25 3, Jc 26 (.binOp .neq 3 (Ja 24) (Ja 25) 3)] (.cond (Ja 26) v182c1 (.skip))
def v182t4 : CV := Jt [Jd 27 4, Jh 10 27, Ji 11 0] (.ret)
def v182t3 : CV := .seq v182h3 v182t4
def v182t2 : CV := .seq v182h2 v182t3
def v182t1 : CV := Jt [Jf 15 180 5, Jd 16 1, Jd 17 2, Jc 18 (.call ⟨.value (.func 135), #[(Ja 15), (Ja 16), (Ja 17)], #[180, 90, 3]⟩), Jd 14 18, Jl 19 14 0, Jl 20 14 1, Jh 12 19, Jh 13 20] v182t2
def v182 : CV := Jt [Jc 5 (.box 180 (Ja 0)), Ji 10 0, Ji 11 0] v182t1
noncomputable def b182 : Code := f182.body.getD .skip
theorem b182_eq : f182.body = some b182 := by kernel_rfl
theorem v182_eq : viewC prog b182 = some v182 := by kernel_rfl
theorem r182_eq : f182.results.toList = [.tmp 10, .tmp 11] := by kernel_rfl
def v132t2 : CV := Jt [Jd 20 10, Jh 8 20] (.ret)
def v132t1 : CV := Jt [Jf 12 180 4, Jd 13 1, Jd 14 2, Jd 15 3, Jd 16 3, Jc 17 (.call ⟨.value (.func 182), #[(Ja 12), (Ja 13), (Ja 14), (Ja 15), (Ja 16)], #[180, 90, 3, 3, 3]⟩), Jd 11 17, Jl 18 11 0, Jl 19 11 1, Jh 9 18, Jh 10 19] v132t2
def v132 : CV := Jt [Jc 4 (.box 180 (Ja 0)), Ji 8 0] v132t1
noncomputable def b132 : Code := f132.body.getD .skip
theorem b132_eq : f132.body = some b132 := by kernel_rfl
theorem v132_eq : viewC prog b132 = some v132 := by kernel_rfl
theorem r132_eq : f132.results.toList = [.tmp 8] := by kernel_rfl
def v131c0 : CV := Jt [Ji 10 40] (.ret)
def v131h2 : CV := Jt [Jd 16 11, Jc 17 (.binOp .lss 3 (Ja 16) (Jb 0) 3)] (.cond (Ja 17) v131c0 (.skip))
def v131c1 : CV := Jt [Ji 10 41] (.ret)
def v131h3 : CV := Jt [Jd 18 0, Jd 19 11, Jk 20 90 18 19, Jg 21 143 20 2, Jf 22 3 21, Jc 23 (.binOp .gtr 3 (Ja 22) (Jb 0) 3), Jd 24 3, Jc 25 (.binOp .neq 4 (Ja 23) (Ja 24) 4), Jd 26 25, Jp 26 false 27 4, Js 26 false 28 (.binOp .neq 3 (Ja 27) (Jb 0) 3), Jp 26 false 29 28, Jp 29 true 30 0, Jp 29 true 31 11, Js 29 true 32 (.indexAddr 90 (Ja 30) (Ja 31)), Jq 29 true 33 143 32 1, Jr 29 true 34 3 33, Jp 29 true 35 4, Js 29 true 36 (.binOp .neq 3 (Ja 34) (Ja 35) 3), Js 26 false 37 (.pick (Ja 29) (Ja 36) (.const (.bool false))), Jc 38 (.pick (Ja 26) (.const (.bool true)) (Ja 37))] (.cond (Ja 38) v131c1 (.skip))
def v131t4 : CV := Jt [Ji 10 0] (.ret)
def v131t3 : CV := .seq v131h3 v131t4
def v131t2 : CV := .seq v131h2 v131t3
def v131t1 : CV := Jt [Jd 12 0, Jd 13 1, Jd 14 2, Jc 15 (.call ⟨.value (.func 133), #[(Ja 12), (Ja 13), (Ja 14)], #[90, 9, 3]⟩), Jh 11 15] v131t2
def v131 : CV := Jt [Ji 10 0] v131t1
noncomputable def b131 : Code := f131.body.getD .skip
theorem b131_eq : f131.body = some b131 := by kernel_rfl
theorem v131_eq : viewC prog b131 = some v131 := by kernel_rfl
theorem r131_eq : f131.results.toList = [.tmp 10] := by kernel_rfl
def v134l0h0 : CV := Jt [Jd 4 3, Jd 5 0, Jj 6 5 252, Jc 7 (.binOp .lss 3 (Ja 4) (Ja 6) 3)] (.cond (Ja 7) (.skip) (.exit 0))
def v134c1 : CV := Jt [Jd 15 0, Jd 16 3, Jk 17 252 15 16, Jf 18 28 17, Jh 2 18] (.ret)
def v134k0 : CV := Jt [Jd 10 0, Jd 11 3, Jk 12 252 10 11, Jf 13 28 12, Jc 14 (.binOp .neq 28 (Ja 13) (Jb 0) 28)] (.cond (Ja 14) v134c1 (.skip))
def v134l0t1 : CV := .seq (.block 1 v134k0) (.reg [Jd 8 3, Jc 9 (.binOp .add 3 (Ja 8) (Jb 1) 3), Jh 3 9])
def v134l0 : CV := .seq v134l0h0 v134l0t1
def v134h1 : CV := Jt [Ji 3 0] (.block 0 (.loop v134l0))
def v134t2 : CV := Jt [Ji 2 0] (.ret)
def v134t1 : CV := .seq v134h1 v134t2
def v134 : CV := Jt [Ji 2 0] v134t1
noncomputable def b134 : Code := f134.body.getD .skip
theorem b134_eq : f134.body = some b134 := by kernel_rfl
theorem v134_eq : viewC prog b134 = some v134 := by kernel_rfl
theorem r134_eq : f134.results.toList = [.tmp 2] := by kernel_rfl
theorem zff (v : Vr) : (vrC v).length = 5 := rfl
def IsVs (H : Heap) (v : AV) (vs : List Vr) : Prop := IsSl H v 5 vs.length (vs.flatMap vrC) ∧ vs.length < 1000000
theorem IsVs.keep {H H' : Heap} {v : AV} {vs : List Vr} (h : IsVs H v vs) (k : Keep Non H H') : IsVs H' v vs := ⟨h.1.keep0 k, h.2⟩
section
variable {tb : List FuncId} {gl : List (List AV)} {A : Nat → Prop} {H : Heap} {u v w : AV} {b : Nat} {Q : AV → Heap → Prop}
theorem zdw {vs : List Vr} (hv : IsVs H v vs) {n : List UInt8} {mk z : Int} (hz : findV n mk vs 0 = z) (hQ : Q (.int .i64 z) H) : WpF prog tb gl 133 [v, S n, .int .i64 mk] H Q := by
 subst hz
 obtain ⟨hs, hn⟩ := hv
 refine fa func133 b133_eq v133_eq r133_eq (.inr (by simp)) ?_
 (repeat' first | (refine zae rfl ?_; (refine zab ?_)) | refine zac ?_ | refine zak ?_ | refine zam ?_)
 refine zbw (fun (i : Nat) => [(0, v), (1, S n), (2, .int .i64 mk), (7, .int .i64 (i : Int))]) (fun i H' => H' = H ∧ i ≤ vs.length ∧ findV n mk (vs.take i) 0 = -1) (fun i => vs.length - i) ?_ 0 _ H ⟨rfl, rfl, rfl, rfl, trivial⟩ ⟨rfl, Nat.zero_le _, rfl⟩
 rintro i H' ⟨rfl, hle, hf⟩
 refine zak (zac ?_)
 refine zae rfl ?_; (repeat ((refine zaa ?_; first | refine za8 rfl rfl rfl UnF.h rfl hs ?_); refine zae rfl ?_))
 by_cases hi : i < vs.length
 rotate_left
 ·rw [List.take_of_length_le (by omega)] at hf
  rw [hf] at hQ
  (repeat' first | (refine zae rfl ?_; first | (((refine zaa ?_)); (refine zbp rfl rfl (by omega) ?_)) | refine zab ?_) | refine zag rfl ?_ | refine zac ?_ | refine zbn ?_ | (refine zao ?_; refine zbm rfl ?_))
  exact hQ
 obtain ⟨x, hx⟩ : ∃ x, vs[i]? = some x := ⟨_, List.getElem?_eq_getElem hi⟩
 obtain ⟨hyes, hno⟩ := zrj hx hf
 (repeat' first | (refine zae rfl ?_; first | refine zbb rfl ?_ | ((first | refine zaa ?_ | refine zav rfl ?_); first | refine zal rfl ?_ | refine zaz rfl rfl rfl ?_ | refine za1 rfl rfl ?_ | refine zcq zff UnF.h SzF.h rfl hs rfl rfl hx (fun q0 hq0 => ?_) | refine zas FpF.h (by decide) rfl hq0 (fun p2 hp2 => ?_) | refine zbh PlF.h rfl hp2 rfl ?_ | refine za0 (c := ((i + 1 : Nat) : Int)) rfl rfl Ju ?_ | refine zbx rfl rfl (by omega) ?_ | refine oa_leqS rfl rfl (fun hc => ?_) (fun hc => ?_) | refine zt6 rfl rfl (fun hc => ?_) (fun hc => ?_) | refine zf7 rfl rfl (fun hc => ?_) (fun hc => ?_)) | refine zab ?_) | refine zah rfl ?_ | refine zag rfl ?_ | refine zac ?_ | refine zak ?_ | refine zaw ?_ | refine zam ?_ | refine zan ?_ | (refine zao ?_; refine zbm rfl ?_))
 ·rw [hyes ⟨by assumption, by assumption, by assumption⟩] at hQ
  exact hQ
 all_goals
  refine ⟨i + 1, ?_, ⟨rfl, rfl, rfl, rfl, trivial⟩, rfl, by omega, hno ?_⟩
  ·show vs.length - (i + 1) < vs.length - i
   omega
  ·rintro ⟨h1, h2, h3⟩
   (contradiction)
theorem zdv {p : Int × Int} {a b : Int} (hQ : Q (.tup [.int .i64 p.1, .int .i64 p.2]) H) (h : p = (a, b)) : Q (.tup [.int .i64 a, .int .i64 b]) H := by
 subst h; exact hQ
theorem one_ok (n : List UInt8) (hQ : Q (.tup [.int .i64 (oneT n).1, .int .i64 (oneT n).2]) H) : WpF prog tb gl 183 [S n] H Q := by
 refine fa func183 b183_eq v183_eq r183_eq (.inr (by simp)) ?_
 (repeat' first | (refine zae rfl ?_; first | (((refine zaa ?_)); (refine zf7 rfl rfl (fun hc => ?_) (fun hc => ?_))) | refine zab ?_) | refine zah rfl ?_ | refine zag rfl ?_ | refine zac ?_ | refine zak ?_ | refine zaw ?_ | refine zam ?_ | refine zan ?_ | (refine zao ?_; refine zbm rfl ?_))
 all_goals
  refine zdv hQ ?_
  simp [oneT, *]
theorem zi5 (k : Int) (hQ : ∀ H', Keep Non H H' → Q (.int .i64 (kindsT k)) H') : WpF prog tb gl 130 [.int .i64 k] H Q := by
 refine fa func130 b130_eq v130_eq r130_eq (.inr (by simp)) ?_
 refine zac ?_
 refine zae rfl ?_
 refine zab (zac ?_)
 refine zaa (zar (n := 11) ElF.h (by decide) rfl rfl fun H1 hk1 hr1 => ?_)
 have hQ := hQ H1 hk1
 by_cases hk : k < 1 ∨ 10 < k
 ·unfold kindsT at hQ
  rw [if_pos hk] at hQ
  rcases hk with hk | hk <;> ((repeat' first | (refine zae rfl ?_; first | refine zbb rfl ?_ | ((first | refine zaa ?_ | refine zav rfl ?_); first | refine zal rfl ?_ | refine zaz rfl rfl rfl ?_ | refine za1 rfl rfl ?_ | refine zbx rfl rfl (by omega) ?_ | refine zbp rfl rfl (by omega) ?_ | refine zcu rfl rfl (by omega) ?_) | refine zab ?_) | refine zah rfl ?_ | refine zac ?_ | refine zak ?_ | (refine zao ?_; refine zbm rfl ?_)); exact hQ)
 ·have hv : ([.int .i64 (-1), .int .i64 0, .int .i64 1, .int .i64 2, .int .i64 1, .int .i64 1, .int .i64 (-1), .int .i64 (-1), .int .i64 1, .int .i64 0, .int .i64 1] : List AV)[0 + k.toNat * 1]? = some (.int .i64 (kindsT k)) := by
   have : k = 1 ∨ k = 2 ∨ k = 3 ∨ k = 4 ∨ k = 5 ∨ k = 6 ∨ k = 7 ∨ k = 8 ∨ k = 9 ∨ k = 10 := by omega
   rcases this with h | h | h | h | h | h | h | h | h | h <;> subst h <;> rfl
  (repeat' first | (refine zae rfl ?_; first | ((first | refine zaa ?_ | refine zav rfl ?_); first | refine zal rfl ?_ | refine za1 rfl rfl ?_ | refine zb4 (j := k.toNat) (o := 0) UnF.h SzF.h rfl rfl (by omega) (by omega) ?_ | refine zaf PlF.h rfl hr1 hv ?_ | refine zbp rfl rfl (by omega) ?_ | refine zb9 rfl rfl (by omega) ?_) | refine zab ?_) | refine zag rfl ?_ | refine zac ?_ | refine zak ?_ | refine zan ?_ | (refine zao ?_; refine zbm rfl ?_))
  exact hQ
def TyOK (tb : List FuncId) (gl : List (List AV)) (k : Nat) : Prop := ∀ (A : Nat → Prop) (x : Exp) (c : List AV) (vs : List Vr) (v : AV) (mk : Int) (H : Heap) (Q : AV → Heap → Prop), szE x < k → IsE A H c x → IsVs H v vs →
 (∀ H', Keep Non H H' → Q (.tup [.int .i64 (tyE x vs mk).1, .int .i64 (tyE x vs mk).2]) H') → WpF prog tb gl 135 [.agg c, v, .int .i64 mk] H Q
def typedT (x : Exp) (vs : List Vr) (mk t ans : Int) : Int × Int := if (tyE x vs mk).2 ≠ 0 then (0, (tyE x vs mk).2) else if (tyE x vs mk).1 ≠ t then (0, 41) else (ans, 0)
theorem zq9 {k : Nat} (ih : TyOK tb gl k) {x : Exp} {c : List AV} {vs : List Vr} {mk t ans : Int} (hk : szE x < k) (hE : IsE A H c x) (hv : IsVs H v vs) (hQ : ∀ H', Keep Non H H' → Q (.tup [.int .i64 (typedT x vs mk t ans).1, .int .i64 (typedT x vs mk t ans).2]) H') :
  WpF prog tb gl 182 [.agg c, v, .int .i64 mk, .int .i64 t, .int .i64 ans] H Q := by
 obtain ⟨w, hc, _⟩ := hE.out
 have hc4 : c.length = 4 := by rw [hc]; rfl
 refine fa func182 b182_eq v182_eq r182_eq (.inr (by simp)) ?_
 refine zac ?_
 refine zaa (zcd rfl fun H1 hk1 hr1 => ?_)
 have hr1 : IsRow H1 H.nx c false false := hr1
 refine zae rfl ?_
 refine zab (zac ?_)
 refine zaa (zaq (k := 4) PlF.h hc4 (by decide) rfl hr1.pts ?_)
 refine zae rfl ?_
 refine zaa (zaj rfl rfl rfl (ih A x c vs v mk H1 _ hk (hE.keep hk1) (hv.keep hk1) fun H2 hk2 => ?_))
 have hQ := hQ H2 (hk1.trans0 hk2)
 (repeat' first | (refine zae rfl ?_; first | (((refine zaa ?_)); (refine zc7 rfl rfl (fun hc => ?_) (fun hc => ?_))) | refine zab ?_) | refine zah rfl ?_ | refine zag rfl ?_ | refine zac ?_ | refine zak ?_ | refine zan ?_ | (refine zao ?_; refine zbm rfl ?_))
 all_goals
  refine zdv hQ ?_
  unfold typedT
  repeat (first | rw [if_pos (by omega)] | rw [if_neg (by omega)])
theorem zu7 {x a : Exp} {r : List Exp} (h : x.l = a :: r) (vs : List Vr) (mk : Int) : ty0 x.l vs mk = tyE a vs mk := by rw [h, ty0]
theorem ty1_of {x a b : Exp} {r : List Exp} (h : x.l = a :: b :: r) (vs : List Vr) (mk : Int) : ty1 x.l vs mk = tyE b vs mk := by rw [h, ty1, ty0]
set_option maxRecDepth 100000 in
theorem zjh : ∀ k, TyOK tb gl k
 | 0 => fun _ _ _ _ _ _ _ _ h => by omega
 | k + 1 => by
  intro A x c vs v mk H Q hk hE hv hQ
  have ih : TyOK tb gl k := zjh k
  have hrB : rB = 140737488351232 := rfl
  obtain ⟨w, rfl, hkd, hnu, hnl, hll, hL⟩ := hE.out
  have hszE : szE x = szEs x.l + 1 := by cases x; simp only [szE]; rfl
  refine fa func135 b135_eq v135_eq r135_eq (.inr (by simp)) ?_
  refine zac ?_
  refine zaa (zcd rfl fun H1 hk1 hr1 => ?_)
  obtain ⟨bx, hbx⟩ : ∃ b, b = H.nx := ⟨_, rfl⟩
  rw [← hbx] at hr1 ⊢
  have hr1 : IsRow H1 bx [.int .i64 x.kind, S x.name, .int .i64 x.num, w] false false := hr1
  refine zae rfl ?_
  refine zab (zac ?_)
  refine zaa (zar (n := 7) ElF.h (by decide) rfl rfl fun H2 hk2 hr2 => ?_)
  have hk02 := hk1.trans0 hk2
  have hr := hr1.keep0 hk2
  have hL2 : IsLs A (IsE A) 4 H2 w x.l := hL.keep hk02 fun _ _ _ h => h.keep hk02
  have hv2 := hv.keep hk02
  clear hr1 hL hv hE
  refine zae rfl ?_
  obtain ⟨pk, hpk⟩ : ∃ n, n = partsE x.kind := ⟨_, rfl⟩
  have hT := tyE_at x vs mk
  rw [← hpk] at hT
  by_cases h0 : x.kind < 1 ∨ 6 < x.kind
  ·rw [if_pos (by omega)] at hT
   rcases h0 with h0 | h0 <;> ((repeat' first | (refine zae rfl ?_; first | refine zbb rfl ?_ | ((first | refine zaa ?_ | refine zav rfl ?_); first | refine zaz rfl rfl rfl ?_ | refine za1 rfl rfl ?_ | refine zad FpF.h (by decide) rfl ?_ | refine zaf PlF.h rfl hr rfl ?_ | refine zbx rfl rfl (by omega) ?_ | refine zbp rfl rfl (by omega) ?_ | refine zcu rfl rfl (by omega) ?_) | refine zab ?_) | refine zah rfl ?_ | refine zac ?_ | refine zak ?_ | (refine zao ?_; refine zbm rfl ?_)); exact zdv (hQ H2 hk02) hT)
  have hv7 : ([.int .i64 (-1), .int .i64 0, .int .i64 0, .int .i64 0, .int .i64 1, .int .i64 1, .int .i64 2] : List AV)[0 + x.kind.toNat * 1]? = some (.int .i64 (pk : Int)) := by
   rw [hpk]
   have : x.kind = 1 ∨ x.kind = 2 ∨ x.kind = 3 ∨ x.kind = 4 ∨ x.kind = 5 ∨ x.kind = 6 := by omega
   rcases this with h | h | h | h | h | h <;> rw [h] <;> rfl
  by_cases h1 : x.l.length ≠ pk
  ·rw [if_pos (by omega)] at hT
   (repeat' first | (refine zae rfl ?_; first | ((first | refine zaa ?_ | refine zav rfl ?_); first | refine zal rfl ?_ | refine za1 rfl rfl ?_ | refine zad FpF.h (by decide) rfl ?_ | refine zaf PlF.h rfl hr rfl ?_ | refine za7 rfl rfl rfl UnF.h rfl hL2 ?_ | refine zb4 (j := x.kind.toNat) (o := 0) UnF.h SzF.h rfl rfl (by omega) (by omega) ?_ | refine zaf PlF.h rfl hr2 hv7 ?_ | refine zbp rfl rfl (by omega) ?_ | refine zb9 rfl rfl (by omega) ?_ | refine zcr rfl rfl (by omega) ?_) | refine zab ?_) | refine zah rfl ?_ | refine zac ?_ | refine zak ?_ | (refine zao ?_; refine zbm rfl ?_))
   exact zdv (hQ H2 hk02) hT
  rw [if_neg (by omega)] at hT
  have hp1 : x.kind ≤ 3 → pk = 0 := fun h => by rw [hpk]; unfold partsE; rw [if_neg (by omega), if_neg (by omega)]
  have hp2 : x.kind = 4 ∨ x.kind = 5 → pk = 1 := fun h => by rw [hpk]; unfold partsE; rw [if_neg (by omega), if_pos h]
  have hp3 : x.kind = 6 → pk = 2 := fun h => by rw [hpk]; unfold partsE; rw [if_pos h]
  clear hpk
  by_cases e1 : x.kind = 1
  ·by_cases hn : x.num < 0
   ·rw [if_pos (by omega)] at hT
    (repeat' first | (refine zae rfl ?_; first | refine zbb rfl ?_ | refine zef rfl ?_ | ((first | refine zaa ?_ | refine zav rfl ?_); first | refine zal rfl ?_ | refine zaz rfl rfl rfl ?_ | refine za1 rfl rfl ?_ | refine zad FpF.h (by decide) rfl ?_ | refine zaf PlF.h rfl hr rfl ?_ | refine za7 rfl rfl rfl UnF.h rfl hL2 ?_ | refine zb4 (j := x.kind.toNat) (o := 0) UnF.h SzF.h rfl rfl (by omega) (by omega) ?_ | refine zaf PlF.h rfl hr2 hv7 ?_ | refine zbx rfl rfl (by omega) ?_ | refine zbp rfl rfl (by omega) ?_ | refine zb9 rfl rfl (by omega) ?_ | refine zax rfl rfl (by omega) ?_ | refine zcf rfl rfl (by omega) ?_) | refine zab ?_) | refine zah rfl ?_ | refine zag rfl ?_ | refine zac ?_ | refine zak ?_ | refine zan ?_ | (refine zao ?_; refine zbm rfl ?_))
    exact zdv (hQ H2 hk02) hT
   ·rw [if_neg (by omega), if_pos e1] at hT
    (repeat' first | (refine zae rfl ?_; first | refine zbb rfl ?_ | ((first | refine zaa ?_ | refine zav rfl ?_); first | refine zal rfl ?_ | refine zaz rfl rfl rfl ?_ | refine za1 rfl rfl ?_ | refine zad FpF.h (by decide) rfl ?_ | refine zaf PlF.h rfl hr rfl ?_ | refine za7 rfl rfl rfl UnF.h rfl hL2 ?_ | refine zb4 (j := x.kind.toNat) (o := 0) UnF.h SzF.h rfl rfl (by omega) (by omega) ?_ | refine zaf PlF.h rfl hr2 hv7 ?_ | refine zbp rfl rfl (by omega) ?_ | refine zb9 rfl rfl (by omega) ?_ | refine zax rfl rfl (by omega) ?_ | refine zat rfl rfl (by omega) ?_ | refine zcf rfl rfl (by omega) ?_) | refine zab ?_) | refine zah rfl ?_ | refine zag rfl ?_ | refine zac ?_ | refine zak ?_ | refine zan ?_ | (refine zao ?_; refine zbm rfl ?_))
    exact zdv (hQ H2 hk02) hT
  by_cases e2 : x.kind = 2
  ·by_cases hn : x.num ≠ 0 ∧ x.num ≠ 1
   ·rw [if_pos (by omega)] at hT
    (repeat' first | (refine zae rfl ?_; first | refine zbb rfl ?_ | ((first | refine zaa ?_ | refine zav rfl ?_); first | refine zal rfl ?_ | refine zaz rfl rfl rfl ?_ | refine za1 rfl rfl ?_ | refine zad FpF.h (by decide) rfl ?_ | refine zaf PlF.h rfl hr rfl ?_ | refine za7 rfl rfl rfl UnF.h rfl hL2 ?_ | refine zb4 (j := x.kind.toNat) (o := 0) UnF.h SzF.h rfl rfl (by omega) (by omega) ?_ | refine zaf PlF.h rfl hr2 hv7 ?_ | refine zbp rfl rfl (by omega) ?_ | refine zb9 rfl rfl (by omega) ?_ | refine zax rfl rfl (by omega) ?_ | refine zat rfl rfl (by omega) ?_ | refine zcr rfl rfl (by omega) ?_ | refine zcf rfl rfl (by omega) ?_) | refine zab ?_) | refine zah rfl ?_ | refine zag rfl ?_ | refine zac ?_ | refine zak ?_ | refine zan ?_ | (refine zao ?_; refine zbm rfl ?_))
    exact zdv (hQ H2 hk02) hT
   ·rw [if_neg (by omega), if_neg e1, if_pos e2] at hT
    (repeat' first | (refine zae rfl ?_; first | refine zbb rfl ?_ | ((first | refine zaa ?_ | refine zav rfl ?_); first | refine zal rfl ?_ | refine zaz rfl rfl rfl ?_ | refine za1 rfl rfl ?_ | refine zad FpF.h (by decide) rfl ?_ | refine zaf PlF.h rfl hr rfl ?_ | refine za7 rfl rfl rfl UnF.h rfl hL2 ?_ | refine zb4 (j := x.kind.toNat) (o := 0) UnF.h SzF.h rfl rfl (by omega) (by omega) ?_ | refine zaf PlF.h rfl hr2 hv7 ?_ | refine zbp rfl rfl (by omega) ?_ | refine zb9 rfl rfl (by omega) ?_ | refine zax rfl rfl (by omega) ?_ | refine zat rfl rfl (by omega) ?_ | refine zcf rfl rfl (by omega) ?_ | refine zc7 rfl rfl (fun hc => ?_) (fun hc => ?_)) | refine zab ?_) | refine zah rfl ?_ | refine zag rfl ?_ | refine zac ?_ | refine zak ?_ | refine zan ?_ | (refine zao ?_; refine zbm rfl ?_))
    all_goals exact zdv (hQ H2 hk02) hT
  rw [if_neg (by omega), if_neg e1, if_neg e2] at hT
  by_cases e3 : x.kind = 3
  ·rw [if_pos (.inl e3)] at hT
   rcases zd3 x.name mk vs 0 with hf | ⟨j, vr, hj, hf, _⟩
   ·have h40 : tyE x vs mk = (0, 40) := by
     rw [hT, hf]
     split
     ·rw [if_pos (by omega)]
     ·rfl
    (repeat' first | (refine zae rfl ?_; first | refine zbb rfl ?_ | ((first | refine zaa ?_ | refine zav rfl ?_); first | refine zal rfl ?_ | refine zaz rfl rfl rfl ?_ | refine za1 rfl rfl ?_ | refine zad FpF.h (by decide) rfl ?_ | refine zaf PlF.h rfl hr rfl ?_ | refine za7 rfl rfl rfl UnF.h rfl hL2 ?_ | refine zb4 (j := x.kind.toNat) (o := 0) UnF.h SzF.h rfl rfl (by omega) (by omega) ?_ | refine zaf PlF.h rfl hr2 hv7 ?_ | refine zaj rfl rfl rfl (zdw hv2 hf ?_) | refine zbx rfl rfl (by omega) ?_ | refine zbp rfl rfl (by omega) ?_ | refine zb9 rfl rfl (by omega) ?_ | refine zax rfl rfl (by omega) ?_ | refine zat rfl rfl (by omega) ?_ | refine zcf rfl rfl (by omega) ?_) | refine zab ?_) | refine zah rfl ?_ | refine zag rfl ?_ | refine zac ?_ | refine zak ?_ | refine zan ?_ | (refine zao ?_; refine zbm rfl ?_))
    exact zdv (hQ H2 hk02) h40
   ·rw [Nat.zero_add] at hf
    rw [hf, Int.toNat_natCast, hj] at hT
    simp only at hT
    rw [if_neg (by omega)] at hT
    (repeat' first | (refine zae rfl ?_; first | refine zbb rfl ?_ | refine zef rfl ?_ | ((first | refine zaa ?_ | refine zav rfl ?_); first | refine zal rfl ?_ | refine zaz rfl rfl rfl ?_ | refine za1 rfl rfl ?_ | refine zad FpF.h (by decide) rfl ?_ | refine zaf PlF.h rfl hr rfl ?_ | refine za7 rfl rfl rfl UnF.h rfl hL2 ?_ | refine zb4 (j := x.kind.toNat) (o := 0) UnF.h SzF.h rfl rfl (by omega) (by omega) ?_ | refine zaf PlF.h rfl hr2 hv7 ?_ | refine zaj rfl rfl rfl (zdw hv2 hf ?_) | refine zcq zff UnF.h SzF.h rfl hv2.1 rfl rfl hj (fun q0 hq0 => ?_) | refine zas FpF.h (by decide) rfl hq0 (fun p2 hp2 => ?_) | refine zbh PlF.h rfl hp2 rfl ?_ | refine zbp rfl rfl (by omega) ?_ | refine zb9 rfl rfl (by omega) ?_ | refine zax rfl rfl (by omega) ?_ | refine zat rfl rfl (by omega) ?_ | refine zcf rfl rfl (by omega) ?_ | refine ze7 UnF.h rfl rfl ?_ | refine zub rfl rfl (fun hc => ?_) (fun hc => ?_) | refine zgz rfl rfl (fun hc => ?_) (fun hc => ?_)) | refine zab ?_) | refine zah rfl ?_ | refine zag rfl ?_ | refine zac ?_ | refine zak ?_ | refine zan ?_ | (refine zao ?_; refine zbm rfl ?_))
    all_goals
     refine zdv (hQ H2 hk02) (hT.trans ?_)
     repeat (first | rw [if_pos (by omega)] | rw [if_neg (by omega)])
  have hlen1 : x.kind ≠ 6 → ∃ a, x.l = [a] := fun h => List.length_eq_one_iff.1 (by have := hp2 (by omega); omega)
  by_cases e4 : x.kind = 4
  ·rw [if_pos (.inr e4)] at hT
   obtain ⟨a, hxa⟩ := hlen1 (by omega)
   have ha0 : x.l[0]? = some a := by rw [hxa]; rfl
   have hsa : szE a < k := by have := zd0 (show a ∈ x.l by rw [hxa]; simp); omega
   rw [zu7 hxa] at hT
   rcases zd3 x.name mk vs 0 with hf | ⟨j, vr, hj, hf, _⟩
   ·have h40 : tyE x vs mk = (0, 40) := by
     rw [hT, hf]
     split
     ·rw [if_pos (by omega)]
     ·rfl
    (repeat' first | (refine zae rfl ?_; first | refine zbb rfl ?_ | ((first | refine zaa ?_ | refine zav rfl ?_); first | refine zal rfl ?_ | refine za1 rfl rfl ?_ | refine zad FpF.h (by decide) rfl ?_ | refine zaf PlF.h rfl hr rfl ?_ | refine za7 rfl rfl rfl UnF.h rfl hL2 ?_ | refine zb4 (j := x.kind.toNat) (o := 0) UnF.h SzF.h rfl rfl (by omega) (by omega) ?_ | refine zaf PlF.h rfl hr2 hv7 ?_ | refine zaj rfl rfl rfl (zdw hv2 hf ?_) | refine zbx rfl rfl (by omega) ?_ | refine zbp rfl rfl (by omega) ?_ | refine zb9 rfl rfl (by omega) ?_ | refine zax rfl rfl (by omega) ?_ | refine zat rfl rfl (by omega) ?_ | refine zcf rfl rfl (by omega) ?_) | refine zab ?_) | refine zah rfl ?_ | refine zag rfl ?_ | refine zac ?_ | refine zak ?_ | refine zan ?_ | (refine zao ?_; refine zbm rfl ?_))
    exact zdv (hQ H2 hk02) h40
   ·rw [Nat.zero_add] at hf
    rw [hf, Int.toNat_natCast, hj] at hT
    simp only at hT
    rw [if_neg (by omega)] at hT
    (repeat' first | (refine zae rfl ?_; first | refine zbb rfl ?_ | refine zef rfl ?_ | ((first | refine zaa ?_ | refine zav rfl ?_); first | refine zal rfl ?_ | refine zaz rfl rfl rfl ?_ | refine za1 rfl rfl ?_ | refine zad FpF.h (by decide) rfl ?_ | refine zaf PlF.h rfl hr rfl ?_ | refine za7 rfl rfl rfl UnF.h rfl hL2 ?_ | refine zb4 (j := x.kind.toNat) (o := 0) UnF.h SzF.h rfl rfl (by omega) (by omega) ?_ | refine zaf PlF.h rfl hr2 hv7 ?_ | refine zaj rfl rfl rfl (zdw hv2 hf ?_) | refine zcq zff UnF.h SzF.h rfl hv2.1 rfl rfl hj (fun q0 hq0 => ?_) | refine zas FpF.h (by decide) rfl hq0 (fun p2 hp2 => ?_) | refine zbh PlF.h rfl hp2 rfl ?_ | refine zba (j := 0) UnF.h SzF.h rfl hL2 rfl rfl ha0 (fun q1 c1 hR hcl hq1 => ?_) | refine zaq PlF.h hcl (by decide) rfl hq1 ?_ | refine zaj rfl rfl rfl (zq9 ih hsa hR hv2 fun H3 hk3 => ?_) | refine zbp rfl rfl (by omega) ?_ | refine zb9 rfl rfl (by omega) ?_ | refine zax rfl rfl (by omega) ?_ | refine zat rfl rfl (by omega) ?_ | refine zcf rfl rfl (by omega) ?_ | refine ze7 UnF.h rfl rfl ?_ | refine zgz rfl rfl (fun hc => ?_) (fun hc => ?_)) | refine zab ?_) | refine zah rfl ?_ | refine zag rfl ?_ | refine zac ?_ | refine zak ?_ | refine zan ?_ | (refine zao ?_; refine zbm rfl ?_))
    ·refine zdv (hQ H3 (hk02.trans0 hk3)) (hT.trans ?_)
     rw [if_neg (by omega), if_neg e3]
     rfl
    all_goals
     refine zdv (hQ H2 hk02) (hT.trans ?_)
     rw [if_pos (by omega)]
  rw [if_neg (by omega)] at hT
  by_cases e5 : x.kind = 5
  ·obtain ⟨a, hxa⟩ := hlen1 (by omega)
   have ha0 : x.l[0]? = some a := by rw [hxa]; rfl
   have hsa : szE a < k := by have := zd0 (show a ∈ x.l by rw [hxa]; simp); omega
   rw [zu7 hxa, if_pos e5] at hT
   (repeat' first | (refine zae rfl ?_; first | refine zbb rfl ?_ | refine zef rfl ?_ | ((first | refine zaa ?_ | refine zav rfl ?_); first | refine zal rfl ?_ | refine zaz rfl rfl rfl ?_ | refine za1 rfl rfl ?_ | refine zad FpF.h (by decide) rfl ?_ | refine zaf PlF.h rfl hr rfl ?_ | refine za7 rfl rfl rfl UnF.h rfl hL2 ?_ | refine zb4 (j := x.kind.toNat) (o := 0) UnF.h SzF.h rfl rfl (by omega) (by omega) ?_ | refine zaf PlF.h rfl hr2 hv7 ?_ | refine zba (j := 0) UnF.h SzF.h rfl hL2 rfl rfl ha0 (fun q1 c1 hR hcl hq1 => ?_) | refine zaq PlF.h hcl (by decide) rfl hq1 ?_ | refine zaj rfl rfl rfl (ih A a c1 vs v mk H2 _ hsa hR hv2 fun H3 hk3 => ?_) | refine zaf PlF.h rfl (hr.keep0 hk3) rfl ?_ | refine zbp rfl rfl (by omega) ?_ | refine zb9 rfl rfl (by omega) ?_ | refine zax rfl rfl (by omega) ?_ | refine zat rfl rfl (by omega) ?_ | refine zcr rfl rfl (by omega) ?_ | refine zcf rfl rfl (by omega) ?_ | refine zi9 rfl rfl (by (assumption)) ?_ | refine zi8 rfl rfl (by (assumption)) ?_ | refine zc7 rfl rfl (fun hc => ?_) (fun hc => ?_) | refine zf7 rfl rfl (fun hc => ?_) (fun hc => ?_) | refine zqi rfl rfl (fun hc => ?_) (fun hc => ?_)) | refine zab ?_) | refine zah rfl ?_ | refine zag rfl ?_ | refine zac ?_ | refine zak ?_ | refine zan ?_ | (refine zao ?_; refine zbm rfl ?_))
   all_goals
    refine zdv (hQ H3 (hk02.trans0 hk3)) (hT.trans ?_)
    simp_all
  rw [if_neg e5] at hT
  have e6 : x.kind = 6 := by omega
  obtain ⟨a, b, hxa⟩ := len2 (l := x.l) (by have := hp3 e6; omega)
  have ha0 : x.l[0]? = some a := by rw [hxa]; rfl
  have ha1 : x.l[1]? = some b := by rw [hxa]; rfl
  have hsa : szE a < k := by have := zd0 (show a ∈ x.l by rw [hxa]; simp); omega
  have hsb : szE b < k := by have := zd0 (show b ∈ x.l by rw [hxa]; simp); omega
  rw [zu7 hxa, ty1_of hxa] at hT
  (repeat' first | (refine zae rfl ?_; first | refine zbb rfl ?_ | refine zef rfl ?_ | ((first | refine zaa ?_ | refine zav rfl ?_); first | refine zal rfl ?_ | refine zaz rfl rfl rfl ?_ | refine za1 rfl rfl ?_ | refine zad FpF.h (by decide) rfl ?_ | refine zaf PlF.h rfl hr rfl ?_ | refine za7 rfl rfl rfl UnF.h rfl hL2 ?_ | refine zb4 (j := x.kind.toNat) (o := 0) UnF.h SzF.h rfl rfl (by omega) (by omega) ?_ | refine zaf PlF.h rfl hr2 hv7 ?_ | refine zba (j := 0) UnF.h SzF.h rfl hL2 rfl rfl ha0 (fun q1 c1 hR hcl hq1 => ?_) | refine zaq PlF.h hcl (by decide) rfl hq1 ?_ | refine zaj rfl rfl rfl (ih A a c1 vs v mk H2 _ hsa hR hv2 fun H3 hk3 => ?_) | refine zaf PlF.h rfl (hr.keep0 hk3) rfl ?_ | refine zba (j := 1) UnF.h SzF.h rfl (hL2.keep hk3 fun _ _ _ h => h.keep hk3) rfl rfl ha1 (fun q2 c2 hR2 hcl2 hq2 => ?_) | refine zaq PlF.h hcl2 (by decide) rfl hq2 ?_ | refine zaj rfl rfl rfl (ih A b c2 vs v mk H3 _ hsb hR2 (hv2.keep hk3) fun H4 hk4 => ?_) | refine zaf PlF.h rfl (hr.keep0 (hk3.trans0 hk4)) rfl ?_ | refine zaj rfl rfl rfl (one_ok _ ?_) | refine zbp rfl rfl (by omega) ?_ | refine zb9 rfl rfl (by omega) ?_ | refine zat rfl rfl (by omega) ?_ | refine zcf rfl rfl (by omega) ?_ | refine zh6 rfl rfl (fun hc => ?_) (fun hc => ?_) | refine zc7 rfl rfl (fun hc => ?_) (fun hc => ?_)) | refine zab ?_) | refine zah rfl ?_ | refine zag rfl ?_ | refine zac ?_ | refine zak ?_ | refine zan ?_ | (refine zao ?_; refine zbm rfl ?_))
  all_goals
   first | refine zdv (hQ _ (hk02.trans0 (hk3.trans0 hk4))) (hT.trans ?_) | refine zdv (hQ _ (hk02.trans0 hk3)) (hT.trans ?_)
   repeat (first | rw [if_pos (by omega)] | rw [if_neg (by omega)])
theorem zu8 {x : Exp} {vs : List Vr} {mk t : Int} : (typedT x vs mk t t).2 = isT x vs mk t := by
 unfold typedT isT
 split
 ·rfl
 split <;> rfl
theorem zrn {x : Exp} {c : List AV} {vs : List Vr} {mk t : Int} (hE : IsE A H c x) (hv : IsVs H v vs) (hQ : ∀ H', Keep Non H H' → Q (.int .i64 (isT x vs mk t)) H') : WpF prog tb gl 132 [.agg c, v, .int .i64 mk, .int .i64 t] H Q := by
 obtain ⟨w, hc, _⟩ := hE.out
 have hc4 : c.length = 4 := by rw [hc]; rfl
 refine fa func132 b132_eq v132_eq r132_eq (.inr (by simp)) ?_
 refine zac ?_
 refine zaa (zcd rfl fun H1 hk1 hr1 => ?_)
 have hr1 : IsRow H1 H.nx c false false := hr1
 refine zae rfl ?_
 refine zab (zac ?_)
 refine zaa (zaq (k := 4) PlF.h hc4 (by decide) rfl hr1.pts ?_)
 refine zae rfl ?_
 refine zaa (zaj rfl rfl rfl (zq9 (zjh (szE x + 1)) (by omega) (hE.keep hk1) (hv.keep hk1) fun H2 hk2 => ?_))
 have hQ := hQ H2 (hk1.trans0 hk2)
 rw [← zu8] at hQ
 (repeat' first | (refine zae rfl ?_; (refine zab ?_)) | refine zac ?_ | (refine zao ?_; refine zbm rfl ?_))
 exact hQ
theorem zfq {n : List UInt8} {vs : List Vr} {mk t : Int} {arr : Bool} (hv : IsVs H v vs) (hQ : Q (.int .i64 (holdT vs n mk arr t)) H) : WpF prog tb gl 131 [v, S n, .int .i64 mk, .bool arr, .int .i64 t] H Q := by
 refine fa func131 b131_eq v131_eq r131_eq (.inr (by simp)) ?_
 rcases zd3 n mk vs 0 with hf | ⟨j, vr, hj, hf, _⟩
 ·have h40 : holdT vs n mk arr t = 40 := by
   unfold holdT
   rw [hf]
   split
   ·rw [if_pos (by omega)]
   ·rfl
  rw [h40] at hQ
  (repeat' first | (refine zae rfl ?_; first | (refine zaa ?_; first | refine zaj rfl rfl rfl (zdw hv hf ?_) | refine zbx rfl rfl (by omega) ?_) | refine zab ?_) | refine zah rfl ?_ | refine zac ?_ | refine zak ?_ | (refine zao ?_; refine zbm rfl ?_))
  exact hQ
 ·rw [Nat.zero_add] at hf
  unfold holdT at hQ
  rw [hf, Int.toNat_natCast, hj] at hQ
  simp only at hQ
  rw [if_neg (by omega)] at hQ
  cases arr with
  | true =>
   (repeat' first | (refine zae rfl ?_; first | refine zbb rfl ?_ | refine zef rfl ?_ | ((first | refine zaa ?_ | refine zav rfl ?_); first | refine zal rfl ?_ | refine zaz rfl rfl rfl ?_ | refine za1 rfl rfl ?_ | refine zaj rfl rfl rfl (zdw hv hf ?_) | refine zcq zff UnF.h SzF.h rfl hv.1 rfl rfl hj (fun q0 hq0 => ?_) | refine zas FpF.h (by decide) rfl hq0 (fun p2 hp2 => ?_) | refine zbh PlF.h rfl hp2 rfl ?_ | refine zbp rfl rfl (by omega) ?_ | refine ze7 UnF.h rfl rfl ?_ | refine zgz rfl rfl (fun hc => ?_) (fun hc => ?_) | refine zc7 rfl rfl (fun hc => ?_) (fun hc => ?_)) | refine zab ?_) | refine zah rfl ?_ | refine zag rfl ?_ | refine zac ?_ | refine zak ?_ | refine zan ?_ | (refine zao ?_; refine zbm rfl ?_))
   all_goals simp_all
  | false =>
   (repeat' first | (refine zae rfl ?_; first | refine zbb rfl ?_ | refine zef rfl ?_ | ((first | refine zaa ?_ | refine zav rfl ?_); first | refine zal rfl ?_ | refine zaz rfl rfl rfl ?_ | refine za1 rfl rfl ?_ | refine zaj rfl rfl rfl (zdw hv hf ?_) | refine zcq zff UnF.h SzF.h rfl hv.1 rfl rfl hj (fun q0 hq0 => ?_) | refine zas FpF.h (by decide) rfl hq0 (fun p2 hp2 => ?_) | refine zbh PlF.h rfl hp2 rfl ?_ | refine zbp rfl rfl (by omega) ?_ | refine ze7 UnF.h rfl rfl ?_ | refine zgz rfl rfl (fun hc => ?_) (fun hc => ?_) | refine zc7 rfl rfl (fun hc => ?_) (fun hc => ?_)) | refine zab ?_) | refine zah rfl ?_ | refine zag rfl ?_ | refine zac ?_ | refine zak ?_ | refine zan ?_ | (refine zao ?_; refine zbm rfl ?_))
   all_goals simp_all
end
end Go.Proofs.YtbmedhaopnhggaaGreatDoor
