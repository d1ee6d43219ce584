/-
  Checking a program (parallaxref04: Vars, first, call, Returns, stmt), walked. Conditions: how many statements there are.
-/
import Derived.Test.YtbmedhaopnhggaaGreatDoorChkB
namespace Go.Proofs.YtbmedhaopnhggaaGreatDoor
open Go Eng Tryz
def v136l0h0 : CV := Jt [Jd 19 10, Jc 20 (.binOp .geq 3 (Ja 19) (Jb 0) 3)] (.cond (Ja 20) (.skip) (.exit 0))
def v136k0 : CV := Jt [Jg 23 24 4 0, Jf 24 22 23, Jd 25 10, Jk 26 22 24 25, Jg 27 74 26 0, Jf 28 9 27, Jg 29 157 5 2, Jf 30 9 29, Jc 31 (.binOp .eql 9 (Ja 28) (Ja 30) 9)] (.cond (Ja 31) (.reg [Jd 32 10, Jh 9 32]) (.skip))
def v136l0t1 : CV := .seq (.block 1 v136k0) (.reg [Jd 21 10, Jc 22 (.binOp .sub 3 (Ja 21) (Jb 1) 3), Jh 10 22])
def v136l0 : CV := .seq v136l0h0 v136l0t1
def v136h2 : CV := Jt [Jg 15 24 4 0, Jf 16 22 15, Jj 17 16 22, Jc 18 (.binOp .sub 3 (Ja 17) (Jb 1) 3), Jh 10 18] (.block 0 (.loop v136l0))
def v136c1 : CV := Jt [Ji 8 40] (.ret)
def v136h3 : CV := Jt [Jd 33 9, Jc 34 (.binOp .lss 3 (Ja 33) (Jb 0) 3)] (.cond (Ja 34) v136c1 (.skip))
def v136c2 : CV := Jt [Ji 8 41] (.ret)
def v136h5 : CV := Jt [Jg 40 74 11 1, Jf 41 71 40, Jj 42 41 71, Jg 43 157 5 4, Jf 44 155 43, Jj 45 44 155, Jc 46 (.binOp .neq 3 (Ja 42) (Ja 45) 3)] (.cond (Ja 46) v136c2 (.skip))
def v136l3h0 : CV := Jt [Jd 47 12, Jg 48 157 5 4, Jf 49 155 48, Jj 50 49 155, Jc 51 (.binOp .lss 3 (Ja 47) (Ja 50) 3)] (.cond (Ja 51) (.skip) (.exit 2))
def v136c4 : CV := Jt [Jd 70 13, Jh 8 70] (.ret)
def v136k1t1 : CV := Jt [Jd 68 13, Jc 69 (.binOp .neq 28 (Ja 68) (Jb 0) 28)] (.cond (Ja 69) v136c4 (.skip))
def v136k1 : CV := Jt [Jg 54 157 5 4, Jf 55 155 54, Jd 56 12, Jk 57 155 55 56, Jf 58 180 57, Jd 59 2, Jd 60 3, Jg 61 74 11 1, Jf 62 71 61, Jd 63 12, Jk 64 71 62 63, Jg 65 87 64 1, Jf 66 3 65, Jc 67 (.call ⟨.value (.func 132), #[(Ja 58), (Ja 59), (Ja 60), (Ja 66)], #[180, 90, 3, 3]⟩), Jh 13 67] v136k1t1
def v136l3t1 : CV := .seq (.block 3 v136k1) (.reg [Jd 52 12, Jc 53 (.binOp .add 3 (Ja 52) (Jb 1) 3), Jh 12 53])
def v136l3 : CV := .seq v136l3h0 v136l3t1
def v136h6 : CV := Jt [Ji 12 0] (.block 2 (.loop v136l3))
def v136c5 : CV := Jt [Ji 8 0] (.ret)
def v136h7 : CV := Jt [Jg 71 157 5 1, Jf 72 9 71, Jc 73 (.binOp .eql 9 (Ja 72) (.const (.string ⟨⟨[]⟩⟩)) 9)] (.cond (Ja 73) v136c5 (.skip))
def v136c6 : CV := Jt [Jd 81 14, Jh 8 81] (.ret)
def v136h9 : CV := Jt [Jd 79 14, Jc 80 (.binOp .neq 28 (Ja 79) (Jb 0) 28)] (.cond (Ja 80) v136c6 (.skip))
def v136c7 : CV := Jt [Ji 8 41] (.ret)
def v136h10 : CV := Jt [Jg 82 74 11 2, Jf 83 3 82, Jc 84 (.binOp .eql 3 (Ja 83) (Jb 0) 3), Jd 85 84, Jp 85 false 86 2, Jp 85 false 87 2, Jq 85 false 88 157 5 1, Jr 85 false 89 9 88, Jp 85 false 90 3, Jq 85 false 95 74 11 2, Jr 85 false 96 3 95, Js 85 false 91 (.call ⟨.value (.func 133), #[(Ja 87), (Ja 89), (Ja 90)], #[90, 9, 3]⟩), .ckg 85 false 96 (.load 3 (Ja 95)), Js 85 false 92 (.indexAddr 90 (Ja 86) (Ja 91)), Jq 85 false 93 143 92 1, Jr 85 false 94 3 93, Js 85 false 97 (.binOp .neq 3 (Ja 94) (Ja 96) 3), Jc 98 (.pick (Ja 85) (.const (.bool true)) (Ja 97))] (.cond (Ja 98) v136c7 (.skip))
def v136t11 : CV := Jt [Ji 8 0] (.ret)
def v136t10 : CV := .seq v136h10 v136t11
def v136t9 : CV := .seq v136h9 v136t10
def v136t8 : CV := Jt [Jd 74 2, Jg 75 157 5 1, Jf 76 9 75, Jd 77 3, Jc 78 (.call ⟨.value (.func 131), #[(Ja 74), (Ja 76), (Ja 77), (.const (.bool false)), (Jb 0)], #[90, 9, 3, 4, 3]⟩), Jh 14 78] v136t9
def v136t7 : CV := .seq v136h7 v136t8
def v136t6 : CV := .seq v136h6 v136t7
def v136t5 : CV := .seq v136h5 v136t6
def v136t4 : CV := Jt [Jg 35 24 4 0, Jf 36 22 35, Jd 37 9, Jk 38 22 36 37, Jf 39 74 38, Jc 11 (.alloc 74), .op none (.store 74 (Ja 11) (Ja 39))] v136t5
def v136t3 : CV := .seq v136h3 v136t4
def v136t2 : CV := .seq v136h2 v136t3
def v136t1 : CV := Jt [Ji 9 (-1)] v136t2
def v136 : CV := Jt [Jc 4 (.box 24 (Ja 0)), Jc 5 (.box 157 (Ja 1)), Ji 8 0] v136t1
noncomputable def b136 : Code := f136.body.getD .skip
theorem b136_eq : f136.body = some b136 := by kernel_rfl
theorem v136_eq : viewC prog b136 = some v136 := by kernel_rfl
theorem r136_eq : f136.results.toList = [.tmp 8] := by kernel_rfl
def v75l0h0 : CV := Jt [Jd 4 3, Jd 5 0, Jj 6 5 72, Jc 7 (.binOp .lss 3 (Ja 4) (Ja 6) 3)] (.cond (Ja 7) (.skip) (.exit 0))
def v75c1 : CV := Jt [Jc 2 (.assign (.const (.bool true)))] (.ret)
def v75k0h0 : CV := Jt [Jd 10 0, Jd 11 3, Jk 12 72 10 11, Jg 13 157 12 0, Jf 14 3 13, Jc 15 (.binOp .eql 3 (Ja 14) (Jb 7) 3)] (.cond (Ja 15) v75c1 (.skip))
def v75c2 : CV := Jt [Jc 2 (.assign (.const (.bool true)))] (.ret)
def v75k0t1 : CV := Jt [Jd 16 0, Jd 17 3, Jk 18 72 16 17, Jg 19 157 18 0, Jf 20 3 19, Jc 21 (.binOp .eql 3 (Ja 20) (Jb 4) 3), Jd 22 21, Jp 22 true 23 0, Jp 22 true 24 3, Js 22 true 25 (.indexAddr 72 (Ja 23) (Ja 24)), Jq 22 true 26 157 25 5, Jr 22 true 27 72 26, Js 22 true 28 (.call ⟨.value (.func 75), #[(Ja 27)], #[72]⟩), Jc 29 (.pick (Ja 22) (Ja 28) (.const (.bool false))), Jd 30 29, Jp 30 true 31 0, Jp 30 true 32 3, Js 30 true 33 (.indexAddr 72 (Ja 31) (Ja 32)), Jq 30 true 34 157 33 6, Jr 30 true 35 72 34, Js 30 true 36 (.call ⟨.value (.func 75), #[(Ja 35)], #[72]⟩), Jc 37 (.pick (Ja 30) (Ja 36) (.const (.bool false)))] (.cond (Ja 37) v75c2 (.skip))
def v75k0 : CV := .seq v75k0h0 v75k0t1
def v75l0t1 : CV := .seq (.block 1 v75k0) (.reg [Jd 8 3, Jc 9 (.binOp .add 3 (Ja 8) (Jb 1) 3), Jh 3 9])
def v75l0 : CV := .seq v75l0h0 v75l0t1
def v75h1 : CV := Jt [Ji 3 0] (.block 0 (.loop v75l0))
def v75t2 : CV := Jt [Jc 2 (.assign (.const (.bool false)))] (.ret)
def v75t1 : CV := .seq v75h1 v75t2
def v75 : CV := Jt [Jc 2 (.assign (.const (.bool false)))] v75t1
noncomputable def b75 : Code := f75.body.getD .skip
theorem b75_eq : f75.body = some b75 := by kernel_rfl
theorem v75_eq : viewC prog b75 = some v75 := by kernel_rfl
theorem r75_eq : f75.results.toList = [.tmp 2] := by kernel_rfl
def v74c0 : CV := Jt [Ji 10 32] (.ret)
def v74h2 : CV := Jt [Jg 18 157 7 5, Jf 19 72 18, Jj 20 19 72, Jc 21 (.binOp .gtr 3 (Ja 20) (Jb 0) 3), Jd 22 21, Jq 22 true 23 157 7 0, Jr 22 true 24 3 23, Js 22 true 25 (.binOp .neq 3 (Ja 24) (Jb 4) 3), Jc 26 (.pick (Ja 22) (Ja 25) (.const (.bool false))), Jd 27 26, Jq 27 true 28 157 7 0, Jr 27 true 29 3 28, Js 27 true 30 (.binOp .neq 3 (Ja 29) (Jb 5) 3), Jc 31 (.pick (Ja 27) (Ja 30) (.const (.bool false))), Jd 32 31, Jq 32 false 33 157 7 6, Jr 32 false 34 72 33, Js 32 false 35 (.call ⟨.builtin .len, #[(Ja 34)], #[72]⟩), Js 32 false 36 (.binOp .gtr 3 (Ja 35) (Jb 0) 3), Jp 32 false 37 36, Jq 37 true 38 157 7 0, Jr 37 true 39 3 38, Js 37 true 40 (.binOp .neq 3 (Ja 39) (Jb 4) 3), Js 32 false 41 (.pick (Ja 37) (Ja 40) (.const (.bool false))), Jc 42 (.pick (Ja 32) (.const (.bool true)) (Ja 41)), Jd 43 42, Jq 43 false 44 157 7 0, Jr 43 false 45 3 44, Js 43 false 46 (.binOp .eql 3 (Ja 45) (Jb 1) 3), Jp 43 false 47 46, Jq 47 true 48 157 7 3, Jr 47 true 49 2 48, Js 47 true 50 (.binOp .lss 2 (Ja 49) (Jb (-1)) 2), Js 43 false 51 (.pick (Ja 47) (Ja 50) (.const (.bool false))), Jc 52 (.pick (Ja 43) (.const (.bool true)) (Ja 51))] (.cond (Ja 52) v74c0 (.skip))
def v74c1 : CV := Jt [Ji 10 32] (.ret)
def v74h3 : CV := Jt [Jd 53 11, Jc 54 (.binOp .eql 3 (Ja 53) (Jb (-2)) 3), Jd 55 54, Jp 55 false 56 11, Js 55 false 57 (.binOp .geq 3 (Ja 56) (Jb 0) 3), Jp 55 false 58 57, Jq 58 true 59 157 7 4, Jr 58 true 60 155 59, Js 58 true 61 (.call ⟨.builtin .len, #[(Ja 60)], #[155]⟩), Jp 58 true 62 11, Js 58 true 63 (.binOp .neq 3 (Ja 61) (Ja 62) 3), Js 55 false 64 (.pick (Ja 58) (Ja 63) (.const (.bool false))), Jc 65 (.pick (Ja 55) (.const (.bool true)) (Ja 64)), Jd 66 65, Jq 66 false 67 157 7 0, Jr 66 false 68 3 67, Js 66 false 69 (.binOp .eql 3 (Ja 68) (Jb 7) 3), Jp 66 false 70 69, Jq 70 true 71 157 7 4, Jr 70 true 72 155 71, Js 70 true 73 (.call ⟨.builtin .len, #[(Ja 72)], #[155]⟩), Js 70 true 74 (.binOp .gtr 3 (Ja 73) (Jb 1) 3), Js 66 false 75 (.pick (Ja 70) (Ja 74) (.const (.bool false))), Jc 76 (.pick (Ja 66) (.const (.bool true)) (Ja 75))] (.cond (Ja 76) v74c1 (.skip))
def v74c3 : CV := Jt [Ji 10 2] (.ret)
def v74c2 : CV := Jt [Jg 81 157 7 3, Jf 82 2 81, Jc 83 (.binOp .gtr 2 (Ja 82) (Jb 64) 2)] (.cond (Ja 83) v74c3 (.skip))
def v74c6 : CV := Jt [Jd 93 12, Jh 10 93] (.ret)
def v74c5h1 : CV := Jt [Jd 91 12, Jc 92 (.binOp .neq 28 (Ja 91) (Jb 0) 28)] (.cond (Ja 92) v74c6 (.skip))
def v74c5t2 : CV := Jt [Jg 94 157 7 4, Jf 95 155 94, Jc 96 (.indexAddr 155 (Ja 95) (Jb 0)), Jf 97 180 96, Jd 98 3, Jd 99 4, Jd 100 3, Jd 101 3, Jg 102 157 7 1, Jf 103 9 102, Jd 104 4, Jc 105 (.call ⟨.value (.func 133), #[(Ja 101), (Ja 103), (Ja 104)], #[90, 9, 3]⟩), .ck 95 (.load 155 (Ja 94)), .ck 97 (.load 180 (Ja 96)), Jk 106 90 100 105, Jg 107 143 106 1, Jf 108 3 107, Jc 109 (.call ⟨.value (.func 132), #[(Ja 97), (Ja 98), (Ja 99), (Ja 108)], #[180, 90, 3, 3]⟩), Jh 10 109] (.ret)
def v74c5t1 : CV := .seq v74c5h1 v74c5t2
def v74c5 : CV := Jt [Jd 86 3, Jg 87 157 7 1, Jf 88 9 87, Jd 89 4, Jc 90 (.call ⟨.value (.func 131), #[(Ja 86), (Ja 88), (Ja 89), (.const (.bool false)), (Jb 0)], #[90, 9, 3, 4, 3]⟩), Jh 12 90] v74c5t1
def v74c8 : CV := Jt [Jd 112 3, Jg 113 157 7 1, Jf 114 9 113, Jd 115 4, Jg 117 157 7 4, Jf 118 155 117, Jc 119 (.indexAddr 155 (Ja 118) (Jb 0)), Jf 120 180 119, Jd 121 3, Jd 122 4, Jg 124 157 7 4, Jf 125 155 124, Jc 126 (.indexAddr 155 (Ja 125) (Jb 1)), Jf 127 180 126, Jd 128 3, Jd 129 4, Jc 116 (.call ⟨.value (.func 131), #[(Ja 112), (Ja 114), (Ja 115), (.const (.bool true)), (Jb 0)], #[90, 9, 3, 4, 3]⟩), .ck 118 (.load 155 (Ja 117)), .ck 120 (.load 180 (Ja 119)), .ck 125 (.load 155 (Ja 124)), .ck 127 (.load 180 (Ja 126)), Jc 123 (.call ⟨.value (.func 132), #[(Ja 120), (Ja 121), (Ja 122), (Jb 1)], #[180, 90, 3, 3]⟩), .ck 125 (.load 155 (Ja 124)), .ck 127 (.load 180 (Ja 126)), Jc 130 (.call ⟨.value (.func 132), #[(Ja 127), (Ja 128), (Ja 129), (Jb 1)], #[180, 90, 3, 3]⟩), Jc 131 (.buildSlice 252 3 #[(0, (Ja 116)), (1, (Ja 123)), (2, (Ja 130))]), Jn 132 134 131 252, Jh 10 132] (.ret)
def v74c10 : CV := Jt [Jc 135 (.binOp .eql 3 (Ja 78) (Jb 5) 3), Jh 133 135] (.cond (Ja 133) (.skip) (.reg [Jc 136 (.binOp .eql 3 (Ja 78) (Jb 10) 3), Jh 133 136]))
def v74c9h0 : CV := Jt [Jc 134 (.binOp .eql 3 (Ja 78) (Jb 4) 3), Jh 133 134] (.cond (Ja 133) (.skip) v74c10)
def v74c11 : CV := Jt [Jg 137 157 7 4, Jf 138 155 137, Jc 139 (.indexAddr 155 (Ja 138) (Jb 0)), Jf 140 180 139, Jd 141 3, Jd 142 4, Jc 143 (.call ⟨.value (.func 132), #[(Ja 140), (Ja 141), (Ja 142), (Jb 2)], #[180, 90, 3, 3]⟩), Jh 10 143] (.ret)
def v74c13t1 : CV := Jt [Jd 156 14, Jh 10 156] (.ret)
def v74c13 : CV := Jt [Jg 147 157 7 4, Jf 148 155 147, Jc 149 (.indexAddr 155 (Ja 148) (Jb 0)), Jf 150 180 149, Jd 151 3, Jd 152 4, Jc 153 (.call ⟨.value (.func 135), #[(Ja 150), (Ja 151), (Ja 152)], #[180, 90, 3]⟩), Jd 146 153, Jl 154 146 0, Jl 155 146 1, Jh 13 154, Jh 14 155] v74c13t1
def v74c15 : CV := Jt [Jd 159 3, Jg 160 157 7 1, Jf 161 9 160, Jd 162 4, Jc 163 (.call ⟨.value (.func 131), #[(Ja 159), (Ja 161), (Ja 162), (.const (.bool false)), (Jb 1)], #[90, 9, 3, 4, 3]⟩), Jh 10 163] (.ret)
def v74c17 : CV := Jt [Jf 166 24 5, Jf 167 157 7, Jd 168 3, Jd 169 4, Jc 170 (.call ⟨.value (.func 136), #[(Ja 166), (Ja 167), (Ja 168), (Ja 169)], #[24, 157, 90, 3]⟩), Jh 10 170] (.ret)
def v74c20 : CV := Jt [Ji 10 41] (.ret)
def v74c19h0 : CV := Jt [Jg 173 157 7 4, Jf 174 155 173, Jj 175 174 155, Jc 176 (.binOp .gtr 3 (Ja 175) (Jb 0) 3), Jg 177 74 6 2, Jf 178 3 177, Jc 179 (.binOp .neq 3 (Ja 178) (Jb 0) 3), Jc 180 (.binOp .neq 4 (Ja 176) (Ja 179) 4)] (.cond (Ja 180) v74c20 (.skip))
def v74c21 : CV := Jt [Jg 185 157 7 4, Jf 186 155 185, Jc 187 (.indexAddr 155 (Ja 186) (Jb 0)), Jf 188 180 187, Jd 189 3, Jd 190 4, Jg 191 74 6 2, Jf 192 3 191, Jc 193 (.call ⟨.value (.func 132), #[(Ja 188), (Ja 189), (Ja 190), (Ja 192)], #[180, 90, 3, 3]⟩), Jh 10 193] (.ret)
def v74c19t1 : CV := Jt [Jg 181 157 7 4, Jf 182 155 181, Jj 183 182 155, Jc 184 (.binOp .gtr 3 (Ja 183) (Jb 0) 3)] (.cond (Ja 184) v74c21 (.skip))
def v74c19 : CV := .seq v74c19h0 v74c19t1
def v74c18 : CV := Jt [Jc 172 (.binOp .eql 3 (Ja 78) (Jb 7) 3), Jh 171 172] (.cond (Ja 171) v74c19 (.skip))
def v74c16 : CV := Jt [Jc 165 (.binOp .eql 3 (Ja 78) (Jb 6) 3), Jh 164 165] (.cond (Ja 164) v74c17 v74c18)
def v74c14 : CV := Jt [Jc 158 (.binOp .eql 3 (Ja 78) (Jb 9) 3), Jh 157 158] (.cond (Ja 157) v74c15 v74c16)
def v74c12 : CV := Jt [Jc 145 (.binOp .eql 3 (Ja 78) (Jb 8) 3), Jh 144 145] (.cond (Ja 144) v74c13 v74c14)
def v74c9 : CV := .seq v74c9h0 (.cond (Ja 133) v74c11 v74c12)
def v74c7 : CV := Jt [Jc 111 (.binOp .eql 3 (Ja 78) (Jb 3) 3), Jh 110 111] (.cond (Ja 110) v74c8 v74c9)
def v74c4 : CV := Jt [Jc 85 (.binOp .eql 3 (Ja 78) (Jb 2) 3), Jh 84 85] (.cond (Ja 84) v74c5 v74c7)
def v74k0 : CV := Jt [Jc 80 (.binOp .eql 3 (Ja 78) (Jb 1) 3), Jh 79 80] (.cond (Ja 79) v74c2 v74c4)
def v74h4 : CV := Jt [Jg 77 157 7 0, Jf 78 3 77] (.block 0 v74k0)
def v74t5 : CV := Jt [Ji 10 0] (.ret)
def v74t4 : CV := .seq v74h4 v74t5
def v74t3 : CV := .seq v74h3 v74t4
def v74t2 : CV := .seq v74h2 v74t3
def v74t1 : CV := Jt [Jg 15 157 7 0, Jf 16 3 15, Jn 17 130 16 3, Jh 11 17] v74t2
def v74 : CV := Jt [Jc 5 (.box 24 (Ja 0)), Jc 6 (.box 74 (Ja 1)), Jc 7 (.box 157 (Ja 2)), Ji 10 0] v74t1
noncomputable def b74 : Code := f74.body.getD .skip
theorem b74_eq : f74.body = some b74 := by kernel_rfl
theorem v74_eq : viewC prog b74 = some v74 := by kernel_rfl
theorem r74_eq : f74.results.toList = [.tmp 10] := by kernel_rfl
def OwnVs (H : Heap) (u : AV) (vs : List Vr) : Prop := Own H u 5 vs.length (vs.flatMap vrC)
theorem zvb (to : Int) (l : List Prm) {i : Nat} {x : Prm} (h : l[i]? = some x) : vrMs to (l.take (i + 1)) = vrMs to (l.take i) ++ [⟨x.name, x.type, 0, 0, to⟩] := by
 unfold vrMs
 rw [zbt h, List.map_append]; rfl
section
variable {tb : List FuncId} {gl : List (List AV)} {A : Nat → Prop} {H : Heap} {u v w : AV} {b : Nat} {Q : AV → Heap → Prop}
theorem zqg {t t' e : TypeId} {x y : Operand} {l : Fm} {c : Call} {E : EI} {vs : List Vr} {n : Vr} {bb : Nat} (hc : c.callee = .builtin .append) (ha : c.args.toList = [x, y]) (ht : c.argTypes.toList = [t, t']) (hE : elemI prog t = some E) (hz : E.z = 5) (hu : prog.underlying t' = some (.slice e) ∨ prog.underlying t' = some .string)
  (hx : evA x l = some u) (ho : OwnVs H u vs) (hy : evA y l = some (.sl bb 0 1 1)) (hr : IsRow H bb (vrC n) false false) (hn : vs.length + 1 < 1000000) (q : ∀ v' H', OwnVs H' v' (vs ++ [n]) → Keep (ownB u) H H' → (∀ c, ownB v' c → ownB u c ∨ H.nx ≤ c) → Q v' H') : OA prog tb gl (.call c) l H Q := by
 have hs := IsRow.sl (es := 5) (n := 1) hr rfl (Nat.le_refl 1)
 unfold OwnVs at ho
 rw [← hz] at ho hs
 refine zdu hc ha ht hE hu hx ho hy hs.elems hs.1 (by rfl) (show vs.length + 1 < limit from hn) fun v' H' o k f => q v' H' ?_ k f
 unfold OwnVs
 rw [List.flatMap_append, List.length_append, ← hz]
 simpa using o
set_option maxHeartbeats 0 in
theorem zsf {p : Prc} {c : List AV} (hP : IsPc Non H c p) (hc : cSs p.body + p.params.length < 400000) (hQ : ∀ u H', Keep Non H H' → OwnVs H' u (varsP p) → (∀ c, ownB u c → H.nx ≤ c) → Q u H') : WpF prog tb gl 29 [.agg c] H Q := by
 have hrB : rB = 140737488351232 := rfl
 obtain ⟨vm, vb, rfl, hnm, hty, hpl, hbl, hLm, hLb⟩ := hP
 refine fa func29 b29_eq v29_eq r29_eq (.inr (by simp)) ?_
 refine zac ?_
 refine zaa (zcd rfl fun H1 hk1 hr1 => ?_)
 obtain ⟨bx, hbx⟩ : ∃ b, b = H.nx := ⟨_, rfl⟩
 rw [← hbx] at hr1 ⊢
 have hr1 : IsRow H1 bx [S p.name, vm, .int .i64 p.type, vb] false false := hr1
 refine zae rfl ?_
 refine zab (zac ?_)
 refine zae rfl ?_; (repeat ((refine zaa ?_; first | refine zad FpF.h (by decide) rfl ?_ | refine zaf PlF.h rfl hr1 rfl ?_); refine zae rfl ?_))
 have hLb1 : IsLs Non (IsS Non) 7 H1 vb p.body := hLb.keep hk1 fun _ _ _ h => h.keep hk1
 refine zaa (zaj rfl rfl rfl (zpm (next := 1) (szSs p.body + 1) (by omega) hLb1 hbl (by omega) fun ui H2 hk2 hI hfi => ?_))
 have hr2 := hr1.keep0 hk2
 have hk02 := hk1.trans0 hk2
 have hli := zho p.body 1
 refine zae rfl ?_
 refine zab (zac ?_)
 refine zae rfl ?_
 refine zab (zak (zac ?_))
 refine zae rfl ?_
 refine zab (zam ?_)
 obtain ⟨its, hits⟩ : ∃ its, its = rowT p.body 1 := ⟨_, rfl⟩
 rw [← hits] at hI hli
 refine zbw (fun (i : Nat × AV) => [(1, .ptr bx 0), (3, ui), (4, i.2), (5, .int .i64 (i.1 : Int))]) (fun i H' => i.1 ≤ p.params.length ∧ Keep Non H2 H' ∧ OwnVs H' i.2 (vrMs ((cSs p.body : Int) + 1) (p.params.take i.1)) ∧ ∀ c, ownB i.2 c → H2.nx ≤ c) (fun i => p.params.length - i.1) ?_ (0, .nils) _ H2 ⟨rfl, rfl, rfl, rfl, trivial⟩
  ⟨Nat.zero_le _, .refl _ _, Own.nil _ _, fun _ h => h.elim⟩
 rintro ⟨i, u⟩ H3 ⟨hle, hk3, hO, hf⟩
 simp only at hle hk3 hO hf
 refine VA.sub (l0 := [(1, .ptr bx 0), (3, ui), (4, u), (5, .int .i64 (i : Int))]) ⟨rfl, rfl, rfl, rfl, trivial⟩ ?_
 have hr3 := hr2.keep0 hk3
 have hLm3 : IsLs Non IsPm 2 H3 vm p.params := hLm.keep (hk02.trans0 hk3) fun _ _ _ h => h
 have hI3 := hI.keep hk3 fun _ _ h => h
 have hlo : (vrMs ((cSs p.body : Int) + 1) (p.params.take i)).length = i := by simp [vrMs, hle]
 by_cases hi : i < p.params.length
 ·obtain ⟨x, hx⟩ : ∃ x, p.params[i]? = some x := ⟨_, List.getElem?_eq_getElem hi⟩
  refine zak (zac ?_)
  refine zae rfl ?_; (repeat ((refine zaa ?_; first | refine zad FpF.h (by decide) rfl ?_ | refine zaf PlF.h rfl hr3 rfl ?_); refine zae rfl ?_))
  refine zaa (za7 rfl rfl rfl UnF.h rfl hLm3 ?_)
  refine zaa (zbx rfl rfl (by omega) ?_)
  refine zab (zah rfl (zan (zak (zam (zaw ?_)))))
  refine zae rfl ?_; (repeat ((refine zaa ?_; first | refine zad FpF.h (by decide) rfl ?_ | refine zaf PlF.h rfl hr3 rfl ?_); refine zae rfl ?_))
  refine zaa (zba UnF.h SzF.h rfl hLm3 rfl rfl hx fun q0 c0 ⟨hR0, _⟩ hcl0 hq0 => ?_)
  subst hR0
  refine zaa (zas FpF.h (by decide) rfl hq0 fun p2 hp2 => ?_)
  refine zaa (zbh PlF.h rfl hp2 rfl ?_)
  refine zae rfl ?_; (repeat ((refine zaa ?_; first | refine zad FpF.h (by decide) rfl ?_ | refine zaf PlF.h rfl hr3 rfl ?_); refine zae rfl ?_))
  refine zaa (zba UnF.h SzF.h rfl hLm3 rfl rfl hx fun q1 c1 ⟨hR1, _⟩ hcl1 hq1 => ?_)
  subst hR1
  refine zaa (zas FpF.h (by decide) rfl hq1 fun p3 hp3 => ?_)
  refine zaa (zbh PlF.h rfl hp3 rfl ?_)
  refine zae rfl ?_
  refine zaa (za7 rfl rfl rfl UnF.h rfl hI3.ls ?_)
  refine zaa (za0 (c := (cSs p.body : Int) + 1) rfl rfl Ju ?_)
  refine zaa (zbz BsF.h ZeF.h PsF.h rfl ?_)
  refine zaa (zar (n := 1) ElF.h (by decide) rfl rfl fun H4 hk4 hr4 => ?_)
  have hO4 : OwnVs H4 u _ := Own.keep0 hO hk4
  refine zaa (zqg (n := ⟨x.name, x.type, 0, 0, (cSs p.body : Int) + 1⟩) rfl rfl rfl ElF.h rfl (.inl UnF.h) rfl hO4 rfl hr4 (by omega) fun u5 H5 hO5 hk5 hb5 => ?_)
  have hk35 : Keep Non H2 H5 := (hk3.trans0 hk4).trans hk5 fun c hc => .inr (hf c hc)
  refine zae rfl ?_
  refine zab (zaw ?_)
  refine zae rfl ?_
  refine zaa (za0 (c := ((i + 1 : Nat) : Int)) rfl rfl Ju ?_)
  refine zae rfl ?_
  refine zab ⟨(i + 1, u5), ?_, ⟨rfl, rfl, rfl, rfl, trivial⟩, by show i + 1 ≤ _; omega, hk35, ?_, fun c hc => ?_⟩
  ·show p.params.length - (i + 1) < p.params.length - i
   omega
  ·show OwnVs H5 u5 (vrMs _ (p.params.take (i + 1)))
   rw [zvb _ _ hx]
   exact hO5
  ·have n3 := hk3.nx
   have n4 := hk4.nx
   rcases hb5 c hc with h | h
   ·exact hf c h
   ·omega
 rw [List.take_of_length_le (by omega)] at hO
 refine zak (zac ?_)
 refine zae rfl ?_; (repeat ((refine zaa ?_; first | refine zad FpF.h (by decide) rfl ?_ | refine zaf PlF.h rfl hr3 rfl ?_); refine zae rfl ?_))
 refine zaa (za7 rfl rfl rfl UnF.h rfl hLm3 ?_)
 refine zaa (zbp rfl rfl (by omega) ?_)
 refine zab (zag rfl (zbn (zak (zac ?_))))
 clear hlo
 refine zae rfl ?_
 refine zab (zam ?_)
 have hvl : (vrMs ((cSs p.body : Int) + 1) p.params).length = p.params.length := by simp [vrMs]
 refine zbw (fun (i : Nat × AV) => [(1, .ptr bx 0), (3, ui), (4, i.2), (6, .int .i64 (i.1 : Int))]) (fun i H' => i.1 ≤ its.length ∧ Keep Non H2 H' ∧ OwnVs H' i.2 (vrMs ((cSs p.body : Int) + 1) p.params ++ vrIs (its.take i.1) 0) ∧ ∀ c, ownB i.2 c → H2.nx ≤ c) (fun i => its.length - i.1) ?_ (0, u) _ H3 ⟨rfl, rfl, rfl, rfl, trivial⟩
  ⟨Nat.zero_le _, hk3, by simpa [vrIs] using hO, hf⟩
 clear hO hf hk3 hr3 hLm3 hI3 hle hi
 rintro ⟨i, u⟩ H3 ⟨hle, hk3, hO, hf⟩
 simp only at hle hk3 hO hf
 refine VA.sub (l0 := [(1, .ptr bx 0), (3, ui), (4, u), (6, .int .i64 (i : Int))]) ⟨rfl, rfl, rfl, rfl, trivial⟩ ?_
 have hI3 := hI.keep hk3 fun _ _ h => h
 have hlv := zmy (its.take i) 0
 rw [List.length_take, Nat.min_eq_left hle] at hlv
 by_cases hi : i < its.length
 rotate_left
 ·rw [List.take_of_length_le (by omega)] at hO
  (repeat' first | (refine zae rfl ?_; first | (refine zaa ?_; first | refine za7 rfl rfl rfl UnF.h rfl hI3.ls ?_ | refine zbp rfl rfl (by omega) ?_) | refine zab ?_) | refine zag rfl ?_ | refine zac ?_ | refine zak ?_ | refine zbn ?_ | (refine zao ?_; refine zbm rfl ?_))
  refine hQ u H3 (hk02.trans0 hk3) ?_ fun c hc => ?_
  ·unfold varsP
   rw [← hits]
   exact hO
  ·have := hf c hc
   have := hk02.nx
   omega
 obtain ⟨x, hx⟩ : ∃ x, its[i]? = some x := ⟨_, List.getElem?_eq_getElem hi⟩
 refine zak (zac ?_)
 refine zae rfl ?_
 refine zaa (za7 rfl rfl rfl UnF.h rfl hI3.ls ?_)
 refine zaa (zbx rfl rfl (by omega) ?_)
 refine zab (zah rfl (zan (zak (zam (zac ?_)))))
 refine zae rfl ?_
 refine zaa (zba UnF.h SzF.h rfl hI3.ls rfl rfl hx fun q0 c0 ⟨d0, hR0, hS0⟩ hcl0 hq0 => ?_)
 subst hR0
 have hS00 := hS0
 obtain ⟨v1, v2, v3, rfl, _, hxn, _, _, _, _, _, _, _, _⟩ := hS0.out
 have hsc := zi3 hS00
 refine zaa (zas FpF.h (by decide) rfl hq0 fun p2 hp2 => ?_)
 have hp2 : PtsTo H3 p2 ([.int .i64 x.1.kind, S x.1.name, S x.1.proc, .int .i64 x.1.num, v1, v2, v3] ++ [.int .i64 x.2]) := hp2
 refine zaa (zaq (k := 7) PlF.h rfl (by decide) rfl hp2.pre ?_)
 refine zaa (zci ZeF.h fun H4 hk4 hr4 => ?_)
 refine zae rfl ?_
 obtain ⟨by_, hby⟩ : ∃ b, b = H3.nx := ⟨_, rfl⟩
 rw [← hby] at hr4 ⊢
 refine zaa (zbv (k := 7) SzF.h rfl rfl rfl hsc hr4 rfl fun H5 hk5 hn5 hr5 => ?_)
 have hk35 : Keep Non H3 H5 := (hk4.trans hk5 fun c hc => .inr (by rw [hc, hby]; exact Nat.le_refl _)).wide fun _ h => h
 have hO5 : OwnVs H5 u _ := Own.keep0 hO hk35
 have hI5 := hI3.keep hk35 fun _ _ h => h
 have n5 := hk35.nx
 have n3 := hk3.nx
 refine zab (zak (zac ?_))
 refine zae rfl ?_; (repeat ((refine zaa ?_; first | refine zad FpF.h (by decide) rfl ?_ | refine zaf PlF.h rfl hr5 rfl ?_); refine zae rfl ?_))
 have nextR : ∀ u' H', Keep Non H2 H' → OwnVs H' u' (vrMs ((cSs p.body : Int) + 1) p.params ++ vrIs (its.take (i + 1)) 0) → (∀ c, ownB u' c → H2.nx ≤ c) → ∀ l', lk 1 l' = some (.ptr bx 0) → lk 3 l' = some ui → lk 4 l' = some u' → lk 6 l' = some (.int .i64 (i : Int)) →
   VA prog tb gl (.reg [.op (some 42) (.move (.tmp 6)), .op (some 43) (.binOp .add 3 (.tmp 42) (.const (.int .i64 1)) 3), .op (some 6) (.assign (.tmp 43))]) l' H' (roundA (fun (i : Nat × AV) => [(1, .ptr bx 0), (3, ui), (4, i.2), (6, .int .i64 (i.1 : Int))]) (fun i H' => i.1 ≤ its.length ∧ Keep Non H2 H' ∧ OwnVs H' i.2 (vrMs ((cSs p.body : Int) + 1) p.params ++ vrIs (its.take i.1) 0) ∧ ∀ c, ownB i.2 c → H2.nx ≤ c) (fun i => its.length - i.1) (i, u) (exitA 2 (seqA prog tb gl v29t5 (leftA [.tmp 2] Q)))) := by
  intro u' H' k' O' f' l' g1 g3 g4 g6
  refine VA.sub (l0 := [(1, .ptr bx 0), (3, ui), (4, u'), (6, .int .i64 (i : Int))]) ⟨g1, g3, g4, g6, trivial⟩ (zaw ?_)
  refine zae rfl ?_
  refine zaa (za0 (c := ((i + 1 : Nat) : Int)) rfl rfl Ju ?_)
  refine zae rfl ?_
  refine zab ⟨(i + 1, u'), ?_, ⟨rfl, rfl, rfl, rfl, trivial⟩, by show i + 1 ≤ _; omega, k', O', f'⟩
  show its.length - (i + 1) < its.length - i
  omega
 have hvs : vrIs (its.take (i + 1)) 0 = vrIs (its.take i) 0 ++ (if x.1.kind = 1 then [vrS x.1 x.2 i] else []) := by
  rw [zbt hx, zof, List.length_take, Nat.min_eq_left hle, Nat.zero_add]
 by_cases h1 : x.1.kind = 1
 rotate_left
 ·refine zaa (zcr rfl rfl h1 (zab (zah rfl (zbn ?_))))
  exact nextR u H5 (hk3.trans0 hk35) (by rw [hvs, if_neg h1, List.append_nil]; exact hO5) hf _ rfl rfl rfl rfl
 rw [if_pos h1] at hvs
 refine zaa (zcf rfl rfl (by omega) (zab (zag rfl (zan (zac ?_)))))
 refine zae rfl ?_; (repeat ((refine zaa ?_; first | refine zad FpF.h (by decide) rfl ?_ | refine zaf PlF.h rfl hr5 rfl ?_); refine zae rfl ?_))
 refine zaa (za0 (c := (i : Int) + 2) rfl rfl Ju ?_)
 refine zae rfl ?_
 refine zaa (zba UnF.h SzF.h rfl hI5.ls rfl rfl hx fun q1 c1 ⟨d1, hR1, hS1⟩ hcl1 hq1 => ?_)
 subst hR1
 obtain ⟨w1, w2, w3, rfl, _⟩ := hS1.out
 refine zaa (zas FpF.h (by decide) rfl hq1 fun p3 hp3 => ?_)
 refine zaa (zbh PlF.h rfl hp3 rfl ?_)
 refine zaa (zbz BsF.h ZeF.h PsF.h rfl ?_)
 refine zaa (zci ZeF.h fun H6 hk6 hr6 => ?_)
 obtain ⟨bz, hbz⟩ : ∃ b, b = H5.nx := ⟨_, rfl⟩
 rw [← hbz] at hr6 ⊢
 refine zaa (zbv (k := 5) SzF.h rfl rfl rfl rfl hr6 rfl fun H7 hk7 hn7 hr7 => ?_)
 have hk57 : Keep Non H5 H7 := (hk6.trans hk7 fun c hc => .inr (by rw [hc, hbz]; exact Nat.le_refl _)).wide fun _ h => h
 have hr57 := hr5.keep0 hk57
 have hO7 : OwnVs H7 u _ := Own.keep0 hO5 hk57
 have n7 := hk57.nx
 refine zab (zak ?_)
 refine zgj (fun l' H' => Keep Non H5 H' ∧ IsRow H' bz (vrC (vrS x.1 x.2 i)) false false ∧ Sb [(1, .ptr bx 0), (3, ui), (4, u), (6, .int .i64 (i : Int)), (8, .ptr bz 0)] l') ?_ ?_
 ·have fin : ∀ {H8 : Heap} {vv : AV} {k : Nat}, Keep (· = bz) H7 H8 → Keep Non H5 H8 := fun h => hk57.trans h fun c hc => .inr (by rw [hc, hbz]; exact Nat.le_refl _)
  unfold vrS vrC
  by_cases e1 : x.1.num = -1
  ·(repeat' first | (refine zae rfl ?_; first | (refine zaa ?_; first | refine zad FpF.h (by decide) rfl ?_ | refine zaf PlF.h rfl hr57 rfl ?_ | refine zcc SzF.h rfl rfl rfl hr7 (by simp) (fun H8 hk8 hn8 hr8 => ?_) | refine zax rfl rfl (by omega) ?_) | refine zab ?_) | refine zah rfl ?_ | refine zac ?_ | refine zaw ?_)
   refine ⟨fin (vv := .nils) (k := 0) hk8, ?_, rfl, rfl, rfl, rfl, rfl, trivial⟩
   simp only [if_pos e1]
   exact hr8
  ·by_cases e2 : 64 < x.1.num
   ·(repeat' first | (refine zae rfl ?_; first | (refine zaa ?_; first | refine zad FpF.h (by decide) rfl ?_ | refine zaf PlF.h rfl hr57 rfl ?_ | refine zcc SzF.h rfl rfl rfl hr7 (by simp) (fun H8 hk8 hn8 hr8 => ?_) | refine zcu rfl rfl (by omega) ?_ | refine zat rfl rfl (by omega) ?_) | refine zab ?_) | refine zah rfl ?_ | refine zag rfl ?_ | refine zac ?_ | refine zaw ?_)
    refine ⟨fin (vv := .nils) (k := 0) hk8, ?_, rfl, rfl, rfl, rfl, rfl, trivial⟩
    simp only [if_neg e1, if_pos e2]
    exact hr8
   ·(repeat' first | (refine zae rfl ?_; first | (refine zaa ?_; first | refine zad FpF.h (by decide) rfl ?_ | refine zaf PlF.h rfl hr57 rfl ?_ | refine zcc SzF.h rfl rfl rfl hr7 (by simp) (fun H8 hk8 hn8 hr8 => ?_) | refine zb9 rfl rfl (by omega) ?_ | refine zat rfl rfl (by omega) ?_) | refine zab ?_) | refine zag rfl ?_ | refine zac ?_ | refine zaw ?_)
    refine ⟨fin (vv := .nils) (k := 0) hk8, ?_, rfl, rfl, rfl, rfl, rfl, trivial⟩
    simp only [if_neg e1, if_neg e2]
    exact hr8
 rintro l8 H8 ⟨hk58, hr8, hs8⟩
 have hO8 : OwnVs H8 u _ := Own.keep0 hO5 hk58
 refine VA.sub hs8 (zaw ?_)
 refine zae rfl ?_
 refine zaa (zaq (k := 5) PlF.h rfl (by decide) rfl hr8.pts ?_)
 refine zaa (zar (n := 1) ElF.h (by decide) rfl rfl fun H9 hk9 hr9 => ?_)
 have hO9 : OwnVs H9 u _ := Own.keep0 hO8 hk9
 have n8 := hk58.nx
 have n9 := hk9.nx
 refine zaa (zqg (n := vrS x.1 x.2 i) rfl rfl rfl ElF.h rfl (.inl UnF.h) rfl hO9 rfl hr9 (by rw [List.length_append]; omega) fun u10 H10 hO10 hk10 hb10 => ?_)
 refine zae rfl ?_
 refine zab (nextR u10 H10 (((hk3.trans0 hk35).trans0 (hk58.trans0 hk9)).trans hk10 fun c hc => .inr (hf c hc)) (by rw [hvs, ← List.append_assoc]; exact hO10) (fun c hc => ?_) _ rfl rfl rfl rfl)
 rcases hb10 c hc with h | h
 ·exact hf c h
 ·omega
end
end Go.Proofs.YtbmedhaopnhggaaGreatDoor
