/-
  A program's rows (view.List and what it calls), walked. Conditions: how large the program is.
-/
import Derived.Test.YtbmedhaopnhggaaGreatDoorWrQ
import Derived.Test.YtbmedhaopnhggaaGreatDoorLiS
namespace Go.Proofs.YtbmedhaopnhggaaGreatDoor
open Go Eng Tryz
set_option maxHeartbeats 0
instance ifp_70_1 : FpF prog 70 1 ⟨3, false, 1⟩ := ⟨by kernel_rfl⟩
instance ipl_27 : PlF prog 27 ⟨0, false, 1⟩ := ⟨by kernel_rfl⟩
instance ifp_70_0 : FpF prog 70 0 ⟨0, true, 3⟩ := ⟨by kernel_rfl⟩
instance ifp_68_2 : FpF prog 68 2 ⟨2, false, 1⟩ := ⟨by kernel_rfl⟩
instance ifp_68_0 : FpF prog 68 0 ⟨0, false, 1⟩ := ⟨by kernel_rfl⟩
theorem ze_32 : zeroOf prog 32 = some (.agg [.str 0 0, .int .i64 0, .int .i64 0]) := by kernel_rfl
instance ize_32 : ZeF prog 32 (.agg [.str 0 0, .int .i64 0, .int .i64 0]) := ⟨ze_32⟩
instance ibs_32 : BsF prog 32 := ⟨by kernel_rfl⟩
instance ips_32 : PsF prog 32 [(0, 1), (1, 1), (2, 1)] := ⟨by kernel_rfl⟩
theorem el_27 : elemI prog 27 = some ⟨32, 3, .agg [.str 0 0, .int .i64 0, .int .i64 0]⟩ := by kernel_rfl
instance iel_27 : ElF prog 27 ⟨32, 3, .agg [.str 0 0, .int .i64 0, .int .i64 0]⟩ := ⟨el_27⟩
theorem un_27 : prog.underlying 27 = some (.slice 32) := by kernel_rfl
instance iun_27 : UnF prog 27 (.slice 32) := ⟨un_27⟩
instance isz_27 : SzF prog 27 1 := ⟨by kernel_rfl⟩
instance ifp_68_1 : FpF prog 68 1 ⟨1, false, 1⟩ := ⟨by kernel_rfl⟩
instance ibs_74 : BsF prog 74 := ⟨by kernel_rfl⟩
instance ips_74 : PsF prog 74 [(0, 1), (1, 1), (2, 1), (3, 1)] := ⟨by kernel_rfl⟩
instance ize_24 : ZeF prog 24 (.agg [.nils]) := ⟨by kernel_rfl⟩
instance ibs_24 : BsF prog 24 := ⟨by kernel_rfl⟩
instance ips_24 : PsF prog 24 [(0, 1)] := ⟨by kernel_rfl⟩
instance isz_72 : SzF prog 72 1 := ⟨by kernel_rfl⟩
theorem pl_24 : plcOf prog 24 0 = some ⟨0, true, 1⟩ := by kernel_rfl
instance ipl_24 : PlF prog 24 ⟨0, true, 1⟩ := ⟨pl_24⟩
instance ize_70 : ZeF prog 70 (.agg [.int .i64 0, .int .i64 0, .int .i64 0, .nils]) := ⟨by kernel_rfl⟩
instance ibs_70 : BsF prog 70 := ⟨by kernel_rfl⟩
instance ize_68 : ZeF prog 68 (.agg [.int .i64 0, .int .i64 0, .int .i64 0]) := ⟨by kernel_rfl⟩
instance ibs_68 : BsF prog 68 := ⟨by kernel_rfl⟩
instance ips_68 : PsF prog 68 [(0, 1), (1, 1), (2, 1)] := ⟨by kernel_rfl⟩
instance isz_68 : SzF prog 68 3 := ⟨by kernel_rfl⟩
def v20 : CV := .reg [Jd 6 0, Jd 7 0, Jm 8 7, Jg 9 70 8 1, Jf 10 27 9, Jd 11 0, Jm 12 11, Jg 13 70 12 0, Jg 14 68 13 2, Jf 15 3 14, Jd 17 1, Jd 19 0, Jm 20 19, Jg 21 70 20 0, Jg 22 68 21 0, Jf 23 3 22, Jd 24 2, Jc 16 (.call ⟨.value (.func 59), #[(.const (.string ⟨⟨[32, 32]⟩⟩)), (Ja 15)], #[9, 3]⟩), .ck 10 (.load 27 (Ja 9)), .ck 23 (.load 3 (Ja 22)), Jc 18 (.binOp .add 9 (Ja 16) (Ja 17) 9), Jc 25 (.build 32 #[(0, (Ja 18)), (1, (Ja 23)), (2, (Ja 24))]), Jc 26 (.buildSlice 27 1 #[(0, (Ja 25))]), Jc 27 (.call ⟨.builtin .append, #[(Ja 10), (Ja 26)], #[27, 27]⟩), Jm 28 6, Jg 29 70 28 1, .op none (.store 27 (Ja 29) (Ja 27))]
noncomputable def b20 : Code := f20.body.getD .skip
theorem b20_eq : f20.body = some b20 := by kernel_rfl
theorem v20_eq : viewC prog b20 = some v20 := by kernel_rfl
theorem r20_eq : f20.results.toList = [] := by kernel_rfl
def v23t2 : CV := Jt [Jd 12 0, Jm 13 12, Jg 14 70 13 0, Jg 15 68 14 1, Jf 16 3 15, Jh 2 16] (.ret)
def v23t1 : CV := Jt [Jd 3 0, Jm 4 3, Jg 5 70 4 0, Jg 6 68 5 1, Jf 7 3 6, Jc 8 (.binOp .add 3 (Ja 7) (Jb 1) 3), Jm 9 3, Jg 10 70 9 0, Jg 11 68 10 1, .op none (.store 3 (Ja 11) (Ja 8))] v23t2
def v23 : CV := Jt [Ji 2 0] v23t1
noncomputable def b23 : Code := f23.body.getD .skip
theorem b23_eq : f23.body = some b23 := by kernel_rfl
theorem v23_eq : viewC prog b23 = some v23 := by kernel_rfl
theorem r23_eq : f23.results.toList = [.tmp 2] := by kernel_rfl
def v22k0 : CV := Jt [Jk 19 72 15 17, Jf 20 157 19, Jc 5 (.alloc 157), .op none (.store 157 (Ja 5) (Ja 20))] (.reg [Jd 21 0, Jf 22 157 5, Jo 23 61 21 22 66 157])
def v22l0t2 : CV := .seq (.block 1 v22k0) (.reg [Jc 24 (.binOp .add 3 (Ja 17) (Jb 1) 3), Jd 17 24])
def v22l0t1 : CV := .seq (.cond (Ja 18) (.skip) (.exit 0)) v22l0t2
def v22l0 : CV := Jt [Jc 18 (.binOp .lss 3 (Ja 17) (Ja 16) 3)] v22l0t1
def v22h1 : CV := Jt [Jd 15 1, Jj 16 15 72, Je 17 0] (.block 0 (.loop v22l0))
def v22t1 : CV := .seq v22h1 (.reg [Jd 25 0, Jm 26 25, Jg 27 70 26 0, Jg 28 68 27 2, Jf 29 3 28, Jc 30 (.binOp .sub 3 (Ja 29) (Jb 1) 3), Jm 31 25, Jg 32 70 31 0, Jg 33 68 32 2, .op none (.store 3 (Ja 33) (Ja 30))])
def v22 : CV := Jt [Jd 6 0, Jm 7 6, Jg 8 70 7 0, Jg 9 68 8 2, Jf 10 3 9, Jc 11 (.binOp .add 3 (Ja 10) (Jb 1) 3), Jm 12 6, Jg 13 70 12 0, Jg 14 68 13 2, .op none (.store 3 (Ja 14) (Ja 11))] v22t1
noncomputable def b22 : Code := f22.body.getD .skip
theorem b22_eq : f22.body = some b22 := by kernel_rfl
theorem v22_eq : viewC prog b22 = some v22 := by kernel_rfl
theorem r22_eq : f22.results.toList = [] := by kernel_rfl
def v61c1 : CV := Jt [Jd 34 0, Jc 35 (.call ⟨.value (.func 20), #[(Ja 34), (.const (.string ⟨⟨[125, 32, 101, 108, 115, 101, 32, 123]⟩⟩)), (Jb (-1))], #[66, 9, 3]⟩)] (.reg [Jd 36 0, Jg 37 157 3 6, Jf 38 72 37, Jo 39 22 36 38 66 72])
def v61c0h2 : CV := Jt [Jg 30 157 3 6, Jf 31 72 30, Jj 32 31 72, Jc 33 (.binOp .gtr 3 (Ja 32) (Jb 0) 3)] (.cond (Ja 33) v61c1 (.skip))
def v61c0t2 : CV := .seq v61c0h2 (.reg [Jd 40 0, Jc 41 (.call ⟨.value (.func 20), #[(Ja 40), (.const (.string ⟨⟨[125]⟩⟩)), (Jb (-1))], #[66, 9, 3]⟩)])
def v61c0t1 : CV := Jt [Jd 26 0, Jg 27 157 3 5, Jf 28 72 27, Jo 29 22 26 28 66 72] v61c0t2
def v61c0 : CV := Jt [Jd 16 0, Jg 17 157 3 4, Jf 18 155 17, Jc 19 (.indexAddr 155 (Ja 18) (Jb 0)), Jf 20 180 19, Jn 21 115 20 180, Jc 22 (.binOp .add 9 (.const (.string ⟨⟨[105, 102, 32, 40, 32]⟩⟩)) (Ja 21) 9), Jc 23 (.binOp .add 9 (Ja 22) (.const (.string ⟨⟨[32, 41, 32, 123]⟩⟩)) 9), Jd 24 4, Jc 25 (.call ⟨.value (.func 20), #[(Ja 16), (Ja 23), (Ja 24)], #[66, 9, 3]⟩)] v61c0t1
def v61c3t1 : CV := Jt [Jd 54 0, Jg 55 157 3 5, Jf 56 72 55, Jo 57 22 54 56 66 72] (.reg [Jd 58 0, Jc 59 (.call ⟨.value (.func 20), #[(Ja 58), (.const (.string ⟨⟨[125]⟩⟩)), (Jb (-1))], #[66, 9, 3]⟩)])
def v61c3 : CV := Jt [Jd 44 0, Jg 45 157 3 4, Jf 46 155 45, Jc 47 (.indexAddr 155 (Ja 46) (Jb 0)), Jf 48 180 47, Jn 49 115 48 180, Jc 50 (.binOp .add 9 (.const (.string ⟨⟨[119, 104, 105, 108, 101, 32, 40, 32]⟩⟩)) (Ja 49) 9), Jc 51 (.binOp .add 9 (Ja 50) (.const (.string ⟨⟨[32, 41, 32, 123]⟩⟩)) 9), Jd 52 4, Jc 53 (.call ⟨.value (.func 20), #[(Ja 44), (Ja 51), (Ja 52)], #[66, 9, 3]⟩)] v61c3t1
def v61c2 : CV := Jt [Jc 43 (.binOp .eql 3 (Ja 8) (Jb 5) 3), Jh 42 43] (.cond (Ja 42) v61c3 (.reg [Jd 9 0, Jf 10 157 3, Jn 11 116 10 157, Jd 12 4, Jc 13 (.call ⟨.value (.func 20), #[(Ja 9), (Ja 11), (Ja 12)], #[66, 9, 3]⟩)]))
def v61k0 : CV := Jt [Jc 15 (.binOp .eql 3 (Ja 8) (Jb 4) 3), Jh 14 15] (.cond (Ja 14) v61c0 v61c2)
def v61t2 : CV := Jt [Jg 7 157 3 0, Jf 8 3 7] (.block 0 v61k0)
def v61t1 : CV := Jt [Jd 5 0, Jn 6 23 5 66, Jh 4 6] v61t2
def v61 : CV := Jt [Jc 3 (.box 157 (Ja 1))] v61t1
noncomputable def b61 : Code := f61.body.getD .skip
theorem b61_eq : f61.body = some b61 := by kernel_rfl
theorem v61_eq : viewC prog b61 = some v61 := by kernel_rfl
theorem r61_eq : f61.results.toList = [] := by kernel_rfl
def v115t2 : CV := Jt [Jd 10 3, Jh 2 10] (.ret)
def v115t1 : CV := Jt [Jf 6 180 1, Jn 7 176 6 180, Jd 5 7, Jl 8 5 0, Jl 9 5 1, Jh 3 8, Jh 4 9] v115t2
def v115 : CV := Jt [Jc 1 (.box 180 (Ja 0)), Jc 2 (.assign (.const (.string ⟨⟨[]⟩⟩)))] v115t1
noncomputable def b115 : Code := f115.body.getD .skip
theorem b115_eq : f115.body = some b115 := by kernel_rfl
theorem v115_eq : viewC prog b115 = some v115 := by kernel_rfl
theorem r115_eq : f115.results.toList = [.tmp 2] := by kernel_rfl
def v116t2 : CV := Jt [Jd 14 3, Jc 15 (.call ⟨.value (.func 177), #[(Ja 14), (.const (.string ⟨⟨[112, 114, 111, 99, 32, 109, 97, 105, 110, 32, 40, 32, 41, 32, 123, 32]⟩⟩))], #[9, 9]⟩), Jc 16 (.call ⟨.value (.func 60), #[(Ja 15), (.const (.string ⟨⟨[32, 125]⟩⟩))], #[9, 9]⟩), Jh 2 16] (.ret)
def v116t1 : CV := Jt [Jf 6 157 1, Jc 7 (.buildSlice 72 1 #[(0, (Ja 6))]), Jc 8 (.build 74 #[(0, (.const (.string ⟨⟨[109, 97, 105, 110]⟩⟩))), (3, (Ja 7))]), Jc 9 (.buildSlice 22 1 #[(0, (Ja 8))]), Jc 10 (.build 24 #[(0, (Ja 9))]), Jn 11 19 10 24, Jd 5 11, Jl 12 5 0, Jl 13 5 1, Jh 3 12, Jh 4 13] v116t2
def v116 : CV := Jt [Jc 1 (.box 157 (Ja 0)), Jc 2 (.assign (.const (.string ⟨⟨[]⟩⟩)))] v116t1
noncomputable def b116 : Code := f116.body.getD .skip
theorem b116_eq : f116.body = some b116 := by kernel_rfl
theorem v116_eq : viewC prog b116 = some v116 := by kernel_rfl
theorem r116_eq : f116.results.toList = [.tmp 2] := by kernel_rfl
def v21t3 : CV := Jt [Jd 13 3, Jc 14 (.call ⟨.value (.func 60), #[(Ja 13), (.const (.string ⟨⟨[32, 125]⟩⟩))], #[9, 9]⟩), Jh 2 14] (.ret)
def v21t2 : CV := Jt [Jf 7 74 1, Jc 8 (.buildSlice 22 1 #[(0, (Ja 7))]), Jc 9 (.build 24 #[(0, (Ja 8))]), Jn 10 19 9 24, Jd 6 10, Jl 11 6 0, Jl 12 6 1, Jh 3 11, Jh 4 12] v21t3
def v21t1 : CV := Jt [Jg 5 74 1 3, .op none (.store 72 (Ja 5) (.const (.slice none 0 0)))] v21t2
def v21 : CV := Jt [Jc 1 (.box 74 (Ja 0)), Jc 2 (.assign (.const (.string ⟨⟨[]⟩⟩)))] v21t1
noncomputable def b21 : Code := f21.body.getD .skip
theorem b21_eq : f21.body = some b21 := by kernel_rfl
theorem v21_eq : viewC prog b21 = some v21 := by kernel_rfl
theorem r21_eq : f21.results.toList = [.tmp 2] := by kernel_rfl
def v7c0 : CV := Jt [Jd 16 5, Jc 2 (.assign (.const (.slice none 0 0))), Jh 3 16] (.ret)
def v7h1 : CV := Jt [Jf 10 24 1, Jn 11 19 10 24, Jd 9 11, Jl 12 9 0, Jl 13 9 1, Jh 4 12, Jh 5 13] (Jt [Jd 14 5, Jc 15 (.binOp .neq 28 (Ja 14) (Jb 0) 28)] (.cond (Ja 15) v7c0 (.skip)))
def v7k0t3 : CV := Jt [Jd 36 6, Jg 37 74 8 3, Jf 38 72 37, Jo 39 22 36 38 66 72] (.reg [Jd 40 6, Jd 41 6, Jn 42 23 41 66, Jc 43 (.call ⟨.value (.func 20), #[(Ja 40), (.const (.string ⟨⟨[125]⟩⟩)), (Ja 42)], #[66, 9, 3]⟩)])
def v7k0t2 : CV := Jt [Jd 32 6, Jf 33 74 8, Jn 34 21 33 74, Jc 35 (.call ⟨.value (.func 20), #[(Ja 32), (Ja 34), (Jb 0)], #[66, 9, 3]⟩)] v7k0t3
def v7k0t1 : CV := Jt [Jd 27 6, Jd 28 7, Jc 29 (.build 68 #[(0, (Ja 28))]), Jm 30 27, Jg 31 70 30 0, .op none (.store 68 (Ja 31) (Ja 29))] v7k0t2
def v7k0 : CV := Jt [Jd 24 22, Jk 25 22 20 22, Jf 26 74 25, Jc 8 (.alloc 74), Jh 7 24, .op none (.store 74 (Ja 8) (Ja 26))] v7k0t1
def v7l1t2 : CV := .seq (.block 1 v7k0) (.reg [Jc 44 (.binOp .add 3 (Ja 22) (Jb 1) 3), Jd 22 44])
def v7l1t1 : CV := .seq (.cond (Ja 23) (.skip) (.exit 0)) v7l1t2
def v7l1 : CV := Jt [Jc 23 (.binOp .lss 3 (Ja 22) (Ja 21) 3)] v7l1t1
def v7h3 : CV := Jt [Jg 19 24 1 0, Jf 20 22 19, Jj 21 20 22, Je 22 0] (.block 0 (.loop v7l1))
def v7t4 : CV := Jt [Jd 45 6, Jm 46 45, Jg 47 70 46 1, Jf 48 27 47, Jh 2 48, Ji 3 0] (.ret)
def v7t3 : CV := .seq v7h3 v7t4
def v7t2 : CV := Jt [Jc 17 (.build 70 #[]), Jc 18 (.box 70 (Ja 17)), Jh 6 18] v7t3
def v7t1 : CV := .seq v7h1 v7t2
def v7 : CV := Jt [Jc 1 (.box 24 (Ja 0)), Jc 2 (.assign (.const (.slice none 0 0))), Ji 3 0] v7t1
noncomputable def b7 : Code := f7.body.getD .skip
theorem b7_eq : f7.body = some b7 := by kernel_rfl
theorem v7_eq : viewC prog b7 = some v7 := by kernel_rfl
theorem r7_eq : f7.results.toList = [.tmp 2, .tmp 3] := by kernel_rfl
def v177t1 : CV := Jt [Jd 5 0, Jd 6 1, Jo 7 229 5 6 9 9, Jh 4 7] (.ret)
def v177 : CV := Jt [Jc 4 (.assign (.const (.string ⟨⟨[]⟩⟩)))] v177t1
noncomputable def b177 : Code := f177.body.getD .skip
theorem b177_eq : f177.body = some b177 := by kernel_rfl
theorem v177_eq : viewC prog b177 = some v177 := by kernel_rfl
theorem r177_eq : f177.results.toList = [.tmp 4] := by kernel_rfl
def v60t1 : CV := Jt [Jd 5 0, Jd 6 1, Jo 7 114 5 6 9 9, Jh 4 7] (.ret)
def v60 : CV := Jt [Jc 4 (.assign (.const (.string ⟨⟨[]⟩⟩)))] v60t1
noncomputable def b60 : Code := f60.body.getD .skip
theorem b60_eq : f60.body = some b60 := by kernel_rfl
theorem v60_eq : viewC prog b60 = some v60 := by kernel_rfl
theorem r60_eq : f60.results.toList = [.tmp 4] := by kernel_rfl
def v229c0 : CV := Jt [Jd 8 0, Jd 9 1, Jj 10 9 9, Jc 11 (.slice 9 (Ja 8) (some (Ja 10)) none none), Jh 4 11] (.ret)
def v229h1 : CV := Jt [Jd 5 0, Jd 6 1, Jo 7 172 5 6 9 9] (.cond (Ja 7) v229c0 (.skip))
def v229t2 : CV := Jt [Jd 12 0, Jh 4 12] (.ret)
def v229t1 : CV := .seq v229h1 v229t2
def v229 : CV := Jt [Jc 4 (.assign (.const (.string ⟨⟨[]⟩⟩)))] v229t1
noncomputable def b229 : Code := f229.body.getD .skip
theorem b229_eq : f229.body = some b229 := by kernel_rfl
theorem v229_eq : viewC prog b229 = some v229 := by kernel_rfl
theorem r229_eq : f229.results.toList = [.tmp 4] := by kernel_rfl
def v114c0 : CV := Jt [Jd 8 0, Jd 9 0, Jj 10 9 9, Jd 11 1, Jj 12 11 9, Jc 13 (.binOp .sub 3 (Ja 10) (Ja 12) 3), Jc 14 (.slice 9 (Ja 8) none (some (Ja 13)) none), Jh 4 14] (.ret)
def v114h1 : CV := Jt [Jd 5 0, Jd 6 1, Jo 7 175 5 6 9 9] (.cond (Ja 7) v114c0 (.skip))
def v114t2 : CV := Jt [Jd 15 0, Jh 4 15] (.ret)
def v114t1 : CV := .seq v114h1 v114t2
def v114 : CV := Jt [Jc 4 (.assign (.const (.string ⟨⟨[]⟩⟩)))] v114t1
noncomputable def b114 : Code := f114.body.getD .skip
theorem b114_eq : f114.body = some b114 := by kernel_rfl
theorem v114_eq : viewC prog b114 = some v114 := by kernel_rfl
theorem r114_eq : f114.results.toList = [.tmp 4] := by kernel_rfl
def v172t1 : CV := Jt [Jd 5 0, Jj 6 5 9, Jd 7 1, Jj 8 7 9, Jc 9 (.binOp .geq 3 (Ja 6) (Ja 8) 3), Jd 10 9, Jp 10 true 11 0, Jp 10 true 12 1, Js 10 true 13 (.call ⟨.builtin .len, #[(Ja 12)], #[9]⟩), Js 10 true 14 (.slice 9 (Ja 11) none (some (Ja 13)) none), Jp 10 true 15 1, Js 10 true 16 (.binOp .eql 9 (Ja 14) (Ja 15) 9), Jc 17 (.pick (Ja 10) (Ja 16) (.const (.bool false))), Jh 4 17] (.ret)
def v172 : CV := Jt [Jc 4 (.assign (.const (.bool false)))] v172t1
noncomputable def b172 : Code := f172.body.getD .skip
theorem b172_eq : f172.body = some b172 := by kernel_rfl
theorem v172_eq : viewC prog b172 = some v172 := by kernel_rfl
theorem r172_eq : f172.results.toList = [.tmp 4] := by kernel_rfl
def v175t1 : CV := Jt [Jd 5 0, Jj 6 5 9, Jd 7 1, Jj 8 7 9, Jc 9 (.binOp .geq 3 (Ja 6) (Ja 8) 3), Jd 10 9, Jp 10 true 11 0, Jp 10 true 12 0, Js 10 true 13 (.call ⟨.builtin .len, #[(Ja 12)], #[9]⟩), Jp 10 true 14 1, Js 10 true 15 (.call ⟨.builtin .len, #[(Ja 14)], #[9]⟩), Js 10 true 16 (.binOp .sub 3 (Ja 13) (Ja 15) 3), Js 10 true 17 (.slice 9 (Ja 11) (some (Ja 16)) none none), Jp 10 true 18 1, Js 10 true 19 (.binOp .eql 9 (Ja 17) (Ja 18) 9), Jc 20 (.pick (Ja 10) (Ja 19) (.const (.bool false))), Jh 4 20] (.ret)
def v175 : CV := Jt [Jc 4 (.assign (.const (.bool false)))] v175t1
noncomputable def b175 : Code := f175.body.getD .skip
theorem b175_eq : f175.body = some b175 := by kernel_rfl
theorem v175_eq : viewC prog b175 = some v175 := by kernel_rfl
theorem r175_eq : f175.results.toList = [.tmp 4] := by kernel_rfl
theorem zfs {a b : Ws} (ha : a ≠ []) (hb : b ≠ []) : joinW (a ++ b) = joinW a ++ 32 :: joinW b := by
 cases a with
 | nil => exact absurd rfl ha
 | cons x a =>
 cases b with
 | nil => exact absurd rfl hb
 | cons y b => simp [joinW, List.flatMap_append]
theorem zft {ws : Ws} (h : Sh ws) : (joinW ws).length ≤ 41 * ws.length := Nat.le_trans zp4 (zl4 h)
theorem wdE_ne {x : Exp} (h : okE x = true) : wdE x ≠ [] := by
 cases x with
 | mk k n z l =>
 simp only [okE, Bool.and_eq_true] at h
 have hform : formE (.mk k n z l) = true := by have := h.1.1; simp only [plainE, Bool.and_eq_true] at this; exact this.2
 rw [zl6] at hform
 unfold wdE
 by_cases e1 : k = 1
 ·rw [if_pos e1]; simp
 rw [if_neg e1] at hform ⊢
 by_cases e2 : k = 2
 ·rw [if_pos e2]; simp
 rw [if_neg e2] at hform ⊢
 by_cases e3 : k = 3
 ·rw [if_pos e3]; simp
 rw [if_neg e3] at hform ⊢
 by_cases e4 : k = 4
 ·rw [if_pos e4]; simp
 rw [if_neg e4] at hform ⊢
 by_cases e5 : k = 5
 ·rw [if_pos e5]; simp
 rw [if_neg e5] at hform ⊢
 by_cases e6 : k = 6
 ·rw [if_pos e6]; simp
 rw [if_neg e6] at hform
 cases hform
theorem wdS_ne (x : Stm) : wdS x ≠ [] := by
 cases x
 unfold wdS
 repeat (first | (split; simp) | simp)
mutual
theorem ziv : ∀ (x : Exp) {d e : Nat}, d ≤ e → dpE x d ≤ dpE x e
 | .mk k n z l, d, e, h => by
  have h1 := zlz l (show d + 1 ≤ e + 1 by omega)
  have h2 := zlz l h
  simp only [dpE]
  split
  ·omega
  split
  ·omega
  split
  ·omega
  ·exact h
theorem zlz : ∀ (l : List Exp) {d e : Nat}, d ≤ e → dpE0 l d ≤ dpE0 l e ∧ dpO0 l d ≤ dpO0 l e ∧ dpO1 l d ≤ dpO1 l e
 | [], _, _, _ => by simp [dpE0, dpO0, dpO1]
 | x :: l, d, e, h => by
  have h1 := ziv x h
  have h2 := ziv x (show d + 1 ≤ e + 1 by omega)
  have h3 := zlz l h
  simp only [dpE0, dpO0, dpO1]
  refine ⟨h1, ?_, h3.2.1⟩
  split
  ·exact h2
  ·exact h1
end
theorem zm9 {d e : Nat} (h : d ≤ e) : ∀ l : List Exp, dpEs d l ≤ dpEs e l
 | [] => Nat.le_refl _
 | x :: l => by have := ziv x h; have := zm9 h l; simp only [dpEs]; omega
mutual
theorem zpx : ∀ (x : Stm) {d e : Nat}, d ≤ e → dpS x d ≤ dpS x e
 | .mk k n p z ex b f, d, e, h => by
  have h1 := zjt b (show d + 1 ≤ e + 1 by omega)
  have h2 := zjt f (show d + 1 ≤ e + 1 by omega)
  have h3 := zm9 (show d + 1 ≤ e + 1 by omega) ex
  simp only [dpS]
  omega
theorem zjt : ∀ (l : List Stm) {d e : Nat}, d ≤ e → dpSs l d ≤ dpSs l e
 | [], _, _, _ => by simp [dpSs]
 | x :: l, d, e, h => by
  have h1 := zpx x h
  have h2 := zjt l h
  simp only [dpSs]
  omega
end
theorem dpS_eq (x : Stm) (d : Nat) : dpS x d = max d (max (dpEs (d + 1) x.e) (max (dpSs x.body (d + 1)) (dpSs x.els (d + 1)))) := by cases x; simp only [dpS]; rfl
theorem zpy {x : Stm} {d : Nat} : ∀ {l : List Stm}, x ∈ l → dpS x d ≤ dpSs l d
 | [], h => by cases h
 | y :: l, h => by
  simp only [dpSs]
  rcases List.mem_cons.1 h with rfl | h
  ·omega
  ·have := zpy (d := d) h; omega
theorem zql {x : Stm} : ∀ {l : List Stm}, okSs l = true → x ∈ l → okS x = true
 | [], _, h => by cases h
 | y :: l, ho, h => by
  simp only [okSs, Bool.and_eq_true] at ho
  rcases List.mem_cons.1 h with rfl | h
  ·exact ho.1
  ·exact zql ho.2 h
theorem zne {α : Type} {A B : Nat → Prop} {R R' : Heap → List AV → α → Prop} {z : Nat} {H : Heap} {v : AV} {xs : List α} (h : IsLs A R z H v xs) (hs : ∀ c, A c → B c) (hr : ∀ c a, R H c a → R' H c a) : IsLs B R' z H v xs := by
 obtain ⟨els, h1, h2, h3⟩ := h
 exact ⟨els, h1.wide hs, h2.imp hr, h3⟩
theorem isE_wide {A B : Nat → Prop} {H : Heap} {c : List AV} {e : Exp} (h : IsE A H c e) (hs : ∀ c, A c → B c) : IsE B H c e := by
 induction h with
 | mk hk hn hs' hl els h hz he _ ih => exact .mk hk hn hs' hl els (h.wide hs) hz he fun i c e h1 h2 => ih i c e h1 h2
theorem isS_wide {A B : Nat → Prop} {H : Heap} {c : List AV} {e : Stm} (h : IsS A H c e) (hs : ∀ c, A c → B c) : IsS B H c e := by
 induction h with
 | mk hk hn hs' hp hl hb hd he xs ys h hz hx _ h' hz' hy _ ih ih' =>
  exact .mk hk hn hs' hp hl hb hd (zne he hs fun c a h => isE_wide h hs) xs ys (h.wide hs) hz hx (fun i c e h1 h2 => ih i c e h1 h2) (h'.wide hs) hz' hy (fun i c e h1 h2 => ih' i c e h1 h2)
theorem zi2 {α : Type} {A : Nat → Prop} {R : Heap → List AV → α → Prop} {z : Nat} {H : Heap} {b : Nat} {c : List AV} {x : α} {tl ro : Bool} (hr : IsRow H b c tl ro) (hz : c.length = z) (hA : A b) (h : R H c x) : IsLs A R z H (.sl b 0 1 1) [x] :=
 ⟨[c], ⟨by simp [hz], .inr ⟨b, 0, c, tl, ro, .inr ⟨1, rfl, Nat.le_refl 1⟩, hr, .inr hA, fun j _ => by simp⟩⟩, .cons h .nil, fun d hd => by rw [List.mem_singleton.1 hd]; exact hz⟩
structure Ls where
 proc : Nat
 mark : Nat
 deep : Nat
 rows : List LR
def Ls.put (s : Ls) (ws : Ws) (mk : Int) : Ls := { s with rows := s.rows ++ [⟨s.deep, ws, s.proc, mk⟩] }
def rowsC (l : List LR) : List AV := l.flatMap fun r => rwC r.rw
theorem zuu (a b : List LR) : rowsC (a ++ b) = rowsC a ++ rowsC b := by simp [rowsC]
structure Li (b : Nat) (H : Heap) (u : AV) (s : Ls) : Prop where
 row : IsRow H b [.int .i64 (s.proc : Int), .int .i64 (s.mark : Int), .int .i64 (s.deep : Int), u] false false
 own : Own H u 3 s.rows.length (rowsC s.rows)
 ne : ¬ ownB u b
theorem Li.keep0 {b : Nat} {H H' : Heap} {u : AV} {s : Ls} (h : Li b H u s) (k : Keep Non H H') : Li b H' u s := ⟨h.row.keep0 k, h.own.keep0 k, h.ne⟩
theorem Li.lt {b : Nat} {H : Heap} {u : AV} {s : Ls} (h : Li b H u s) : b < H.nx := h.row.1
theorem Li.fresh {b : Nat} {H H' : Heap} {u : AV} {s : Ls} (h : Li b H u s) (k : H.nx < H'.nx) : Off b H' u H.nx :=
 ⟨k, by have := h.lt; omega, fun hc => by have := h.own.lt hc; omega⟩
section
variable {tb : List FuncId} {gl : List (List AV)} {A : Nat → Prop} {H : Heap} {u v w : AV} {b : Nat} {s : Ls} {Q : AV → Heap → Prop}
theorem zlr {p r : List UInt8} (hl : p.length + r.length < 4611686018427387904) (hQ : Q (S r) H) : WpF prog tb gl 177 [S (p ++ r), S p] H Q := by
 have hpl : (p ++ r).length = p.length + r.length := List.length_append
 refine fa func177 b177_eq v177_eq r177_eq (.inr (by simp)) ?_
 refine zac ?_
 refine zae rfl ?_
 refine zab (zac ?_)
 refine zae rfl ?_
 refine zaa (zaj rfl rfl rfl ?_)
 refine fa func229 b229_eq v229_eq r229_eq (.inr (by simp)) ?_
 refine zac ?_
 refine zae rfl ?_
 refine zab (zak (zac ?_))
 refine zae rfl ?_
 refine zaa (zaj rfl rfl rfl ?_)
 refine fa func172 b172_eq v172_eq r172_eq (.inr (by simp)) ?_
 refine zac ?_
 refine zae rfl ?_
 refine zab (zac ?_)
 refine zae rfl ?_
 refine zaa (zcx rfl rfl rfl UnF.h rfl ?_)
 refine zae rfl ?_
 refine zaa (zcx rfl rfl rfl UnF.h rfl ?_)
 refine zaa (ze8 rfl rfl (by omega) ?_)
 refine zae rfl ?_
 refine zav rfl (zal rfl (zav rfl (zal rfl (zav rfl (zcx rfl rfl rfl UnF.h rfl ?_)))))
 refine zav rfl (zhj (a := 0) (c := p.length) UnF.h rfl rfl (zjk rfl rfl) (Nat.zero_le _) (by omega) ?_)
 refine zav rfl (zal rfl (zav rfl (zbq (d := true) rfl rfl (by simp) ?_)))
 refine zaa (zaz rfl rfl rfl ?_)
 refine zae rfl ?_
 refine zab (zao ⟨_, rfl, ?_⟩)
 refine zab (zah rfl (zac ?_))
 refine zae rfl ?_
 refine zaa (zcx rfl rfl rfl UnF.h rfl ?_)
 refine zaa (zhj (a := p.length) (c := (p ++ r).length) UnF.h rfl (zjk rfl rfl) rfl (by omega) (Nat.le_refl _) ?_)
 refine zae rfl ?_
 refine zab (zao ⟨_, rfl, ?_⟩)
 refine zae rfl ?_
 refine zab (zao ⟨_, rfl, ?_⟩)
 have : ((p ++ r).drop p.length).take ((p ++ r).length - p.length) = r := by rw [List.drop_left]; exact List.take_of_length_le (by omega)
 rw [this]
 exact hQ
theorem zg5 {p r : List UInt8} (hl : p.length + r.length < 4611686018427387904) (hQ : Q (S r) H) : WpF prog tb gl 60 [S (r ++ p), S p] H Q := by
 have hpl : (r ++ p).length = r.length + p.length := List.length_append
 refine fa func60 b60_eq v60_eq r60_eq (.inr (by simp)) ?_
 refine zac ?_
 refine zae rfl ?_
 refine zab (zac ?_)
 refine zae rfl ?_
 refine zaa (zaj rfl rfl rfl ?_)
 refine fa func114 b114_eq v114_eq r114_eq (.inr (by simp)) ?_
 refine zac ?_
 refine zae rfl ?_
 refine zab (zak (zac ?_))
 refine zae rfl ?_
 refine zaa (zaj rfl rfl rfl ?_)
 refine fa func175 b175_eq v175_eq r175_eq (.inr (by simp)) ?_
 refine zac ?_
 refine zae rfl ?_
 refine zab (zac ?_)
 refine zae rfl ?_
 refine zaa (zcx rfl rfl rfl UnF.h rfl ?_)
 refine zae rfl ?_
 refine zaa (zcx rfl rfl rfl UnF.h rfl ?_)
 refine zaa (ze8 rfl rfl (by omega) ?_)
 refine zae rfl ?_
 refine zav rfl (zal rfl (zav rfl (zal rfl (zav rfl (zcx rfl rfl rfl UnF.h rfl (zav rfl (zal rfl (zav rfl (zcx rfl rfl rfl UnF.h rfl ?_)))))))))
 refine zav rfl (zc8 (c := (r.length : Int)) rfl rfl Ju ?_)
 refine zav rfl (zhj (a := r.length) (c := (r ++ p).length) UnF.h rfl (zjk rfl rfl) rfl (by omega) (Nat.le_refl _) ?_)
 refine zav rfl (zal rfl (zav rfl (zbq (d := true) rfl rfl (by rw [List.drop_left, List.take_of_length_le (by omega)]; simp) ?_)))
 refine zaa (zaz rfl rfl rfl ?_)
 refine zae rfl ?_
 refine zab (zao ⟨_, rfl, ?_⟩)
 refine zab (zah rfl (zac ?_))
 refine zae rfl ?_
 refine zaa (zcx rfl rfl rfl UnF.h rfl ?_)
 refine zae rfl ?_
 refine zaa (zcx rfl rfl rfl UnF.h rfl ?_)
 refine zaa (zc8 (c := (r.length : Int)) rfl rfl Ju ?_)
 refine zaa (zhj (a := 0) (c := r.length) UnF.h rfl rfl (zjk rfl rfl) (Nat.zero_le _) (by omega) ?_)
 refine zae rfl ?_
 refine zab (zao ⟨_, rfl, ?_⟩)
 refine zae rfl ?_
 refine zab (zao ⟨_, rfl, ?_⟩)
 have : ((r ++ p).drop 0).take (r.length - 0) = r := by simp
 rw [this]
 exact hQ
noncomputable abbrev RL (tb : List FuncId) (gl : List (List AV)) (H : Heap) (k : Nat) : CR := callFO prog tb gl 12 59 [S [32, 32], .int .i64 (k : Int)] H
abbrev RR (H : Heap) (k : Nat) : CR := .ret (S (List.replicate (2 * k) 32)) H
theorem rq0 : RL tb gl H 0 = RR H 0 := by kernel_rfl
theorem rq1 : RL tb gl H 1 = RR H 1 := by kernel_rfl
theorem rq2 : RL tb gl H 2 = RR H 2 := by kernel_rfl
theorem rq3 : RL tb gl H 3 = RR H 3 := by kernel_rfl
theorem rq4 : RL tb gl H 4 = RR H 4 := by kernel_rfl
theorem rq5 : RL tb gl H 5 = RR H 5 := by kernel_rfl
theorem rq6 : RL tb gl H 6 = RR H 6 := by kernel_rfl
theorem rq7 : RL tb gl H 7 = RR H 7 := by kernel_rfl
theorem rq8 : RL tb gl H 8 = RR H 8 := by kernel_rfl
theorem rq9 : RL tb gl H 9 = RR H 9 := by kernel_rfl
theorem rq10 : RL tb gl H 10 = RR H 10 := by kernel_rfl
theorem rq11 : RL tb gl H 11 = RR H 11 := by kernel_rfl
theorem rq12 : RL tb gl H 12 = RR H 12 := by kernel_rfl
theorem rq13 : RL tb gl H 13 = RR H 13 := by kernel_rfl
theorem rq14 : RL tb gl H 14 = RR H 14 := by kernel_rfl
theorem rq15 : RL tb gl H 15 = RR H 15 := by kernel_rfl
theorem rq16 : RL tb gl H 16 = RR H 16 := by kernel_rfl
theorem rq17 : RL tb gl H 17 = RR H 17 := by kernel_rfl
theorem rq18 : RL tb gl H 18 = RR H 18 := by kernel_rfl
theorem rq19 : RL tb gl H 19 = RR H 19 := by kernel_rfl
theorem rq20 : RL tb gl H 20 = RR H 20 := by kernel_rfl
theorem rq21 : RL tb gl H 21 = RR H 21 := by kernel_rfl
theorem rq22 : RL tb gl H 22 = RR H 22 := by kernel_rfl
theorem rq23 : RL tb gl H 23 = RR H 23 := by kernel_rfl
theorem rq24 : RL tb gl H 24 = RR H 24 := by kernel_rfl
theorem rq25 : RL tb gl H 25 = RR H 25 := by kernel_rfl
theorem rq26 : RL tb gl H 26 = RR H 26 := by kernel_rfl
theorem rq27 : RL tb gl H 27 = RR H 27 := by kernel_rfl
theorem rq28 : RL tb gl H 28 = RR H 28 := by kernel_rfl
theorem rq29 : RL tb gl H 29 = RR H 29 := by kernel_rfl
theorem rq30 : RL tb gl H 30 = RR H 30 := by kernel_rfl
theorem rq31 : RL tb gl H 31 = RR H 31 := by kernel_rfl
theorem rq32 : RL tb gl H 32 = RR H 32 := by kernel_rfl
theorem rq33 : RL tb gl H 33 = RR H 33 := by kernel_rfl
theorem rq34 : RL tb gl H 34 = RR H 34 := by kernel_rfl
theorem rq35 : RL tb gl H 35 = RR H 35 := by kernel_rfl
theorem rq36 : RL tb gl H 36 = RR H 36 := by kernel_rfl
theorem rq37 : RL tb gl H 37 = RR H 37 := by kernel_rfl
theorem rq38 : RL tb gl H 38 = RR H 38 := by kernel_rfl
theorem rq39 : RL tb gl H 39 = RR H 39 := by kernel_rfl
theorem rq40 : RL tb gl H 40 = RR H 40 := by kernel_rfl
theorem rq41 : RL tb gl H 41 = RR H 41 := by kernel_rfl
theorem rq42 : RL tb gl H 42 = RR H 42 := by kernel_rfl
theorem rq43 : RL tb gl H 43 = RR H 43 := by kernel_rfl
theorem rq44 : RL tb gl H 44 = RR H 44 := by kernel_rfl
theorem rq45 : RL tb gl H 45 = RR H 45 := by kernel_rfl
theorem rq46 : RL tb gl H 46 = RR H 46 := by kernel_rfl
theorem rq47 : RL tb gl H 47 = RR H 47 := by kernel_rfl
theorem rq48 : RL tb gl H 48 = RR H 48 := by kernel_rfl
theorem rq49 : RL tb gl H 49 = RR H 49 := by kernel_rfl
theorem rq50 : RL tb gl H 50 = RR H 50 := by kernel_rfl
theorem rq51 : RL tb gl H 51 = RR H 51 := by kernel_rfl
theorem rq52 : RL tb gl H 52 = RR H 52 := by kernel_rfl
theorem rq53 : RL tb gl H 53 = RR H 53 := by kernel_rfl
theorem rq54 : RL tb gl H 54 = RR H 54 := by kernel_rfl
theorem rq55 : RL tb gl H 55 = RR H 55 := by kernel_rfl
theorem rq56 : RL tb gl H 56 = RR H 56 := by kernel_rfl
theorem rq57 : RL tb gl H 57 = RR H 57 := by kernel_rfl
theorem rq58 : RL tb gl H 58 = RR H 58 := by kernel_rfl
theorem rq59 : RL tb gl H 59 = RR H 59 := by kernel_rfl
theorem rq60 : RL tb gl H 60 = RR H 60 := by kernel_rfl
theorem rq61 : RL tb gl H 61 = RR H 61 := by kernel_rfl
theorem Rep2_ok {c : Nat} (hc : c ≤ 61) (hQ : Q (S (List.replicate (2 * c) 32)) H) : WpF prog tb gl 59 [S [32, 32], .int .i64 (c : Int)] H Q := by
 match c, hc, hQ with
 | 0, _, hQ => exact ⟨12, _, _, rq0, hQ⟩
 | 1, _, hQ => exact ⟨12, _, _, rq1, hQ⟩
 | 2, _, hQ => exact ⟨12, _, _, rq2, hQ⟩
 | 3, _, hQ => exact ⟨12, _, _, rq3, hQ⟩
 | 4, _, hQ => exact ⟨12, _, _, rq4, hQ⟩
 | 5, _, hQ => exact ⟨12, _, _, rq5, hQ⟩
 | 6, _, hQ => exact ⟨12, _, _, rq6, hQ⟩
 | 7, _, hQ => exact ⟨12, _, _, rq7, hQ⟩
 | 8, _, hQ => exact ⟨12, _, _, rq8, hQ⟩
 | 9, _, hQ => exact ⟨12, _, _, rq9, hQ⟩
 | 10, _, hQ => exact ⟨12, _, _, rq10, hQ⟩
 | 11, _, hQ => exact ⟨12, _, _, rq11, hQ⟩
 | 12, _, hQ => exact ⟨12, _, _, rq12, hQ⟩
 | 13, _, hQ => exact ⟨12, _, _, rq13, hQ⟩
 | 14, _, hQ => exact ⟨12, _, _, rq14, hQ⟩
 | 15, _, hQ => exact ⟨12, _, _, rq15, hQ⟩
 | 16, _, hQ => exact ⟨12, _, _, rq16, hQ⟩
 | 17, _, hQ => exact ⟨12, _, _, rq17, hQ⟩
 | 18, _, hQ => exact ⟨12, _, _, rq18, hQ⟩
 | 19, _, hQ => exact ⟨12, _, _, rq19, hQ⟩
 | 20, _, hQ => exact ⟨12, _, _, rq20, hQ⟩
 | 21, _, hQ => exact ⟨12, _, _, rq21, hQ⟩
 | 22, _, hQ => exact ⟨12, _, _, rq22, hQ⟩
 | 23, _, hQ => exact ⟨12, _, _, rq23, hQ⟩
 | 24, _, hQ => exact ⟨12, _, _, rq24, hQ⟩
 | 25, _, hQ => exact ⟨12, _, _, rq25, hQ⟩
 | 26, _, hQ => exact ⟨12, _, _, rq26, hQ⟩
 | 27, _, hQ => exact ⟨12, _, _, rq27, hQ⟩
 | 28, _, hQ => exact ⟨12, _, _, rq28, hQ⟩
 | 29, _, hQ => exact ⟨12, _, _, rq29, hQ⟩
 | 30, _, hQ => exact ⟨12, _, _, rq30, hQ⟩
 | 31, _, hQ => exact ⟨12, _, _, rq31, hQ⟩
 | 32, _, hQ => exact ⟨12, _, _, rq32, hQ⟩
 | 33, _, hQ => exact ⟨12, _, _, rq33, hQ⟩
 | 34, _, hQ => exact ⟨12, _, _, rq34, hQ⟩
 | 35, _, hQ => exact ⟨12, _, _, rq35, hQ⟩
 | 36, _, hQ => exact ⟨12, _, _, rq36, hQ⟩
 | 37, _, hQ => exact ⟨12, _, _, rq37, hQ⟩
 | 38, _, hQ => exact ⟨12, _, _, rq38, hQ⟩
 | 39, _, hQ => exact ⟨12, _, _, rq39, hQ⟩
 | 40, _, hQ => exact ⟨12, _, _, rq40, hQ⟩
 | 41, _, hQ => exact ⟨12, _, _, rq41, hQ⟩
 | 42, _, hQ => exact ⟨12, _, _, rq42, hQ⟩
 | 43, _, hQ => exact ⟨12, _, _, rq43, hQ⟩
 | 44, _, hQ => exact ⟨12, _, _, rq44, hQ⟩
 | 45, _, hQ => exact ⟨12, _, _, rq45, hQ⟩
 | 46, _, hQ => exact ⟨12, _, _, rq46, hQ⟩
 | 47, _, hQ => exact ⟨12, _, _, rq47, hQ⟩
 | 48, _, hQ => exact ⟨12, _, _, rq48, hQ⟩
 | 49, _, hQ => exact ⟨12, _, _, rq49, hQ⟩
 | 50, _, hQ => exact ⟨12, _, _, rq50, hQ⟩
 | 51, _, hQ => exact ⟨12, _, _, rq51, hQ⟩
 | 52, _, hQ => exact ⟨12, _, _, rq52, hQ⟩
 | 53, _, hQ => exact ⟨12, _, _, rq53, hQ⟩
 | 54, _, hQ => exact ⟨12, _, _, rq54, hQ⟩
 | 55, _, hQ => exact ⟨12, _, _, rq55, hQ⟩
 | 56, _, hQ => exact ⟨12, _, _, rq56, hQ⟩
 | 57, _, hQ => exact ⟨12, _, _, rq57, hQ⟩
 | 58, _, hQ => exact ⟨12, _, _, rq58, hQ⟩
 | 59, _, hQ => exact ⟨12, _, _, rq59, hQ⟩
 | 60, _, hQ => exact ⟨12, _, _, rq60, hQ⟩
 | 61, _, hQ => exact ⟨12, _, _, rq61, hQ⟩
 | _ + 62, h, _ => omega
theorem zfu {ws : Ws} {t : List UInt8} {mk : Int} (hL : Li b H u s) (ht : t = joinW ws) (hd : s.deep ≤ 61) (hlen : t.length < 10000000) (hn : s.rows.length + 1 < 1000000)
  (hQ : ∀ u' H', Wk b H u H' u' → Li b H' u' (s.put ws mk) → Q (.tup []) H') : WpF prog tb gl 20 [.ptr b 0, S t, .int .i64 mk] H Q := by
 have hlim : limit = 1000000 := rfl
 refine fa func20 b20_eq v20_eq r20_eq (.inr (by simp)) ?_
 refine zaw ?_
 refine zae rfl ?_; (repeat ((refine zaa ?_; first | refine za5 rfl ?_ | refine zad FpF.h (by decide) rfl ?_ | refine zaf PlF.h rfl hL.row rfl ?_); refine zae rfl ?_))
 refine zaa (zaj rfl rfl rfl (Rep2_ok hd ?_))
 refine zik PlF.h rfl hL.row rfl rfl ?_
 refine zik PlF.h rfl hL.row rfl rfl ?_
 refine zaa (zkd rfl rfl (by simp only [List.length_replicate, pow63]; omega) ?_)
 refine zaa (zbz BsF.h ZeF.h PsF.h rfl ?_)
 refine zaa (zar (n := 1) ElF.h (by decide) rfl rfl fun H1 hk1 hr1 => ?_)
 have ho1 := hL.own.keep0 hk1
 have hs1 := IsRow.sl (es := 3) (n := 1) hr1 rfl (Nat.le_refl 1)
 refine zaa (zdu rfl rfl rfl ElF.h (.inl UnF.h) rfl ho1 rfl hs1.elems hs1.1 rfl (by omega) fun u2 H2 ho2 hk2 hb2 => ?_)
 have hr2 := (hL.row.keep0 hk1).keep hk2 (.inl hL.ne)
 refine zae rfl ?_; (repeat ((refine zaa ?_; first | refine za5 rfl ?_ | refine zad FpF.h (by decide) rfl ?_); refine zae rfl ?_))
 refine zaa (zcc SzF.h rfl rfl (zfa ho2) hr2 (by simp) fun H3 hk3 hn3 hr3 => ?_)
 have hne : ¬ ownB u2 b := fun h => (hb2 b h).elim hL.ne fun h => by have := hL.lt; have := hk1.nx; omega
 have k1 : Wk b H1 u H3 u2 := ⟨(hk2.wide fun c hc => Or.inr hc).trans hk3 fun c hc => .inl (.inl hc), hb2⟩
 refine zab ⟨_, rfl, hQ u2 H3 ((Wk.of hk1).trans k1) ⟨hr3, ?_, hne⟩⟩
 have ho3 := ho2.keep hk3 fun c hc h => hne (h ▸ hc)
 simp only [Ls.put, List.length_append, zuu]
 subst ht
 exact ho3
theorem zty (hL : Li b H u s) (hm : s.mark < 1000000) (hQ : ∀ H', Wk b H u H' u → Li b H' u { s with mark := s.mark + 1 } → Q (.int .i64 (((s.mark + 1 : Nat)) : Int)) H') : WpF prog tb gl 23 [.ptr b 0] H Q := by
 refine fa func23 b23_eq v23_eq r23_eq (.inr (by simp)) ?_
 refine zac ?_
 refine zae rfl ?_
 refine zab (zac ?_)
 refine zae rfl ?_; (repeat ((refine zaa ?_; first | refine za5 rfl ?_ | refine zad FpF.h (by decide) rfl ?_ | refine zaf PlF.h rfl hL.row rfl ?_); refine zae rfl ?_))
 refine zaa (za0 (c := ((s.mark + 1 : Nat) : Int)) rfl rfl Ju ?_)
 refine zae rfl ?_; (repeat ((refine zaa ?_; first | refine za5 rfl ?_ | refine zad FpF.h (by decide) rfl ?_); refine zae rfl ?_))
 refine zaa (zcc SzF.h rfl rfl rfl hL.row (by simp) fun H1 hk1 hn1 hr1 => ?_)
 have hL1 : Li b H1 u { s with mark := s.mark + 1 } := ⟨hr1, hL.own.keep hk1 fun c hc h => hL.ne (h ▸ hc), hL.ne⟩
 have hr := hL1.row
 refine zab (zac ?_)
 refine zae rfl ?_; (repeat ((refine zaa ?_; first | refine za5 rfl ?_ | refine zad FpF.h (by decide) rfl ?_ | refine zaf PlF.h rfl hr rfl ?_); refine zae rfl ?_))
 exact zab (zao ⟨_, rfl, hQ H1 ⟨hk1.wide fun c hc => Or.inl hc, fun c hc => .inl hc⟩ hL1⟩)
theorem zmr {ok : Bool} {ws : Ws} {d : Nat} (h : ok = true) (hd : d ≤ 60) : outT ok ws d = .tup [S (joinW ws), .int .i64 0] := by
 unfold outT
 rw [h, if_neg (by simp), if_neg (by omega)]
theorem zra {x : Exp} {c : List AV} (hE : IsE A H c x) (hA : ∀ a, A a → a < H.nx) (hK : KeysIn H) (hd : sizE x < 1000) (ho : okE x = true) (hp : dpE x 1 ≤ 60) (hQ : ∀ H', Keep Non H H' → Q (S (joinW (wdE x))) H') : WpF prog tb gl 115 [.agg c] H Q := by
 obtain ⟨v, hc, _⟩ := hE.out
 have hc4 : c.length = 4 := by rw [hc]; rfl
 refine fa func115 b115_eq v115_eq r115_eq (.inr (by simp)) ?_
 refine zac ?_
 refine zaa (zcd rfl fun H1 hk1 hr1 => ?_)
 have hr1 : IsRow H1 H.nx c false false := hr1
 refine zae rfl ?_
 refine zab (zac ?_)
 refine zaa (zaq (k := 4) PlF.h hc4 (by decide) rfl hr1.pts ?_)
 refine zaa (zaj rfl rfl rfl (zm4 (hE.keep hk1) (fun a ha => Nat.lt_of_lt_of_le (hA a ha) hk1.nx) (hK.keep hk1) hd fun H2 hk2 => ?_))
 rw [zmr ho hp]
 refine zae rfl ?_
 refine zab (zac ?_)
 refine zae rfl ?_
 exact zab (zao ⟨_, rfl, hQ H2 (hk1.trans0 hk2)⟩)
theorem zva {x : Stm} {c : List AV} (hE : IsS A H c x) (hA : ∀ a, A a → a < H.nx) (hK : KeysIn H) (hd : sizS x < 900) (ho : okS x = true) (hp : dpS x 1 ≤ 60) (hQ : ∀ H', Keep Non H H' → Q (S (joinW (wdS x))) H') : WpF prog tb gl 116 [.agg c] H Q := by
 have hrB : rB = 140737488351232 := rfl
 have hnums := zmc hE
 have hE0 := hE
 obtain ⟨ve, vb, vf, rfl, _⟩ := hE.out
 refine fa func116 b116_eq v116_eq r116_eq (.inr (by simp)) ?_
 refine zac ?_
 refine zaa (zcd rfl fun H1 hk1 hr1 => ?_)
 have hr1 : IsRow H1 H.nx [.int .i64 x.kind, S x.name, S x.proc, .int .i64 x.num, ve, vb, vf] false false := hr1
 refine zae rfl ?_
 refine zab (zac ?_)
 refine zaa (zaq (k := 7) PlF.h rfl (by decide) rfl hr1.pts ?_)
 refine zaa (zar (n := 1) ElF.h (by decide) rfl rfl fun H2 hk2 hr2 => ?_)
 refine zaa (zbz BsF.h ZeF.h PsF.h rfl ?_)
 refine zaa (zar (n := 1) ElF.h (by decide) rfl rfl fun H3 hk3 hr3 => ?_)
 refine zaa (zbz BsF.h ZeF.h PsF.h rfl ?_)
 obtain ⟨b2, hb2⟩ : ∃ b, b = H1.nx := ⟨_, rfl⟩
 obtain ⟨b3, hb3⟩ : ∃ b, b = H2.nx := ⟨_, rfl⟩
 rw [← hb2] at hr2 hr3 ⊢
 rw [← hb3] at hr3 ⊢
 have hk03 := hk1.trans0 (hk2.trans0 hk3)
 have n1 := hk1.nx
 have n2 := hk2.nx
 have n3 := hk3.nx
 have l2 := hr2.1
 have l3 := hr3.1
 have hB : IsLs (fun c => A c ∨ c = b2 ∨ c = b3) (IsS fun c => A c ∨ c = b2 ∨ c = b3) 7 H3 (.sl b2 0 1 1) [x] := zi2 (hr2.keep0 hk3) rfl (.inr (.inl rfl)) (isS_wide (hE0.keep hk03) fun _ h => .inl h)
 have hP : IsLs (fun c => A c ∨ c = b2 ∨ c = b3) (IsPc fun c => A c ∨ c = b2 ∨ c = b3) 4 H3 (.sl b3 0 1 1) [⟨[109, 97, 105, 110], [], 0, [x]⟩] :=
  zi2 hr3 rfl (.inr (.inr rfl)) ⟨.nils, .sl b2 0 1 1, rfl, by rw [hrB]; show (4 : Nat) ≤ 140737488351232; decide, ⟨by show (-9223372036854775808 : Int) ≤ 0; decide, by show (0 : Int) < 9223372036854775808; decide⟩, Nat.zero_le _, by rw [hrB]; simp, ⟨[], ⟨rfl, .inl ⟨.inl rfl, rfl⟩⟩, .nil, fun _ h => by cases h⟩, hB⟩
 have hsz : sizPs [⟨[109, 97, 105, 110], [], 0, [x]⟩] = 1 + sizS x := by simp [sizPs, sizP, sizM, sizSs]
 have hokP : okPs [⟨[109, 97, 105, 110], [], 0, [x]⟩] = true := by
  have : nameB [109, 97, 105, 110] = true := by decide
  simp [okPs, okP, okH, okMs, okSs, ho, this]
 have hdpP : dpPs [⟨[109, 97, 105, 110], [], 0, [x]⟩] ≤ 60 := by simp only [dpPs, dpSs]; omega
 have hwd : wdPs [⟨[109, 97, 105, 110], [], 0, [x]⟩] = [[112, 114, 111, 99], [109, 97, 105, 110], [40], [41], [123]] ++ (wdS x ++ [[125]]) := by simp [wdPs, wdP, wdH, wdMs, wdSs]
 have hjoin : joinW (wdPs [⟨[109, 97, 105, 110], [], 0, [x]⟩]) = [112, 114, 111, 99, 32, 109, 97, 105, 110, 32, 40, 32, 41, 32, 123, 32] ++ (joinW (wdS x) ++ [32, 125]) := by
  rw [hwd, zfs (by simp) (by simp), zfs (wdS_ne x) (by simp)]
  simp [joinW]
 have hlen : (joinW (wdS x)).length < 10000000 := by
  have h1 := zft (zvo ho hnums)
  have h2 := zpk x 1 ⟨[], false, 0⟩
  rw [(zpj x 1).yes ⟨[], false, 0⟩ rfl ho] at h2
  simp only [List.nil_append, List.length_nil] at h2
  omega
 refine zaa (zaj rfl rfl rfl (zlq (p := [⟨[109, 97, 105, 110], [], 0, [x]⟩]) ⟨by rw [hrB]; simp, _, rfl, hP⟩ (fun a ha => ?_) (hK.keep hk03) (by omega) fun H4 hk4 => ?_))
 ·rcases ha with ha | ha | ha
  ·have := hA a ha; omega
  ·omega
  ·omega
 rw [zmr hokP hdpP, hjoin]
 refine zae rfl ?_
 refine zab (zac ?_)
 refine zae rfl ?_
 refine zaa (zaj rfl rfl rfl (zlr (by simp only [List.length_append, List.length_cons, List.length_nil]; omega) ?_))
 refine zaa (zaj rfl rfl rfl (zg5 (by simp only [List.length_cons, List.length_nil]; omega) ?_))
 refine zae rfl ?_
 exact zab (zao ⟨_, rfl, hQ H4 (hk03.trans0 hk4)⟩)
theorem vhead_ok {p : Prc} {c : List AV} (hP : IsPc A H c p) (hA : ∀ a, A a → a < H.nx) (hK : KeysIn H) (hd : sizP p < 1000) (ho : okH p = true) (hQ : ∀ H', Keep Non H H' → Q (S (joinW (wdH p ++ [[123]]))) H') : WpF prog tb gl 21 [.agg c] H Q := by
 have hrB : rB = 140737488351232 := rfl
 obtain ⟨vm, vb, rfl, hnm, hty, hpl, hbl, hLm, hLb⟩ := hP
 refine fa func21 b21_eq v21_eq r21_eq (.inr (by simp)) ?_
 refine zac ?_
 refine zaa (zcd rfl fun H1 hk1 hr1 => ?_)
 have hr1 : IsRow H1 H.nx [S p.name, vm, .int .i64 p.type, vb] false false := hr1
 refine zae rfl ?_
 refine zab (zac ?_)
 refine zae rfl ?_; (repeat (((refine zaa (zad FpF.h (by decide) rfl ?_))); refine zae rfl ?_))
 refine zaa (zcc (u := .nils) SzF.h rfl rfl rfl hr1 (by simp) fun H2 hk2 hn2 hr2 => ?_)
 have hr2 : IsRow H2 H.nx [S p.name, vm, .int .i64 p.type, .nils] false false := hr2
 have hk02 : Keep Non H H2 := hk1.trans hk2 fun c hc => .inr (by rw [hc]; exact Nat.le_refl _)
 refine zab (zac ?_)
 refine zaa (zaq (k := 4) PlF.h rfl (by decide) rfl hr2.pts ?_)
 refine zaa (zar (n := 1) ElF.h (by decide) rfl rfl fun H3 hk3 hr3 => ?_)
 refine zaa (zbz BsF.h ZeF.h PsF.h rfl ?_)
 obtain ⟨b3, hb3⟩ : ∃ b, b = H2.nx := ⟨_, rfl⟩
 rw [← hb3] at hr3 ⊢
 have hk03 := hk02.trans0 hk3
 have n2 := hk02.nx
 have n3 := hk3.nx
 have l3 := hr3.1
 have hPP : IsLs (fun c => A c ∨ c = b3) (IsPc fun c => A c ∨ c = b3) 4 H3 (.sl b3 0 1 1) [⟨p.name, p.params, p.type, []⟩] :=
  zi2 hr3 rfl (.inr rfl) ⟨vm, .nils, rfl, hnm, hty, hpl, Nat.zero_le _, zne (hLm.keep hk03 fun _ _ _ h => h) (fun _ h => .inl h) fun _ _ h => h, ⟨[], ⟨rfl, .inl ⟨.inl rfl, rfl⟩⟩, .nil, fun _ h => by cases h⟩⟩
 have hsz : sizPs [⟨p.name, p.params, p.type, []⟩] ≤ sizP p := by simp only [sizPs, sizP, sizSs]; omega
 have hokP : okPs [⟨p.name, p.params, p.type, []⟩] = true := by
  have h : okH ⟨p.name, p.params, p.type, []⟩ = okH p := rfl
  simp [okPs, okP, okSs, h, ho]
 have hdpP : dpPs [⟨p.name, p.params, p.type, []⟩] ≤ 60 := by simp [dpPs, dpSs]
 have hwd : wdPs [⟨p.name, p.params, p.type, []⟩] = (wdH p ++ [[123]]) ++ [[125]] := by
  have h : wdH ⟨p.name, p.params, p.type, []⟩ = wdH p := rfl
  simp [wdPs, wdP, wdSs, h]
 have hjoin : joinW (wdPs [⟨p.name, p.params, p.type, []⟩]) = joinW (wdH p ++ [[123]]) ++ [32, 125] := by
  rw [hwd, zfs (by simp) (by simp)]
  simp [joinW]
 have hlen : (joinW (wdH p ++ [[123]])).length < 10000000 := by
  have h1 := zft ((zvk ho).app (Sh.cons (by decide) Sh.nil) : Sh (wdH p ++ [[123]]))
  have h2 := zkw p ⟨[], false, 0⟩
  rw [(zkv p).yes ⟨[], false, 0⟩ rfl ho] at h2
  have h3 : sizP p = 1 + p.name.length / 8 + p.params.length + sizM p.params + sizSs p.body := rfl
  simp only [List.nil_append, List.length_nil] at h2
  simp only [List.length_append, List.length_cons, List.length_nil] at h1
  omega
 refine zaa (zaj rfl rfl rfl (zlq (p := [⟨p.name, p.params, p.type, []⟩]) ⟨by rw [hrB]; simp, _, rfl, hPP⟩ (fun a ha => ?_) (hK.keep hk03) (by omega) fun H4 hk4 => ?_))
 ·rcases ha with ha | ha
  ·have := hA a ha; omega
  ·omega
 rw [zmr hokP hdpP, hjoin]
 refine zae rfl ?_
 refine zab (zac ?_)
 refine zae rfl ?_
 refine zaa (zaj rfl rfl rfl (zg5 (by simp only [List.length_cons, List.length_nil]; omega) ?_))
 refine zae rfl ?_
 exact zab (zao ⟨_, rfl, hQ H4 (hk03.trans0 hk4)⟩)
end
end Go.Proofs.YtbmedhaopnhggaaGreatDoor
