/-
  A program's rows (view.List and what it calls), walked. Conditions: how large the program is.
-/
import Derived.Test.YtniflgldgnmiaaaGreatDoorPrs8
namespace Go.Proofs.YtniflgldgnmiaaaGreatDoor
open Go Eng Tryz
set_option maxHeartbeats 0
instance ifp_65_1:FpF prog 65 1 ⟨3,false,1⟩:=⟨by kernel_rfl⟩
instance ipl_27:PlF prog 27 ⟨0,false,1⟩:=⟨by kernel_rfl⟩
instance ifp_65_0:FpF prog 65 0 ⟨0,true,3⟩:=⟨by kernel_rfl⟩
instance ifp_63_2:FpF prog 63 2 ⟨2,false,1⟩:=⟨by kernel_rfl⟩
instance ifp_63_0:FpF prog 63 0 ⟨0,false,1⟩:=⟨by kernel_rfl⟩
instance ize_32:ZeF prog 32 (.agg [.str 0 0,.int .i64 0,.int .i64 0]):=⟨by kernel_rfl⟩
instance ibs_32:BsF prog 32:=⟨by kernel_rfl⟩
instance ips_32:PsF prog 32 [(0,1),(1,1),(2,1)]:=⟨by kernel_rfl⟩
instance iel_27:ElF prog 27 ⟨32,3,.agg [.str 0 0,.int .i64 0,.int .i64 0]⟩:=⟨by kernel_rfl⟩
instance iun_27:UnF prog 27 (.slice 32):=⟨by kernel_rfl⟩
instance isz_27:SzF prog 27 1:=⟨by kernel_rfl⟩
instance ifp_63_1:FpF prog 63 1 ⟨1,false,1⟩:=⟨by kernel_rfl⟩
instance ize_65:ZeF prog 65 (.agg [.int .i64 0,.int .i64 0,.int .i64 0,.nils]):=⟨by kernel_rfl⟩
instance ibs_65:BsF prog 65:=⟨by kernel_rfl⟩
instance ize_63:ZeF prog 63 (.agg [.int .i64 0,.int .i64 0,.int .i64 0]):=⟨by kernel_rfl⟩
instance ibs_63:BsF prog 63:=⟨by kernel_rfl⟩
instance ips_63:PsF prog 63 [(0,1),(1,1),(2,1)]:=⟨by kernel_rfl⟩
instance isz_63:SzF prog 63 3:=⟨by kernel_rfl⟩
def v17:CV:=.reg [Jd 6 0,Jd 7 0,Jm 8 7,Jg 9 65 8 1,Jf 10 27 9,Jd 11 0,Jm 12 11,Jg 13 65 12 0,Jg 14 63 13 2,Jf 15 3 14,Jd 17 1,Jd 19 0,Jm 20 19,Jg 21 65 20 0,Jg 22 63 21 0,Jf 23 3 22,Jd 24 2,Jc 16 (.call ⟨.value (.func 53),#[(.const (.string ⟨⟨[32,32]⟩⟩)),(Ja 15)],#[9,3]⟩),.ck 10 (.load 27 (Ja 9)),.ck 23 (.load 3 (Ja 22)),Jc 18 (.binOp .add 9 (Ja 16) (Ja 17) 9),Jc 25 (.build 32 #[(0,(Ja 18)),(1,(Ja 23)),(2,(Ja 24))]),Jc 26 (.buildSlice 27 1 #[(0,(Ja 25))]),Jc 27 (.call ⟨.builtin .append,#[(Ja 10),(Ja 26)],#[27,27]⟩),Jm 28 6,Jg 29 65 28 1,.op none (.store 27 (Ja 29) (Ja 27))]
noncomputable def b17:Code:=f17.body.getD .skip
theorem b17_eq:f17.body=some b17:=by kernel_rfl
theorem v17_eq:viewC prog b17=some v17:=by kernel_rfl
theorem r17_eq:f17.results.toList=[]:=by kernel_rfl
def v20t2:CV:=Jt [Jd 12 0,Jm 13 12,Jg 14 65 13 0,Jg 15 63 14 1,Jf 16 3 15,Jh 2 16] (.ret)
def v20t1:CV:=Jt [Jd 3 0,Jm 4 3,Jg 5 65 4 0,Jg 6 63 5 1,Jf 7 3 6,Jc 8 (.binOp .add 3 (Ja 7) (Jb 1) 3),Jm 9 3,Jg 10 65 9 0,Jg 11 63 10 1,.op none (.store 3 (Ja 11) (Ja 8))] v20t2
def v20:CV:=Jt [Ji 2 0] v20t1
noncomputable def b20:Code:=f20.body.getD .skip
theorem b20_eq:f20.body=some b20:=by kernel_rfl
theorem v20_eq:viewC prog b20=some v20:=by kernel_rfl
theorem r20_eq:f20.results.toList=[.tmp 2]:=by kernel_rfl
def v19k0:CV:=Jt [Jk 19 67 15 17,Jf 20 148 19,Jc 5 (.alloc 148),.op none (.store 148 (Ja 5) (Ja 20))] (.reg [Jd 21 0,Jf 22 148 5,Jo 23 55 21 22 61 148])
def v19l0t2:CV:=.seq (.block 1 v19k0) (.reg [Jc 24 (.binOp .add 3 (Ja 17) (Jb 1) 3),Jd 17 24])
def v19l0t1:CV:=.seq (.cond (Ja 18) (.skip) (.exit 0)) v19l0t2
def v19l0:CV:=Jt [Jc 18 (.binOp .lss 3 (Ja 17) (Ja 16) 3)] v19l0t1
def v19h1:CV:=Jt [Jd 15 1,Jj 16 15 67,Je 17 0] (.block 0 (.loop v19l0))
def v19t1:CV:=.seq v19h1 (.reg [Jd 25 0,Jm 26 25,Jg 27 65 26 0,Jg 28 63 27 2,Jf 29 3 28,Jc 30 (.binOp .sub 3 (Ja 29) (Jb 1) 3),Jm 31 25,Jg 32 65 31 0,Jg 33 63 32 2,.op none (.store 3 (Ja 33) (Ja 30))])
def v19:CV:=Jt [Jd 6 0,Jm 7 6,Jg 8 65 7 0,Jg 9 63 8 2,Jf 10 3 9,Jc 11 (.binOp .add 3 (Ja 10) (Jb 1) 3),Jm 12 6,Jg 13 65 12 0,Jg 14 63 13 2,.op none (.store 3 (Ja 14) (Ja 11))] v19t1
noncomputable def b19:Code:=f19.body.getD .skip
theorem b19_eq:f19.body=some b19:=by kernel_rfl
theorem v19_eq:viewC prog b19=some v19:=by kernel_rfl
theorem r19_eq:f19.results.toList=[]:=by kernel_rfl
def v55c1:CV:=Jt [Jd 34 0,Jc 35 (.call ⟨.value (.func 17),#[(Ja 34),(.const (.string ⟨⟨[125,32,101,108,115,101,32,123]⟩⟩)),(Jb (-1))],#[61,9,3]⟩)] (.reg [Jd 36 0,Jg 37 148 3 6,Jf 38 67 37,Jo 39 19 36 38 61 67])
def v55c0h2:CV:=Jt [Jg 30 148 3 6,Jf 31 67 30,Jj 32 31 67,Jc 33 (.binOp .gtr 3 (Ja 32) (Jb 0) 3)] (.cond (Ja 33) v55c1 (.skip))
def v55c0t2:CV:=.seq v55c0h2 (.reg [Jd 40 0,Jc 41 (.call ⟨.value (.func 17),#[(Ja 40),(.const (.string ⟨⟨[125]⟩⟩)),(Jb (-1))],#[61,9,3]⟩)])
def v55c0t1:CV:=Jt [Jd 26 0,Jg 27 148 3 5,Jf 28 67 27,Jo 29 19 26 28 61 67] v55c0t2
def v55c0:CV:=Jt [Jd 16 0,Jg 17 148 3 4,Jf 18 146 17,Jc 19 (.indexAddr 146 (Ja 18) (Jb 0)),Jf 20 165 19,Jn 21 106 20 165,Jc 22 (.binOp .add 9 (.const (.string ⟨⟨[105,102,32,40,32]⟩⟩)) (Ja 21) 9),Jc 23 (.binOp .add 9 (Ja 22) (.const (.string ⟨⟨[32,41,32,123]⟩⟩)) 9),Jd 24 4,Jc 25 (.call ⟨.value (.func 17),#[(Ja 16),(Ja 23),(Ja 24)],#[61,9,3]⟩)] v55c0t1
def v55c3t1:CV:=Jt [Jd 54 0,Jg 55 148 3 5,Jf 56 67 55,Jo 57 19 54 56 61 67] (.reg [Jd 58 0,Jc 59 (.call ⟨.value (.func 17),#[(Ja 58),(.const (.string ⟨⟨[125]⟩⟩)),(Jb (-1))],#[61,9,3]⟩)])
def v55c3:CV:=Jt [Jd 44 0,Jg 45 148 3 4,Jf 46 146 45,Jc 47 (.indexAddr 146 (Ja 46) (Jb 0)),Jf 48 165 47,Jn 49 106 48 165,Jc 50 (.binOp .add 9 (.const (.string ⟨⟨[119,104,105,108,101,32,40,32]⟩⟩)) (Ja 49) 9),Jc 51 (.binOp .add 9 (Ja 50) (.const (.string ⟨⟨[32,41,32,123]⟩⟩)) 9),Jd 52 4,Jc 53 (.call ⟨.value (.func 17),#[(Ja 44),(Ja 51),(Ja 52)],#[61,9,3]⟩)] v55c3t1
def v55c2:CV:=Jt [Jc 43 (.binOp .eql 3 (Ja 8) (Jb 5) 3),Jh 42 43] (.cond (Ja 42) v55c3 (.reg [Jd 9 0,Jf 10 148 3,Jn 11 107 10 148,Jd 12 4,Jc 13 (.call ⟨.value (.func 17),#[(Ja 9),(Ja 11),(Ja 12)],#[61,9,3]⟩)]))
def v55k0:CV:=Jt [Jc 15 (.binOp .eql 3 (Ja 8) (Jb 4) 3),Jh 14 15] (.cond (Ja 14) v55c0 v55c2)
def v55t2:CV:=Jt [Jg 7 148 3 0,Jf 8 3 7] (.block 0 v55k0)
def v55t1:CV:=Jt [Jd 5 0,Jn 6 20 5 61,Jh 4 6] v55t2
def v55:CV:=Jt [Jc 3 (.box 148 (Ja 1))] v55t1
noncomputable def b55:Code:=f55.body.getD .skip
theorem b55_eq:f55.body=some b55:=by kernel_rfl
theorem v55_eq:viewC prog b55=some v55:=by kernel_rfl
theorem r55_eq:f55.results.toList=[]:=by kernel_rfl
def v106t2:CV:=Jt [Jd 10 3,Jh 2 10] (.ret)
def v106t1:CV:=Jt [Jf 6 165 1,Jn 7 160 6 165,Jd 5 7,Jl 8 5 0,Jl 9 5 1,Jh 3 8,Jh 4 9] v106t2
def v106:CV:=Jt [Jc 1 (.box 165 (Ja 0)),Jc 2 (.assign (.const (.string ⟨⟨[]⟩⟩)))] v106t1
noncomputable def b106:Code:=f106.body.getD .skip
theorem b106_eq:f106.body=some b106:=by kernel_rfl
theorem v106_eq:viewC prog b106=some v106:=by kernel_rfl
theorem r106_eq:f106.results.toList=[.tmp 2]:=by kernel_rfl
def v107t2:CV:=Jt [Jd 14 3,Jc 15 (.call ⟨.value (.func 161),#[(Ja 14),(.const (.string ⟨⟨[112,114,111,99,32,109,97,105,110,32,40,32,41,32,123,32]⟩⟩))],#[9,9]⟩),Jc 16 (.call ⟨.value (.func 54),#[(Ja 15),(.const (.string ⟨⟨[32,125]⟩⟩))],#[9,9]⟩),Jh 2 16] (.ret)
def v107t1:CV:=Jt [Jf 6 148 1,Jc 7 (.buildSlice 67 1 #[(0,(Ja 6))]),Jc 8 (.build 69 #[(0,(.const (.string ⟨⟨[109,97,105,110]⟩⟩))),(3,(Ja 7))]),Jc 9 (.buildSlice 22 1 #[(0,(Ja 8))]),Jc 10 (.build 24 #[(0,(Ja 9))]),Jn 11 16 10 24,Jd 5 11,Jl 12 5 0,Jl 13 5 1,Jh 3 12,Jh 4 13] v107t2
def v107:CV:=Jt [Jc 1 (.box 148 (Ja 0)),Jc 2 (.assign (.const (.string ⟨⟨[]⟩⟩)))] v107t1
noncomputable def b107:Code:=f107.body.getD .skip
theorem b107_eq:f107.body=some b107:=by kernel_rfl
theorem v107_eq:viewC prog b107=some v107:=by kernel_rfl
theorem r107_eq:f107.results.toList=[.tmp 2]:=by kernel_rfl
def v18t3:CV:=Jt [Jd 13 3,Jc 14 (.call ⟨.value (.func 54),#[(Ja 13),(.const (.string ⟨⟨[32,125]⟩⟩))],#[9,9]⟩),Jh 2 14] (.ret)
def v18t2:CV:=Jt [Jf 7 69 1,Jc 8 (.buildSlice 22 1 #[(0,(Ja 7))]),Jc 9 (.build 24 #[(0,(Ja 8))]),Jn 10 16 9 24,Jd 6 10,Jl 11 6 0,Jl 12 6 1,Jh 3 11,Jh 4 12] v18t3
def v18t1:CV:=Jt [Jg 5 69 1 3,.op none (.store 67 (Ja 5) (.const (.slice none 0 0)))] v18t2
def v18:CV:=Jt [Jc 1 (.box 69 (Ja 0)),Jc 2 (.assign (.const (.string ⟨⟨[]⟩⟩)))] v18t1
noncomputable def b18:Code:=f18.body.getD .skip
theorem b18_eq:f18.body=some b18:=by kernel_rfl
theorem v18_eq:viewC prog b18=some v18:=by kernel_rfl
theorem r18_eq:f18.results.toList=[.tmp 2]:=by kernel_rfl
def v6c0:CV:=Jt [Jd 16 5,Jc 2 (.assign (.const (.slice none 0 0))),Jh 3 16] (.ret)
def v6h1:CV:=Jt [Jf 10 24 1,Jn 11 16 10 24,Jd 9 11,Jl 12 9 0,Jl 13 9 1,Jh 4 12,Jh 5 13] (Jt [Jd 14 5,Jc 15 (.binOp .neq 28 (Ja 14) (Jb 0) 28)] (.cond (Ja 15) v6c0 (.skip)))
def v6k0t3:CV:=Jt [Jd 36 6,Jg 37 69 8 3,Jf 38 67 37,Jo 39 19 36 38 61 67] (.reg [Jd 40 6,Jd 41 6,Jn 42 20 41 61,Jc 43 (.call ⟨.value (.func 17),#[(Ja 40),(.const (.string ⟨⟨[125]⟩⟩)),(Ja 42)],#[61,9,3]⟩)])
def v6k0t2:CV:=Jt [Jd 32 6,Jf 33 69 8,Jn 34 18 33 69,Jc 35 (.call ⟨.value (.func 17),#[(Ja 32),(Ja 34),(Jb 0)],#[61,9,3]⟩)] v6k0t3
def v6k0t1:CV:=Jt [Jd 27 6,Jd 28 7,Jc 29 (.build 63 #[(0,(Ja 28))]),Jm 30 27,Jg 31 65 30 0,.op none (.store 63 (Ja 31) (Ja 29))] v6k0t2
def v6k0:CV:=Jt [Jd 24 22,Jk 25 22 20 22,Jf 26 69 25,Jc 8 (.alloc 69),Jh 7 24,.op none (.store 69 (Ja 8) (Ja 26))] v6k0t1
def v6l1t2:CV:=.seq (.block 1 v6k0) (.reg [Jc 44 (.binOp .add 3 (Ja 22) (Jb 1) 3),Jd 22 44])
def v6l1t1:CV:=.seq (.cond (Ja 23) (.skip) (.exit 0)) v6l1t2
def v6l1:CV:=Jt [Jc 23 (.binOp .lss 3 (Ja 22) (Ja 21) 3)] v6l1t1
def v6h3:CV:=Jt [Jg 19 24 1 0,Jf 20 22 19,Jj 21 20 22,Je 22 0] (.block 0 (.loop v6l1))
def v6t4:CV:=Jt [Jd 45 6,Jm 46 45,Jg 47 65 46 1,Jf 48 27 47,Jh 2 48,Ji 3 0] (.ret)
def v6t3:CV:=.seq v6h3 v6t4
def v6t2:CV:=Jt [Jc 17 (.build 65 #[]),Jc 18 (.box 65 (Ja 17)),Jh 6 18] v6t3
def v6t1:CV:=.seq v6h1 v6t2
def v6:CV:=Jt [Jc 1 (.box 24 (Ja 0)),Jc 2 (.assign (.const (.slice none 0 0))),Ji 3 0] v6t1
noncomputable def b6:Code:=f6.body.getD .skip
theorem b6_eq:f6.body=some b6:=by kernel_rfl
theorem v6_eq:viewC prog b6=some v6:=by kernel_rfl
theorem r6_eq:f6.results.toList=[.tmp 2,.tmp 3]:=by kernel_rfl
def v161t1:CV:=Jt [Jd 5 0,Jd 6 1,Jo 7 211 5 6 9 9,Jh 4 7] (.ret)
def v161:CV:=Jt [Jc 4 (.assign (.const (.string ⟨⟨[]⟩⟩)))] v161t1
noncomputable def b161:Code:=f161.body.getD .skip
theorem b161_eq:f161.body=some b161:=by kernel_rfl
theorem v161_eq:viewC prog b161=some v161:=by kernel_rfl
theorem r161_eq:f161.results.toList=[.tmp 4]:=by kernel_rfl
def v54t1:CV:=Jt [Jd 5 0,Jd 6 1,Jo 7 105 5 6 9 9,Jh 4 7] (.ret)
def v54:CV:=Jt [Jc 4 (.assign (.const (.string ⟨⟨[]⟩⟩)))] v54t1
noncomputable def b54:Code:=f54.body.getD .skip
theorem b54_eq:f54.body=some b54:=by kernel_rfl
theorem v54_eq:viewC prog b54=some v54:=by kernel_rfl
theorem r54_eq:f54.results.toList=[.tmp 4]:=by kernel_rfl
def v211c0:CV:=Jt [Jd 8 0,Jd 9 1,Jj 10 9 9,Jc 11 (.slice 9 (Ja 8) (some (Ja 10)) none none),Jh 4 11] (.ret)
def v211h1:CV:=Jt [Jd 5 0,Jd 6 1,Jo 7 156 5 6 9 9] (.cond (Ja 7) v211c0 (.skip))
def v211t2:CV:=Jt [Jd 12 0,Jh 4 12] (.ret)
def v211t1:CV:=.seq v211h1 v211t2
def v211:CV:=Jt [Jc 4 (.assign (.const (.string ⟨⟨[]⟩⟩)))] v211t1
noncomputable def b211:Code:=f211.body.getD .skip
theorem b211_eq:f211.body=some b211:=by kernel_rfl
theorem v211_eq:viewC prog b211=some v211:=by kernel_rfl
theorem r211_eq:f211.results.toList=[.tmp 4]:=by kernel_rfl
def v105c0:CV:=Jt [Jd 8 0,Jd 9 0,Jj 10 9 9,Jd 11 1,Jj 12 11 9,Jc 13 (.binOp .sub 3 (Ja 10) (Ja 12) 3),Jc 14 (.slice 9 (Ja 8) none (some (Ja 13)) none),Jh 4 14] (.ret)
def v105h1:CV:=Jt [Jd 5 0,Jd 6 1,Jo 7 159 5 6 9 9] (.cond (Ja 7) v105c0 (.skip))
def v105t2:CV:=Jt [Jd 15 0,Jh 4 15] (.ret)
def v105t1:CV:=.seq v105h1 v105t2
def v105:CV:=Jt [Jc 4 (.assign (.const (.string ⟨⟨[]⟩⟩)))] v105t1
noncomputable def b105:Code:=f105.body.getD .skip
theorem b105_eq:f105.body=some b105:=by kernel_rfl
theorem v105_eq:viewC prog b105=some v105:=by kernel_rfl
theorem r105_eq:f105.results.toList=[.tmp 4]:=by kernel_rfl
def v156t1:CV:=Jt [Jd 5 0,Jj 6 5 9,Jd 7 1,Jj 8 7 9,Jc 9 (.binOp .geq 3 (Ja 6) (Ja 8) 3),Jd 10 9,Jp 10 true 11 0,Jp 10 true 12 1,Js 10 true 13 (.call ⟨.builtin .len,#[(Ja 12)],#[9]⟩),Js 10 true 14 (.slice 9 (Ja 11) none (some (Ja 13)) none),Jp 10 true 15 1,Js 10 true 16 (.binOp .eql 9 (Ja 14) (Ja 15) 9),Jc 17 (.pick (Ja 10) (Ja 16) (.const (.bool false))),Jh 4 17] (.ret)
def v156:CV:=Jt [Jc 4 (.assign (.const (.bool false)))] v156t1
noncomputable def b156:Code:=f156.body.getD .skip
theorem b156_eq:f156.body=some b156:=by kernel_rfl
theorem v156_eq:viewC prog b156=some v156:=by kernel_rfl
theorem r156_eq:f156.results.toList=[.tmp 4]:=by kernel_rfl
def v159t1:CV:=Jt [Jd 5 0,Jj 6 5 9,Jd 7 1,Jj 8 7 9,Jc 9 (.binOp .geq 3 (Ja 6) (Ja 8) 3),Jd 10 9,Jp 10 true 11 0,Jp 10 true 12 0,Js 10 true 13 (.call ⟨.builtin .len,#[(Ja 12)],#[9]⟩),Jp 10 true 14 1,Js 10 true 15 (.call ⟨.builtin .len,#[(Ja 14)],#[9]⟩),Js 10 true 16 (.binOp .sub 3 (Ja 13) (Ja 15) 3),Js 10 true 17 (.slice 9 (Ja 11) (some (Ja 16)) none none),Jp 10 true 18 1,Js 10 true 19 (.binOp .eql 9 (Ja 17) (Ja 18) 9),Jc 20 (.pick (Ja 10) (Ja 19) (.const (.bool false))),Jh 4 20] (.ret)
def v159:CV:=Jt [Jc 4 (.assign (.const (.bool false)))] v159t1
noncomputable def b159:Code:=f159.body.getD .skip
theorem b159_eq:f159.body=some b159:=by kernel_rfl
theorem v159_eq:viewC prog b159=some v159:=by kernel_rfl
theorem r159_eq:f159.results.toList=[.tmp 4]:=by kernel_rfl
theorem zgh {a b:Ws}(ha:a≠[]) (hb:b≠[]):joinW (a++b)=joinW a++32::joinW b:=by
 cases a with
 |nil=>exact absurd rfl ha
 |cons x a=>
 cases b with
 |nil=>exact absurd rfl hb
 |cons y b=>simp [joinW,List.flatMap_append]
theorem zgi {ws:Ws}(h:Sh ws):(joinW ws).length≤41*ws.length:=Nat.le_trans zr9 (znj h)
theorem wdE_ne {x:Exp}(h:okE x=true):wdE x≠[]:=by
 cases x with
 |mk k n z l=>
 simp only [okE,J8] at h;have hform:formE (.mk k n z l)=true:=by have:=h.1.1;simp only [plainE,J8] at this;exact this.2
 rw [zj8] at hform;unfold wdE;by_cases e1:k=1
 ·rw [if_pos e1];simp
 rw [if_neg e1] at hform ⊢;by_cases e2:k=2
 ·rw [if_pos e2];simp
 rw [if_neg e2] at hform ⊢;by_cases e3:k=3
 ·rw [if_pos e3];simp
 rw [if_neg e3] at hform ⊢;by_cases e4:k=4
 ·rw [if_pos e4];simp
 rw [if_neg e4] at hform ⊢;by_cases e5:k=5
 ·rw [if_pos e5];simp
 rw [if_neg e5] at hform ⊢;by_cases e6:k=6
 ·rw [if_pos e6];simp
 rw [if_neg e6] at hform;cases hform
theorem wdS_ne (x:Stm):wdS x≠[]:=by
 cases x;unfold wdS
 repeat (first|(split;simp)|simp)
mutual
theorem zj4:∀(x:Exp) {d e:Nat},d≤e→dpE x d≤dpE x e
 |.mk k n z l,d,e,h=>by
  have h1:=zne l (show d+1≤e+1 by omega);have h2:=zne l h;simp only [dpE];split
  ·omega
  split
  ·omega
  split
  ·omega
  ·exact h
theorem zne:∀(l:List Exp) {d e:Nat},d≤e→dpE0 l d≤dpE0 l e∧dpO0 l d≤dpO0 l e∧dpO1 l d≤dpO1 l e
 |[],_,_,_=>by simp [dpE0,dpO0,dpO1]
 |x::l,d,e,h=>by
  have h1:=zj4 x h;have h2:=zj4 x (show d+1≤e+1 by omega);have h3:=zne l h;simp only [dpE0,dpO0,dpO1];refine ⟨h1,?_,h3.2.1⟩;split
  ·exact h2
  ·exact h1
end
theorem zoz {d e:Nat}(h:d≤e):∀l:List Exp,dpEs d l≤dpEs e l
 |[]=>Jz _
 |x::l=>by have:=zj4 x h;have:=zoz h l;simp only [dpEs];omega
mutual
theorem zr2:∀(x:Stm) {d e:Nat},d≤e→dpS x d≤dpS x e
 |.mk k n p z ex b f,d,e,h=>by
  have h1:=zk2 b (show d+1≤e+1 by omega);have h2:=zk2 f (show d+1≤e+1 by omega);have h3:=zoz (show d+1≤e+1 by omega) ex;simp only [dpS];omega
theorem zk2:∀(l:List Stm) {d e:Nat},d≤e→dpSs l d≤dpSs l e
 |[],_,_,_=>by simp [dpSs]
 |x::l,d,e,h=>by
  have h1:=zr2 x h;have h2:=zk2 l h;simp only [dpSs];omega
end
theorem dpS_eq (x:Stm) (d:Nat):dpS x d=max d (max (dpEs (d+1) x.e) (max (dpSs x.body (d+1)) (dpSs x.els (d+1)))):=by cases x;simp only [dpS];rfl
theorem zv4 {x:Stm}{d:Nat}:∀{l:List Stm},x∈l→dpS x d≤dpSs l d
 |[],h=>by cases h
 |y::l,h=>by
  simp only [dpSs];rcases List.mem_cons.1 h with rfl|h
  ·omega
  ·have:=zv4 (d:=d) h;omega
theorem zsr {x:Stm}:∀{l:List Stm},okSs l=true→x∈l→okS x=true
 |[],_,h=>by cases h
 |y::l,ho,h=>by
  simp only [okSs,J8] at ho;rcases List.mem_cons.1 h with rfl|h
  ·exact ho.1
  ·exact zsr ho.2 h
theorem zo7 {α:Type}{A B:Nat→Prop}{R R':Heap→List AV→α→Prop}{z:Nat}{H:Heap}{v:AV}{xs:List α}(h:IsLs A R z H v xs) (hs:∀c,A c→B c) (hr:∀c a,R H c a→R' H c a):IsLs B R' z H v xs:=by
 obtain ⟨els,h1,h2,h3⟩:=h;exact ⟨els,h1.wide hs,h2.imp hr,h3⟩
theorem isE_wide {A B:Nat→Prop}{H:Heap}{c:List AV}{e:Exp}(h:IsE A H c e) (hs:∀c,A c→B c):IsE B H c e:=by
 induction h with
 |mk hk hn hs' hl els h hz he _ ih=>exact .mk hk hn hs' hl els (h.wide hs) hz he fun i c e h1 h2=>ih i c e h1 h2
theorem isS_wide {A B:Nat→Prop}{H:Heap}{c:List AV}{e:Stm}(h:IsS A H c e) (hs:∀c,A c→B c):IsS B H c e:=by
 induction h with
 |mk hk hn hs' hp hl hb hd he xs ys h hz hx _ h' hz' hy _ ih ih'=>
  exact .mk hk hn hs' hp hl hb hd (zo7 he hs fun c a h=>isE_wide h hs) xs ys (h.wide hs) hz hx (fun i c e h1 h2=>ih i c e h1 h2) (h'.wide hs) hz' hy (fun i c e h1 h2=>ih' i c e h1 h2)
theorem zwn {α:Type}{A:Nat→Prop}{R:Heap→List AV→α→Prop}{z:Nat}{H:Heap}{b:Nat}{c:List AV}{x:α}{tl ro:Bool}(hr:IsRow H b c tl ro) (hz:c.length=z) (hA:A b) (h:R H c x):IsLs A R z H (.sl b 0 1 1) [x]:=
 ⟨[c],⟨by simp [hz],.inr ⟨b,0,c,tl,ro,.inr ⟨1,rfl,Jz 1⟩,hr,.inr hA,fun j _=>by simp⟩⟩,.cons h .nil,fun d hd=>by rw [List.mem_singleton.1 hd];exact hz⟩
structure Ls where
 proc:Nat
 mark:Nat
 deep:Nat
 rows:List LR
def Ls.put (s:Ls) (ws:Ws) (mk:Int):Ls:={ s with rows:=s.rows++[⟨s.deep,ws,s.proc,mk⟩] }
def rowsC (l:List LR):List AV:=l.flatMap fun r=>rwC r.rw
theorem zx8 (a b:List LR):rowsC (a++b)=rowsC a++rowsC b:=by simp [rowsC]
structure Li (b:Nat) (H:Heap) (u:AV) (s:Ls):Prop where
 row:IsRow H b [.int .i64 (s.proc:Int),.int .i64 (s.mark:Int),.int .i64 (s.deep:Int),u] false false
 own:Own H u 3 s.rows.length (rowsC s.rows)
 ne:¬ownB u b
theorem Li.keep0 {b:Nat}{H H':Heap}{u:AV}{s:Ls}(h:Li b H u s) (k:Keep Non H H'):Li b H' u s:=⟨h.row.keep0 k,h.own.keep0 k,h.ne⟩
theorem Li.lt {b:Nat}{H:Heap}{u:AV}{s:Ls}(h:Li b H u s):b<H.nx:=h.row.1
theorem Li.fresh {b:Nat}{H H':Heap}{u:AV}{s:Ls}(h:Li b H u s) (k:H.nx<H'.nx):Off b H' u H.nx:=
 ⟨k,by have:=h.lt;omega,fun hc=>by have:=h.own.lt hc;omega⟩
section
variable {tb:List FuncId}{gl:List (List AV)}{A:Nat→Prop}{H:Heap}{u v w:AV}{b:Nat}{s:Ls}{Q:AV→Heap→Prop}
theorem zm7 {p r:List UInt8}(_hl:p.length+r.length<4611686018427387904) (hQ:Q (S r) H):WpF prog tb gl 161 [S (p++r),S p] H Q:=by
 have hpl:(p++r).length=p.length+r.length:=J1;refine fa func161 b161_eq v161_eq r161_eq (.inr (by simp)) ?_;refine zac ?_;refine zad rfl ?_;refine zab (zac ?_);refine zad rfl ?_;refine zaa (zaf rfl rfl rfl ?_);refine fa func211 b211_eq v211_eq r211_eq (.inr (by simp)) ?_;refine zac ?_;refine zad rfl ?_;refine zab (zaj (zac ?_));refine zad rfl ?_;refine zaa (zaf rfl rfl rfl ?_);refine fa func156 b156_eq v156_eq r156_eq (.inr (by simp)) ?_;refine zac ?_;refine zad rfl ?_;refine zab (zac ?_);refine zad rfl ?_;refine zaa (zb4 rfl rfl rfl UnF.h rfl ?_);refine zad rfl ?_;refine zaa (zb4 rfl rfl rfl UnF.h rfl ?_);refine zaa (zew rfl rfl (by omega) ?_);refine zad rfl ?_;refine zav rfl (zal rfl (zav rfl (zal rfl (zav rfl (zb4 rfl rfl rfl UnF.h rfl ?_)))));refine zav rfl (zdl (a:=0) (c:=p.length) UnF.h rfl rfl (zkt rfl rfl) (Nat.zero_le _) (by omega) ?_);refine zav rfl (zal rfl (zav rfl (zbt (d:=true) rfl rfl (by simp) ?_)));refine zaa (zaq rfl rfl rfl ?_);refine zad rfl ?_;refine zab (zao ⟨_,rfl,?_⟩);refine zab (zai rfl (zac ?_));refine zad rfl ?_;refine zaa (zb4 rfl rfl rfl UnF.h rfl ?_);refine zaa (zdl (a:=p.length) (c:=(p++r).length) UnF.h rfl (zkt rfl rfl) rfl (by omega) (Jz _) ?_);refine zad rfl ?_;refine zab (zao ⟨_,rfl,?_⟩);refine zad rfl ?_;refine zab (zao ⟨_,rfl,?_⟩);have:((p++r).drop p.length).take ((p++r).length-p.length)=r:=by rw [List.drop_left];exact Qd (by omega)
 rw [this];exact hQ
theorem zh2 {p r:List UInt8}(hl:p.length+r.length<4611686018427387904) (hQ:Q (S r) H):WpF prog tb gl 54 [S (r++p),S p] H Q:=by
 have hpl:(r++p).length=r.length+p.length:=J1;refine fa func54 b54_eq v54_eq r54_eq (.inr (by simp)) ?_;refine zac ?_;refine zad rfl ?_;refine zab (zac ?_);refine zad rfl ?_;refine zaa (zaf rfl rfl rfl ?_);refine fa func105 b105_eq v105_eq r105_eq (.inr (by simp)) ?_;refine zac ?_;refine zad rfl ?_;refine zab (zaj (zac ?_));refine zad rfl ?_;refine zaa (zaf rfl rfl rfl ?_);refine fa func159 b159_eq v159_eq r159_eq (.inr (by simp)) ?_;refine zac ?_;refine zad rfl ?_;refine zab (zac ?_);refine zad rfl ?_;refine zaa (zb4 rfl rfl rfl UnF.h rfl ?_);refine zad rfl ?_;refine zaa (zb4 rfl rfl rfl UnF.h rfl ?_);refine zaa (zew rfl rfl (by omega) ?_);refine zad rfl ?_;refine zav rfl (zal rfl (zav rfl (zal rfl (zav rfl (zb4 rfl rfl rfl UnF.h rfl (zav rfl (zal rfl (zav rfl (zb4 rfl rfl rfl UnF.h rfl ?_)))))))));refine zav rfl (zc4 (c:=(r.length:Int)) rfl rfl Ju ?_);refine zav rfl (zdl (a:=r.length) (c:=(r++p).length) UnF.h rfl (zkt rfl rfl) rfl (by omega) (Jz _) ?_);refine zav rfl (zal rfl (zav rfl (zbt (d:=true) rfl rfl (by rw [List.drop_left,Qd (by omega)];simp) ?_)));refine zaa (zaq rfl rfl rfl ?_);refine zad rfl ?_;refine zab (zao ⟨_,rfl,?_⟩);refine zab (zai rfl (zac ?_));refine zad rfl ?_;refine zaa (zb4 rfl rfl rfl UnF.h rfl ?_);refine zad rfl ?_;refine zaa (zb4 rfl rfl rfl UnF.h rfl ?_);refine zaa (zc4 (c:=(r.length:Int)) rfl rfl Ju ?_);refine zaa (zdl (a:=0) (c:=r.length) UnF.h rfl rfl (zkt rfl rfl) (Nat.zero_le _) (by omega) ?_);refine zad rfl ?_;refine zab (zao ⟨_,rfl,?_⟩);refine zad rfl ?_;refine zab (zao ⟨_,rfl,?_⟩);have:((r++p).drop 0).take (r.length-0)=r:=by simp
 rw [this];exact hQ
noncomputable abbrev RL (tb:List FuncId) (gl:List (List AV)) (H:Heap) (k:Nat):CR:=callFO prog tb gl 12 53 [S [32,32],.int .i64 (k:Int)] H
abbrev RR (H:Heap) (k:Nat):CR:=.ret (S (List.replicate (2*k) 32)) H
theorem rq0:RL tb gl H 0=RR H 0:=by kernel_rfl
theorem rq1:RL tb gl H 1=RR H 1:=by kernel_rfl
theorem rq2:RL tb gl H 2=RR H 2:=by kernel_rfl
theorem rq3:RL tb gl H 3=RR H 3:=by kernel_rfl
theorem rq4:RL tb gl H 4=RR H 4:=by kernel_rfl
theorem rq5:RL tb gl H 5=RR H 5:=by kernel_rfl
theorem rq6:RL tb gl H 6=RR H 6:=by kernel_rfl
theorem rq7:RL tb gl H 7=RR H 7:=by kernel_rfl
theorem rq8:RL tb gl H 8=RR H 8:=by kernel_rfl
theorem rq9:RL tb gl H 9=RR H 9:=by kernel_rfl
theorem rq10:RL tb gl H 10=RR H 10:=by kernel_rfl
theorem rq11:RL tb gl H 11=RR H 11:=by kernel_rfl
theorem rq12:RL tb gl H 12=RR H 12:=by kernel_rfl
theorem rq13:RL tb gl H 13=RR H 13:=by kernel_rfl
theorem rq14:RL tb gl H 14=RR H 14:=by kernel_rfl
theorem rq15:RL tb gl H 15=RR H 15:=by kernel_rfl
theorem rq16:RL tb gl H 16=RR H 16:=by kernel_rfl
theorem rq17:RL tb gl H 17=RR H 17:=by kernel_rfl
theorem rq18:RL tb gl H 18=RR H 18:=by kernel_rfl
theorem rq19:RL tb gl H 19=RR H 19:=by kernel_rfl
theorem rq20:RL tb gl H 20=RR H 20:=by kernel_rfl
theorem rq21:RL tb gl H 21=RR H 21:=by kernel_rfl
theorem rq22:RL tb gl H 22=RR H 22:=by kernel_rfl
theorem rq23:RL tb gl H 23=RR H 23:=by kernel_rfl
theorem rq24:RL tb gl H 24=RR H 24:=by kernel_rfl
theorem rq25:RL tb gl H 25=RR H 25:=by kernel_rfl
theorem rq26:RL tb gl H 26=RR H 26:=by kernel_rfl
theorem rq27:RL tb gl H 27=RR H 27:=by kernel_rfl
theorem rq28:RL tb gl H 28=RR H 28:=by kernel_rfl
theorem rq29:RL tb gl H 29=RR H 29:=by kernel_rfl
theorem rq30:RL tb gl H 30=RR H 30:=by kernel_rfl
theorem rq31:RL tb gl H 31=RR H 31:=by kernel_rfl
theorem rq32:RL tb gl H 32=RR H 32:=by kernel_rfl
theorem rq33:RL tb gl H 33=RR H 33:=by kernel_rfl
theorem rq34:RL tb gl H 34=RR H 34:=by kernel_rfl
theorem rq35:RL tb gl H 35=RR H 35:=by kernel_rfl
theorem rq36:RL tb gl H 36=RR H 36:=by kernel_rfl
theorem rq37:RL tb gl H 37=RR H 37:=by kernel_rfl
theorem rq38:RL tb gl H 38=RR H 38:=by kernel_rfl
theorem rq39:RL tb gl H 39=RR H 39:=by kernel_rfl
theorem rq40:RL tb gl H 40=RR H 40:=by kernel_rfl
theorem rq41:RL tb gl H 41=RR H 41:=by kernel_rfl
theorem rq42:RL tb gl H 42=RR H 42:=by kernel_rfl
theorem rq43:RL tb gl H 43=RR H 43:=by kernel_rfl
theorem rq44:RL tb gl H 44=RR H 44:=by kernel_rfl
theorem rq45:RL tb gl H 45=RR H 45:=by kernel_rfl
theorem rq46:RL tb gl H 46=RR H 46:=by kernel_rfl
theorem rq47:RL tb gl H 47=RR H 47:=by kernel_rfl
theorem rq48:RL tb gl H 48=RR H 48:=by kernel_rfl
theorem rq49:RL tb gl H 49=RR H 49:=by kernel_rfl
theorem rq50:RL tb gl H 50=RR H 50:=by kernel_rfl
theorem rq51:RL tb gl H 51=RR H 51:=by kernel_rfl
theorem rq52:RL tb gl H 52=RR H 52:=by kernel_rfl
theorem rq53:RL tb gl H 53=RR H 53:=by kernel_rfl
theorem rq54:RL tb gl H 54=RR H 54:=by kernel_rfl
theorem rq55:RL tb gl H 55=RR H 55:=by kernel_rfl
theorem rq56:RL tb gl H 56=RR H 56:=by kernel_rfl
theorem rq57:RL tb gl H 57=RR H 57:=by kernel_rfl
theorem rq58:RL tb gl H 58=RR H 58:=by kernel_rfl
theorem rq59:RL tb gl H 59=RR H 59:=by kernel_rfl
theorem rq60:RL tb gl H 60=RR H 60:=by kernel_rfl
theorem rq61:RL tb gl H 61=RR H 61:=by kernel_rfl
theorem Rep2_ok {c:Nat}(hc:c≤61) (hQ:Q (S (List.replicate (2*c) 32)) H):WpF prog tb gl 53 [S [32,32],.int .i64 (c:Int)] H Q:=by
 match c,hc,hQ with
 |0,_,hQ=>exact ⟨12,_,_,rq0,hQ⟩
 |1,_,hQ=>exact ⟨12,_,_,rq1,hQ⟩
 |2,_,hQ=>exact ⟨12,_,_,rq2,hQ⟩
 |3,_,hQ=>exact ⟨12,_,_,rq3,hQ⟩
 |4,_,hQ=>exact ⟨12,_,_,rq4,hQ⟩
 |5,_,hQ=>exact ⟨12,_,_,rq5,hQ⟩
 |6,_,hQ=>exact ⟨12,_,_,rq6,hQ⟩
 |7,_,hQ=>exact ⟨12,_,_,rq7,hQ⟩
 |8,_,hQ=>exact ⟨12,_,_,rq8,hQ⟩
 |9,_,hQ=>exact ⟨12,_,_,rq9,hQ⟩
 |10,_,hQ=>exact ⟨12,_,_,rq10,hQ⟩
 |11,_,hQ=>exact ⟨12,_,_,rq11,hQ⟩
 |12,_,hQ=>exact ⟨12,_,_,rq12,hQ⟩
 |13,_,hQ=>exact ⟨12,_,_,rq13,hQ⟩
 |14,_,hQ=>exact ⟨12,_,_,rq14,hQ⟩
 |15,_,hQ=>exact ⟨12,_,_,rq15,hQ⟩
 |16,_,hQ=>exact ⟨12,_,_,rq16,hQ⟩
 |17,_,hQ=>exact ⟨12,_,_,rq17,hQ⟩
 |18,_,hQ=>exact ⟨12,_,_,rq18,hQ⟩
 |19,_,hQ=>exact ⟨12,_,_,rq19,hQ⟩
 |20,_,hQ=>exact ⟨12,_,_,rq20,hQ⟩
 |21,_,hQ=>exact ⟨12,_,_,rq21,hQ⟩
 |22,_,hQ=>exact ⟨12,_,_,rq22,hQ⟩
 |23,_,hQ=>exact ⟨12,_,_,rq23,hQ⟩
 |24,_,hQ=>exact ⟨12,_,_,rq24,hQ⟩
 |25,_,hQ=>exact ⟨12,_,_,rq25,hQ⟩
 |26,_,hQ=>exact ⟨12,_,_,rq26,hQ⟩
 |27,_,hQ=>exact ⟨12,_,_,rq27,hQ⟩
 |28,_,hQ=>exact ⟨12,_,_,rq28,hQ⟩
 |29,_,hQ=>exact ⟨12,_,_,rq29,hQ⟩
 |30,_,hQ=>exact ⟨12,_,_,rq30,hQ⟩
 |31,_,hQ=>exact ⟨12,_,_,rq31,hQ⟩
 |32,_,hQ=>exact ⟨12,_,_,rq32,hQ⟩
 |33,_,hQ=>exact ⟨12,_,_,rq33,hQ⟩
 |34,_,hQ=>exact ⟨12,_,_,rq34,hQ⟩
 |35,_,hQ=>exact ⟨12,_,_,rq35,hQ⟩
 |36,_,hQ=>exact ⟨12,_,_,rq36,hQ⟩
 |37,_,hQ=>exact ⟨12,_,_,rq37,hQ⟩
 |38,_,hQ=>exact ⟨12,_,_,rq38,hQ⟩
 |39,_,hQ=>exact ⟨12,_,_,rq39,hQ⟩
 |40,_,hQ=>exact ⟨12,_,_,rq40,hQ⟩
 |41,_,hQ=>exact ⟨12,_,_,rq41,hQ⟩
 |42,_,hQ=>exact ⟨12,_,_,rq42,hQ⟩
 |43,_,hQ=>exact ⟨12,_,_,rq43,hQ⟩
 |44,_,hQ=>exact ⟨12,_,_,rq44,hQ⟩
 |45,_,hQ=>exact ⟨12,_,_,rq45,hQ⟩
 |46,_,hQ=>exact ⟨12,_,_,rq46,hQ⟩
 |47,_,hQ=>exact ⟨12,_,_,rq47,hQ⟩
 |48,_,hQ=>exact ⟨12,_,_,rq48,hQ⟩
 |49,_,hQ=>exact ⟨12,_,_,rq49,hQ⟩
 |50,_,hQ=>exact ⟨12,_,_,rq50,hQ⟩
 |51,_,hQ=>exact ⟨12,_,_,rq51,hQ⟩
 |52,_,hQ=>exact ⟨12,_,_,rq52,hQ⟩
 |53,_,hQ=>exact ⟨12,_,_,rq53,hQ⟩
 |54,_,hQ=>exact ⟨12,_,_,rq54,hQ⟩
 |55,_,hQ=>exact ⟨12,_,_,rq55,hQ⟩
 |56,_,hQ=>exact ⟨12,_,_,rq56,hQ⟩
 |57,_,hQ=>exact ⟨12,_,_,rq57,hQ⟩
 |58,_,hQ=>exact ⟨12,_,_,rq58,hQ⟩
 |59,_,hQ=>exact ⟨12,_,_,rq59,hQ⟩
 |60,_,hQ=>exact ⟨12,_,_,rq60,hQ⟩
 |61,_,hQ=>exact ⟨12,_,_,rq61,hQ⟩
 |_+62,h,_=>omega
theorem zgk {ws:Ws}{t:List UInt8}{mk:Int}(hL:Li b H u s) (ht:t=joinW ws) (hd:s.deep≤61) (hlen:t.length<10000000) (hn:s.rows.length+1<1000000)
  (hQ:∀u' H',Wk b H u H' u'→Li b H' u' (s.put ws mk)→Q (.tup []) H'):WpF prog tb gl 17 [.ptr b 0,S t,.int .i64 mk] H Q:=by
 have hlim:limit=1000000:=rfl;refine fa func17 b17_eq v17_eq r17_eq (.inr (by simp)) ?_;refine za1 ?_;refine zad rfl ?_;(repeat ((refine zaa ?_;first|refine zar rfl ?_|refine zae FpF.h (by decide) rfl ?_|refine zah PlF.h rfl hL.row rfl ?_);refine zad rfl ?_));refine zaa (zaf rfl rfl rfl (Rep2_ok hd ?_));refine zo3 PlF.h rfl hL.row rfl rfl ?_;refine zo3 PlF.h rfl hL.row rfl rfl ?_;refine zaa (zgm rfl rfl (by simp only [List.length_replicate,pow63];omega) ?_);refine zaa (zba BsF.h ZeF.h PsF.h rfl ?_);refine zaa (zap (n:=1) ElF.h (by decide) rfl rfl fun H1 hk1 hr1=>?_);have ho1:=hL.own.keep0 hk1;have hs1:=IsRow.sl (es:=3) (n:=1) hr1 rfl (Jz 1);refine zaa (zfg rfl rfl rfl ElF.h (.inl UnF.h) rfl ho1 rfl hs1.elems hs1.1 rfl (by omega) fun u2 H2 ho2 hk2 hb2=>?_);have hr2:=(hL.row.keep0 hk1).keep hk2 (.inl hL.ne);refine zad rfl ?_;(repeat ((refine zaa ?_;first|refine zar rfl ?_|refine zae FpF.h (by decide) rfl ?_);refine zad rfl ?_));refine zaa (zbu SzF.h rfl rfl (zoa ho2) hr2 (by simp) fun H3 hk3 hn3 hr3=>?_);have hne:¬ownB u2 b:=fun h=>(hb2 b h).elim hL.ne fun h=>by have:=hL.lt;have:=hk1.nx;omega
 have k1:Wk b H1 u H3 u2:=⟨(hk2.wide fun c hc=>Or.inr hc).trans hk3 fun c hc=>.inl (.inl hc),hb2⟩
 refine zab ⟨_,rfl,hQ u2 H3 ((Wk.of hk1).trans k1) ⟨hr3,?_,hne⟩⟩;have ho3:=ho2.keep hk3 fun c hc h=>hne (h▸hc);simp only [Ls.put,J1,zx8];subst ht;exact ho3
theorem zw4 (hL:Li b H u s) (hm:s.mark<1000000) (hQ:∀H',Wk b H u H' u→Li b H' u { s with mark:=s.mark+1 }→Q (.int .i64 (((s.mark+1:Nat)):Int)) H'):WpF prog tb gl 20 [.ptr b 0] H Q:=by
 refine fa func20 b20_eq v20_eq r20_eq (.inr (by simp)) ?_;refine zac ?_;refine zad rfl ?_;refine zab (zac ?_);refine zad rfl ?_;(repeat ((refine zaa ?_;first|refine zar rfl ?_|refine zae FpF.h (by decide) rfl ?_|refine zah PlF.h rfl hL.row rfl ?_);refine zad rfl ?_));refine zaa (zaz (c:=((s.mark+1:Nat):Int)) rfl rfl Ju ?_);refine zad rfl ?_;(repeat ((refine zaa ?_;first|refine zar rfl ?_|refine zae FpF.h (by decide) rfl ?_);refine zad rfl ?_));refine zaa (zbu SzF.h rfl rfl rfl hL.row (by simp) fun H1 hk1 hn1 hr1=>?_);have hL1:Li b H1 u { s with mark:=s.mark+1 }:=⟨hr1,hL.own.keep hk1 fun c hc h=>hL.ne (h▸hc),hL.ne⟩
 have hr:=hL1.row;refine zab (zac ?_);refine zad rfl ?_;(repeat ((refine zaa ?_;first|refine zar rfl ?_|refine zae FpF.h (by decide) rfl ?_|refine zah PlF.h rfl hr rfl ?_);refine zad rfl ?_));exact zab (zao ⟨_,rfl,hQ H1 ⟨hk1.wide fun c hc=>Or.inl hc,fun c hc=>.inl hc⟩ hL1⟩)
theorem zn9 {ok:Bool}{ws:Ws}{d:Nat}(h:ok=true) (hd:d≤60):outT ok ws d=.tup [S (joinW ws),.int .i64 0]:=by
 unfold outT;rw [h,if_neg (by simp),if_neg (by omega)]
theorem ztp {x:Exp}{c:List AV}(hE:IsE A H c x) (hA:∀a,A a→a<H.nx) (hK:KeysIn H) (hd:sizE x<1000) (ho:okE x=true) (hp:dpE x 1≤60) (hQ:∀H',Keep Non H H'→Q (S (joinW (wdE x))) H'):WpF prog tb gl 106 [.agg c] H Q:=by
 obtain ⟨v,hc,_⟩:=hE.out;have hc4:c.length=4:=by rw [hc];rfl
 refine fa func106 b106_eq v106_eq r106_eq (.inr (by simp)) ?_;refine zac ?_;refine zaa (zcy rfl fun H1 hk1 hr1=>?_);have hr1:IsRow H1 H.nx c false false:=hr1;refine zad rfl ?_;refine zab (zac ?_);refine zaa (zat (k:=4) PlF.h hc4 (by decide) rfl hr1.pts ?_);refine zaa (zaf rfl rfl rfl (zos (hE.keep hk1) (fun a ha=>Nat.lt_of_lt_of_le (hA a ha) hk1.nx) (hK.keep hk1) hd fun H2 hk2=>?_));rw [zn9 ho hp];refine zad rfl ?_;refine zab (zac ?_);refine zad rfl ?_;exact zab (zao ⟨_,rfl,hQ H2 (hk1.trans0 hk2)⟩)
theorem zy2 {x:Stm}{c:List AV}(hE:IsS A H c x) (hA:∀a,A a→a<H.nx) (hK:KeysIn H) (hd:sizS x<900) (ho:okS x=true) (hp:dpS x 1≤60) (hQ:∀H',Keep Non H H'→Q (S (joinW (wdS x))) H'):WpF prog tb gl 107 [.agg c] H Q:=by
 have hrB:rB=140737488351232:=rfl;have hnums:=znp hE;have hE0:=hE;obtain ⟨ve,vb,vf,rfl,_⟩:=hE.out;refine fa func107 b107_eq v107_eq r107_eq (.inr (by simp)) ?_;refine zac ?_;refine zaa (zcy rfl fun H1 hk1 hr1=>?_);have hr1:IsRow H1 H.nx [.int .i64 x.kind,S x.name,S x.proc,.int .i64 x.num,ve,vb,vf] false false:=hr1;refine zad rfl ?_;refine zab (zac ?_);refine zaa (zat (k:=7) PlF.h rfl (by decide) rfl hr1.pts ?_);refine zaa (zap (n:=1) ElF.h (by decide) rfl rfl fun H2 hk2 hr2=>?_);refine zaa (zba BsF.h ZeF.h PsF.h rfl ?_);refine zaa (zap (n:=1) ElF.h (by decide) rfl rfl fun H3 hk3 hr3=>?_);refine zaa (zba BsF.h ZeF.h PsF.h rfl ?_);obtain ⟨b2,hb2⟩:∃b,b=H1.nx:=⟨_,rfl⟩
 obtain ⟨b3,hb3⟩:∃b,b=H2.nx:=⟨_,rfl⟩
 rw [←hb2] at hr2 hr3 ⊢;rw [←hb3] at hr3 ⊢;have hk03:=hk1.trans0 (hk2.trans0 hk3);have n1:=hk1.nx;have n2:=hk2.nx;have n3:=hk3.nx;have l2:=hr2.1;have l3:=hr3.1;have hB:IsLs (fun c=>A c∨c=b2∨c=b3) (IsS fun c=>A c∨c=b2∨c=b3) 7 H3 (.sl b2 0 1 1) [x]:=zwn (hr2.keep0 hk3) rfl (.inr (.inl rfl)) (isS_wide (hE0.keep hk03) fun _ h=>.inl h);have hP:IsLs (fun c=>A c∨c=b2∨c=b3) (IsPc fun c=>A c∨c=b2∨c=b3) 4 H3 (.sl b3 0 1 1) [⟨[109,97,105,110],[],0,[x]⟩]:=
  zwn hr3 rfl (.inr (.inr rfl)) ⟨.nils,.sl b2 0 1 1,rfl,by rw [hrB];show (4:Nat)≤140737488351232;decide,⟨by show (-9223372036854775808:Int)≤0;decide,by show (0:Int)<9223372036854775808;decide⟩,Nat.zero_le _,by rw [hrB];simp,⟨[],⟨rfl,.inl ⟨.inl rfl,rfl⟩⟩,.nil,fun _ h=>by cases h⟩,hB⟩
 have hsz:sizPs [⟨[109,97,105,110],[],0,[x]⟩]=1+sizS x:=by simp [sizPs,sizP,sizM,sizSs]
 have hokP:okPs [⟨[109,97,105,110],[],0,[x]⟩]=true:=by
  have:nameB [109,97,105,110]=true:=by decide
  simp [okPs,okP,okH,okMs,okSs,ho,this]
 have hdpP:dpPs [⟨[109,97,105,110],[],0,[x]⟩]≤60:=by simp only [dpPs,dpSs];omega
 have hwd:wdPs [⟨[109,97,105,110],[],0,[x]⟩]=[[112,114,111,99],[109,97,105,110],[40],[41],[123]]++(wdS x++[[125]]):=by simp [wdPs,wdP,wdH,wdMs,wdSs]
 have hjoin:joinW (wdPs [⟨[109,97,105,110],[],0,[x]⟩])=[112,114,111,99,32,109,97,105,110,32,40,32,41,32,123,32]++(joinW (wdS x)++[32,125]):=by
  rw [hwd,zgh (by simp) (by simp),zgh (wdS_ne x) (by simp)];simp [joinW]
 have hlen:(joinW (wdS x)).length<10000000:=by
  have h1:=zgi (zzl ho hnums);have h2:=zrh x 1 ⟨[],false,0⟩;rw [(zrg x 1).yes ⟨[],false,0⟩ rfl ho] at h2;simp only [List.nil_append,J9] at h2;omega
 refine zaa (zaf rfl rfl rfl (zm5 (p:=[⟨[109,97,105,110],[],0,[x]⟩]) ⟨by rw [hrB];simp,_,rfl,hP⟩ (fun a ha=>?_) (hK.keep hk03) (by omega) fun H4 hk4=>?_))
 ·rcases ha with ha|ha|ha
  ·have:=hA a ha;omega
  ·omega
  ·omega
 rw [zn9 hokP hdpP,hjoin];refine zad rfl ?_;refine zab (zac ?_);refine zad rfl ?_;refine zaa (zaf rfl rfl rfl (zm7 (by simp only [J1,Jy,J9];omega) ?_));refine zaa (zaf rfl rfl rfl (zh2 (by simp only [Jy,J9];omega) ?_));refine zad rfl ?_;exact zab (zao ⟨_,rfl,hQ H4 (hk03.trans0 hk4)⟩)
theorem vhead_ok {p:Prc}{c:List AV}(hP:IsPc A H c p) (hA:∀a,A a→a<H.nx) (hK:KeysIn H) (hd:sizP p<1000) (ho:okH p=true) (hQ:∀H',Keep Non H H'→Q (S (joinW (wdH p++[[123]]))) H'):WpF prog tb gl 18 [.agg c] H Q:=by
 have hrB:rB=140737488351232:=rfl;obtain ⟨vm,vb,rfl,hnm,hty,hpl,hbl,hLm,hLb⟩:=hP;refine fa func18 b18_eq v18_eq r18_eq (.inr (by simp)) ?_;refine zac ?_;refine zaa (zcy rfl fun H1 hk1 hr1=>?_);have hr1:IsRow H1 H.nx [S p.name,vm,.int .i64 p.type,vb] false false:=hr1;refine zad rfl ?_;refine zab (zac ?_);refine zad rfl ?_;(repeat (((refine zaa (zae FpF.h (by decide) rfl ?_)));refine zad rfl ?_));refine zaa (zbu (u:=.nils) SzF.h rfl rfl rfl hr1 (by simp) fun H2 hk2 hn2 hr2=>?_);have hr2:IsRow H2 H.nx [S p.name,vm,.int .i64 p.type,.nils] false false:=hr2;have hk02:Keep Non H H2:=hk1.trans hk2 fun c hc=>.inr (by rw [hc];exact Jz _);refine zab (zac ?_);refine zaa (zat (k:=4) PlF.h rfl (by decide) rfl hr2.pts ?_);refine zaa (zap (n:=1) ElF.h (by decide) rfl rfl fun H3 hk3 hr3=>?_);refine zaa (zba BsF.h ZeF.h PsF.h rfl ?_);obtain ⟨b3,hb3⟩:∃b,b=H2.nx:=⟨_,rfl⟩
 rw [←hb3] at hr3 ⊢;have hk03:=hk02.trans0 hk3;have n2:=hk02.nx;have n3:=hk3.nx;have l3:=hr3.1;have hPP:IsLs (fun c=>A c∨c=b3) (IsPc fun c=>A c∨c=b3) 4 H3 (.sl b3 0 1 1) [⟨p.name,p.params,p.type,[]⟩]:=
  zwn hr3 rfl (.inr rfl) ⟨vm,.nils,rfl,hnm,hty,hpl,Nat.zero_le _,zo7 (hLm.keep hk03 fun _ _ _ h=>h) (fun _ h=>.inl h) fun _ _ h=>h,⟨[],⟨rfl,.inl ⟨.inl rfl,rfl⟩⟩,.nil,fun _ h=>by cases h⟩⟩
 have hsz:sizPs [⟨p.name,p.params,p.type,[]⟩]≤sizP p:=by simp only [sizPs,sizP,sizSs];omega
 have hokP:okPs [⟨p.name,p.params,p.type,[]⟩]=true:=by
  have h:okH ⟨p.name,p.params,p.type,[]⟩=okH p:=rfl;simp [okPs,okP,okSs,h,ho]
 have hdpP:dpPs [⟨p.name,p.params,p.type,[]⟩]≤60:=by simp [dpPs,dpSs]
 have hwd:wdPs [⟨p.name,p.params,p.type,[]⟩]=(wdH p++[[123]])++[[125]]:=by
  have h:wdH ⟨p.name,p.params,p.type,[]⟩=wdH p:=rfl;simp [wdPs,wdP,wdSs,h]
 have hjoin:joinW (wdPs [⟨p.name,p.params,p.type,[]⟩])=joinW (wdH p++[[123]])++[32,125]:=by
  rw [hwd,zgh (by simp) (by simp)];simp [joinW]
 have hlen:(joinW (wdH p++[[123]])).length<10000000:=by
  have h1:=zgi ((zzc ho).app (Sh.cons (by decide) Sh.nil):Sh (wdH p++[[123]]));have h2:=zl3 p ⟨[],false,0⟩;rw [(zl2 p).yes ⟨[],false,0⟩ rfl ho] at h2;have h3:sizP p=1+p.name.length / 8+p.params.length+sizM p.params+sizSs p.body:=rfl;simp only [List.nil_append,J9] at h2;simp only [J1,Jy,J9] at h1;omega
 refine zaa (zaf rfl rfl rfl (zm5 (p:=[⟨p.name,p.params,p.type,[]⟩]) ⟨by rw [hrB];simp,_,rfl,hPP⟩ (fun a ha=>?_) (hK.keep hk03) (by omega) fun H4 hk4=>?_))
 ·rcases ha with ha|ha
  ·have:=hA a ha;omega
  ·omega
 rw [zn9 hokP hdpP,hjoin];refine zad rfl ?_;refine zab (zac ?_);refine zad rfl ?_;refine zaa (zaf rfl rfl rfl (zh2 (by simp only [Jy,J9];omega) ?_));refine zad rfl ?_;exact zab (zao ⟨_,rfl,hQ H4 (hk03.trans0 hk4)⟩)
end
def lstS (s:Ls) (x:Stm):Ls:=⟨s.proc,s.mark+cS x,s.deep,s.rows++lS s.proc x s.deep s.mark⟩
def lstB (s:Ls) (l:List Stm):Ls:=⟨s.proc,s.mark+cSs l,s.deep,s.rows++lSs s.proc l (s.deep+1) s.mark⟩
def lstL (s:Ls) (l:List Stm):Ls:=⟨s.proc,s.mark+cSs l,s.deep,s.rows++lSs s.proc l s.deep s.mark⟩
theorem zwy (s:Ls) (l:List Stm) (x:Stm):lstL s (l++[x])=lstS (lstL s l) x:=by
 simp only [lstL,lstS,zsd,zrt,List.append_assoc,Nat.add_assoc]
theorem zke (s:Ls) (ws:Ws) (mk:Int):(s.put ws mk).rows.length=s.rows.length+1:=by simp [Ls.put]
section
variable {tb:List FuncId}{gl:List (List AV)}{A:Nat→Prop}{H:Heap}{u v w:AV}{b:Nat}{s:Ls}{Q:AV→Heap→Prop}
def LstOK (tb:List FuncId) (gl:List (List AV)) (k:Nat):Prop:=∀(A:Nat→Prop) (x:Stm) (c:List AV) (b:Nat) (H:Heap) (u:AV) (s:Ls) (Q:AV→Heap→Prop),szS x<k→IsS A H c x→(∀a,A a→Off b H u a)→KeysIn H→Li b H u s→okS x=true→dpS x s.deep≤60→1≤s.deep→sizS x<900→
 s.mark+sizS x<100000→s.rows.length+3*sizS x<100000→(∀u' H',Wk b H u H' u'→Li b H' u' (lstS s x)→Q (.tup []) H')→WpF prog tb gl 55 [.ptr b 0,.agg c] H Q
theorem zpb {k:Nat}(ih:LstOK tb gl k) {l:List Stm}(hk:szSs l≤k) (hL:IsLs A (IsS A) 7 H v l) (hA:∀a,A a→Off b H u a) (hK:KeysIn H) (hW:Li b H u s) (ho:okSs l=true) (hd:dpSs l (s.deep+1)≤60) (hd2:s.deep≤60) (hz:sizSs l<900)
  (hm:s.mark+sizSs l<100000) (hn:s.rows.length+3*sizSs l<100000) (hll:l.length≤rB) (hQ:∀u' H',Wk b H u H' u'→Li b H' u' (lstB s l)→Q (.tup []) H'):WpF prog tb gl 19 [.ptr b 0,v] H Q:=by
 have hrB:rB=140737488351232:=rfl;refine fa func19 b19_eq v19_eq r19_eq (.inr (by simp)) ?_;refine zac ?_;refine zad rfl ?_;(repeat ((refine zaa ?_;first|refine zar rfl ?_|refine zae FpF.h (by decide) rfl ?_|refine zah PlF.h rfl hW.row rfl ?_);refine zad rfl ?_));refine zaa (zaz (c:=((s.deep+1:Nat):Int)) rfl rfl Ju ?_);refine zad rfl ?_;(repeat ((refine zaa ?_;first|refine zar rfl ?_|refine zae FpF.h (by decide) rfl ?_);refine zad rfl ?_));refine zaa (zbu SzF.h rfl rfl rfl hW.row (by simp) fun H1 hk1 hn1 hr1=>?_);obtain ⟨s1,hs1⟩:∃s1:Ls,s1={ s with deep:=s.deep+1 }:=⟨_,rfl⟩
 have W1:Li b H1 u s1:=by rw [hs1];exact ⟨hr1,hW.own.keep hk1 fun c hc h=>hW.ne (h▸hc),hW.ne⟩
 have k1:Wk b H u H1 u:=⟨hk1.wide fun c hc=>Or.inl hc,fun c hc=>.inl hc⟩
 have e1:s1.proc=s.proc∧s1.mark=s.mark∧s1.deep=s.deep+1∧s1.rows=s.rows:=by rw [hs1];exact ⟨rfl,rfl,rfl,rfl⟩
 obtain ⟨els,hsl,_⟩:=zbe (k1.stms hA hL);refine zab (zaj (zac ?_));refine zad rfl ?_;refine zaa (za3 rfl rfl rfl UnF.h rfl hsl ?_);refine zad rfl ?_;refine zab (zau ?_);refine zbv (fun (i:Nat)=>[(0,.ptr b 0),(15,v),(16,.int .i64 (l.length:Int)),(17,.int .i64 (i:Int))]) (fun i H'=>i≤l.length∧∃u',Wk b H u H' u'∧Li b H' u' (lstL s1 (l.take i))) (fun i=>l.length-i) ?_ 0 _ H1 ⟨rfl,rfl,rfl,rfl,trivial⟩
  ⟨Nat.zero_le _,u,k1,by simpa [lstL,lSs,cSs] using W1⟩
 rintro i H3 ⟨hle,u3,kk3,W3⟩;have hlen:=zfv s1.proc (l.take i) s1.deep s1.mark;have hcs:=zkv (l.take i);have htk:=zfk l i;refine zac ?_;by_cases hi:i<l.length;rotate_left
 ·refine zaa (zck rfl rfl (Qf (by omega)) (zab (zaj (zag rfl (zbq (za1 ?_))))));rw [Qd (by omega)] at W3;have hr3:=W3.row;refine zad rfl ?_;(repeat ((refine zaa ?_;first|refine zar rfl ?_|refine zae FpF.h (by decide) rfl ?_|refine zah PlF.h rfl hr3 rfl ?_);refine zad rfl ?_));have hdd:(lstL s1 l).deep=s.deep+1:=e1.2.2.1;refine zaa (zc4 (c:=(s.deep:Int)) rfl rfl (zas (by rw [hdd];omega) (by omega) (by omega)) ?_);refine zad rfl ?_;(repeat ((refine zaa ?_;first|refine zar rfl ?_|refine zae FpF.h (by decide) rfl ?_);refine zad rfl ?_));refine zaa (zbu SzF.h rfl rfl rfl hr3 (by simp) fun H4 hk4 hn4 hr4=>?_);have W4:Li b H4 u3 (lstB s l):=by
   have h1:lstB s l={ lstL s1 l with deep:=s.deep }:=by simp only [lstB,lstL,e1.1,e1.2.1,e1.2.2.1,e1.2.2.2]
   rw [h1];exact ⟨hr4,W3.own.keep hk4 fun c hc h=>W3.ne (h▸hc),W3.ne⟩
  exact zab ⟨_,rfl,hQ u3 H4 (kk3.trans ⟨hk4.wide fun c hc=>Or.inl hc,fun c hc=>.inl hc⟩) W4⟩
 obtain ⟨x,hx⟩:∃x,l[i]? = some x:=⟨_,Qa hi⟩
 have hxm:=Qe hx;refine zaa (zck rfl rfl (Qg (by omega)) (zab (zaj (zai rfl (zam (zaj (zau (zac ?_))))))));obtain ⟨els3,hsl3,hel3⟩:=zbe (kk3.stms hA hL);obtain ⟨cx,hcx,hEx⟩:=hel3 i x hx;have hcx7:cx.length=7:=by obtain ⟨_,_,_,h,_⟩:=hEx.out;rw [h];rfl
 have hsx:szS x<szSs l∧sizSs (l.take i)+sizS x≤sizSs l:=by
  refine ⟨zhb hxm,?_⟩;have:=zfk l (i+1);rw [zbs hx,zg8] at this;exact this
 have hdx:=zv4 (d:=s.deep+1) hxm;refine zad rfl ?_;refine zaa (za9 UnF.h SzF.h rfl hsl3 rfl rfl hi fun q0 hq0=>?_);rw [hcx] at hq0;refine zaa (zat (k:=7) PlF.h hcx7 (by decide) rfl hq0 ?_);refine zaa (za8 ZeF.h fun H4 hk4 hr4=>?_);refine zad rfl ?_;obtain ⟨bx,hbx⟩:∃b,b=H3.nx:=⟨_,rfl⟩
 rw [←hbx] at hr4 ⊢;refine zaa (zan (k:=7) SzF.h hcx7 rfl rfl (zg0 hEx) hr4 hcx7 fun H5 hk5 hn5 hr5=>?_);have hk35:Keep Non H3 H5:=(hk4.trans hk5 fun c hc=>.inr (by rw [hc,hbx];exact Jz _)).wide fun _ h=>h;have W5:=W3.keep0 hk35;have kk5:Wk b H u H5 u3:=kk3.trans (.of hk35);have hE5:=hEx.keep hk35;refine zab (za1 ?_);refine zad rfl ?_;refine zaa (zat (k:=7) PlF.h hcx7 (by decide) rfl hr5.pts ?_);have f1:(lstL s1 (l.take i)).deep=s.deep+1:=e1.2.2.1;have f2:(lstL s1 (l.take i)).mark=s.mark+cSs (l.take i):=by simp only [lstL,e1.2.1]
 have f3:(lstL s1 (l.take i)).rows.length≤s.rows.length+3*sizSs (l.take i):=by simp only [lstL,J1,e1.2.2.2];omega
 refine zaa (zaf rfl rfl rfl (ih A x cx b H5 u3 _ _ (by omega) hE5 (fun a ha=>kk5.off (hA a ha)) (hK.keep kk5.keep) W5 (zsr ho hxm) (by rw [f1];omega) (by rw [f1];omega) (by omega) (by rw [f2];omega) (by omega) fun u7 H7 k7 W7=>?_));refine zab (za1 ?_);refine zaa (zaz (c:=((i+1:Nat):Int)) rfl rfl Ju ?_);refine zad rfl ?_;refine zab ⟨i+1,?_,⟨rfl,rfl,rfl,rfl,trivial⟩,by omega,u7,kk5.trans k7,?_⟩
 ·show l.length-(i+1)<l.length-i;omega
 ·rw [zbs hx,zwy];exact W7
theorem zr8 {a:List UInt8}{ws:Ws}(h:ws≠[]):joinW ([a,[40]]++ws++[[41],[123]])=a++[32,40,32]++joinW ws++[32,41,32,123]:=by
 rw [List.append_assoc,zgh (by simp) (by simp),zgh h (by simp)];simp [joinW]
theorem zsj:∀k,LstOK tb gl k
 |0=>fun _ _ _ _ _ _ _ _ h=>by omega
 |k+1=>by
  intro A x c b H u s Q hk hE hA hK hW ho hd hd1 hz hm hn hQ;have ih:LstOK tb gl k:=zsj k;have hrB:rB=140737488351232:=rfl;have hnums:=znp hE;have hE0:=hE;obtain ⟨ve,vb,vf,hc,hkd,hnu,hnl,hpl,hll,hbl,hfl,hLe,hLb,hLf⟩:=hE.out;have hc7:c.length=7:=by rw [hc];rfl
  have hsz:=zq9 x;have hszS:szS x=szSs x.body+szSs x.els+1:=by cases x;simp only [szS];rfl
  have hdp:=dpS_eq x s.deep;obtain ⟨hfit,hoe,hob,hof⟩:=okS_fits ho;have f45:=(zfb hfit).1;have hcs:=cS_eq x;have hcle:=cS_le x;have hcb:=zkv x.body;have hcf:=zkv x.els;unfold lstS at hQ;rw [lS_eq] at hQ;refine fa func55 b55_eq v55_eq r55_eq (.inr (by simp)) ?_;refine zac ?_;refine zaa (zcy rfl fun H1 hk1 hr1=>?_);have hW1:=hW.keep0 hk1;obtain ⟨bx,hbx⟩:∃b,b=H.nx:=⟨_,rfl⟩
  have hoff:Off b H1 u bx:=by
   have:=hr1.1;rw [hbx];exact hW.fresh this
  rw [←hbx] at hr1 ⊢;have hr1:IsRow H1 bx c false false:=hr1;refine zab (zac ?_);refine zad rfl ?_;refine zaa (zaf rfl rfl rfl (zw4 hW1 (by omega) fun H2 k2 W2=>?_));obtain ⟨s2,hs2⟩:∃s2:Ls,s2={ s with mark:=s.mark+1 }:=⟨_,rfl⟩
  rw [←hs2] at W2;have e2:s2.proc=s.proc∧s2.mark=s.mark+1∧s2.deep=s.deep∧s2.rows=s.rows:=by rw [hs2];exact ⟨rfl,rfl,rfl,rfl⟩
  have kk:Wk b H u H2 u:=(Wk.of hk1).trans k2;have hoff2:=k2.off hoff;have hrc:=k2.row hoff hr1;have hr2:IsRow H2 bx [.int .i64 x.kind,S x.name,S x.proc,.int .i64 x.num,ve,vb,vf] false false:=hc▸hrc;have hA2:∀a,A a→Off b H2 u a:=fun a ha=>kk.off (hA a ha);have hK2:=hK.keep kk.keep;refine zad rfl ?_;refine zab (zac ?_);refine zad rfl ?_;(repeat ((refine zaa ?_;first|refine zae FpF.h (by decide) rfl ?_|refine zah PlF.h rfl hr2 rfl ?_);refine zad rfl ?_));refine zab (zau (zac ?_))
  -- a row of an if or a while
  have hlenE:∀a,x.e=[a]→okE a=true∧dpE a 1≤60∧sizE a+sizSs x.body+sizSs x.els+1≤sizS x∧(joinW (wdE a)).length<1000000:=by
   intro a ha;rw [ha] at hoe hsz hdp;simp only [okEs,Bool.and_true] at hoe;simp only [sizEs] at hsz;simp only [dpEs] at hdp;have h1:=zj4 a (show 1≤s.deep+1 by omega);obtain ⟨cc,hcc⟩:=zkb hLe (show a∈x.e by rw [ha];simp);have h2:=zgi (wdE_sh' hoe (zno hcc));have h3:=wE_len' a 1 ⟨[],false,0⟩;rw [(wE_eff' a 1).yes ⟨[],false,0⟩ rfl hoe] at h3;simp only [List.nil_append,J9] at h3;exact ⟨hoe,by omega,by omega,by omega⟩
  have blk:∀(H':Heap) (u':AV) (s':Ls),Wk b H2 u H' u'→Li b H' u' s'→∀(l:List Stm) (v:AV),IsLs A (IsS A) 7 H v l→szSs l<szS x→okSs l=true→dpSs l (s.deep+1)≤60→sizSs l≤sizS x→s'.deep=s.deep→s'.mark+sizSs l<100000→s'.rows.length+3*sizSs l<100000→l.length≤rB→∀Q',(∀u'' H'',Wk b H2 u H'' u''→Li b H'' u'' (lstB s' l)→Q' (.tup []) H'')→
    WpF prog tb gl 19 [.ptr b 0,v] H' Q':=by
   intro H' u' s' k' W' l v hl h1 h2 h3 h4 h5 h6 h7 h8 Q' hq;refine zpb ih (by omega) ((kk.trans k').stms hA hl) (fun a ha=>k'.off (hA2 a ha)) (hK2.keep k'.keep) W' h2 (by rw [h5];exact h3) (by rw [h5];omega) (by omega) h6 h7 h8 fun u'' H'' k'' W''=>hq u'' H'' (k'.trans k'') W''
  by_cases e4:x.kind=4
  ·rw [if_pos e4] at hQ;obtain ⟨a,hxa⟩:=f45 (.inl e4);obtain ⟨ha1,ha2,ha3,ha4⟩:=hlenE a hxa;(repeat ((refine zaa ?_;first|refine zak rfl ?_|refine zax rfl rfl (by omega) ?_)));refine zab (zai rfl (zac ?_));obtain ⟨els,hsl,hel⟩:=zbe (kk.exps hA hLe);obtain ⟨ca,hca,hEa⟩:=hel 0 a (by rw [hxa];rfl);have hca4:ca.length=4:=by obtain ⟨_,h,_⟩:=hEa.out;rw [h];rfl
   refine zad rfl ?_;(repeat ((refine zaa ?_;first|refine zae FpF.h (by decide) rfl ?_|refine zah PlF.h rfl hr2 rfl ?_);refine zad rfl ?_));refine zaa (za9 (j:=0) UnF.h SzF.h rfl hsl rfl rfl (by rw [hxa];simp) fun q0 hq0=>?_);rw [hca] at hq0;refine zaa (zat (k:=4) PlF.h hca4 (by decide) rfl hq0 ?_);refine zaa (zaf rfl rfl rfl (ztp hEa (fun a ha=>(hA2 a ha).1) hK2 (by omega) ha1 ha2 fun H3 hk3=>?_));refine zaa (zgm rfl rfl (by simp only [Jy,J9,pow63];omega) ?_);refine zaa (zgm rfl rfl (by simp only [J1,Jy,J9,pow63];omega) ?_);refine zad rfl ?_;refine zaa (zaf rfl rfl rfl (zgk (ws:=[[105,102],[40]]++wdE a++[[41],[123]]) (W2.keep0 hk3) (by rw [zr8 (wdE_ne ha1)];rfl) (by rw [e2.2.2.1];omega) (by simp only [J1,Jy,J9];omega) (by rw [e2.2.2.2];omega) fun u4 H4 k4 W4=>?_));have k24:Wk b H2 u H4 u4:=(Wk.of hk3).trans k4;have hr4:=k24.row hoff2 hr2;refine zab (zac ?_);refine zad rfl ?_;(repeat ((refine zaa ?_;first|refine zae FpF.h (by decide) rfl ?_|refine zah PlF.h rfl hr4 rfl ?_);refine zad rfl ?_));refine zaa (zaf rfl rfl rfl (blk H4 u4 _ k24 W4 x.body vb hLb (by omega) hob (by omega) (by omega) e2.2.2.1 (by simp only [Ls.put,e2.2.1];omega) (by rw [zke,e2.2.2.2];omega) hbl _ fun u5 H5 k25 W5=>?_));have hr5:=k25.row hoff2 hr2;obtain ⟨els5,hsl5,_⟩:=zbe ((kk.trans k25).stms hA hLf);have hl5:=zfv s.proc x.body (s.deep+1) (s.mark+1);obtain ⟨s5,hs5⟩:∃s5,s5=lstB (s2.put ([[105,102],[40]]++wdE a++[[41],[123]]) ((s.mark+1:Nat):Int)) x.body:=⟨_,rfl⟩
   have e5:s5.proc=s.proc∧s5.mark=s.mark+1+cSs x.body∧s5.deep=s.deep∧s5.rows=s.rows++⟨s.deep,[[105,102],[40]]++wdE a++[[41],[123]],s.proc,(s.mark:Int)+1⟩::lSs s.proc x.body (s.deep+1) (s.mark+1):=by
    rw [hs5];simp [lstB,Ls.put,e2.1,e2.2.1,e2.2.2.1,e2.2.2.2]
   rw [←hs5] at W5;have hl6:s5.rows.length≤s.rows.length+1+3*sizSs x.body:=by rw [e5.2.2.2];simp only [J1,Jy];omega
   refine zab (zaj ?_);refine zj1 (fun l' H'=>∃u6 s6,Wk b H2 u H' u6∧Li b H' u6 s6∧s6.rows.length≤s.rows.length+2+3*sizSs x.body+3*sizSs x.els∧s6.put [[125]] (-1)=⟨s.proc,s.mark+cS x,s.deep,s.rows++(⟨s.deep,[[105,102],[40]]++wdE0 x.e++[[41],[123]],s.proc,(s.mark:Int)+1⟩::(lSs s.proc x.body (s.deep+1) (s.mark+1)++(if x.els.length=0 then [] else ⟨s.deep,[[125],[101,108,115,101],[123]],s.proc,-1⟩::lSs s.proc x.els (s.deep+1) (s.mark+1+cSs x.body))++[⟨s.deep,[[125]],s.proc,-1⟩]))⟩∧s6.deep=s.deep∧Sb [(0,.ptr b 0)] l') ?_ ?_
   ·refine zac ?_;refine zad rfl ?_;(repeat ((refine zaa ?_;first|refine zae FpF.h (by decide) rfl ?_|refine zah PlF.h rfl hr5 rfl ?_|refine za3 rfl rfl rfl UnF.h rfl hsl5 ?_);refine zad rfl ?_));by_cases e0:x.els.length=0
    ·refine zaa (zd1 rfl rfl (by omega) (zab (zag rfl (zam ⟨u5,s5,k25,W5,by omega,?_,e5.2.2.1,rfl,trivial⟩))));have he0:x.els=[]:=List.length_eq_zero_iff.1 e0;simp only [Ls.put,e5.1,e5.2.1,e5.2.2.1,e5.2.2.2,hxa,wdE0,hcs,he0,cSs,J9,if_true,List.append_nil,List.append_assoc,List.cons_append,Nat.add_zero];rw [show s.mark+(1+cSs x.body)=s.mark+1+cSs x.body by omega]
    ·refine zaa (zcn rfl rfl (by omega) (zab (zai rfl (zac ?_))));refine zad rfl ?_;refine zaa (zaf rfl rfl rfl (zgk (ws:=[[125],[101,108,115,101],[123]]) W5 rfl (by rw [e5.2.2.1];omega) (by decide) (by omega) fun u6 H6 k6 W6=>?_));have k26:=k25.trans k6;have hr6:=k26.row hoff2 hr2;refine zab (za1 ?_);refine zad rfl ?_;(repeat ((refine zaa ?_;first|refine zae FpF.h (by decide) rfl ?_|refine zah PlF.h rfl hr6 rfl ?_);refine zad rfl ?_));refine zaa (zaf rfl rfl rfl (blk H6 u6 _ k26 W6 x.els vf hLf (by omega) hof (by omega) (by omega) e5.2.2.1 (by simp only [Ls.put,e5.2.1];omega) (by rw [zke];omega) hfl _ fun u7 H7 k27 W7=>?_));have hl7:=zfv s.proc x.els (s.deep+1) (s.mark+1+cSs x.body);refine zab ⟨u7,_,k27,W7,?_,?_,e5.2.2.1,rfl,trivial⟩
     ·simp only [lstB,Ls.put,J1,Jy,J9,e5.1,e5.2.1,e5.2.2.1];omega
     ·simp only [lstB,Ls.put,e5.1,e5.2.1,e5.2.2.1,e5.2.2.2,if_neg e0,hxa,wdE0,hcs,List.append_assoc,List.cons_append,List.nil_append];rw [show s.mark+(1+cSs x.body+cSs x.els)=s.mark+1+cSs x.body+cSs x.els by omega]
   rintro l7 H7 ⟨u6,s6,k26,W6,h6,hp6,hd6,hs7⟩;refine VA.sub hs7 (za1 ?_);refine zad rfl ?_;refine zaa (zaf rfl rfl rfl (zgk (ws:=[[125]]) W6 rfl (by rw [hd6];omega) (by decide) (by omega) fun u8 H8 k8 W8=>?_));rw [hp6] at W8;exact zab ⟨_,rfl,hQ u8 H8 (kk.trans (k26.trans k8)) W8⟩
  rw [if_neg e4] at hQ;(repeat ((refine zaa ?_;first|refine zak rfl ?_|refine za2 rfl rfl (by omega) ?_)));refine zab (zag rfl (zac ?_));by_cases e5:x.kind=5
  ·rw [if_pos e5] at hQ;obtain ⟨a,hxa⟩:=f45 (.inr e5);obtain ⟨ha1,ha2,ha3,ha4⟩:=hlenE a hxa;(repeat ((refine zaa ?_;first|refine zak rfl ?_|refine zax rfl rfl (by omega) ?_)));refine zab (zai rfl (zac ?_));obtain ⟨els,hsl,hel⟩:=zbe (kk.exps hA hLe);obtain ⟨ca,hca,hEa⟩:=hel 0 a (by rw [hxa];rfl);have hca4:ca.length=4:=by obtain ⟨_,h,_⟩:=hEa.out;rw [h];rfl
   refine zad rfl ?_;(repeat ((refine zaa ?_;first|refine zae FpF.h (by decide) rfl ?_|refine zah PlF.h rfl hr2 rfl ?_);refine zad rfl ?_));refine zaa (za9 (j:=0) UnF.h SzF.h rfl hsl rfl rfl (by rw [hxa];simp) fun q0 hq0=>?_);rw [hca] at hq0;refine zaa (zat (k:=4) PlF.h hca4 (by decide) rfl hq0 ?_);refine zaa (zaf rfl rfl rfl (ztp hEa (fun a ha=>(hA2 a ha).1) hK2 (by omega) ha1 ha2 fun H3 hk3=>?_));refine zaa (zgm rfl rfl (by simp only [Jy,J9,pow63];omega) ?_);refine zaa (zgm rfl rfl (by simp only [J1,Jy,J9,pow63];omega) ?_);refine zad rfl ?_;refine zaa (zaf rfl rfl rfl (zgk (ws:=[[119,104,105,108,101],[40]]++wdE a++[[41],[123]]) (W2.keep0 hk3) (by rw [zr8 (wdE_ne ha1)];rfl) (by rw [e2.2.2.1];omega) (by simp only [J1,Jy,J9];omega) (by rw [e2.2.2.2];omega) fun u4 H4 k4 W4=>?_));have k24:Wk b H2 u H4 u4:=(Wk.of hk3).trans k4;have hr4:=k24.row hoff2 hr2;refine zab (zac ?_);refine zad rfl ?_;(repeat ((refine zaa ?_;first|refine zae FpF.h (by decide) rfl ?_|refine zah PlF.h rfl hr4 rfl ?_);refine zad rfl ?_));refine zaa (zaf rfl rfl rfl (blk H4 u4 _ k24 W4 x.body vb hLb (by omega) hob (by omega) (by omega) e2.2.2.1 (by simp only [Ls.put,e2.2.1];omega) (by rw [zke,e2.2.2.2];omega) hbl _ fun u5 H5 k25 W5=>?_));have hl5:=zfv s.proc x.body (s.deep+1) (s.mark+1);obtain ⟨s5,hs5⟩:∃s5,s5=lstB (s2.put ([[119,104,105,108,101],[40]]++wdE a++[[41],[123]]) ((s.mark+1:Nat):Int)) x.body:=⟨_,rfl⟩
   have e6:s5.proc=s.proc∧s5.mark=s.mark+1+cSs x.body∧s5.deep=s.deep∧s5.rows=s.rows++⟨s.deep,[[119,104,105,108,101],[40]]++wdE a++[[41],[123]],s.proc,(s.mark:Int)+1⟩::lSs s.proc x.body (s.deep+1) (s.mark+1):=by
    rw [hs5];simp [lstB,Ls.put,e2.1,e2.2.1,e2.2.2.1,e2.2.2.2]
   rw [←hs5] at W5;have hl6:s5.rows.length≤s.rows.length+1+3*sizSs x.body:=by rw [e6.2.2.2];simp only [J1,Jy];omega
   refine zab (za1 ?_);refine zad rfl ?_;refine zaa (zaf rfl rfl rfl (zgk (ws:=[[125]]) W5 rfl (by rw [e6.2.2.1];omega) (by decide) (by omega) fun u8 H8 k8 W8=>?_));have he0:x.els=[]:=by
    exact (zfb hfit).2.2.2.2.1 e4
   have hp:s5.put [[125]] (-1)=⟨s.proc,s.mark+cS x,s.deep,s.rows++(⟨s.deep,[[119,104,105,108,101],[40]]++wdE0 x.e++[[41],[123]],s.proc,(s.mark:Int)+1⟩::(lSs s.proc x.body (s.deep+1) (s.mark+1)++[⟨s.deep,[[125]],s.proc,-1⟩]))⟩:=by
    simp only [Ls.put,e6.1,e6.2.1,e6.2.2.1,e6.2.2.2,hxa,wdE0,hcs,he0,cSs,List.append_assoc,List.cons_append,Nat.add_zero];rw [show s.mark+(1+cSs x.body)=s.mark+1+cSs x.body by omega]
   rw [hp] at W8;exact zab ⟨_,rfl,hQ u8 H8 (kk.trans (k25.trans k8)) W8⟩
  rw [if_neg e5] at hQ;(repeat ((refine zaa ?_;first|refine zak rfl ?_|refine za2 rfl rfl (by omega) ?_)));refine zab (zag rfl (za1 ?_));refine zad rfl ?_;refine zaa (zat (k:=7) PlF.h hc7 (by decide) rfl hrc.pts ?_);have hE2:=kk.stm hA hE0;have hd0:=zr2 x (show 1≤s.deep by omega);have hlen:(joinW (wdS x)).length<10000000:=by
   have h1:=zgi (zzl ho hnums);have h2:=zrh x 1 ⟨[],false,0⟩;rw [(zrg x 1).yes ⟨[],false,0⟩ rfl ho] at h2;simp only [List.nil_append,J9] at h2;omega
  refine zaa (zaf rfl rfl rfl (zy2 hE2 (fun a ha=>(hA2 a ha).1) hK2 hz ho (by omega) fun H3 hk3=>?_));refine zad rfl ?_;refine zaa (zaf rfl rfl rfl (zgk (ws:=wdS x) (W2.keep0 hk3) rfl (by rw [e2.2.2.1];omega) hlen (by rw [e2.2.2.2];omega) fun u4 H4 k4 W4=>?_));have hp:s2.put (wdS x) ((s.mark+1:Nat):Int)=⟨s.proc,s.mark+cS x,s.deep,s.rows++[⟨s.deep,wdS x,s.proc,(s.mark:Int)+1⟩]⟩:=by
   have g5:x.els=[]:=(zfb hfit).2.2.2.2.1 e4;have g6:x.body=[]:=(zfb hfit).2.2.2.2.2.1 ⟨e4,e5⟩;simp only [Ls.put,e2.1,e2.2.1,e2.2.2.1,e2.2.2.2,hcs,g5,g6,cSs,Nat.add_zero];rfl
  rw [hp] at W4;exact zab ⟨_,rfl,hQ u4 H4 (kk.trans ((Wk.of hk3).trans k4)) W4⟩
end
end Go.Proofs.YtniflgldgnmiaaaGreatDoor
namespace Go.Proofs.YtniflgldgnmiaaaGreatDoor
open Go Eng Tryz
section
variable {tb:List FuncId}{gl:List (List AV)}{A:Nat→Prop}{H:Heap}{u v w:AV}{b:Nat}{s:Ls}{Q:AV→Heap→Prop}
theorem zsq {x:Prc}:∀{l:List Prc},okPs l=true→x∈l→okP x=true
 |[],_,h=>by cases h
 |y::l,ho,h=>by
  simp only [okPs,J8] at ho;rcases List.mem_cons.1 h with rfl|h
  ·exact ho.1
  ·exact zsq ho.2 h
theorem zv2 {x:Prc}:∀{l:List Prc},x∈l→dpSs x.body 1≤dpPs l
 |[],h=>by cases h
 |y::l,h=>by
  simp only [dpPs];rcases List.mem_cons.1 h with rfl|h
  ·omega
  ·have:=zv2 h;omega
theorem List_ok {p:List Prc}(hp:IsPg Non H v p) (hK:KeysIn H) (hz:sizPs p≤500) (hN:∀e H',Keep Non H H'→e≠0→¬(okPs p=true∧dpPs p≤60)→Q (.tup [.nils,.int .i64 e]) H')
  (hY:okPs p=true→dpPs p≤60→∀u' H',Keep Non H H'→Own H' u' 3 (lPs p 0).length (rowsC (lPs p 0))→(∀c,ownB u' c→H.nx≤c)→Q (.tup [u',.int .i64 0]) H'):WpF prog tb gl 6 [v] H Q:=by
 have hrB:rB=140737488351232:=rfl;have hp0:=hp;obtain ⟨hpl,vp,rfl,hLp⟩:=hp;refine fa func6 b6_eq v6_eq r6_eq (.inr (by simp)) ?_;refine zac ?_;refine zaa (zcy rfl fun H1 hk1 hr1=>?_);obtain ⟨bx,hbx⟩:∃b,b=H.nx:=⟨_,rfl⟩
 rw [←hbx] at hr1 ⊢;have hr1:IsRow H1 bx [vp] false false:=hr1;refine zad rfl ?_;refine zab (zaj (zac ?_));refine zaa (zat (k:=1) PlF.h rfl (by decide) rfl hr1.pts ?_);refine zaa (zaf rfl rfl rfl (zm5 (hp0.keep hk1) (fun a ha=>ha.elim) (hK.keep hk1) (by omega) fun H2 hk2=>?_));have hk02:=hk1.trans0 hk2;have hr2:=hr1.keep0 hk2;by_cases hout:okPs p=true∧dpPs p≤60;rotate_left
 ·obtain ⟨e,he,heq⟩:∃e:Int,e≠0∧outT (okPs p) (wdPs p) (dpPs p)=.tup [S [],.int .i64 e]:=by
   unfold outT;cases h:okPs p with
   |false=>exact ⟨32,by decide,rfl⟩
   |true=>
    rw [if_neg (by simp),if_pos (by
     rw [h] at hout;simp only [true_and] at hout;omega)]
    exact ⟨31,by decide,rfl⟩
  rw [heq];refine zad rfl ?_;refine zab (zac ?_);refine zad rfl ?_;refine zaa (zfy rfl rfl he (zab (zai rfl (zac ?_))));refine zad rfl ?_;exact zab (zao ⟨_,rfl,hN e H2 hk02 he hout⟩)
 obtain ⟨hok,hdp⟩:=hout;rw [zn9 hok hdp];refine zad rfl ?_;refine zab (zac ?_);refine zad rfl ?_;refine zaa (zc9 rfl rfl (by simp) (zab (zag rfl (zam (zac ?_)))));refine zaa (zba BsF.h ZeF.h (pl:=[]) rfl rfl ?_);refine zaa (zcy rfl fun H3 hk3 hr3=>?_);obtain ⟨bw,hbw⟩:∃b,b=H2.nx:=⟨_,rfl⟩
 rw [←hbw] at hr3 ⊢;have W3:Li bw H3 .nils ⟨0,0,0,[]⟩:=⟨hr3,Own.nil _ _,id⟩
 have hk03:=hk02.trans0 hk3;have hr33:=hr2.keep0 hk3;have hbl:bx<bw:=by rw [hbw];exact hr2.1
 have hLp3:IsLs Non (IsPc Non) 4 H3 vp p:=hLp.keep hk03 fun _ _ _ h=>h.keep hk03;have keepP:∀H' u',Wk bw H3 .nils H' u'→IsLs Non (IsPc Non) 4 H' vp p:=fun H' u' k=>hLp3.keepS k.keep (fun c hc=>hc.elim) fun _ _ _ h=>h.keepS k.keep fun c hc=>hc.elim;obtain ⟨els,hsl,_⟩:=zbe hLp3;refine zad rfl ?_;refine zab (zaj (zac ?_));refine zad rfl ?_;(repeat ((refine zaa ?_;first|refine zae FpF.h (by decide) rfl ?_|refine zah PlF.h rfl hr33 rfl ?_|refine za3 rfl rfl rfl UnF.h rfl hsl ?_);refine zad rfl ?_));refine zab (zau ?_);refine zbv (fun (i:Nat)=>[(6,.ptr bw 0),(20,vp),(21,.int .i64 (p.length:Int)),(22,.int .i64 (i:Int))]) (fun i H'=>i≤p.length∧∃u' s',Wk bw H3 .nils H' u'∧Li bw H' u' s'∧s'.rows=lPs (p.take i) 0) (fun i=>p.length-i) ?_ 0 _ H3 ⟨rfl,rfl,rfl,rfl,trivial⟩
  ⟨Nat.zero_le _,.nils,_,.refl _ _ _,W3,rfl⟩
 rintro i H4 ⟨hle,u4,s4,k34,W4,hrows⟩;have hlen:=znr (p.take i) 0;have htk:=zfj p i;refine zac ?_;by_cases hi:i<p.length;rotate_left
 ·refine zaa (zck rfl rfl (Qf (by omega)) (zab (zaj (zag rfl (zbq (zac ?_))))));rw [Qd (by omega)] at hrows;have hr4:=W4.row;refine zad rfl ?_;(repeat ((refine zaa ?_;first|refine zar rfl ?_|refine zae FpF.h (by decide) rfl ?_|refine zah PlF.h rfl hr4 rfl ?_);refine zad rfl ?_));have hk24:Keep Non H2 H4:=hk3.trans k34.keep fun c hc=>.inr (hc.elim (fun hc=>by rw [hc,hbw];exact Jz _) fun hc=>hc.elim);refine zab (zao ⟨_,rfl,hY hok hdp u4 H4 (hk02.trans0 hk24) ?_ fun c hc=>?_⟩)
  ·have:=W4.own;rw [hrows] at this;exact this
  ·have:=k34.new c hc;rcases this with h|h
   ·exact h.elim
   ·have:=hk03.nx;omega
 obtain ⟨x,hx⟩:∃x,p[i]? = some x:=⟨_,Qa hi⟩
 have hxm:=Qe hx;have hokx:=zsq hok hxm;have hdpx:=zv2 hxm;simp only [okP,J8] at hokx;refine zaa (zck rfl rfl (Qg (by omega)) (zab (zaj (zai rfl (zam (zaj (zau (zac ?_))))))));obtain ⟨els4,hsl4,hel4⟩:=zbe (keepP H4 u4 k34);obtain ⟨cx,hcx,hEx⟩:=hel4 i x hx;have hEx0:=hEx;obtain ⟨vm,vb,rfl,hnm,hty,hml,hbl2,hLm,hLb⟩:=hEx;have hsx:sizPs (p.take i)+sizP x≤sizPs p:=by
  have:=zfj p (i+1);rw [zbs hx,zg7] at this;exact this
 have hsP:sizP x=1+x.name.length / 8+x.params.length+sizM x.params+sizSs x.body:=rfl;refine zad rfl ?_;refine zaa (za9 UnF.h SzF.h rfl hsl4 rfl rfl hi fun q0 hq0=>?_);rw [hcx] at hq0;refine zaa (zat (k:=4) PlF.h rfl (by decide) rfl hq0 ?_);refine zaa (za8 ZeF.h fun H5 hk5 hr5=>?_);refine zad rfl ?_;obtain ⟨by_,hby⟩:∃b,b=H4.nx:=⟨_,rfl⟩
 have hoff5:Off bw H5 u4 by_:=by
  have:=hr5.1;rw [hby];exact W4.fresh this
 rw [←hby] at hr5 ⊢;refine zaa (zan (k:=4) SzF.h rfl rfl rfl (zgg hEx0) hr5 rfl fun H6 hk6 hn6 hr6=>?_);have hk46:Keep Non H4 H6:=(hk5.trans hk6 fun c hc=>.inr (by rw [hc,hby];exact Jz _)).wide fun _ h=>h;have W6:=W4.keep0 hk46;have hoff6:Off bw H6 u4 by_:=⟨by rw [hn6];exact hoff5.1,hoff5.2.1,hoff5.2.2⟩
 have k36:Wk bw H3 .nils H6 u4:=k34.trans (.of hk46);refine zab (zac ?_);refine zad rfl ?_;refine zaa (zba BsF.h ZeF.h PsF.h rfl ?_);refine zad rfl ?_;have hr6w:=W6.row;refine zad rfl ?_;(repeat ((refine zaa ?_;first|refine zar rfl ?_|refine zae FpF.h (by decide) rfl ?_);refine zad rfl ?_));refine zaa (zpn (k:=3) SzF.h rfl rfl rfl rfl hr6w (by simp) fun H7 hk7 hn7 hr7=>?_);have W7:Li bw H7 u4 ⟨i,0,0,s4.rows⟩:=⟨hr7,W6.own.keep hk7 fun c hc h=>W6.ne (h▸hc),W6.ne⟩
 have k67:Wk bw H6 u4 H7 u4:=⟨hk7.wide fun c hc=>Or.inl hc,fun c hc=>.inl hc⟩
 have k37:=k36.trans k67;have hr67:=k67.row hoff6 hr6;have hoff7:=k67.off hoff6;have hE7:IsPc Non H7 [S x.name,vm,.int .i64 x.type,vb] x:=(hEx0.keep hk46).keepS k67.keep fun c hc=>hc.elim;have hK7:KeysIn H7:=(hK.keep hk03).keep k37.keep;refine zab (zac ?_);refine zad rfl ?_;refine zaa (zat (k:=4) PlF.h rfl (by decide) rfl hr67.pts ?_);refine zaa (zaf rfl rfl rfl (vhead_ok hE7 (fun a ha=>ha.elim) hK7 (by omega) hokx.1 fun H8 hk8=>?_));have hlenH:(joinW (wdH x++[[123]])).length<10000000:=by
  have h1:=zgi ((zzc hokx.1).app (Sh.cons (by decide) Sh.nil):Sh (wdH x++[[123]]));have h2:=zl3 x ⟨[],false,0⟩;rw [(zl2 x).yes ⟨[],false,0⟩ rfl hokx.1] at h2;simp only [List.nil_append,J9] at h2;simp only [J1,Jy,J9] at h1;omega
 have hl4:s4.rows.length≤3*sizPs (p.take i):=by rw [hrows];exact hlen
 refine zaa (zaf rfl rfl rfl (zgk (ws:=wdH x++[[123]]) (W7.keep0 hk8) rfl (Nat.zero_le _) hlenH (by show s4.rows.length+1<1000000;omega) fun u9 H9 k9 W9=>?_));have k79:Wk bw H7 u4 H9 u9:=(Wk.of hk8).trans k9;have hr9:=k79.row hoff7 hr67;have hoff9:=k79.off hoff7;have k39:=k37.trans k79;have hb9:IsLs Non (IsS Non) 7 H9 vb x.body:=by
  obtain ⟨vm',vb',h,_,_,_,_,_,h2⟩:=hE7.keepS k79.keep fun c hc=>hc.elim;simp only [List.cons.injEq] at h;rw [h.2.2.2.1];exact h2
 refine zab (zac ?_);refine zad rfl ?_;(repeat ((refine zaa ?_;first|refine zae FpF.h (by decide) rfl ?_|refine zah PlF.h rfl hr9 rfl ?_);refine zad rfl ?_));refine zaa (zaf rfl rfl rfl (zpb (k:=szSs x.body) (zsj _) (Jz _) hb9 (fun a ha=>ha.elim) (hK7.keep k79.keep) W9 hokx.2 (by show dpSs x.body 1≤60;omega) (Nat.zero_le _) (by omega) (by show 0+sizSs x.body<100000;omega) (by rw [zke];show s4.rows.length+1+3*sizSs x.body<100000;omega) hbl2 fun u10 H10 k10 W10=>?_));refine zab (za1 ?_);refine zad rfl ?_;have hcx2:=zkv x.body;refine zaa (zaf rfl rfl rfl (zw4 W10 (by show 0+cSs x.body<1000000;omega) fun H11 k11 W11=>?_));have hl10:=zfv i x.body (0+1) 0;refine zaa (zaf rfl rfl rfl (zgk (ws:=[[125]]) W11 rfl (Nat.zero_le _) (by decide) (by simp only [lstB,Ls.put,J1,Jy,J9];omega) fun u12 H12 k12 W12=>?_));refine zab (za1 ?_);refine zaa (zaz (c:=((i+1:Nat):Int)) rfl rfl Ju ?_);refine zad rfl ?_;refine zab ⟨i+1,?_,⟨rfl,rfl,rfl,rfl,trivial⟩,by omega,u12,_,k39.trans (k10.trans (k11.trans k12)),W12,?_⟩
 ·show p.length-(i+1)<p.length-i;omega
 ·rw [zbs hx,zsb,Qh,Nat.min_eq_left (by omega),Nat.zero_add];simp only [lstB,Ls.put,hrows,lP,Nat.zero_add,List.append_assoc,List.cons_append,List.nil_append];simp
end
end Go.Proofs.YtniflgldgnmiaaaGreatDoor
namespace Go.Proofs.YtniflgldgnmiaaaGreatDoor
open Go Eng Tryz
def v4t1:CV:=Jt [Jf 3 24 1,Jc 4 (.call ⟨.value (.func 10),#[(Ja 3),(Jb 500)],#[24,3]⟩),Jc 5 (.binOp .gtr 3 (Ja 4) (Jb 500) 3),Jh 2 5] (.ret)
def v4:CV:=Jt [Jc 1 (.box 24 (Ja 0)),Jc 2 (.assign (.const (.bool false)))] v4t1
noncomputable def b4:Code:=f4.body.getD .skip
theorem b4_eq:f4.body=some b4:=by kernel_rfl
theorem v4_eq:viewC prog b4=some v4:=by kernel_rfl
theorem r4_eq:f4.results.toList=[.tmp 2]:=by kernel_rfl
section
variable {tb:List FuncId}{gl:List (List AV)}{A:Nat→Prop}{H:Heap}{u v w:AV}{b:Nat}{Q:AV→Heap→Prop}
theorem great_ok {p:List Prc}(hp:IsPg A H v p) (hQ:∀g H',Keep Non H H'→(g=false→sizPs p≤500)→Q (.bool g) H'):WpF prog tb gl 4 [v] H Q:=by
 have hc:v.cells.length=1∧v=.agg v.cells:=by
  obtain ⟨_,u,rfl,_⟩:=hp;exact ⟨rfl,rfl⟩
 refine fa func4 b4_eq v4_eq r4_eq (.inr (by simp)) ?_;refine zac ?_;refine zaa (zcy rfl fun H1 hk1 hr1=>?_);refine zad rfl ?_;refine zab (zac ?_);refine zaa (zat (k:=1) PlF.h hc.1 (by decide) rfl hr1.pts ?_);rw [←hc.2];refine zaa (zaf rfl rfl rfl (Size_ok (hp.keep hk1) fun n H2 hk2 hC=>?_));unfold Cut at hC;by_cases h:500<n
 ·refine zaa (zgl rfl rfl (Qg h) ?_);refine zad rfl ?_;exact zab (zao ⟨_,rfl,hQ true _ (hk1.trans0 hk2) (fun h=>by cases h)⟩)
 ·refine zaa (zgl rfl rfl (Qf h) ?_);refine zad rfl ?_;exact zab (zao ⟨_,rfl,hQ false _ (hk1.trans0 hk2) (fun _=>by omega)⟩)
end
instance isz_32:SzF prog 32 3:=⟨by kernel_rfl⟩
instance ifp_32_0:FpF prog 32 0 ⟨0,false,1⟩:=⟨by kernel_rfl⟩
def v3c0:CV:=Jt [Jc 15 (.call ⟨.value (.func 5),#[],#[]⟩),Jh 2 15] (.ret)
def v3h1:CV:=Jt [Jf 13 24 1,Jn 14 4 13 24] (.cond (Ja 14) v3c0 (.skip))
def v3c1:CV:=Jt [Jd 23 3,Jj 24 23 27,Jc 25 (.binOp .eql 3 (Ja 24) (Jb 0) 3),Jd 26 25,Js 26 true 27 (.call ⟨.value (.func 5),#[],#[]⟩),Jc 28 (.pick (Ja 26) (Ja 27) (.const (.bool false))),Jh 2 28] (.ret)
def v3h3:CV:=Jt [Jd 21 4,Jc 22 (.binOp .neq 28 (Ja 21) (Jb 0) 28)] (.cond (Ja 22) v3c1 (.skip))
def v3l2h0:CV:=Jt [Jd 29 6,Jd 30 3,Jj 31 30 27,Jc 32 (.binOp .lss 3 (Ja 29) (Ja 31) 3)] (.cond (Ja 32) (.skip) (.exit 0))
def v3l2t1:CV:=.seq (.block 1 (.reg [Jd 35 5,Jd 36 3,Jd 37 6,Jk 38 27 36 37,Jg 39 32 38 0,Jf 40 9 39,Jc 41 (.binOp .add 9 (Ja 35) (Ja 40) 9),Jc 42 (.binOp .add 9 (Ja 41) (.const (.string ⟨⟨[10]⟩⟩)) 9),Jh 5 42])) (.reg [Jd 33 6,Jc 34 (.binOp .add 3 (Ja 33) (Jb 1) 3),Jh 6 34])
def v3l2:CV:=.seq v3l2h0 v3l2t1
def v3h5:CV:=Jt [Ji 6 0] (.block 0 (.loop v3l2))
def v3t8:CV:=Jt [Jd 55 9,Jc 56 (.binOp .neq 28 (Ja 55) (Jb 0) 28),Jd 57 56,Jp 57 false 58 12,Js 57 false 59 (.binOp .eql 28 (Ja 58) (Jb 0) 28),Jp 57 false 60 59,Jr 60 true 61 24 1,Jr 60 true 62 24 10,Js 60 true 63 (.call ⟨.value (.func 9),#[(Ja 61),(Ja 62)],#[24,24]⟩),Js 57 false 64 (.pick (Ja 60) (Ja 63) (.const (.bool false))),Jc 65 (.pick (Ja 57) (.const (.bool true)) (Ja 64)),Jd 66 65,Js 66 true 67 (.call ⟨.value (.func 5),#[],#[]⟩),Jc 68 (.pick (Ja 66) (Ja 67) (.const (.bool false))),Jh 2 68] (.ret)
def v3t7:CV:=Jt [Jd 50 5,Jn 51 8 50 9,Jd 49 51,Jl 52 49 0,Jl 53 49 1,Jl 54 49 2,Jc 10 (.alloc 24),.op none (.store 24 (Ja 10) (Ja 52)),Jh 11 53,Jh 12 54] v3t8
def v3t6:CV:=Jt [Jd 44 5,Jn 45 7 44 9,Jd 43 45,Jl 46 43 0,Jl 47 43 1,Jl 48 43 2,Jh 7 46,Jh 8 47,Jh 9 48] v3t7
def v3t5:CV:=.seq v3h5 v3t6
def v3t4:CV:=Jt [Jc 5 (.assign (.const (.string ⟨⟨[]⟩⟩)))] v3t5
def v3t3:CV:=.seq v3h3 v3t4
def v3t2:CV:=Jt [Jf 17 24 1,Jn 18 6 17 24,Jd 16 18,Jl 19 16 0,Jl 20 16 1,Jh 3 19,Jh 4 20] v3t3
def v3t1:CV:=.seq v3h1 v3t2
def v3:CV:=Jt [Jc 1 (.box 24 (Ja 0)),Jc 2 (.assign (.const (.bool false)))] v3t1
noncomputable def b3:Code:=f3.body.getD .skip
theorem b3_eq:f3.body=some b3:=by kernel_rfl
theorem v3_eq:viewC prog b3=some v3:=by kernel_rfl
theorem r3_eq:f3.results.toList=[.tmp 2]:=by kernel_rfl
theorem rowsC_rw (l:List LR):rowsC l=(l.map LR.rw).flatMap rwC:=by
 induction l with
 |nil=>rfl
 |cons r l ih=>simp only [rowsC,List.flatMap_cons,List.map_cons] at ih ⊢;rw [ih]
theorem zlv {L:List LR}{i:Nat}{r:LR}(h:L[i]? = some r):textRs (L.take (i+1))=(textRs (L.take i)++r.text)++[10]:=by
 rw [zbs h];simp [textRs]
theorem zrd (L:List LR) (i:Nat):(textRs (L.take i)).length≤(textRs L).length:=by
 have:textRs L=textRs (L.take i)++textRs (L.drop i):=by
  unfold textRs;rw [←List.flatMap_append,List.take_append_drop]
 rw [this,J1];omega
section
variable {gl:List (List AV)}{H:Heap}{v w:AV}{Q:AV→Heap→Prop}
set_option maxRecDepth 100000 in
set_option maxHeartbeats 0 in
theorem back_ok (hlaid:Laid gl H) (hK:KeysIn H) {p:List Prc}(hp:IsPg Non H v p) (hQ:∀H',Q (.bool true) H'):
  WpF prog [5] gl 3 [v] H Q:=by
 have hp0:=hp;obtain ⟨hpl,vp,rfl,hLp⟩:=hp;refine fa func3 b3_eq v3_eq r3_eq (.inr (by simp)) ?_;refine zac ?_;refine zaa (zcy rfl fun H1 hk1 hr1=>?_);obtain ⟨bx,hbx⟩:∃b,b=H.nx:=⟨_,rfl⟩
 rw [←hbx] at hr1 ⊢;have hr1:IsRow H1 bx [vp] false false:=hr1;(repeat' first|(refine zad rfl ?_;first|(refine zaa ?_;first|refine zat (k:=1) PlF.h rfl (by decide) rfl hr1.pts ?_|refine zaf rfl rfl rfl (great_ok (hp0.keep hk1) fun g H2 hk2 hg=>?_))|refine zab ?_)|refine zac ?_|refine zaj ?_);have hk02:=hk1.trans0 hk2;cases g;rotate_left
 ·(repeat' first|(refine zad rfl ?_;first|(refine zaa ?_;(refine zkg rfl (hlaid.keep hk02) ?_))|refine zab ?_)|refine zai rfl ?_|refine zac ?_|(refine zao ?_;refine zbr rfl ?_));exact hQ _
 have hz:=hg rfl;have hr2:=hr1.keep0 hk2;(repeat' first|(refine zad rfl ?_;(refine zaa ?_;(refine zat (k:=1) PlF.h rfl (by decide) rfl hr2.pts ?_)))|refine zag rfl ?_|refine zac ?_|refine zam ?_);refine zad rfl ?_;refine zaa (zaf rfl rfl rfl (List_ok (hp0.keep hk02) (hK.keep hk02) hz (fun e H3 hk3 he _=>?_) fun hok hdp u H3 hk3 ho hfr=>?_))
 ·(repeat' first|(refine zad rfl ?_;first|((first|refine zaa ?_|refine zav rfl ?_);first|refine zaq rfl rfl rfl ?_|refine za3 rfl rfl rfl UnF.h rfl (IsSl.nil H3 3) ?_|refine zkg rfl (hlaid.keep (hk02.trans0 hk3)) ?_|refine zax rfl rfl (by omega) ?_|refine zfy rfl rfl (by omega) ?_)|refine zab ?_)|refine zai rfl ?_|refine zac ?_|refine zaj ?_|(refine zao ?_;refine zbr rfl ?_));exact hQ _
 have hk03:=hk02.trans0 hk3;have hr3:=hr2.keep0 hk3;have hRP:=rps_of hp0 hok;obtain ⟨L,hL⟩:∃L,L=lPs p 0:=⟨_,rfl⟩
 have hwd:wdRs L=wdPs p:=by rw [hL];exact zpa 0 hRP
 obtain ⟨g0,ws,htext,hg0,hws,hgs⟩:=zyb (l:=L) (by rw [hL];exact lPs_ne 0 hRP);rw [hwd] at hws;have hall:=zf1 hRP;have hlenT:(textRs L).length<450000:=by
  have h1:=zmx (l:=L) (by rw [hL];exact zsa 0 hRP hdp) (by rw [hwd];exact hall);have h2:=znr p 0;have h3:=wdPs_len hok;rw [hwd] at h1;rw [←hL] at h2;omega
 rw [←hL] at ho;have hrows:IsSl H3 u 3 (L.map LR.rw).length ((L.map LR.rw).flatMap rwC):=by
  rw [←rowsC_rw,List.length_map];exact ho.sl
 have hlm:(L.map LR.rw).length=L.length:=List.length_map ..;have hln:L.length<10000:=by
  have h2:=znr p 0;rw [←hL] at h2;omega
 (repeat' first|(refine zad rfl ?_;first|(refine zaa ?_;(refine zc9 rfl rfl (by omega) ?_))|refine zab ?_)|refine zag rfl ?_|refine zac ?_|refine zaj ?_|refine zau ?_|refine zam ?_);refine zbv (fun (i:Nat)=>[(1,.ptr bx 0),(3,u),(5,S (textRs (L.take i))),(6,.int .i64 (i:Int))]) (fun i H'=>H'=H3∧i≤L.length) (fun i=>L.length-i) ?_ 0 _ H3 ⟨rfl,rfl,rfl,rfl,trivial⟩ ⟨rfl,Nat.zero_le _⟩;rintro i H' ⟨rfl,hi⟩;by_cases hil:i<L.length
 ·obtain ⟨r,hr⟩:∃r,L[i]? = some r:=⟨_,Qa hil⟩
  have hrw:(L.map LR.rw)[i]? = some r.rw:=by rw [List.getElem?_map,hr];rfl
  have ht1:=zrd L (i+1);rw [zlv hr] at ht1;simp only [J1,Jy,J9] at ht1;have hp63:pow63=9223372036854775808:=rfl;(repeat' first|(refine zad rfl ?_;first|(refine zaa ?_;first|refine za3 rfl rfl rfl UnF.h rfl hrows ?_|refine zbz rwC_len UnF.h SzF.h rfl hrows rfl rfl hrw (fun q0 hq0=>?_)|refine za6 FpF.h (by decide) rfl hq0 (fun p2 hp2=>?_)|refine zby PlF.h rfl hp2 rfl ?_|refine zgm (p:=textRs (L.take i)) (q:=r.text) rfl rfl (by omega) ?_|refine zgm (p:=textRs (L.take i)++r.text) (q:=[10]) rfl rfl (by simp only [J1,Jy,J9];omega) ?_|refine zb8 rfl rfl (by omega) ?_)|refine zab ?_)|refine zai rfl ?_|refine zac ?_|refine zaj ?_|refine za1 ?_|refine zau ?_|refine zam ?_);refine zad rfl ?_;refine zaa (zaz (c:=((i+1:Nat):Int)) rfl rfl Ju ?_);refine zad rfl ?_;refine zab ⟨i+1,?_,⟨rfl,rfl,by show _=_;rw [zlv hr];rfl,rfl,trivial⟩,rfl,by omega⟩;show L.length-(i+1)<L.length-i;omega
 ·have e:textRs (L.take i)=g0++rsW ws:=by rw [Qd (by omega),htext]
  show VA _ _ _ _ [(1,.ptr bx 0),(3,u),(5,S (textRs (L.take i))),(6,.int .i64 (i:Int))] _ _;rw [e];rw [htext] at hlenT;have hw:=ws_ok hgs (by rw [hws];exact hall);(repeat' first|(refine zad rfl ?_;first|(refine zaa ?_;first|refine za3 rfl rfl rfl UnF.h rfl hrows ?_|refine zcr rfl rfl (by omega) ?_)|refine zab ?_)|refine zag rfl ?_|refine zac ?_|refine zaj ?_|refine zbq ?_);refine zad rfl ?_;refine zaa (zaf rfl rfl rfl (zu8 hg0 hw hlenT (fun hc a H4 k4=>?_) fun hc u4 l4 H4 k4 _ _ _=>?_))
  ·have hr4:=hr3.keep0 k4;refine zad rfl ?_;refine zab (zac ?_);refine zad rfl ?_;refine zaa (zaf rfl rfl rfl (zpt hg0 hws hgs hlenT hRP hdp (fun _ a' H5 k5=>?_) fun hc'=>absurd hc' hc));refine zad rfl ?_;obtain ⟨bX,hbX⟩:∃b,b=H5.nx:=⟨_,rfl⟩
   refine zaa (za8 ZeF.h fun HaX haX raX=>?_);rw [←hbX] at raX ⊢;refine zad rfl ?_;refine zaa (zan (k:=1) SzF.h rfl rfl rfl rfl raX rfl fun HX hsX hnX rX=>?_);have kX:Keep Non H5 HX:=zb3 haX hsX (by rw [hbX];exact Jz _);(repeat' first|(refine zad rfl ?_;first|refine zbh rfl ?_|refine zo4 rfl ?_|((first|refine zaa ?_|refine zav rfl ?_);first|refine zaq rfl rfl rfl ?_|refine zkg rfl (hlaid.keep (((hk03.trans0 k4).trans0 k5).trans0 kX)) ?_|refine zfy rfl rfl (by omega) ?_)|refine zab ?_)|refine zac ?_|(refine zao ?_;refine zbr rfl ?_));exact hQ _
  ·have hr4:=hr3.keep0 k4;refine zad rfl ?_;refine zab (zac ?_);refine zad rfl ?_;refine zaa (zaf rfl rfl rfl (zpt hg0 hws hgs hlenT hRP hdp (fun hc'=>absurd hc hc') fun _ c H5 k5 hsc hI=>?_));have hscc:scalL [c]=true:=zdq fun a ha=>by rw [List.mem_singleton.1 ha];exact hsc
   refine zad rfl ?_;obtain ⟨bX,hbX⟩:∃b,b=H5.nx:=⟨_,rfl⟩
   refine zaa (za8 ZeF.h fun HaX haX raX=>?_);rw [←hbX] at raX ⊢;refine zad rfl ?_;refine zaa (zan (k:=1) SzF.h rfl rfl rfl hscc raX rfl fun HX hsX hnX rX=>?_);have kX:Keep Non H5 HX:=zb3 haX hsX (by rw [hbX];exact Jz _);have hr5:=(hr4.keep0 k5).keep0 kX;have kA:=((hk03.trans0 k4).trans0 k5).trans0 kX;(repeat' first|(refine zad rfl ?_;first|((first|refine zaa ?_|refine zav rfl ?_);first|refine zal rfl ?_|refine zaq rfl rfl rfl ?_|refine za0 rfl rfl ?_|refine zat (k:=1) PlF.h rfl (by decide) rfl hr5.pts ?_|refine zat (k:=1) PlF.h rfl (by decide) rfl rX.pts ?_|refine zaf rfl rfl rfl (Same_ok (hp0.keep kA) (hI.keep kX) fun H6 k6=>?_)|refine zax rfl rfl (by omega) ?_|refine zc9 rfl rfl (by omega) ?_)|refine zab ?_)|refine zac ?_);(repeat' first|(refine zad rfl ?_;first|((first|refine zaa ?_|refine zav rfl ?_);first|refine zaq rfl rfl rfl ?_|refine zkg rfl (hlaid.keep (kA.trans0 k6)) ?_)|refine zab ?_)|(refine zao ?_;refine zbr rfl ?_));exact hQ _
end
end Go.Proofs.YtniflgldgnmiaaaGreatDoor
