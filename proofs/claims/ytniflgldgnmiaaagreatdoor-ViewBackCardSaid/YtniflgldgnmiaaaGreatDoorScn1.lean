/-
  The document's scanner: bytes, names, key words, signs (parallaxref02: between, letter, digit, inner, IsName, in, Keys, Signs, run, Blank), walked. Conditions: the texts' lengths.
-/
import Derived.Test.YtniflgldgnmiaaaGreatDoorNum
namespace Go.Proofs.YtniflgldgnmiaaaGreatDoor
open Go Eng Tryz
set_option maxHeartbeats 0
def v109t1:CV:=Jt [Jd 7 0,Jd 8 1,Jc 9 (.binOp .geq 5 (Ja 7) (Ja 8) 5),Jd 10 9,Jp 10 true 11 0,Jp 10 true 12 2,Js 10 true 13 (.binOp .leq 5 (Ja 11) (Ja 12) 5),Jc 14 (.pick (Ja 10) (Ja 13) (.const (.bool false))),Jh 6 14] (.ret)
def v109:CV:=Jt [Jc 6 (.assign (.const (.bool false)))] v109t1
noncomputable def b109:Code:=f109.body.getD .skip
theorem b109_eq:f109.body=some b109:=by kernel_rfl
theorem v109_eq:viewC prog b109=some v109:=by kernel_rfl
theorem r109_eq:f109.results.toList=[.tmp 6]:=by kernel_rfl
def v112t1:CV:=Jt [Jd 3 0,Jc 4 (.call ⟨.value (.func 109),#[(Ja 3),(.const (.int .u8 65)),(.const (.int .u8 90))],#[5,5,5]⟩),Jd 5 4,Jp 5 false 6 0,Js 5 false 7 (.call ⟨.value (.func 109),#[(Ja 6),(.const (.int .u8 97)),(.const (.int .u8 122))],#[5,5,5]⟩),Jc 8 (.pick (Ja 5) (.const (.bool true)) (Ja 7)),Jh 2 8] (.ret)
def v112:CV:=Jt [Jc 2 (.assign (.const (.bool false)))] v112t1
noncomputable def b112:Code:=f112.body.getD .skip
theorem b112_eq:f112.body=some b112:=by kernel_rfl
theorem v112_eq:viewC prog b112=some v112:=by kernel_rfl
theorem r112_eq:f112.results.toList=[.tmp 2]:=by kernel_rfl
def v57t1:CV:=Jt [Jd 3 0,Jc 4 (.call ⟨.value (.func 109),#[(Ja 3),(.const (.int .u8 48)),(.const (.int .u8 57))],#[5,5,5]⟩),Jh 2 4] (.ret)
def v57:CV:=Jt [Jc 2 (.assign (.const (.bool false)))] v57t1
noncomputable def b57:Code:=f57.body.getD .skip
theorem b57_eq:f57.body=some b57:=by kernel_rfl
theorem v57_eq:viewC prog b57=some v57:=by kernel_rfl
theorem r57_eq:f57.results.toList=[.tmp 2]:=by kernel_rfl
def v108t1:CV:=Jt [Jd 3 0,Jn 4 112 3 5,Jd 5 4,Jp 5 false 6 0,Js 5 false 7 (.call ⟨.value (.func 57),#[(Ja 6)],#[5]⟩),Jc 8 (.pick (Ja 5) (.const (.bool true)) (Ja 7)),Jd 9 8,Jp 9 false 10 0,Js 9 false 11 (.binOp .eql 5 (Ja 10) (.const (.int .u8 95)) 5),Jc 12 (.pick (Ja 9) (.const (.bool true)) (Ja 11)),Jh 2 12] (.ret)
def v108:CV:=Jt [Jc 2 (.assign (.const (.bool false)))] v108t1
noncomputable def b108:Code:=f108.body.getD .skip
theorem b108_eq:f108.body=some b108:=by kernel_rfl
theorem v108_eq:viewC prog b108=some v108:=by kernel_rfl
theorem r108_eq:f108.results.toList=[.tmp 2]:=by kernel_rfl
def v59l0h0:CV:=Jt [Jd 6 5,Jd 7 1,Jj 8 7 40,Jc 9 (.binOp .lss 3 (Ja 6) (Ja 8) 3)] (.cond (Ja 9) (.skip) (.exit 0))
def v59c1:CV:=Jt [Jc 4 (.assign (.const (.bool true)))] (.ret)
def v59k0:CV:=Jt [Jd 12 1,Jd 13 5,Jk 14 40 12 13,Jf 15 9 14,Jd 16 0,Jc 17 (.binOp .eql 9 (Ja 15) (Ja 16) 9)] (.cond (Ja 17) v59c1 (.skip))
def v59l0t1:CV:=.seq (.block 1 v59k0) (.reg [Jd 10 5,Jc 11 (.binOp .add 3 (Ja 10) (Jb 1) 3),Jh 5 11])
def v59l0:CV:=.seq v59l0h0 v59l0t1
def v59h1:CV:=Jt [Ji 5 0] (.block 0 (.loop v59l0))
def v59t2:CV:=Jt [Jc 4 (.assign (.const (.bool false)))] (.ret)
def v59t1:CV:=.seq v59h1 v59t2
def v59:CV:=Jt [Jc 4 (.assign (.const (.bool false)))] v59t1
noncomputable def b59:Code:=f59.body.getD .skip
theorem b59_eq:f59.body=some b59:=by kernel_rfl
theorem v59_eq:viewC prog b59=some v59:=by kernel_rfl
theorem r59_eq:f59.results.toList=[.tmp 4]:=by kernel_rfl
def v60t1:CV:=Jt [Jc 1 (.buildSlice 40 13 #[(0,(.const (.string ⟨⟨[112,114,111,99]⟩⟩))),(1,(.const (.string ⟨⟨[118,97,114]⟩⟩))),(2,(.const (.string ⟨⟨[105,102]⟩⟩))),(3,(.const (.string ⟨⟨[101,108,115,101]⟩⟩))),(4,(.const (.string ⟨⟨[119,104,105,108,101]⟩⟩))),(5,(.const (.string ⟨⟨[114,101,116,117,114,110]⟩⟩))),(6,(.const (.string ⟨⟨[112,114,105,110,116]⟩⟩))),(7,(.const (.string ⟨⟨[114,101,97,100]⟩⟩))),(8,(.const (.string ⟨⟨[97,115,115,101,114,116]⟩⟩))),(9,(.const (.string ⟨⟨[105,110,116]⟩⟩))),(10,(.const (.string ⟨⟨[98,111,111,108]⟩⟩))),(11,(.const (.string ⟨⟨[116,114,117,101]⟩⟩))),(12,(.const (.string ⟨⟨[102,97,108,115,101]⟩⟩)))]),Jh 0 1] (.ret)
def v60:CV:=Jt [Jc 0 (.assign (.const (.slice none 0 0)))] v60t1
noncomputable def b60:Code:=f60.body.getD .skip
theorem b60_eq:f60.body=some b60:=by kernel_rfl
theorem v60_eq:viewC prog b60=some v60:=by kernel_rfl
theorem r60_eq:f60.results.toList=[.tmp 0]:=by kernel_rfl
def v62t1:CV:=Jt [Jc 1 (.buildSlice 40 21 #[(0,(.const (.string ⟨⟨[40]⟩⟩))),(1,(.const (.string ⟨⟨[41]⟩⟩))),(2,(.const (.string ⟨⟨[123]⟩⟩))),(3,(.const (.string ⟨⟨[125]⟩⟩))),(4,(.const (.string ⟨⟨[91]⟩⟩))),(5,(.const (.string ⟨⟨[93]⟩⟩))),(6,(.const (.string ⟨⟨[44]⟩⟩))),(7,(.const (.string ⟨⟨[59]⟩⟩))),(8,(.const (.string ⟨⟨[61]⟩⟩))),(9,(.const (.string ⟨⟨[61,61]⟩⟩))),(10,(.const (.string ⟨⟨[33,61]⟩⟩))),(11,(.const (.string ⟨⟨[60]⟩⟩))),(12,(.const (.string ⟨⟨[60,61]⟩⟩))),(13,(.const (.string ⟨⟨[38,38]⟩⟩))),(14,(.const (.string ⟨⟨[124,124]⟩⟩))),(15,(.const (.string ⟨⟨[33]⟩⟩))),(16,(.const (.string ⟨⟨[43]⟩⟩))),(17,(.const (.string ⟨⟨[45]⟩⟩))),(18,(.const (.string ⟨⟨[42]⟩⟩))),(19,(.const (.string ⟨⟨[47]⟩⟩))),(20,(.const (.string ⟨⟨[37]⟩⟩)))]),Jh 0 1] (.ret)
def v62:CV:=Jt [Jc 0 (.assign (.const (.slice none 0 0)))] v62t1
noncomputable def b62:Code:=f62.body.getD .skip
theorem b62_eq:f62.body=some b62:=by kernel_rfl
theorem v62_eq:viewC prog b62=some v62:=by kernel_rfl
theorem r62_eq:f62.results.toList=[.tmp 0]:=by kernel_rfl
def v61l0h0:CV:=Jt [Jd 4 3,Jd 5 0,Jj 6 5 9,Jc 7 (.binOp .lss 3 (Ja 4) (Ja 6) 3)] (.cond (Ja 7) (.skip) (.exit 0))
def v61c1:CV:=Jt [Jc 2 (.assign (.const (.bool false)))] (.ret)
def v61k0:CV:=Jt [Jd 10 0,Jd 11 3,Jc 12 (.index 9 (Ja 10) (Ja 11)),Jn 13 108 12 5,Jc 14 (.unOp .not 4 (Ja 13))] (.cond (Ja 14) v61c1 (.skip))
def v61l0t1:CV:=.seq (.block 1 v61k0) (.reg [Jd 8 3,Jc 9 (.binOp .add 3 (Ja 8) (Jb 1) 3),Jh 3 9])
def v61l0:CV:=.seq v61l0h0 v61l0t1
def v61h1:CV:=Jt [Ji 3 0] (.block 0 (.loop v61l0))
def v61t2:CV:=Jt [Jd 15 0,Jj 16 15 9,Jc 17 (.binOp .gtr 3 (Ja 16) (Jb 0) 3),Jd 18 17,Jp 18 true 19 0,Js 18 true 20 (.call ⟨.builtin .len,#[(Ja 19)],#[9]⟩),Js 18 true 21 (.binOp .leq 3 (Ja 20) (Jb 40) 3),Jc 22 (.pick (Ja 18) (Ja 21) (.const (.bool false))),Jd 23 22,Jp 23 true 24 0,Js 23 true 25 (.index 9 (Ja 24) (Jb 0)),Js 23 true 26 (.call ⟨.value (.func 112),#[(Ja 25)],#[5]⟩),Jc 27 (.pick (Ja 23) (Ja 26) (.const (.bool false))),Jd 28 27,Jp 28 true 29 0,Js 28 true 30 (.call ⟨.value (.func 60),#[],#[]⟩),Js 28 true 31 (.call ⟨.value (.func 59),#[(Ja 29),(Ja 30)],#[9,40]⟩),Js 28 true 32 (.unOp .not 4 (Ja 31)),Jc 33 (.pick (Ja 28) (Ja 32) (.const (.bool false))),Jh 2 33] (.ret)
def v61t1:CV:=.seq v61h1 v61t2
def v61:CV:=Jt [Jc 2 (.assign (.const (.bool false)))] v61t1
noncomputable def b61:Code:=f61.body.getD .skip
theorem b61_eq:f61.body=some b61:=by kernel_rfl
theorem v61_eq:viewC prog b61=some v61:=by kernel_rfl
theorem r61_eq:f61.results.toList=[.tmp 2]:=by kernel_rfl
def v56l0h0:CV:=Jt [Jd 4 3,Jd 5 0,Jj 6 5 9,Jc 7 (.binOp .lss 3 (Ja 4) (Ja 6) 3),Jd 8 7,Jp 8 true 9 0,Jp 8 true 10 3,Js 8 true 11 (.index 9 (Ja 9) (Ja 10)),Js 8 true 12 (.call ⟨.value (.func 108),#[(Ja 11)],#[5]⟩),Jc 13 (.pick (Ja 8) (Ja 12) (.const (.bool false)))] (.cond (Ja 13) (.skip) (.exit 0))
def v56l0:CV:=.seq v56l0h0 (.block 1 (.reg [Jd 14 3,Jc 15 (.binOp .add 3 (Ja 14) (Jb 1) 3),Jh 3 15]))
def v56t3:CV:=Jt [Jd 16 3,Jh 2 16] (.ret)
def v56t2:CV:=.seq (.block 0 (.loop v56l0)) v56t3
def v56t1:CV:=Jt [Ji 3 0] v56t2
def v56:CV:=Jt [Ji 2 0] v56t1
noncomputable def b56:Code:=f56.body.getD .skip
theorem b56_eq:f56.body=some b56:=by kernel_rfl
theorem v56_eq:viewC prog b56=some v56:=by kernel_rfl
theorem r56_eq:f56.results.toList=[.tmp 2]:=by kernel_rfl
def v21l0h0:CV:=Jt [Jd 5 4,Jd 6 0,Jj 7 6 9,Jc 8 (.binOp .lss 3 (Ja 5) (Ja 7) 3)] (.cond (Ja 8) (.skip) (.exit 0))
def v21c3:CV:=Jt [Jd 30 4,Jh 2 30] (.ret)
def v21c2:CV:=Jt [Jd 22 3,Jc 23 (.unOp .not 4 (Ja 22)),Jd 24 23,Jp 24 true 25 0,Jp 24 true 26 4,Js 24 true 27 (.index 9 (Ja 25) (Ja 26)),Js 24 true 28 (.binOp .neq 5 (Ja 27) (.const (.int .u8 32)) 5),Jc 29 (.pick (Ja 24) (Ja 28) (.const (.bool false))),Jh 21 29] (.cond (Ja 21) v21c3 (.skip))
def v21c1:CV:=Jt [Jd 17 0,Jd 18 4,Jc 19 (.index 9 (Ja 17) (Ja 18)),Jc 20 (.binOp .eql 5 (Ja 19) (.const (.int .u8 35)) 5),Jh 16 20] (.cond (Ja 16) (.reg [Jc 3 (.assign (.const (.bool true)))]) v21c2)
def v21k0:CV:=Jt [Jd 12 0,Jd 13 4,Jc 14 (.index 9 (Ja 12) (Ja 13)),Jc 15 (.binOp .eql 5 (Ja 14) (.const (.int .u8 10)) 5),Jh 11 15] (.cond (Ja 11) (.reg [Jc 3 (.assign (.const (.bool false)))]) v21c1)
def v21l0t1:CV:=.seq (.block 1 (.block 2 v21k0)) (.reg [Jd 9 4,Jc 10 (.binOp .add 3 (Ja 9) (Jb 1) 3),Jh 4 10])
def v21l0:CV:=.seq v21l0h0 v21l0t1
def v21h2:CV:=Jt [Ji 4 0] (.block 0 (.loop v21l0))
def v21t3:CV:=Jt [Jd 31 0,Jj 32 31 9,Jh 2 32] (.ret)
def v21t2:CV:=.seq v21h2 v21t3
def v21t1:CV:=Jt [Jc 3 (.assign (.const (.bool false)))] v21t2
def v21:CV:=Jt [Ji 2 0] v21t1
noncomputable def b21:Code:=f21.body.getD .skip
theorem b21_eq:f21.body=some b21:=by kernel_rfl
theorem v21_eq:viewC prog b21=some v21:=by kernel_rfl
theorem r21_eq:f21.results.toList=[.tmp 2]:=by kernel_rfl
def signsL : List (List UInt8) := ["(", ")", "{", "}", "[", "]", ",", ";", "=", "==", "!=", "<", "<=", "&&", "||", "!", "+", "-", "*", "/", "%"].map fun s => s.toUTF8.data.toList
section
variable {tb:List FuncId}{gl:List (List AV)}{H:Heap}{v w:AV}{Q:AV→Heap→Prop}
theorem zi6 {c lo hi:Int}(hQ:Q (.bool (decide (lo≤c)&&decide (c≤hi))) H):WpF prog tb gl 109 [.int .u8 c,.int .u8 lo,.int .u8 hi] H Q:=by
 refine fa func109 b109_eq v109_eq r109_eq (.inr (by simp)) ?_;(repeat' first|(refine zad rfl ?_;first|refine zbh rfl ?_|((first|refine zaa ?_|refine zav rfl ?_);first|refine zal rfl ?_|refine zaq rfl rfl rfl ?_|refine za0 rfl rfl ?_|refine zxe rfl rfl (fun hc=>?_) (fun hc=>?_)|refine zqz rfl rfl (fun hc=>?_) (fun hc=>?_))|refine zab ?_)|refine zac ?_|(refine zao ?_;refine zbr rfl ?_))
 all_goals simpa [*] using hQ
theorem letB_eq (c:UInt8):letB c=((decide ((65:Int)≤c.toNat)&&decide ((c.toNat:Int)≤90))||(decide ((97:Int)≤c.toNat)&&decide ((c.toNat:Int)≤122))):=by
 unfold letB
 congr 1<;>congr 1<;>exact decide_eq_decide.2 (by omega)
theorem digB_eq (c:UInt8):digB c=(decide ((48:Int)≤c.toNat)&&decide ((c.toNat:Int)≤57)):=by
 unfold digB
 congr 1<;>exact decide_eq_decide.2 (by omega)
theorem zmv (c:UInt8) (hQ:Q (.bool (letB c)) H):WpF prog tb gl 112 [u8 c] H Q:=by
 rw [letB_eq] at hQ;refine fa func112 b112_eq v112_eq r112_eq (.inr (by simp)) ?_;refine zac ?_;refine zad rfl ?_;refine zab (zac ?_);refine zad rfl ?_;refine zaa (zaf rfl rfl rfl (zi6 ?_));refine zad rfl ?_;cases h:(decide ((65:Int)≤c.toNat)&&decide ((c.toNat:Int)≤90))<;>rw [h] at hQ
 ·(repeat' first|(refine zad rfl ?_;first|((first|refine zaa ?_|refine zav rfl ?_);first|refine zal rfl ?_|refine za0 rfl rfl ?_|refine zaf rfl rfl rfl (zi6 ?_))|refine zab ?_)|(refine zao ?_;refine zbr rfl ?_));simpa using hQ
 ·(repeat' first|(refine zad rfl ?_;first|refine zbh rfl ?_|(refine zaa ?_;(refine zaq rfl rfl rfl ?_))|refine zab ?_)|(refine zao ?_;refine zbr rfl ?_));simpa using hQ
theorem zgq (c:UInt8) (hQ:Q (.bool (digB c)) H):WpF prog tb gl 57 [u8 c] H Q:=by
 rw [digB_eq] at hQ;refine fa func57 b57_eq v57_eq r57_eq (.inr (by simp)) ?_;(repeat' first|(refine zad rfl ?_;first|(refine zaa ?_;(refine zaf rfl rfl rfl (zi6 ?_)))|refine zab ?_)|refine zac ?_|(refine zao ?_;refine zbr rfl ?_));simpa using hQ
theorem zlq (c:UInt8) (hQ:Q (.bool (innB c)) H):WpF prog tb gl 108 [u8 c] H Q:=by
 unfold innB at hQ;refine fa func108 b108_eq v108_eq r108_eq (.inr (by simp)) ?_;refine zac ?_;refine zad rfl ?_;refine zab (zac ?_);refine zad rfl ?_;refine zaa (zaf rfl rfl rfl (zmv c ?_));refine zad rfl ?_;cases h:letB c<;>rw [h] at hQ;rotate_left
 ·(repeat' first|(refine zad rfl ?_;first|refine zbh rfl ?_|(refine zaa ?_;(refine zaq rfl rfl rfl ?_))|refine zab ?_)|(refine zao ?_;refine zbr rfl ?_));simpa using hQ
 cases h2:digB c<;>rw [h2] at hQ
 ·(repeat' (refine zad rfl ?_;((first|refine zaa ?_|refine zav rfl ?_);first|refine zal rfl ?_|refine za0 rfl rfl ?_|refine zaf rfl rfl rfl (zgq c ?_))));rw [h2];(repeat' first|(refine zad rfl ?_;first|((first|refine zaa ?_|refine zav rfl ?_);first|refine zal rfl ?_|refine za0 rfl rfl ?_|refine zn0 rfl rfl (fun hc=>?_) (fun hc=>?_))|refine zab ?_)|(refine zao ?_;refine zbr rfl ?_))
  ·simpa [show c.toNat=95 by omega] using hQ
  ·simpa [show ¬c.toNat=95 by omega] using hQ
 ·(repeat' (refine zad rfl ?_;((first|refine zaa ?_|refine zav rfl ?_);first|refine zal rfl ?_|refine za0 rfl rfl ?_|refine zaf rfl rfl rfl (zgq c ?_))));rw [h2];(repeat' first|(refine zad rfl ?_;first|refine zbh rfl ?_|(refine zaa ?_;(refine zaq rfl rfl rfl ?_))|refine zab ?_)|(refine zao ?_;refine zbr rfl ?_));simpa using hQ
theorem in_ok {s:List UInt8}{l:List (List UInt8)}(hl:l.length<1000000) (hv:IsSl H v 1 l.length (l.flatMap txC)) (hQ:Q (.bool (l.contains s)) H):WpF prog tb gl 59 [S s,v] H Q:=by
 refine fa func59 b59_eq v59_eq r59_eq (.inr (by simp)) ?_;(repeat' first|(refine zad rfl ?_;(refine zab ?_))|refine zac ?_|refine zaj ?_|refine zau ?_);refine zbv (fun (i:Nat)=>[(0,S s),(1,v),(5,.int .i64 (i:Int))]) (fun i H'=>H'=H∧i≤l.length∧¬s∈l.take i) (fun i=>l.length-i) ?_ 0 _ H ⟨rfl,rfl,rfl,trivial⟩ ⟨rfl,Nat.zero_le _,by simp⟩;rintro i H' ⟨rfl,hle,hno⟩;by_cases hi:i<l.length;rotate_left
 ·rw [Qd (by omega)] at hno;(repeat' first|(refine zad rfl ?_;first|(refine zaa ?_;first|refine za3 rfl rfl rfl UnF.h rfl hv ?_|refine zcr rfl rfl (by omega) ?_)|refine zab ?_)|refine zag rfl ?_|refine zac ?_|refine zaj ?_|refine zbq ?_|(refine zao ?_;refine zbr rfl ?_));have:l.contains s=false:=by simpa using hno
  rw [this] at hQ;exact hQ
 obtain ⟨x,hx⟩:∃x,l[i]? = some x:=⟨_,Qa hi⟩
 refine zaj (zac ?_);refine zad rfl ?_;refine zaa (za3 rfl rfl rfl UnF.h rfl hv ?_);refine zaa (zb8 rfl rfl (by omega) ?_);refine zab (zai rfl (zam (zaj (zau (zac ?_)))));refine zad rfl ?_;refine zaa (zbz zog UnF.h SzF.h rfl hv rfl rfl hx fun q0 hq0=>?_);refine zaa (zby PlF.h rfl hq0 rfl ?_);(repeat' first|(refine zad rfl ?_;first|(refine zaa ?_;(refine zn3 rfl rfl (fun hc=>?_) (fun hc=>?_)))|refine zab ?_)|refine zai rfl ?_|refine zag rfl ?_|refine zac ?_|refine za1 ?_|refine zam ?_|(refine zao ?_;refine zbr rfl ?_))
 ·have:l.contains s=true:=by
   rw [List.contains_iff_mem];have h:x=s:=by assumption
   rw [←h];exact Qe hx
  rw [this] at hQ;exact hQ
 ·have h:¬x=s:=by assumption
  refine zad rfl ?_;refine zaa (zaz (c:=((i+1:Nat):Int)) rfl rfl Ju ?_);refine zad rfl ?_;refine zab ⟨i+1,?_,⟨rfl,rfl,rfl,trivial⟩,rfl,by omega,?_⟩
  ·show l.length-(i+1)<l.length-i;omega
  ·rw [zbs hx];simp only [List.mem_append,List.mem_singleton,not_or];exact ⟨hno,fun e=>h e.symm⟩
theorem zqc (hQ:∀u H',Keep Non H H'→IsSl H' u 1 13 (keysL.flatMap txC)→Q u H'):WpF prog [5] gl 60 [] H Q:=by
 refine fa func60 b60_eq v60_eq r60_eq (.inl (by decide)) ?_;(repeat' first|(refine zad rfl ?_;(refine zab ?_))|refine zac ?_);refine zad rfl ?_;refine zaa (zap (n:=13) (vs:=keysL.flatMap txC) ElF.h (by decide) (by kernel_rfl) rfl fun H2 hk2 hr2=>?_);(repeat' first|(refine zad rfl ?_;(refine zab ?_))|(refine zao ?_;refine zbr rfl ?_));exact hQ _ _ hk2 (IsRow.sl (es:=1) (n:=13) hr2 rfl (Jz _))
theorem Signs_ok (hQ:∀u H',Keep Non H H'→IsSl H' u 1 21 (signsL.flatMap txC)→Q u H'):WpF prog [5] gl 62 [] H Q:=by
 refine fa func62 b62_eq v62_eq r62_eq (.inl (by decide)) ?_;(repeat' first|(refine zad rfl ?_;(refine zab ?_))|refine zac ?_);refine zad rfl ?_;refine zaa (zap (n:=21) (vs:=signsL.flatMap txC) ElF.h (by decide) (by kernel_rfl) rfl fun H2 hk2 hr2=>?_);(repeat' first|(refine zad rfl ?_;(refine zab ?_))|(refine zao ?_;refine zbr rfl ?_));exact hQ _ _ hk2 (IsRow.sl (es:=1) (n:=21) hr2 rfl (Jz _))
theorem zw0 {s:List UInt8}{i:Nat}{c:UInt8}(hc:s[i]? = some c) (h:innB c=false):nameB s=false:=by
 have:s.all innB=false:=by
  rw [List.all_eq_false];exact ⟨c,Qe hc,by rw [h];simp⟩
 simp [nameB,this]
theorem zul (s:List UInt8) (hs:s.length<1000000) (hQ:∀H',Keep Non H H'→Q (.bool (nameB s)) H'):WpF prog [5] gl 61 [S s] H Q:=by
 refine fa func61 b61_eq v61_eq r61_eq (.inr (by simp)) ?_;(repeat' first|(refine zad rfl ?_;(refine zab ?_))|refine zac ?_|refine zaj ?_|refine zau ?_);refine zbv (fun (i:Nat)=>[(0,S s),(3,.int .i64 (i:Int))]) (fun i H'=>H'=H∧i≤s.length∧(s.take i).all innB=true) (fun i=>s.length-i) ?_ 0 _ H ⟨rfl,rfl,trivial⟩ ⟨rfl,Nat.zero_le _,rfl⟩;rintro i H' ⟨rfl,hle,hall⟩;by_cases hi:i<s.length;rotate_left
 ·rw [Qd (by omega)] at hall;refine zaj ?_;(repeat' first|(refine zad rfl ?_;first|refine zbh rfl ?_|((first|refine zaa ?_|refine zav rfl ?_);first|refine zal rfl ?_|refine zaq rfl rfl rfl ?_|refine za0 rfl rfl ?_|refine zb4 rfl rfl rfl UnF.h rfl ?_|refine zcr rfl rfl (by omega) ?_|refine zxe rfl rfl (fun hc=>?_) (fun hc=>?_)|refine oa_gtrS rfl rfl (fun hc=>?_) (fun hc=>?_))|refine zab ?_)|refine zag rfl ?_|refine zac ?_|refine zbq ?_|(refine zao ?_;refine zbr rfl ?_))
  ·have h40:(s.length:Int)≤40:=by assumption
   have h0:(0:Int)<s.length:=by assumption
   obtain ⟨c,r,rfl⟩:∃c r,s=c::r:=by
    cases s with
    |nil=>simp at h0
    |cons c r=>exact ⟨c,r,rfl⟩
   refine zav rfl (zcz (j:=0) (c:=c) UnF.h rfl rfl rfl rfl ?_);refine zav rfl (zaf rfl rfl rfl (zmv c ?_));cases hl:letB c
   ·(repeat' first|(refine zad rfl ?_;first|refine zbh rfl ?_|(refine zaa ?_;first|refine zaq rfl rfl rfl ?_|refine za0 rfl rfl ?_)|refine zab ?_)|(refine zao ?_;refine zbr rfl ?_));have e:nameB (c::r)=false:=by simp [nameB,hl]
    rw [e] at hQ;exact hQ _ (.refl _ _)
   ·(repeat' (refine zad rfl ?_;((first|refine zaa ?_|refine zav rfl ?_);first|refine zal rfl ?_|refine zaq rfl rfl rfl ?_)));refine zav rfl (zaf rfl rfl rfl (zqc fun u H2 hk2 hu=>?_));refine zav rfl (zaf rfl rfl rfl (in_ok (l:=keysL) (by decide) hu ?_));have e:nameB (c::r) = !keysL.contains (c::r):=by
     simp only [nameB,hl,hall,Bool.true_and,Bool.and_true];rw [Qg (by omega),Bool.true_and]
    rw [e] at hQ;(repeat' first|(refine zad rfl ?_;first|((first|refine zaa ?_|refine zav rfl ?_);first|refine zaq rfl rfl rfl ?_|refine zfh rfl ?_)|refine zab ?_)|(refine zao ?_;refine zbr rfl ?_));exact hQ _ hk2
  ·have e:nameB s=false:=by
    have:¬s.length≤40:=by omega
    simp [nameB,this]
   rw [e] at hQ;exact hQ _ (.refl _ _)
  ·have e:nameB s=false:=by
    cases s with
    |nil=>rfl
    |cons c r=>exact absurd (by simp) (show ¬(0:Int)<((c::r).length:Int) by assumption)
   rw [e] at hQ;exact hQ _ (.refl _ _)
 obtain ⟨c,hc⟩:∃c,s[i]? = some c:=⟨_,Qa hi⟩
 refine zaj ?_;(repeat' first|(refine zad rfl ?_;first|(refine zaa ?_;first|refine zb4 rfl rfl rfl UnF.h rfl ?_|refine zb8 rfl rfl (by omega) ?_)|refine zab ?_)|refine zai rfl ?_|refine zac ?_|refine zaj ?_|refine zau ?_|refine zam ?_);refine zad rfl ?_;refine zaa (zcz UnF.h rfl rfl rfl hc ?_);refine zaa (zaf rfl rfl rfl (zlq c ?_));cases h:innB c
 ·(repeat' first|(refine zad rfl ?_;(refine zab ?_))|refine zai rfl ?_|refine zac ?_|(refine zao ?_;refine zbr rfl ?_));have e:=zw0 hc h;rw [e] at hQ;exact hQ _ (.refl _ _)
 ·(repeat' first|(refine zad rfl ?_;(refine zab ?_))|refine zag rfl ?_|refine za1 ?_|refine zam ?_);refine zad rfl ?_;refine zaa (zaz (c:=((i+1:Nat):Int)) rfl rfl Ju ?_);refine zad rfl ?_;refine zab ⟨i+1,?_,⟨rfl,rfl,trivial⟩,rfl,by omega,?_⟩
  ·show s.length-(i+1)<s.length-i;omega
  ·rw [zbs hc,List.all_append,hall];simp [h]
theorem zwe {α:Type}{w r:List α}{i:Nat}(h:i<w.length):(w++r)[i]? = w[i]?:=List.getElem?_append_left h
theorem zye {w r:List UInt8}(hs:(w++r).length<1000000) (hw:w.all innB=true) (hr:∀c r',r=c::r'→innB c=false) (hQ:Q (.int .i64 (w.length:Int)) H):WpF prog tb gl 56 [S (w++r)] H Q:=by
 have hlen:(w++r).length=w.length+r.length:=J1;refine fa func56 b56_eq v56_eq r56_eq (.inr (by simp)) ?_;(repeat' first|(refine zad rfl ?_;(refine zab ?_))|refine zac ?_|refine zaj ?_|refine zau ?_);refine zbv (fun (i:Nat)=>[(0,S (w++r)),(3,.int .i64 (i:Int))]) (fun i H'=>H'=H∧i≤w.length) (fun i=>w.length-i) ?_ 0 _ H ⟨rfl,rfl,trivial⟩ ⟨rfl,Nat.zero_le _⟩;rintro i H' ⟨rfl,hle⟩;by_cases hi:i<w.length;rotate_left
 ·have ei:i=w.length:=by omega
  subst ei;cases r with
  |nil=>
   simp only [List.append_nil] at hs ⊢;(repeat' first|(refine zad rfl ?_;first|refine zbh rfl ?_|(refine zaa ?_;first|refine za0 rfl rfl ?_|refine zb4 rfl rfl rfl UnF.h rfl ?_|refine zcr rfl rfl (by omega) ?_)|refine zab ?_)|refine zag rfl ?_|refine zac ?_|refine zaj ?_|refine zbq ?_|(refine zao ?_;refine zbr rfl ?_));exact hQ
  |cons c r'=>
   have hc:=hr c r' rfl;simp only [Jy] at hlen;refine zaj (zac ?_);refine zad rfl ?_;refine zaa (zb4 rfl rfl rfl UnF.h rfl ?_);refine zaa (zb8 rfl rfl (by omega) ?_);refine zad rfl ?_;refine zav rfl (zal rfl ?_);refine zav rfl (zal rfl ?_);refine zav rfl (zcz (j:=w.length) (c:=c) UnF.h rfl rfl rfl (by simp) ?_);refine zav rfl (zaf rfl rfl rfl (zlq c ?_));rw [hc];(repeat' first|(refine zad rfl ?_;first|(refine zaa ?_;(refine zaq rfl rfl rfl ?_))|refine zab ?_)|refine zag rfl ?_|refine zac ?_|refine zbq ?_|(refine zao ?_;refine zbr rfl ?_));exact hQ
 obtain ⟨c,hc⟩:∃c,w[i]? = some c:=⟨_,Qa hi⟩
 have hi2:innB c=true:=List.all_eq_true.1 hw c (Qe hc);refine zaj (zac ?_);refine zad rfl ?_;refine zaa (zb4 rfl rfl rfl UnF.h rfl ?_);refine zaa (zb8 rfl rfl (by omega) ?_);refine zad rfl ?_;refine zav rfl (zal rfl ?_);refine zav rfl (zal rfl ?_);refine zav rfl (zcz (j:=i) (c:=c) UnF.h rfl rfl rfl (by rw [zwe hi];exact hc) ?_);refine zav rfl (zaf rfl rfl rfl (zlq c ?_));rw [hi2];(repeat' first|(refine zad rfl ?_;first|(refine zaa ?_;(refine zaq rfl rfl rfl ?_))|refine zab ?_)|refine zai rfl ?_|refine za1 ?_|refine zau ?_|refine zam ?_);refine zad rfl ?_;refine zaa (zaz (c:=((i+1:Nat):Int)) rfl rfl Ju ?_);refine zad rfl ?_;refine zab ⟨i+1,?_,⟨rfl,rfl,trivial⟩,rfl,by omega⟩;show w.length-(i+1)<w.length-i;omega
theorem zrk {g r:List UInt8}(hs:(g++r).length<1000000) (hg:∀c∈g,c=32∨c=10) (hr:∀c r',r=c::r'→c≠32∧c≠10∧c≠35) (hQ:Q (.int .i64 (g.length:Int)) H):WpF prog tb gl 21 [S (g++r)] H Q:=by
 have hlen:(g++r).length=g.length+r.length:=J1;refine fa func21 b21_eq v21_eq r21_eq (.inr (by simp)) ?_;(repeat' first|(refine zad rfl ?_;(refine zab ?_))|refine zac ?_|refine zaj ?_|refine zau ?_);refine zbv (fun (i:Nat)=>[(0,S (g++r)),(3,.bool false),(4,.int .i64 (i:Int))]) (fun i H'=>H'=H∧i≤g.length) (fun i=>g.length-i) ?_ 0 _ H ⟨rfl,rfl,rfl,trivial⟩ ⟨rfl,Nat.zero_le _⟩;rintro i H' ⟨rfl,hle⟩;by_cases hi:i<g.length;rotate_left
 ·have ei:i=g.length:=by omega
  subst ei;cases r with
  |nil=>
   simp only [List.append_nil] at hs ⊢;(repeat' first|(refine zad rfl ?_;first|(refine zaa ?_;first|refine zb4 rfl rfl rfl UnF.h rfl ?_|refine zcr rfl rfl (by omega) ?_)|refine zab ?_)|refine zag rfl ?_|refine zac ?_|refine zaj ?_|refine zbq ?_|(refine zao ?_;refine zbr rfl ?_));exact hQ
  |cons c r'=>
   obtain ⟨h1,h2,h3⟩:=hr c r' rfl;have n1:¬(c.toNat:Int)=32:=fun e=>h1 (UInt8.toNat_inj.1 (show c.toNat=32 by omega));have n2:¬(c.toNat:Int)=10:=fun e=>h2 (UInt8.toNat_inj.1 (show c.toNat=10 by omega));have n3:¬(c.toNat:Int)=35:=fun e=>h3 (UInt8.toNat_inj.1 (show c.toNat=35 by omega));simp only [Jy] at hlen;have hx:(g++c::r')[g.length]? = some c:=by simp
   refine zaj ?_;(repeat' first|(refine zad rfl ?_;first|((first|refine zaa ?_|refine zav rfl ?_);first|refine zal rfl ?_|refine zaq rfl rfl rfl ?_|refine zb4 rfl rfl rfl UnF.h rfl ?_|refine zcz UnF.h rfl rfl rfl hx ?_|refine zb8 rfl rfl (by omega) ?_|refine za2 rfl rfl (by omega) ?_|refine zfy rfl rfl (by omega) ?_)|refine zab ?_)|refine zai rfl ?_|refine zag rfl ?_|refine zac ?_|refine zaj ?_|refine zau ?_|refine zam ?_|(refine zao ?_;refine zbr rfl ?_));exact hQ
 obtain ⟨c,hc⟩:∃c,g[i]? = some c:=⟨_,Qa hi⟩
 have hx:(g++r)[i]? = some c:=by rw [zwe hi];exact hc
 refine zaj ?_;have e32:(UInt8.toNat 32)=32:=rfl;have e10:(UInt8.toNat 10)=10:=rfl;rcases hg c (Qe hc) with rfl|rfl
 all_goals
  (repeat' first|(refine zad rfl ?_;first|((first|refine zaa ?_|refine zav rfl ?_);first|refine zal rfl ?_|refine zaq rfl rfl rfl ?_|refine zb4 rfl rfl rfl UnF.h rfl ?_|refine zcz UnF.h rfl rfl rfl hx ?_|refine zb8 rfl rfl (by omega) ?_|refine zax rfl rfl (by omega) ?_|refine za2 rfl rfl (by omega) ?_|refine zc9 rfl rfl (by omega) ?_)|refine zab ?_)|refine zai rfl ?_|refine zag rfl ?_|refine zac ?_|refine zaj ?_|refine za1 ?_|refine zau ?_|refine zam ?_);refine zad rfl ?_;refine zaa (zaz (c:=((i+1:Nat):Int)) rfl rfl Ju ?_);refine zad rfl ?_;refine zab ⟨i+1,?_,⟨rfl,rfl,rfl,trivial⟩,rfl,by omega⟩;show g.length-(i+1)<g.length-i;omega
end
def v58l0h0:CV:=Jt [Jd 6 5,Jd 7 0,Jj 8 7 9,Jc 9 (.binOp .lss 3 (Ja 6) (Ja 8) 3),Jd 10 9,Jp 10 true 11 5,Js 10 true 12 (.binOp .lss 3 (Ja 11) (Jb 25) 3),Jc 13 (.pick (Ja 10) (Ja 12) (.const (.bool false)))] (.cond (Ja 13) (.skip) (.exit 0))
def v58k0:CV:=Jt [Jd 16 0,Jd 17 5,Jc 18 (.index 9 (Ja 16) (Ja 17)),Jc 19 (.binOp .geq 5 (Ja 18) (.const (.int .u8 48)) 5),Jd 20 19,Jp 20 true 21 0,Jp 20 true 22 5,Js 20 true 23 (.index 9 (Ja 21) (Ja 22)),Js 20 true 24 (.binOp .leq 5 (Ja 23) (.const (.int .u8 57)) 5),Jc 25 (.pick (Ja 20) (Ja 24) (.const (.bool false)))] (.cond (Ja 25) (.reg [Jd 26 4,Jc 27 (.binOp .mul 2 (Ja 26) (Jb 10) 2),Jd 28 0,Jd 29 5,Jc 30 (.index 9 (Ja 28) (Ja 29)),Jc 31 (.binOp .sub 5 (Ja 30) (.const (.int .u8 48)) 5),Jc 32 (.convert 5 2 (Ja 31)),Jc 33 (.binOp .add 2 (Ja 27) (Ja 32) 2),Jh 4 33]) (.skip))
def v58l0t1:CV:=.seq (.block 1 v58k0) (.reg [Jd 14 5,Jc 15 (.binOp .add 3 (Ja 14) (Jb 1) 3),Jh 5 15])
def v58l0:CV:=.seq v58l0h0 v58l0t1
def v58h2:CV:=Jt [Ji 5 0] (.block 0 (.loop v58l0))
def v58h3:CV:=Jt [Jd 34 0,Jj 35 34 9,Jc 36 (.binOp .gtr 3 (Ja 35) (Jb 0) 3),Jd 37 36,Jp 37 true 38 0,Js 37 true 39 (.index 9 (Ja 38) (Jb 0)),Js 37 true 40 (.binOp .eql 5 (Ja 39) (.const (.int .u8 45)) 5),Jc 41 (.pick (Ja 37) (Ja 40) (.const (.bool false)))] (.cond (Ja 41) (.reg [Jd 42 4,Jn 43 110 42 2,Jh 4 43]) (.skip))
def v58c1:CV:=Jt [Ji 2 0,Ji 3 10] (.ret)
def v58h4:CV:=Jt [Jd 44 4,Jn 45 111 44 2,Jd 46 0,Jc 47 (.binOp .neq 9 (Ja 45) (Ja 46) 9)] (.cond (Ja 47) v58c1 (.skip))
def v58t5:CV:=Jt [Jd 48 4,Jh 2 48,Ji 3 0] (.ret)
def v58t4:CV:=.seq v58h4 v58t5
def v58t3:CV:=.seq v58h3 v58t4
def v58t2:CV:=.seq v58h2 v58t3
def v58t1:CV:=Jt [Ji 4 0] v58t2
def v58:CV:=Jt [Ji 2 0,Ji 3 0] v58t1
noncomputable def b58:Code:=f58.body.getD .skip
theorem b58_eq:f58.body=some b58:=by kernel_rfl
theorem v58_eq:viewC prog b58=some v58:=by kernel_rfl
theorem r58_eq:f58.results.toList=[.tmp 2,.tmp 3]:=by kernel_rfl
def digV (bs:List UInt8):Nat:=bs.foldl (fun a c=>a*10+(c.toNat-48)) 0
theorem zkz (bs:List UInt8) (c:UInt8):digV (bs++[c])=digV bs*10+(c.toNat-48):=by simp [digV]
theorem zh8 {k:Nat}(h:k<10):(UInt8.ofNat (48+k)).toNat=48+k:=by
 simp only [UInt8.toNat_ofNat'];omega
theorem zh7 (n:Nat):digV (textN n)=n∧∀c∈textN n,48≤c.toNat∧c.toNat≤57:=by
 induction n using Nat.strongRecOn with
 |ind n ih=>
  by_cases h:n<10
  ·rw [zey h];refine ⟨by simp only [digV,List.foldl_cons,List.foldl_nil,zh8 h];omega,fun c hc=>?_⟩;rw [List.mem_singleton.1 hc,zh8 h];omega
  ·obtain ⟨h1,h2⟩:=ih (n / 10) (by omega);rw [zgu h];refine ⟨by rw [zkz,h1,zh8 (by omega)];omega,fun c hc=>?_⟩;rcases List.mem_append.1 hc with hc|hc
   ·exact h2 c hc
   ·rw [List.mem_singleton.1 hc,zh8 (by omega)];omega
theorem zoy (bs:List UInt8):∀i,digV (bs.take i)≤digV bs:=by
 intro i;have:∀(l:List UInt8) (a:Nat),a≤l.foldl (fun a c=>a*10+(c.toNat-48)) a:=by
  intro l
  induction l with
  |nil=>intro a;exact Jz _
  |cons c l ih=>intro a;exact Nat.le_trans (show a≤a*10+(c.toNat-48) by omega) (ih _)
 conv=>rhs;rw [←List.take_append_drop i bs]
 unfold digV;rw [List.foldl_append];exact this _ _
section
variable {tb:List FuncId}{gl:List (List AV)}{H:Heap}{v w:AV}{Q:AV→Heap→Prop}
set_option maxHeartbeats 0 in
theorem zu7 (n:Nat) (hn:n<9223372036854775808) (hQ:∀H',Keep Non H H'→Q (.tup [.int .i64 (n:Int),.int .i64 0]) H'):WpF prog tb gl 58 [S (textN n)] H Q:=by
 have hp:(10:Nat) ^ 19=10000000000000000000:=rfl;have hlen:=zeh 19 n (by rw [hp];omega) (by omega);have hpos:=zfm n;obtain ⟨hV,hD⟩:=zh7 n;refine fa func58 b58_eq v58_eq r58_eq (.inr (by simp)) ?_;(repeat' first|(refine zad rfl ?_;(refine zab ?_))|refine zac ?_|refine zaj ?_|refine zau ?_);refine zbv (fun (i:Nat)=>[(0,S (textN n)),(4,.int .i64 (digV ((textN n).take i):Int)),(5,.int .i64 (i:Int))]) (fun i H'=>H'=H∧i≤(textN n).length) (fun i=>(textN n).length-i) ?_ 0 _ H ⟨rfl,rfl,rfl,trivial⟩ ⟨rfl,Nat.zero_le _⟩;rintro i H' ⟨rfl,hle⟩;have htk:=zoy (textN n) i;rw [hV] at htk;by_cases hi:i<(textN n).length;rotate_left
 ·rw [Qd (by omega),hV];obtain ⟨c,r,hcr⟩:∃c r,textN n=c::r:=by
   cases h:textN n with
   |nil=>rw [h] at hpos;simp at hpos
   |cons c r=>exact ⟨c,r,rfl⟩
  have hc0:(textN n)[0]? = some c:=by rw [hcr];rfl
  have hcd:=hD c (Qe hc0);refine zaj ?_;(repeat' first|(refine zad rfl ?_;first|refine zbh rfl ?_|((first|refine zaa ?_|refine zav rfl ?_);first|refine zal rfl ?_|refine zaq rfl rfl rfl ?_|refine za0 rfl rfl ?_|refine zb4 rfl rfl rfl UnF.h rfl ?_|refine zcz (j:=0) UnF.h rfl rfl rfl hc0 ?_|refine zcr rfl rfl (by omega) ?_|refine zcn rfl rfl (by omega) ?_|refine za2 rfl rfl (by omega) ?_)|refine zab ?_)|refine zag rfl ?_|refine zac ?_|refine zaj ?_|refine zam ?_|refine zbq ?_);refine zad rfl ?_;refine zaa (zaf rfl rfl rfl (zrm n hn fun H2 hk2=>?_));(repeat' first|(refine zad rfl ?_;first|(refine zaa ?_;(refine zij rfl rfl (fun hc=>?_) (fun hc=>?_)))|refine zab ?_)|refine zai rfl ?_|refine zag rfl ?_|refine zac ?_|refine zam ?_|(refine zao ?_;refine zbr rfl ?_))
  ·exact hQ _ hk2
  ·exact absurd rfl (by assumption)
 obtain ⟨c,hc⟩:∃c,(textN n)[i]? = some c:=⟨_,Qa hi⟩
 have hcd:=hD c (Qe hc);have htk1:=zoy (textN n) (i+1);rw [hV,zbs hc,zkz] at htk1;refine zaj ?_;(repeat' first|(refine zad rfl ?_;first|((first|refine zaa ?_|refine zav rfl ?_);first|refine zal rfl ?_|refine zaq rfl rfl rfl ?_|refine zb4 rfl rfl rfl UnF.h rfl ?_|refine zcz (j:=i) UnF.h rfl rfl rfl hc ?_|refine oa_mulW (c:=((digV ((textN n).take i)*10:Nat):Int)) rfl rfl Ju ?_|refine zc4 (c:=((c.toNat-48:Nat):Int)) rfl rfl (wrapE_u8 (by omega) (by omega) (by omega)) ?_|refine zkf UnF.h UnF.h rfl (zca (by omega) (by omega)) ?_|refine zaz (c:=((digV ((textN n).take i)*10+(c.toNat-48):Nat):Int)) rfl rfl Ju ?_|refine zb8 rfl rfl (by omega) ?_|refine zex rfl rfl (by omega) ?_|refine zew rfl rfl (by omega) ?_)|refine zab ?_)|refine zai rfl ?_|refine zac ?_|refine zaj ?_|refine za1 ?_|refine zau ?_|refine zam ?_);have e:((digV ((textN n).take i)*10+(c.toNat-48):Nat):Int)=(digV ((textN n).take (i+1)):Int):=by rw [zbs hc,zkz]
 rw [e];refine zad rfl ?_;refine zaa (zaz (c:=((i+1:Nat):Int)) rfl rfl Ju ?_);refine zad rfl ?_;refine zab ⟨i+1,?_,⟨rfl,rfl,rfl,trivial⟩,rfl,by omega⟩;show (textN n).length-(i+1)<(textN n).length-i;omega
end
instance ize_76:ZeF prog 76 (.agg [.int .i64 0,.str 0 0,.int .i64 0,.int .i64 0]):=⟨by kernel_rfl⟩
instance ibs_76:BsF prog 76:=⟨by kernel_rfl⟩
instance ips_76:PsF prog 76 [(0,1),(1,1),(2,1),(3,1)]:=⟨by kernel_rfl⟩
instance isz_76:SzF prog 76 4:=⟨by kernel_rfl⟩
def v22c1:CV:=Jt [Jc 28 (.build 76 #[]),.op none (.store 76 (Ja 2) (Ja 28)),Ji 3 0] (.ret)
def v22c0h1:CV:=Jt [Jd 26 7,Jc 27 (.binOp .neq 28 (Ja 26) (Jb 0) 28)] (.cond (Ja 27) v22c1 (.skip))
def v22c0t2:CV:=Jt [Jd 29 6,Jc 30 (.build 76 #[(0,(Jb 2)),(2,(Ja 29))]),Jd 31 4,.op none (.store 76 (Ja 2) (Ja 30)),Jh 3 31] (.ret)
def v22c0t1:CV:=.seq v22c0h1 v22c0t2
def v22c0:CV:=Jt [Jd 22 5,Jn 23 58 22 9,Jd 21 23,Jl 24 21 0,Jl 25 21 1,Jh 6 24,Jh 7 25] v22c0t1
def v22h3:CV:=Jt [Jd 14 4,Jc 15 (.binOp .gtr 3 (Ja 14) (Jb 0) 3),Jd 16 15,Jp 16 true 17 0,Js 16 true 18 (.index 9 (Ja 17) (Jb 0)),Js 16 true 19 (.call ⟨.value (.func 57),#[(Ja 18)],#[5]⟩),Jc 20 (.pick (Ja 16) (Ja 19) (.const (.bool false)))] (.cond (Ja 20) v22c0 (.skip))
def v22c2:CV:=Jt [Jd 39 5,Jc 40 (.build 76 #[(0,(Jb 3)),(1,(Ja 39))]),Jd 41 4,.op none (.store 76 (Ja 2) (Ja 40)),Jh 3 41] (.ret)
def v22h4:CV:=Jt [Jd 32 4,Jc 33 (.binOp .gtr 3 (Ja 32) (Jb 0) 3),Jd 34 33,Jp 34 true 35 5,Js 34 true 36 (.call ⟨.value (.func 60),#[],#[]⟩),Js 34 true 37 (.call ⟨.value (.func 59),#[(Ja 35),(Ja 36)],#[9,40]⟩),Jc 38 (.pick (Ja 34) (Ja 37) (.const (.bool false)))] (.cond (Ja 38) v22c2 (.skip))
def v22c3:CV:=Jt [Jd 48 5,Jc 49 (.build 76 #[(0,(Jb 1)),(1,(Ja 48))]),Jd 50 4,.op none (.store 76 (Ja 2) (Ja 49)),Jh 3 50] (.ret)
def v22h5:CV:=Jt [Jd 42 4,Jc 43 (.binOp .gtr 3 (Ja 42) (Jb 0) 3),Jd 44 43,Jp 44 true 45 5,Js 44 true 46 (.call ⟨.value (.func 61),#[(Ja 45)],#[9]⟩),Jc 47 (.pick (Ja 44) (Ja 46) (.const (.bool false)))] (.cond (Ja 47) v22c3 (.skip))
def v22l4h0:CV:=Jt [Jd 51 8,Jc 52 (.binOp .gtr 3 (Ja 51) (Jb 0) 3)] (.cond (Ja 52) (.skip) (.exit 0))
def v22c5:CV:=Jt [Jd 70 0,Jd 71 8,Jc 72 (.slice 9 (Ja 70) none (some (Ja 71)) none),Jc 73 (.build 76 #[(0,(Jb 4)),(1,(Ja 72))]),Jd 74 8,.op none (.store 76 (Ja 2) (Ja 73)),Jh 3 74] (.ret)
def v22k0:CV:=Jt [Jd 55 4,Jc 56 (.binOp .eql 3 (Ja 55) (Jb 0) 3),Jd 57 56,Jp 57 true 58 0,Js 57 true 59 (.call ⟨.builtin .len,#[(Ja 58)],#[9]⟩),Jp 57 true 60 8,Js 57 true 61 (.binOp .geq 3 (Ja 59) (Ja 60) 3),Jc 62 (.pick (Ja 57) (Ja 61) (.const (.bool false))),Jd 63 62,Jp 63 true 64 0,Jp 63 true 65 8,Js 63 true 66 (.slice 9 (Ja 64) none (some (Ja 65)) none),Js 63 true 67 (.call ⟨.value (.func 62),#[],#[]⟩),Js 63 true 68 (.call ⟨.value (.func 59),#[(Ja 66),(Ja 67)],#[9,40]⟩),Jc 69 (.pick (Ja 63) (Ja 68) (.const (.bool false)))] (.cond (Ja 69) v22c5 (.skip))
def v22l4t1:CV:=.seq (.block 1 v22k0) (.reg [Jd 53 8,Jc 54 (.binOp .sub 3 (Ja 53) (Jb 1) 3),Jh 8 54])
def v22l4:CV:=.seq v22l4h0 v22l4t1
def v22h6:CV:=Jt [Ji 8 2] (.block 0 (.loop v22l4))
def v22t7:CV:=Jt [Jc 75 (.build 76 #[]),.op none (.store 76 (Ja 2) (Ja 75)),Ji 3 0] (.ret)
def v22t6:CV:=.seq v22h6 v22t7
def v22t5:CV:=.seq v22h5 v22t6
def v22t4:CV:=.seq v22h4 v22t5
def v22t3:CV:=.seq v22h3 v22t4
def v22t2:CV:=Jt [Jd 11 0,Jd 12 4,Jc 13 (.slice 9 (Ja 11) none (some (Ja 12)) none),Jh 5 13] v22t3
def v22t1:CV:=Jt [Jd 9 0,Jn 10 56 9 9,Jh 4 10] v22t2
def v22:CV:=Jt [Jc 2 (.alloc 76),Ji 3 0] v22t1
noncomputable def b22:Code:=f22.body.getD .skip
theorem b22_eq:f22.body=some b22:=by kernel_rfl
theorem v22_eq:viewC prog b22=some v22:=by kernel_rfl
theorem r22_eq:f22.results.toList=[.cell 2 76,.tmp 3]:=by kernel_rfl
structure Tok where
 kind:Int
 text:List UInt8
 num:Int
def toC (t:Tok) (at_:Int):List AV:=[.int .i64 t.kind,S t.text,.int .i64 t.num,.int .i64 at_]
inductive IsTok:List UInt8→Tok→Prop
 |name {w:List UInt8}(h:nameB w=true):IsTok w ⟨1,w,0⟩
 |num (n:Nat) (h:n<9223372036854775808):IsTok (textN n) ⟨2,[],n⟩
 |key {w:List UInt8}(h:w∈keysL):IsTok w ⟨3,w,0⟩
 |sign {w:List UInt8}(h:w∈signsL):IsTok w ⟨4,w,0⟩
theorem let_dig {c:UInt8}(h:letB c=true):digB c=false:=by
 simp only [letB,digB,Bool.or_eq_true,J8,Qj,Bool.and_eq_false_iff,decide_eq_false_iff_not] at h ⊢;omega
theorem zdu {w:List UInt8}(h:nameB w=true):∃c r,w=c::r∧digB c=false∧w.all innB=true∧keysL.contains w=false∧w.length≤40:=by
 cases w with
 |nil=>simp [nameB] at h
 |cons c r=>
  simp only [nameB,J8,Bool.not_eq_true',Qj] at h;obtain ⟨⟨⟨h1,h2⟩,h3⟩,h4⟩:=h;exact ⟨c,r,rfl,let_dig h1,h4,h3,h2⟩
def Tail (z:List UInt8):Prop:=∀c r,z=c::r→c=32∨c=10
theorem Tail.inn {z:List UInt8}(h:Tail z):∀c r,z=c::r→innB c=false:=fun c r e=>by
 rcases h c r e with rfl|rfl<;>decide
section
variable {gl:List (List AV)}{H:Heap}{v w:AV}{Q:AV→Heap→Prop}
theorem zhl {d:UInt8}{x z:List UInt8}(hz:Tail z) (hs:((d::x)++z).length<500000) (hw:(d::x).all innB=true)
  (hQ:∀b H' l,Keep Non H H'→H.nx≤b→IsRow H' b [.int .i64 0,.str 0 0,.int .i64 0,.int .i64 0] false false→Sb [(0,S ((d::x)++z)),(2,.ptr b 0),(4,.int .i64 ((d::x).length:Int)),(5,S (d::x))] l→VA prog [5] gl v22t3 l H' (leftC prog [.cell 2 76,.tmp 3] Q)):
  WpF prog [5] gl 22 [S ((d::x)++z)] H Q:=by
 refine faC func22 b22_eq v22_eq r22_eq (.inr (by simp)) ?_;refine zac ?_;obtain ⟨b,hb⟩:∃b,b=H.nx:=⟨_,rfl⟩
 refine zaa (za8 ZeF.h fun H1 hk1 hr1=>?_);rw [←hb] at hr1 ⊢;refine zad rfl ?_;refine zab (zac ?_);refine zad rfl ?_;refine zaa (zaf rfl rfl rfl (zye (w:=d::x) (r:=z) (by omega) hw hz.inn ?_));refine zad rfl ?_;refine zab (zac ?_);refine zad rfl ?_;refine zaa (zdl (a:=0) (c:=(d::x).length) UnF.h rfl rfl rfl (Nat.zero_le _) (by simp) ?_);rw [show (((d::x++z).drop 0).take ((d::x).length-0))=d::x from by simp];refine zad rfl ?_;refine zab ?_;exact hQ b H1 _ hk1 (by rw [hb];exact Jz _) hr1 ⟨rfl,rfl,rfl,rfl,trivial⟩
theorem zs5:plcOf prog 76 0=some ⟨0,true,4⟩:=by kernel_rfl
theorem zb3 {H H1 H2:Heap}{b:Nat}(k:Keep Non H H1) (k2:Keep (· = b) H1 H2) (hb:H.nx≤b):Keep Non H H2:=(k.trans k2 fun c hc=>.inr (by rw [hc];exact hb)).wide fun _ h=>h
theorem zts {w z:List UInt8}(hz:Tail z) (hs:(w++z).length<500000) (hw:nameB w=true) (hQ:∀H',Keep Non H H'→Q (.tup [.agg (toC ⟨1,w,0⟩ 0),.int .i64 (w.length:Int)]) H'):
  WpF prog [5] gl 22 [S (w++z)] H Q:=by
 obtain ⟨d,x,rfl,hd,hall,hnk,h40⟩:=zdu hw;refine zhl hz hs hall fun b H1 l k1 hb hr1 hsb=>?_;refine VA.sub hsb ?_;have hpos:(0:Int)<((d::x).length:Int):=by simp only [Jy];omega
 (repeat' first|(refine zad rfl ?_;first|((first|refine zaa ?_|refine zav rfl ?_);first|refine zal rfl ?_|refine zaq rfl rfl rfl ?_|refine zcz (j:=0) (c:=d) UnF.h rfl rfl rfl rfl ?_|refine zaf rfl rfl rfl (zgq d ?_)|refine zcn rfl rfl (by omega) ?_)|refine zab ?_)|refine zac ?_|refine zaj ?_);rw [hd];(repeat' first|(refine zad rfl ?_;first|((first|refine zaa ?_|refine zav rfl ?_);first|refine zal rfl ?_|refine zaq rfl rfl rfl ?_|refine zaf rfl rfl rfl (zqc fun u H2 hk2 hu=>?_)|refine zaf rfl rfl rfl (in_ok (l:=keysL) (by decide) hu ?_)|refine zcn rfl rfl (by omega) ?_)|refine zab ?_)|refine zag rfl ?_|refine zac ?_|refine zaj ?_|refine zam ?_);rw [hnk];(repeat' first|(refine zad rfl ?_;first|((first|refine zaa ?_|refine zav rfl ?_);first|refine zal rfl ?_|refine zaq rfl rfl rfl ?_|refine zaf rfl rfl rfl (zul (d::x) (by omega) fun H3 hk3=>?_)|refine zcn rfl rfl (by omega) ?_)|refine zab ?_)|refine zag rfl ?_|refine zac ?_|refine zaj ?_|refine zam ?_);rw [hw];(repeat' first|(refine zad rfl ?_;(refine zaa ?_;(refine zba BsF.h ZeF.h PsF.h rfl ?_)))|refine zai rfl ?_|refine zac ?_);refine zad rfl ?_;refine zaa (zan (k:=4) SzF.h rfl rfl rfl rfl (hr1.keep0 (hk2.trans0 hk3)) rfl fun H4 hk4 hn4 hr4=>?_);refine zad rfl ?_;refine zab (zao (zii zs5 rfl hr4 rfl rfl ?_));exact hQ _ (zb3 (k1.trans0 (hk2.trans0 hk3)) hk4 hb)
theorem zt3:∀w∈keysL,∃d x,w=d::x∧digB d=false∧w.all innB=true∧keysL.contains w=true:=by
 intro w hw;have:∀w∈keysL,(match w with|[]=>false|d::_=>!digB d)=true∧w.all innB=true∧keysL.contains w=true:=by decide
 obtain ⟨h1,h2,h3⟩:=this w hw;cases w with
 |nil=>cases h1
 |cons d x=>exact ⟨d,x,rfl,by simpa using h1,h2,h3⟩
theorem zu3 {w z:List UInt8}(hz:Tail z) (hs:(w++z).length<500000) (hw:w∈keysL) (hQ:∀H',Keep Non H H'→Q (.tup [.agg (toC ⟨3,w,0⟩ 0),.int .i64 (w.length:Int)]) H'):
  WpF prog [5] gl 22 [S (w++z)] H Q:=by
 obtain ⟨d,x,rfl,hd,hall,hk⟩:=zt3 w hw;refine zhl hz hs hall fun b H1 l k1 hb hr1 hsb=>?_;refine VA.sub hsb ?_;have hpos:(0:Int)<((d::x).length:Int):=by simp only [Jy];omega
 (repeat' first|(refine zad rfl ?_;first|((first|refine zaa ?_|refine zav rfl ?_);first|refine zal rfl ?_|refine zaq rfl rfl rfl ?_|refine zcz (j:=0) (c:=d) UnF.h rfl rfl rfl rfl ?_|refine zaf rfl rfl rfl (zgq d ?_)|refine zcn rfl rfl (by omega) ?_)|refine zab ?_)|refine zac ?_|refine zaj ?_);rw [hd];(repeat' first|(refine zad rfl ?_;first|((first|refine zaa ?_|refine zav rfl ?_);first|refine zal rfl ?_|refine zaq rfl rfl rfl ?_|refine zaf rfl rfl rfl (zqc fun u H2 hk2 hu=>?_)|refine zaf rfl rfl rfl (in_ok (l:=keysL) (by decide) hu ?_)|refine zcn rfl rfl (by omega) ?_)|refine zab ?_)|refine zag rfl ?_|refine zac ?_|refine zaj ?_|refine zam ?_);rw [hk];(repeat' first|(refine zad rfl ?_;(refine zaa ?_;(refine zba BsF.h ZeF.h PsF.h rfl ?_)))|refine zai rfl ?_|refine zac ?_);refine zad rfl ?_;refine zaa (zan (k:=4) SzF.h rfl rfl rfl rfl (hr1.keep0 hk2) rfl fun H4 hk4 hn4 hr4=>?_);refine zad rfl ?_;refine zab (zao (zii zs5 rfl hr4 rfl rfl ?_));exact hQ _ (zb3 (k1.trans0 hk2) hk4 hb)
theorem dig_inn {c:UInt8}(h:digB c=true):innB c=true:=by simp [innB,h]
theorem zu4 (n:Nat) (hn:n<9223372036854775808) {z:List UInt8}(hz:Tail z) (hs:(textN n++z).length<500000) (hQ:∀H',Keep Non H H'→Q (.tup [.agg (toC ⟨2,[],n⟩ 0),.int .i64 ((textN n).length:Int)]) H'):
  WpF prog [5] gl 22 [S (textN n++z)] H Q:=by
 obtain ⟨_,hD⟩:=zh7 n;have hP:=fun (H0:Heap) (Q0:AV→Heap→Prop)=>zu7 (tb:=[5]) (gl:=gl) (H:=H0) (Q:=Q0) n hn;have hp:=zfm n;obtain ⟨d,x,hdx⟩:∃d x,textN n=d::x:=by
  cases h:textN n with
  |nil=>rw [h] at hp;simp at hp
  |cons d x=>exact ⟨d,x,rfl⟩
 rw [hdx] at hD hP hs hQ ⊢;have hdd:∀e∈d::x,digB e=true:=fun e he=>by
  obtain ⟨h1,h2⟩:=hD e he;simp [digB,h1,h2]
 have hd:=hdd d (List.mem_cons_self ..);have hall:(d::x).all innB=true:=List.all_eq_true.2 fun e he=>dig_inn (hdd e he);refine zhl hz hs hall fun b H1 l k1 hb hr1 hsb=>?_;refine VA.sub hsb ?_;have hpos:(0:Int)<((d::x).length:Int):=by simp only [Jy];omega
 (repeat' first|(refine zad rfl ?_;first|((first|refine zaa ?_|refine zav rfl ?_);first|refine zal rfl ?_|refine zaq rfl rfl rfl ?_|refine zcz (j:=0) (c:=d) UnF.h rfl rfl rfl rfl ?_|refine zaf rfl rfl rfl (zgq d ?_)|refine zcn rfl rfl (by omega) ?_)|refine zab ?_)|refine zac ?_|refine zaj ?_);rw [hd];(repeat' first|(refine zad rfl ?_;first|(refine zaa ?_;first|refine zaf rfl rfl rfl (hP _ _ fun H2 hk2=>?_)|refine zba BsF.h ZeF.h PsF.h rfl ?_|refine zc9 rfl rfl (by omega) ?_)|refine zab ?_)|refine zai rfl ?_|refine zag rfl ?_|refine zac ?_|refine zaj ?_|refine zam ?_);refine zad rfl ?_;refine zaa (zan (k:=4) SzF.h rfl rfl rfl rfl (hr1.keep0 hk2) rfl fun H4 hk4 hn4 hr4=>?_);refine zad rfl ?_;refine zab (zao (zii zs5 rfl hr4 rfl rfl ?_));exact hQ _ (zb3 (k1.trans0 hk2) hk4 hb)
theorem zq7:∀w∈signsL,(w.length=1∨w.length=2)∧signsL.contains w=true∧(match w with|[]=>false|d::_=>!innB d)=true∧(w.length=1→signsL.contains (w++[32])=false∧signsL.contains (w++[10])=false):=by decide
theorem ztt {w z:List UInt8}(hz:Tail z) (hs:(w++z).length<500000) (hw:w∈signsL) (hQ:∀H',Keep Non H H'→Q (.tup [.agg (toC ⟨4,w,0⟩ 0),.int .i64 (w.length:Int)]) H'):
  WpF prog [5] gl 22 [S (w++z)] H Q:=by
 obtain ⟨hl,hcont,hd,h1⟩:=zq7 w hw;obtain ⟨s,hsd⟩:∃s,s=w++z:=⟨_,rfl⟩
 have hrun:∀c' r',s=c'::r'→innB c'=false:=fun c' r' e=>by
  rw [hsd] at e;cases w with
  |nil=>simp at hl
  |cons d x=>injection e with e1 _;rw [←e1];simpa using hd
 have hsl:s.length=w.length+z.length:=by rw [hsd,J1]
 have hs2:s.length<500000:=by rw [hsd];exact hs
 rw [←hsd];refine faC func22 b22_eq v22_eq r22_eq (.inr (by simp)) ?_;refine zac ?_;obtain ⟨b,hb⟩:∃b,b=H.nx:=⟨_,rfl⟩
 refine zaa (za8 ZeF.h fun H1 hk1 hr1=>?_);rw [←hb] at hr1 ⊢;have hb':H.nx≤b:=by omega
 refine zad rfl ?_;refine zab (zac ?_);refine zad rfl ?_;refine zaa (zaf rfl rfl rfl (zye (w:=[]) (r:=s) (by rw [List.nil_append];omega) rfl hrun ?_));rw [show ((([]:List UInt8).length:Nat):Int)=0 from rfl];refine zad rfl ?_;refine zab (zac ?_);refine zad rfl ?_;refine zaa (zdl (a:=0) (c:=0) UnF.h rfl rfl rfl (Nat.zero_le _) (Nat.zero_le _) ?_);(repeat' first|(refine zad rfl ?_;first|refine zbh rfl ?_|(refine zaa ?_;first|refine za0 rfl rfl ?_|refine zd1 rfl rfl (by omega) ?_)|refine zab ?_)|refine zag rfl ?_|refine zac ?_|refine zaj ?_|refine zau ?_|refine zam ?_);refine zbv (fun (k:Nat)=>[(0,S s),(2,.ptr b 0),(4,.int .i64 0),(8,.int .i64 (k:Int))]) (fun k H'=>Keep Non H1 H'∧(k=2∨k=1∧w.length=1)) (fun k=>k) ?_ 2 _ H1 ⟨rfl,rfl,rfl,rfl,trivial⟩ ⟨.refl _ _,.inl rfl⟩;rintro k H2 ⟨hk2,hk⟩;by_cases hks:k≤s.length;rotate_left
 ·have hk2':k=2:=by omega
  subst hk2';have hkp:((2:Nat):Int)=2:=rfl;refine zaj (zac ?_);(repeat' first|(refine zad rfl ?_;first|refine zbh rfl ?_|((first|refine zaa ?_|refine zav rfl ?_);first|refine zal rfl ?_|refine zaq rfl rfl rfl ?_|refine za0 rfl rfl ?_|refine zb4 rfl rfl rfl UnF.h rfl ?_|refine zcn rfl rfl (by omega) ?_|refine zjg rfl rfl (by omega) ?_|refine zax rfl rfl (by omega) ?_)|refine zab ?_)|refine zai rfl ?_|refine zag rfl ?_|refine zac ?_|refine zaj ?_|refine za1 ?_|refine zau ?_|refine zam ?_);refine zad rfl ?_;refine zaa (zc4 (c:=((1:Nat):Int)) rfl rfl Ju ?_);refine zad rfl ?_;exact zab ⟨1,by show 1<2;omega,⟨rfl,rfl,rfl,rfl,trivial⟩,hk2,by omega⟩
 have hin:signsL.contains ((s.drop 0).take (k-0))=decide (k=w.length):=by
  rw [List.drop_zero,Nat.sub_zero,hsd];rcases hk with rfl|⟨rfl,h⟩
  ·rcases hl with h|h
   ·obtain ⟨x,rfl⟩:=List.length_eq_one_iff.1 h;obtain ⟨g1,g2⟩:=h1 h;cases z with
    |nil=>simp at hsl;omega
    |cons c r=>
     rcases hz c r rfl with rfl|rfl
     ·simpa using g1
     ·simpa using g2
   ·rw [List.take_append_of_le_length (by omega),Qd (by omega),hcont,h];rfl
  ·rw [List.take_append_of_le_length (by omega),Qd (by omega),hcont,h];rfl
 refine zaj (zac ?_);have hkp:(0:Int)<(k:Int):=by omega
 have hk3:(k:Int)≤(s.length:Int):=by omega
 (repeat' first|(refine zad rfl ?_;first|((first|refine zaa ?_|refine zav rfl ?_);first|refine zal rfl ?_|refine zaq rfl rfl rfl ?_|refine zb4 rfl rfl rfl UnF.h rfl ?_|refine zdl (a:=0) (c:=k) UnF.h rfl rfl rfl (Nat.zero_le _) (by omega) ?_|refine zaf rfl rfl rfl (Signs_ok fun u H3 hk3 hu=>?_)|refine zaf rfl rfl rfl (in_ok (l:=signsL) (by decide) hu ?_)|refine zcn rfl rfl (by omega) ?_|refine zew rfl rfl (by omega) ?_|refine zax rfl rfl (by omega) ?_)|refine zab ?_)|refine zai rfl ?_|refine zac ?_|refine zaj ?_|refine zau ?_|refine zam ?_);rw [hin];have hK1:Keep Non H1 H3:=hk2.trans0 hk3;by_cases hkw:k=w.length
 ·have htk:(s.drop 0).take (k-0)=w:=by rw [List.drop_zero,Nat.sub_zero,hsd,List.take_append_of_le_length (by omega),Qd (by omega)]
  rw [Qg hkw];(repeat' first|(refine zad rfl ?_;(refine zaa ?_;first|refine zdl (a:=0) (c:=k) UnF.h rfl rfl rfl (Nat.zero_le _) (by omega) ?_|refine zba BsF.h ZeF.h PsF.h rfl ?_))|refine zai rfl ?_|refine zac ?_);rw [htk];refine zad rfl ?_;refine zaa (zan (k:=4) SzF.h rfl rfl rfl rfl (hr1.keep0 hK1) rfl fun H4 hk4 hn4 hr4=>?_);refine zad rfl ?_;refine zab (zao (zii zs5 rfl hr4 rfl rfl ?_));rw [hkw];exact hQ _ (zb3 (hk1.trans0 hK1) hk4 hb')
 ·rw [Qf hkw];have hk2:k=2:=by omega
  (repeat' first|refine zag rfl ?_|refine za1 ?_|refine zam ?_);refine zad rfl ?_;refine zaa (zc4 (c:=((k-1:Nat):Int)) rfl rfl Ju ?_);refine zad rfl ?_;exact zab ⟨k-1,by show k-1<k;omega,⟨rfl,rfl,rfl,rfl,trivial⟩,hK1,by omega⟩
theorem zrl {w z:List UInt8}{t:Tok}(hz:Tail z) (hs:(w++z).length<500000) (hw:IsTok w t) (hQ:∀H',Keep Non H H'→Q (.tup [.agg (toC t 0),.int .i64 (w.length:Int)]) H'):
  WpF prog [5] gl 22 [S (w++z)] H Q:=by
 cases hw with
 |name h=>exact zts hz hs h hQ
 |num n h=>exact zu4 n h hz hs hQ
 |key h=>exact zu3 hz hs h hQ
 |sign h=>exact ztt hz hs h hQ
end
instance iun_33:UnF prog 33 (.slice 76):=⟨by kernel_rfl⟩
instance iel_33:ElF prog 33 ⟨76,4,.agg [.int .i64 0,.str 0 0,.int .i64 0,.int .i64 0]⟩:=⟨by kernel_rfl⟩
instance ifp_76_3:FpF prog 76 3 ⟨3,false,1⟩:=⟨by kernel_rfl⟩
theorem sz_3:szOf prog 3=some 1:=by kernel_rfl
instance isz_3:SzF prog 3 1:=⟨sz_3⟩
instance ipl_76:PlF prog 76 ⟨0,true,4⟩:=⟨by kernel_rfl⟩
def v7c0:CV:=Jt [Jc 2 (.assign (.const (.slice none 0 0))),Ji 3 0,Ji 4 2] (.ret)
def v7h1:CV:=Jt [Jd 9 0,Jj 10 9 9,Jc 11 (.binOp .gtr 3 (Ja 10) (Jb 16384) 3)] (.cond (Ja 11) v7c0 (.skip))
def v7l1h0:CV:=Jt [Jd 14 6,Jd 15 0,Jj 16 15 9,Jc 17 (.binOp .lss 3 (Ja 14) (Ja 16) 3)] (.cond (Ja 17) (.skip) (.exit 0))
def v7c2:CV:=Jt [Jd 27 6,Jc 2 (.assign (.const (.slice none 0 0))),Jh 3 27,Ji 4 20] (.ret)
def v7k0h1:CV:=Jt [Jd 25 8,Jc 26 (.binOp .eql 3 (Ja 25) (Jb 0) 3)] (.cond (Ja 26) v7c2 (.skip))
def v7c3:CV:=Jt [Jd 31 6,Jc 2 (.assign (.const (.slice none 0 0))),Jh 3 31,Ji 4 2] (.ret)
def v7k0h2:CV:=Jt [Jd 28 5,Jj 29 28 33,Jc 30 (.binOp .geq 3 (Ja 29) (Jb 4000) 3)] (.cond (Ja 30) v7c3 (.skip))
def v7k0t5:CV:=Jt [Jd 38 6,Jd 39 8,Jc 40 (.binOp .add 3 (Ja 38) (Ja 39) 3),Jh 6 40] (.reg [Jd 41 6,Jd 42 0,Jd 43 6,Jc 44 (.slice 9 (Ja 42) (some (Ja 43)) none none),Jn 45 21 44 9,Jc 46 (.binOp .add 3 (Ja 41) (Ja 45) 3),Jh 6 46])
def v7k0t4:CV:=Jt [Jd 34 5,Jf 35 76 7,Jc 36 (.buildSlice 33 1 #[(0,(Ja 35))]),Jc 37 (.call ⟨.builtin .append,#[(Ja 34),(Ja 36)],#[33,33]⟩),Jh 5 37] v7k0t5
def v7k0t3:CV:=Jt [Jd 32 6,Jg 33 76 7 3,.op none (.store 3 (Ja 33) (Ja 32))] v7k0t4
def v7k0t2:CV:=.seq v7k0h2 v7k0t3
def v7k0t1:CV:=.seq v7k0h1 v7k0t2
def v7k0:CV:=Jt [Jd 19 0,Jd 20 6,Jc 21 (.slice 9 (Ja 19) (some (Ja 20)) none none),Jn 22 22 21 9,Jd 18 22,Jl 23 18 0,Jl 24 18 1,Jc 7 (.alloc 76),.op none (.store 76 (Ja 7) (Ja 23)),Jh 8 24] v7k0t1
def v7l1:CV:=.seq v7l1h0 (.block 1 v7k0)
def v7c4:CV:=Jt [Jd 50 6,Jc 2 (.assign (.const (.slice none 0 0))),Jh 3 50,Ji 4 2] (.ret)
def v7h5:CV:=Jt [Jd 47 5,Jj 48 47 33,Jc 49 (.binOp .geq 3 (Ja 48) (Jb 4000) 3)] (.cond (Ja 49) v7c4 (.skip))
def v7t6:CV:=Jt [Jd 51 5,Jd 52 6,Jc 53 (.build 76 #[(3,(Ja 52))]),Jc 54 (.buildSlice 33 1 #[(0,(Ja 53))]),Jc 55 (.call ⟨.builtin .append,#[(Ja 51),(Ja 54)],#[33,33]⟩),Jh 2 55,Ji 3 0,Ji 4 0] (.ret)
def v7t5:CV:=.seq v7h5 v7t6
def v7t4:CV:=.seq (.block 0 (.loop v7l1)) v7t5
def v7t3:CV:=Jt [Jd 12 0,Jn 13 21 12 9,Jh 6 13] v7t4
def v7t2:CV:=Jt [Jc 5 (.assign (.const (.slice none 0 0)))] v7t3
def v7t1:CV:=.seq v7h1 v7t2
def v7:CV:=Jt [Jc 2 (.assign (.const (.slice none 0 0))),Ji 3 0,Ji 4 0] v7t1
noncomputable def b7:Code:=f7.body.getD .skip
theorem b7_eq:f7.body=some b7:=by kernel_rfl
theorem v7_eq:viewC prog b7=some v7:=by kernel_rfl
theorem r7_eq:f7.results.toList=[.tmp 2,.tmp 3,.tmp 4]:=by kernel_rfl
def tkC (x:Tok×Int):List AV:=toC x.1 x.2
theorem zds (x:Tok×Int):(tkC x).length=4:=rfl
def rsW (ws:List (List UInt8×List UInt8)):List UInt8:=ws.flatMap fun x=>x.1++x.2
def Gap (g:List UInt8):Prop:=∀c∈g,c=32∨c=10
structure WsOK (ws:List (List UInt8×List UInt8)) (ts:List Tok):Prop where
 len:ws.length=ts.length
 tok:∀(i:Nat) (x:List UInt8×List UInt8) (t:Tok),ws[i]? = some x→ts[i]? = some t→IsTok x.1 t∧x.2≠[]∧Gap x.2
theorem zof {w:List UInt8}{t:Tok}(h:IsTok w t):∃d x,w=d::x∧d≠32∧d≠10∧d≠35:=by
 cases h with
 |name h=>
  cases w with
  |nil=>simp [nameB] at h
  |cons d x=>
   refine ⟨d,x,rfl,?_⟩;have:letB d=true:=by
    simp only [nameB,J8] at h;exact h.1.1.1
   refine ⟨?_,?_,?_⟩<;>(rintro rfl;revert this;decide)
 |num n h=>
  have hp:=zfm n;obtain ⟨_,hD⟩:=zh7 n;cases e:textN n with
  |nil=>rw [e] at hp;simp at hp
  |cons d x=>
   rw [e] at hD;have:=hD d (List.mem_cons_self ..);refine ⟨d,x,rfl,?_,?_,?_⟩<;>(rintro rfl;revert this;decide)
 |key h=>
  have:∀w∈keysL,(match w with|[]=>false|d::_=>d != 32&&d != 10&&d != 35)=true:=by decide
  have:=this w h;cases w with
  |nil=>cases this
  |cons d x=>exact ⟨d,x,rfl,by simpa [and_assoc] using this⟩
 |sign h=>
  have:∀w∈signsL,(match w with|[]=>false|d::_=>d != 32&&d != 10&&d != 35)=true:=by decide
  have:=this w h;cases w with
  |nil=>cases this
  |cons d x=>exact ⟨d,x,rfl,by simpa [and_assoc] using this⟩
theorem zkl {ws:List (List UInt8×List UInt8)}{i:Nat}{x:List UInt8×List UInt8}(h:ws[i]? = some x):rsW (ws.drop i)=x.1++(x.2++rsW (ws.drop (i+1))):=by
 obtain ⟨hi,rfl⟩:=Qb.1 h;unfold rsW;rw [List.drop_eq_getElem_cons hi,List.flatMap_cons,List.append_assoc]
theorem ztf {ws:List (List UInt8×List UInt8)}{ts:List Tok}(h:WsOK ws ts) (i:Nat):∀c r,rsW (ws.drop i)=c::r→c≠32∧c≠10∧c≠35:=by
 intro c r e;by_cases hi:i<ws.length
 ·have hx:ws[i]? = some ws[i]:=Qa hi;have ht:ts[i]? = some (ts[i]'(by rw [←h.len];exact hi)):=Qa _;obtain ⟨h1,_,_⟩:=h.tok i _ _ hx ht;obtain ⟨d,x,e1,e2⟩:=zof h1;rw [zkl hx,e1] at e;injection e with e3 _
  rw [←e3];exact e2
 ·rw [List.drop_of_length_le (by omega)] at e;simp [rsW] at e
def atW (g0:List UInt8) (ws:List (List UInt8×List UInt8)) (i:Nat):Nat:=(g0++rsW (ws.take i)).length
theorem zrq (g0:List UInt8) (ws:List (List UInt8×List UInt8)) (i:Nat):g0++rsW ws=(g0++rsW (ws.take i))++rsW (ws.drop i):=by
 rw [List.append_assoc]
 congr 1
 unfold rsW;rw [←List.flatMap_append,List.take_append_drop]
theorem at_next (g0:List UInt8) {ws:List (List UInt8×List UInt8)}{i:Nat}{x:List UInt8×List UInt8}(h:ws[i]? = some x):atW g0 ws (i+1)=atW g0 ws i+x.1.length+x.2.length:=by
 unfold atW rsW;rw [zbs h];simp [];omega
def OwnTk (H:Heap) (u:AV) (l:List (Tok×Int)):Prop:=Own H u 4 l.length (l.flatMap tkC)
theorem OwnTk.nil (H:Heap):OwnTk H .nils []:=Own.nil H 4
section
variable {gl:List (List AV)}{H:Heap}{u v w:AV}{Q:AV→Heap→Prop}
theorem zsm {tb:List FuncId}{t t' e:TypeId}{x y:Operand}{l:Fm}{c:Call}{E:EI}{vs:List (Tok×Int)}{n:Tok×Int}{bb:Nat}(hc:c.callee=.builtin .append) (ha:c.args.toList=[x,y]) (ht:c.argTypes.toList=[t,t']) (hE:elemI prog t=some E) (hz:E.z=4) (hu:prog.underlying t'=some (.slice e)∨prog.underlying t'=some .string)
  (hx:evA x l=some u) (ho:OwnTk H u vs) (hy:evA y l=some (.sl bb 0 1 1)) (hr:IsRow H bb (tkC n) false false) (hn:vs.length+1<1000000) (q:∀v' H',OwnTk H' v' (vs++[n])→Keep (ownB u) H H'→(∀c,ownB v' c→ownB u c∨H.nx≤c)→Q v' H'):OA prog tb gl (.call c) l H Q:=by
 have hs:=IsRow.sl (es:=4) (n:=1) hr rfl (Jz 1);unfold OwnTk at ho;rw [←hz] at ho hs;refine zfg hc ha ht hE hu hx ho hy hs.elems hs.1 (by rfl) (show vs.length+1<limit from hn) fun v' H' o k f=>q v' H' ?_ k f;unfold OwnTk;rw [List.flatMap_append,J1,←hz];simpa using o
set_option maxHeartbeats 0 in
theorem zu8 {g0:List UInt8}{ws:List (List UInt8×List UInt8)}{ts:List Tok}(hg0:Gap g0) (hw:WsOK ws ts) (hs:(g0++rsW ws).length<450000)
  (hno:¬((g0++rsW ws).length≤16384∧ws.length<4000)→∀a H',Keep Non H H'→Q (.tup [.nils,.int .i64 a,.int .i64 2]) H')
  (hyes:(g0++rsW ws).length≤16384∧ws.length<4000→∀u l H',Keep Non H H'→l.map (·.1)=ts++[⟨0,[],0⟩]→OwnTk H' u l→(∀c,ownB u c→H.nx≤c)→Q (.tup [u,.int .i64 0,.int .i64 0]) H'):
  WpF prog [5] gl 7 [S (g0++rsW ws)] H Q:=by
 obtain ⟨s,hsd⟩:∃s,s=g0++rsW ws:=⟨_,rfl⟩
 have hlen:s.length=g0.length+(rsW ws).length:=by rw [hsd,J1]
 rw [←hsd] at hs hno hyes ⊢;refine fa func7 b7_eq v7_eq r7_eq (.inr (by simp)) ?_;by_cases h16:s.length≤16384;rotate_left
 ·(repeat' first|(refine zad rfl ?_;first|(refine zaa ?_;first|refine zb4 rfl rfl rfl UnF.h rfl ?_|refine zcn rfl rfl (by omega) ?_)|refine zab ?_)|refine zai rfl ?_|refine zac ?_|refine zaj ?_|(refine zao ?_;refine zbr rfl ?_));exact hno (fun h=>h16 h.1) _ _ (.refl _ _)
 (repeat' first|(refine zad rfl ?_;first|(refine zaa ?_;first|refine zb4 rfl rfl rfl UnF.h rfl ?_|refine zd1 rfl rfl (by omega) ?_)|refine zab ?_)|refine zag rfl ?_|refine zac ?_|refine zaj ?_|refine zam ?_);rw [hsd];refine zad rfl ?_;refine zaa (zaf rfl rfl rfl (zrk (g:=g0) (r:=rsW ws) (by rw [←hsd];omega) hg0 (fun c r e=>ztf hw 0 c r e) ?_));rw [←hsd];refine zad rfl ?_;refine zab ?_;have hdrop:∀i,s.drop (atW g0 ws i)=rsW (ws.drop i):=fun i=>by
  rw [hsd,zrq g0 ws i];exact List.drop_left
 have hat:∀i,atW g0 ws i+(rsW (ws.drop i)).length=s.length:=fun i=>by
  rw [hsd,zrq g0 ws i,J1];rfl
 have hat0:atW g0 ws 0=g0.length:=by simp [atW,rsW]
 rw [←hat0];refine zaj (zau ?_);refine zbv (fun (a:Nat×AV)=>[(0,S s),(5,a.2),(6,.int .i64 (atW g0 ws a.1:Int))]) (fun a H'=>a.1≤ws.length∧a.1≤4000∧Keep Non H H'∧(∃l:List (Tok×Int),l.map (·.1)=ts.take a.1∧OwnTk H' a.2 l)∧∀c,ownB a.2 c→H.nx≤c) (fun a=>ws.length-a.1) ?_ (0,.nils) _ H ⟨rfl,rfl,rfl,trivial⟩
  ⟨Nat.zero_le _,Nat.zero_le _,.refl _ _,⟨[],rfl,OwnTk.nil _⟩,fun _ h=>h.elim⟩
 rintro ⟨i,u⟩ H1 ⟨hle,h4,hk1,⟨l,hl,hO⟩,hf⟩;simp only at hle h4 hk1 hl hO hf;have hati:=hat i;have hlen':l.length=i:=by
  have:=congrArg List.length hl;simp only [List.length_map,Qh] at this;have:=hw.len;omega
 refine VA.sub (l0:=[(0,S s),(5,u),(6,.int .i64 (atW g0 ws i:Int))]) ⟨rfl,rfl,rfl,trivial⟩ ?_;by_cases hi:i<ws.length;rotate_left
 ·have hnil:rsW (ws.drop i)=[]:=by rw [List.drop_of_length_le (by omega)];rfl
  rw [hnil] at hati;simp only [J9] at hati;refine zaj ?_;(repeat' first|(refine zad rfl ?_;first|(refine zaa ?_;first|refine zb4 rfl rfl rfl UnF.h rfl ?_|refine za3 rfl rfl rfl UnF.h rfl hO.sl ?_|refine zcr rfl rfl (by omega) ?_|refine zqz rfl rfl (fun hc=>?_) (fun hc=>?_))|refine zab ?_)|refine zai rfl ?_|refine zag rfl ?_|refine zac ?_|refine zaj ?_|refine zam ?_|refine zbq ?_|(refine zao ?_;refine zbr rfl ?_))
  ·exact hno (fun h=>by omega) _ _ hk1
  ·refine zad rfl ?_;refine zaa (zba BsF.h ZeF.h PsF.h rfl ?_);refine zaa (zap (n:=1) ElF.h (by decide) rfl rfl fun H2 hk2 hr2=>?_);refine zaa (zsm (n:=(⟨0,[],0⟩,(atW g0 ws i:Int))) rfl rfl rfl ElF.h rfl (.inl UnF.h) rfl (Own.keep0 hO hk2) rfl hr2 (by omega) fun u3 H3 hO3 hk3 hb3=>?_);have hk13:Keep Non H H3:=(hk1.trans0 hk2).trans hk3 fun c hc=>.inr (hf c hc);refine zad rfl ?_;refine zab (zao ⟨_,rfl,?_⟩);exact hyes ⟨h16,by omega⟩ u3 _ _ hk13 (by rw [List.map_append,hl,Qd (by rw [←hw.len];omega)];rfl) hO3 (fun c hc=>(hb3 c hc).elim (hf c) fun h=>Nat.le_trans (hk1.trans0 hk2).nx h)
 obtain ⟨x,hx⟩:∃x,ws[i]? = some x:=⟨_,Qa hi⟩
 obtain ⟨t,ht⟩:∃t,ts[i]? = some t:=⟨_,Qa (by rw [←hw.len];exact hi)⟩
 obtain ⟨htok,hne,hgap⟩:=hw.tok i x t hx ht;obtain ⟨c,g',hcg⟩:∃c g',x.2=c::g':=by
  cases h:x.2 with
  |nil=>exact absurd h hne
  |cons c g'=>exact ⟨c,g',rfl⟩
 have hc:c=32∨c=10:=hgap c (by rw [hcg];exact List.mem_cons_self ..);have hrs:rsW (ws.drop i)=x.1++c::(g'++rsW (ws.drop (i+1))):=by rw [zkl hx,hcg];rfl
 have hcut:(s.drop (atW g0 ws i)).take (s.length-atW g0 ws i)=x.1++c::(g'++rsW (ws.drop (i+1))):=by
  rw [hdrop,Qd (by omega),hrs]
 have hxl:0<x.1.length:=by
  obtain ⟨d,y,e,_⟩:=zof htok;rw [e];simp
 have hrl:(rsW (ws.drop i)).length=x.1.length+(x.2.length+(rsW (ws.drop (i+1))).length):=by rw [zkl hx,J1,J1]
 have hnext:=at_next g0 hx;have hati1:=hat (i+1);refine zaj ?_;(repeat' first|(refine zad rfl ?_;first|(refine zaa ?_;first|refine zb4 rfl rfl rfl UnF.h rfl ?_|refine zdl (a:=atW g0 ws i) (c:=s.length) UnF.h rfl rfl rfl (by omega) (Jz _) ?_|refine zb8 rfl rfl (by omega) ?_)|refine zab ?_)|refine zai rfl ?_|refine zac ?_|refine zau ?_|refine zam ?_);rw [hcut];refine zaa (zaf rfl rfl rfl (zrl (z:=c::(g'++rsW (ws.drop (i+1)))) (fun c' r' e=>by injection e with e1 _;rw [←e1];exact hc) (by rw [←hrs];omega) htok fun H2 hk2=>?_));(repeat' (refine zad rfl ?_;(refine zbh rfl ?_)));obtain ⟨bx,hbx⟩:∃b,b=H2.nx:=⟨_,rfl⟩
 refine zad rfl ?_;refine zaa (za8 ZeF.h fun H3 hk3 hr3=>?_);rw [←hbx] at hr3 ⊢;refine zaa (zan (k:=4) SzF.h rfl rfl rfl rfl hr3 rfl fun H4 hk4 hn4 hr4=>?_);have k12:Keep Non H1 H3:=hk2.trans0 hk3;have k14:Keep Non H1 H4:=zb3 k12 hk4 (by rw [hbx];exact hk2.nx);have hO4:OwnTk H4 u l:=Own.keep0 hO k14;(repeat' first|(refine zad rfl ?_;first|(refine zaa ?_;first|refine zae FpF.h (by decide) rfl ?_|refine za3 rfl rfl rfl UnF.h rfl hO4.sl ?_|refine za2 rfl rfl (by omega) ?_|refine zqz rfl rfl (fun hc=>?_) (fun hc=>?_))|refine zab ?_)|refine zai rfl ?_|refine zag rfl ?_|refine zac ?_|refine zaj ?_|refine zam ?_|(refine zao ?_;refine zbr rfl ?_))
 ·exact hno (fun h=>by omega) _ _ (hk1.trans0 k14)
 refine zaa (zbu SzF.h rfl rfl rfl hr4 (show 0+3<4 by decide) fun H5 hk5 hn5 hr5=>?_);have hr5:IsRow H5 bx (toC t (atW g0 ws i)) false false:=hr5;have k15:Keep Non H1 H5:=zb3 k14 hk5 (by rw [hbx];exact hk2.nx);refine zab (zac ?_);refine zad rfl ?_;refine zaa (zn2 PlF.h rfl hr5 (show 0+4≤4 by decide) ?_);refine zaa (zap (n:=1) ElF.h (by decide) rfl rfl fun H6 hk6 hr6=>?_);have k16:Keep Non H1 H6:=k15.trans0 hk6;refine zaa (zsm (n:=(t,(atW g0 ws i:Int))) rfl rfl rfl ElF.h rfl (.inl UnF.h) rfl (Own.keep0 hO k16) rfl hr6 (by omega) fun u7 H7 hO7 hk7 hb7=>?_);have k17:Keep Non H H7:=(hk1.trans0 k16).trans hk7 fun c hc=>.inr (hf c hc);have hx2:0<x.2.length:=by rw [hcg];simp
 have hcut2:(s.drop (atW g0 ws i+x.1.length)).take (s.length-(atW g0 ws i+x.1.length))=x.2++rsW (ws.drop (i+1)):=by
  rw [←List.drop_drop,hdrop,zkl hx,List.drop_left,Qd (by rw [J1];omega)]
 refine zad rfl ?_;refine zab (zac ?_);refine zad rfl ?_;refine zaa (zaz (c:=((atW g0 ws i+x.1.length:Nat):Int)) rfl rfl Ju ?_);refine zad rfl ?_;refine zab (za1 ?_);refine zad rfl ?_;refine zaa (zdl (a:=atW g0 ws i+x.1.length) (c:=s.length) UnF.h rfl rfl rfl (by omega) (Jz _) ?_);rw [hcut2];refine zaa (zaf rfl rfl rfl (zrk (g:=x.2) (r:=rsW (ws.drop (i+1))) (by rw [J1];omega) hgap (fun c r e=>ztf hw (i+1) c r e) ?_));refine zaa (zaz (c:=((atW g0 ws (i+1):Nat):Int)) rfl rfl Ju ?_);refine zad rfl ?_;refine zab ⟨(i+1,u7),?_,⟨rfl,rfl,rfl,trivial⟩,by show i+1≤_;omega,by show i+1≤_;omega,k17,⟨l++[(t,(atW g0 ws i:Int))],by rw [List.map_append,hl,zbs ht];rfl,hO7⟩,fun c hc=>(hb7 c hc).elim (hf c) fun h=>Nat.le_trans (hk1.trans0 k16).nx h⟩;show ws.length-(i+1)<ws.length-i;omega
end
instance ifp_76_0:FpF prog 76 0 ⟨0,false,1⟩:=⟨by kernel_rfl⟩
theorem pl_3:plcOf prog 3 0=some ⟨0,false,1⟩:=by kernel_rfl
instance ipl_3:PlF prog 3 ⟨0,false,1⟩:=⟨pl_3⟩
instance ifp_76_2:FpF prog 76 2 ⟨2,false,1⟩:=⟨by kernel_rfl⟩
theorem pl_2:plcOf prog 2 0=some ⟨0,false,1⟩:=by kernel_rfl
instance ipl_2:PlF prog 2 ⟨0,false,1⟩:=⟨pl_2⟩
instance ifp_76_1:FpF prog 76 1 ⟨1,false,1⟩:=⟨by kernel_rfl⟩
def v113c0:CV:=.seq (.reg [.op (some 9) (.fieldAddr 76 (.tmp 1) 2),
  .op (some 10) (.load 2 (.tmp 9)),
  .op (some 12) (.fieldAddr 76 (.tmp 1) 2),
  .op (some 13) (.load 2 (.tmp 12)),
  .op (some 14) (.binOp .geq 2 (.tmp 13) (.const (.int .i64 0)) 2),
  .op (some 11) (.call ⟨.value (.func 111),#[(.tmp 10)],#[2]⟩),
  .ck 13 (.load 2 (.tmp 12)),
  .op (some 15) (.move (.tmp 14)),
  .gd 15 true (some 16) (.fieldAddr 76 (.tmp 1) 1),
  .gd 15 true (some 17) (.load 9 (.tmp 16)),
  .gd 15 true (some 18) (.binOp .eql 9 (.tmp 17) (.const (.string ⟨⟨[]⟩⟩)) 9),
  .op (some 19) (.pick (.tmp 15) (.tmp 18) (.const (.bool false))),
  .op (some 2) (.assign (.tmp 11)),
  .op (some 3) (.assign (.tmp 19))])
 (.ret)
def v113h1:CV:=.seq (.reg [.op (some 6) (.fieldAddr 76 (.tmp 1) 0),
  .op (some 7) (.load 3 (.tmp 6)),
  .op (some 8) (.binOp .eql 3 (.tmp 7) (.const (.int .i64 2)) 3)])
 (.cond (.tmp 8) v113c0 (.skip))
def v113t3:CV:=.seq (.reg [.op (some 26) (.fieldAddr 76 (.tmp 1) 1),
  .op (some 27) (.load 9 (.tmp 26)),
  .op (some 28) (.fieldAddr 76 (.tmp 1) 2),
  .op (some 29) (.load 2 (.tmp 28)),
  .op (some 30) (.binOp .eql 2 (.tmp 29) (.const (.int .i64 0)) 2),
  .op (some 31) (.move (.tmp 30)),
  .gd 31 true (some 32) (.move (.tmp 5)),
  .gd 31 true (some 33) (.binOp .gtr 3 (.tmp 32) (.const (.int .i64 0)) 3),
  .op (some 34) (.pick (.tmp 31) (.tmp 33) (.const (.bool false))),
  .op (some 35) (.move (.tmp 34)),
  .gd 35 true (some 36) (.move (.tmp 5)),
  .gd 35 true (some 37) (.fieldAddr 76 (.tmp 1) 1),
  .gd 35 true (some 38) (.load 9 (.tmp 37)),
  .gd 35 true (some 39) (.call ⟨.builtin .len,#[(.tmp 38)],#[9]⟩),
  .gd 35 true (some 40) (.binOp .eql 3 (.tmp 36) (.tmp 39) 3),
  .op (some 41) (.pick (.tmp 35) (.tmp 40) (.const (.bool false))),
  .op (some 42) (.move (.tmp 41)),
  .gd 42 true (some 43) (.fieldAddr 76 (.tmp 4) 0),
  .gd 42 true (some 44) (.load 3 (.tmp 43)),
  .gd 42 true (some 45) (.fieldAddr 76 (.tmp 1) 0),
  .gd 42 true (some 46) (.load 3 (.tmp 45)),
  .gd 42 true (some 47) (.binOp .eql 3 (.tmp 44) (.tmp 46) 3),
  .op (some 48) (.pick (.tmp 42) (.tmp 47) (.const (.bool false))),
  .op (some 2) (.assign (.tmp 27)),
  .op (some 3) (.assign (.tmp 48))])
 (.ret)
def v113t2:CV:=.seq (.reg [.op (some 21) (.fieldAddr 76 (.tmp 1) 1),
  .op (some 22) (.load 9 (.tmp 21)),
  .op (some 23) (.call ⟨.value (.func 22),#[(.tmp 22)],#[9]⟩),
  .op (some 20) (.move (.tmp 23)),
  .op (some 24) (.extract (.tmp 20) 0),
  .op (some 25) (.extract (.tmp 20) 1),
  .op (some 4) (.alloc 76),
  .op none (.store 76 (.tmp 4) (.tmp 24)),
  .op (some 5) (.assign (.tmp 25))]) v113t3
def v113t1:CV:=.seq v113h1 v113t2
def v113:CV:=.seq (.reg [.op (some 1) (.box 76 (.tmp 0)),
  .op (some 2) (.assign (.const (.string ⟨⟨[]⟩⟩))),
  .op (some 3) (.assign (.const (.bool false)))]) v113t1
noncomputable def b113:Code:=f113.body.getD .skip
theorem b113_eq:f113.body=some b113:=by kernel_rfl
theorem v113_eq:viewC prog b113=some v113:=by kernel_rfl
theorem r113_eq:f113.results.toList=[.tmp 2,.tmp 3]:=by kernel_rfl
def v63c0:CV:=.seq (.reg [.op (some 2) (.assign (.const (.bool false)))])
 (.ret)
def v63h1:CV:=.seq (.reg [.op (some 7) (.move (.tmp 0)),
  .op (some 8) (.call ⟨.builtin .len,#[(.tmp 7)],#[33]⟩),
  .op (some 9) (.binOp .eql 3 (.tmp 8) (.const (.int .i64 0)) 3)])
 (.cond (.tmp 9) v63c0 (.skip))
def v63l1h0:CV:=.seq (.reg [.op (some 16) (.move (.tmp 4)),
  .op (some 17) (.move (.tmp 0)),
  .op (some 18) (.call ⟨.builtin .len,#[(.tmp 17)],#[33]⟩),
  .op (some 19) (.binOp .sub 3 (.tmp 18) (.const (.int .i64 1)) 3),
  .op (some 20) (.binOp .lss 3 (.tmp 16) (.tmp 19) 3)])
 (.cond (.tmp 20) (.skip) (.exit 0))
def v63c2:CV:=.seq (.reg [.op (some 2) (.assign (.const (.bool false)))])
 (.ret)
def v63k0t1:CV:=.seq (.reg [.op (some 31) (.move (.tmp 6)),
  .op (some 32) (.unOp .not 4 (.tmp 31))])
 (.cond (.tmp 32) v63c2 (.skip))
def v63k0:CV:=.seq (.reg [.op (some 24) (.move (.tmp 0)),
  .op (some 25) (.move (.tmp 4)),
  .op (some 26) (.indexAddr 33 (.tmp 24) (.tmp 25)),
  .op (some 27) (.load 76 (.tmp 26)),
  .op (some 28) (.call ⟨.value (.func 113),#[(.tmp 27)],#[76]⟩),
  .op (some 23) (.move (.tmp 28)),
  .op (some 29) (.extract (.tmp 23) 0),
  .op (some 30) (.extract (.tmp 23) 1),
  .op (some 5) (.assign (.tmp 29)),
  .op (some 6) (.assign (.tmp 30))]) v63k0t1
def v63l1t1:CV:=.seq (.block 1 v63k0)
 (.reg [.op (some 21) (.move (.tmp 4)),
  .op (some 22) (.binOp .add 3 (.tmp 21) (.const (.int .i64 1)) 3),
  .op (some 4) (.assign (.tmp 22))])
def v63l1:CV:=.seq v63l1h0 v63l1t1
def v63h3:CV:=.seq (.reg [.op (some 4) (.assign (.const (.int .i64 0)))])
 (.block 0 (.loop v63l1))
def v63t4:CV:=.seq (.reg [.op (some 33) (.fieldAddr 76 (.tmp 3) 0),
  .op (some 34) (.load 3 (.tmp 33)),
  .op (some 35) (.binOp .eql 3 (.tmp 34) (.const (.int .i64 0)) 3),
  .op (some 36) (.move (.tmp 35)),
  .gd 36 true (some 37) (.fieldAddr 76 (.tmp 3) 1),
  .gd 36 true (some 38) (.load 9 (.tmp 37)),
  .gd 36 true (some 39) (.binOp .eql 9 (.tmp 38) (.const (.string ⟨⟨[]⟩⟩)) 9),
  .op (some 40) (.pick (.tmp 36) (.tmp 39) (.const (.bool false))),
  .op (some 41) (.move (.tmp 40)),
  .gd 41 true (some 42) (.fieldAddr 76 (.tmp 3) 2),
  .gd 41 true (some 43) (.load 2 (.tmp 42)),
  .gd 41 true (some 44) (.binOp .eql 2 (.tmp 43) (.const (.int .i64 0)) 2),
  .op (some 45) (.pick (.tmp 41) (.tmp 44) (.const (.bool false))),
  .op (some 2) (.assign (.tmp 45))])
 (.ret)
def v63t3:CV:=.seq v63h3 v63t4
def v63t2:CV:=.seq (.reg [.op (some 10) (.move (.tmp 0)),
  .op (some 11) (.move (.tmp 0)),
  .op (some 12) (.call ⟨.builtin .len,#[(.tmp 11)],#[33]⟩),
  .op (some 13) (.binOp .sub 3 (.tmp 12) (.const (.int .i64 1)) 3),
  .op (some 14) (.indexAddr 33 (.tmp 10) (.tmp 13)),
  .op (some 15) (.load 76 (.tmp 14)),
  .op (some 3) (.alloc 76),
  .op none (.store 76 (.tmp 3) (.tmp 15))]) v63t3
def v63t1:CV:=.seq v63h1 v63t2
def v63:CV:=.seq (.reg [.op (some 2) (.assign (.const (.bool false)))]) v63t1
noncomputable def b63:Code:=f63.body.getD .skip
theorem b63_eq:f63.body=some b63:=by kernel_rfl
theorem v63_eq:viewC prog b63=some v63:=by kernel_rfl
theorem r63_eq:f63.results.toList=[.tmp 2]:=by kernel_rfl
theorem IsTok.len {w:List UInt8}{t:Tok}(h:IsTok w t):w.length≤40:=by
 cases h with
 |name h=>obtain ⟨_,_,_,_,_,_,h⟩:=zdu h;exact h
 |num n h=>
  have hp:(10:Nat) ^ 19=10000000000000000000:=rfl;have:=zeh 19 n (by rw [hp];omega) (by omega);omega
 |key h=>
  have:∀w∈keysL,w.length≤40:=by decide
  exact this w h
 |sign h=>
  have:∀w∈signsL,w.length≤40:=by decide
  exact this w h
section
variable {gl:List (List AV)}{H:Heap}{v w:AV}{Q:AV→Heap→Prop}
theorem IsTok.word {w:List UInt8}{t:Tok}(h:IsTok w t):(∃n:Nat,n<9223372036854775808∧t=⟨2,[],n⟩)∨(t.kind≠2∧t.text=w∧t.num=0):=by
 cases h with
 |num n h=>exact .inl ⟨n,h,rfl⟩
 |name h=>exact .inr ⟨show (1:Int)≠2 by decide,rfl,rfl⟩
 |key h=>exact .inr ⟨show (3:Int)≠2 by decide,rfl,rfl⟩
 |sign h=>exact .inr ⟨show (4:Int)≠2 by decide,rfl,rfl⟩
theorem tok_ne {w:List UInt8}{t:Tok}(h:IsTok w t):0<w.length:=by
 obtain ⟨d,y,e,_⟩:=zof h;rw [e];simp
theorem zu5 {w:List UInt8}{t:Tok}(h:IsTok w t) (hQ:∀H',Keep Non H H'→Q (.tup [.agg (toC t 0),.int .i64 (w.length:Int)]) H'):WpF prog [5] gl 22 [S w] H Q:=by
 have hl:=h.len;have:=zrl (gl:=gl) (H:=H) (Q:=Q) (w:=w) (z:=[]) (fun c r e=>by cases e) (by rw [List.append_nil];omega) h hQ
 rwa [List.append_nil] at this
theorem TText_ok {w:List UInt8}{t:Tok}(h:IsTok w t) (a:Int) (hQ:∀u H',Keep Non H H'→Q (.tup [u,.bool true]) H'):WpF prog [5] gl 113 [.agg (toC t a)] H Q:=by
 refine fa func113 b113_eq v113_eq r113_eq (.inr (by simp)) ?_;refine zac ?_;refine zad rfl ?_;refine zaa (zcy rfl fun H1 hk1 hr1=>?_);rcases h.word with ⟨n,hn,rfl⟩|⟨hk,ht,hnum⟩
 ·have hr1:IsRow H1 H.nx [.int .i64 2,S [],.int .i64 (n:Int),.int .i64 a] false false:=hr1;have hn0:(0:Int)≤(n:Int):=by omega
  (repeat' first|(refine zad rfl ?_;first|((first|refine zaa ?_|refine zav rfl ?_);first|refine zaq rfl rfl rfl ?_|refine zae FpF.h (by decide) rfl ?_|refine zah PlF.h rfl hr1 rfl ?_|refine zaf rfl rfl rfl (zrm n hn fun H2 hk2=>?_)|refine zah PlF.h rfl (hr1.keep0 hk2) rfl ?_|refine zew rfl rfl (by omega) ?_|refine zax rfl rfl (by omega) ?_|refine zkh rfl rfl (by (decide)) ?_)|refine zo3 PlF.h rfl (hr1.keep0 hk2) rfl rfl ?_|refine zab ?_)|refine zai rfl ?_|refine zac ?_|refine zaj ?_|(refine zao ?_;refine zbr rfl ?_))
  all_goals (exact hQ _ _ (hk1.trans0 hk2))
 ·have hr1:IsRow H1 H.nx [.int .i64 t.kind,S t.text,.int .i64 t.num,.int .i64 a] false false:=hr1;rw [ht,hnum] at hr1;have hl:=h.len;have hp:=tok_ne h;(repeat' first|(refine zad rfl ?_;first|(refine zaa ?_;first|refine zae FpF.h (by decide) rfl ?_|refine zah PlF.h rfl hr1 rfl ?_|refine za2 rfl rfl (by omega) ?_)|refine zab ?_)|refine zag rfl ?_|refine zac ?_|refine zaj ?_|refine zam ?_);obtain ⟨b1,hb1⟩:∃b,b=H.nx:=⟨_,rfl⟩
  rw [←hb1] at hr1 ⊢;refine zaa (zaf rfl rfl rfl (zu5 h fun H2 hk2=>?_));(repeat' (refine zad rfl ?_;(refine zbh rfl ?_)));refine zad rfl ?_;obtain ⟨b2,hb2⟩:∃b,b=H2.nx:=⟨_,rfl⟩
  refine zaa (za8 ZeF.h fun H3 hk3 hr3=>?_);rw [←hb2] at hr3 ⊢;refine zaa (zan (k:=4) SzF.h rfl rfl rfl rfl hr3 rfl fun H4 hk4 hn4 hr4=>?_);have hr4:IsRow H4 b2 [.int .i64 t.kind,S t.text,.int .i64 t.num,.int .i64 0] false false:=hr4;have k13:Keep Non H1 H3:=hk2.trans0 hk3;have k14:Keep Non H1 H4:=zb3 k13 hk4 (by rw [hb2];exact hk2.nx);have hr5:=hr1.keep0 k14;(repeat' first|(refine zad rfl ?_;first|((first|refine zaa ?_|refine zav rfl ?_);first|refine zal rfl ?_|refine zaq rfl rfl rfl ?_|refine zae FpF.h (by decide) rfl ?_|refine zah PlF.h rfl hr5 rfl ?_|refine zah PlF.h rfl hr4 rfl ?_|refine zb4 rfl rfl rfl UnF.h rfl ?_|refine zcn rfl rfl (by omega) ?_|refine zax rfl rfl (by omega) ?_)|refine zab ?_)|refine zac ?_|(refine zao ?_;refine zbr rfl ?_))
  all_goals exact hQ _ _ (hk1.trans0 k14)
theorem Right_ok {l:List (Tok×Int)}{ts:List Tok}(hl:l.map (·.1)=ts++[⟨0,[],0⟩]) (hts:∀t∈ts,∃w,IsTok w t) (hn:l.length<100000) (hv:IsSl H v 4 l.length (l.flatMap tkC)) (hQ:∀H',Keep Non H H'→Q (.bool true) H'):WpF prog [5] gl 63 [v] H Q:=by
 have hlen:l.length=ts.length+1:=by
  have:=congrArg List.length hl;simpa using this
 obtain ⟨e,he⟩:∃e,l[ts.length]? = some e:=⟨_,Qa (by omega)⟩
 have hel:e.1=⟨0,[],0⟩:=by
  have:=congrArg (fun x=>x[ts.length]?) hl;simp only [List.getElem?_map,he,Option.map_some] at this;simpa using this
 have het:tkC e=[.int .i64 0,S [],.int .i64 0,.int .i64 e.2]:=by rw [tkC,hel];rfl
 refine fa func63 b63_eq v63_eq r63_eq (.inr (by simp)) ?_;have h1:(0:Int)<(l.length:Int):=by omega
 (repeat' first|(refine zad rfl ?_;first|(refine zaa ?_;first|refine za3 rfl rfl rfl UnF.h rfl hv ?_|refine za2 rfl rfl (by omega) ?_)|refine zab ?_)|refine zag rfl ?_|refine zac ?_|refine zaj ?_|refine zam ?_);refine zaa (zc4 (c:=((ts.length:Nat):Int)) rfl rfl (zas (by omega) (by omega) (by omega)) ?_);refine zaa (zbz zds UnF.h SzF.h rfl hv rfl rfl he fun q0 hq0=>?_);refine zaa (zat (k:=4) PlF.h rfl (by decide) rfl hq0 ?_);obtain ⟨b1,hb1⟩:∃b,b=H.nx:=⟨_,rfl⟩
 refine zaa (za8 ZeF.h fun H1 hk1 hr1=>?_);rw [←hb1] at hr1 ⊢;refine zaa (zan (k:=4) SzF.h rfl rfl rfl rfl hr1 rfl fun H2 hk2 hn2 hr2=>?_);rw [het] at hr2;have k02:Keep Non H H2:=zb3 hk1 hk2 (by rw [hb1];exact Jz _);refine zab ?_;(repeat' first|(refine zad rfl ?_;(refine zab ?_))|refine zac ?_|refine zaj ?_|refine zau ?_);refine zbv (fun (i:Nat)=>[(0,v),(3,.ptr b1 0),(4,.int .i64 (i:Int))]) (fun i H'=>Keep Non H2 H'∧i≤ts.length) (fun i=>ts.length-i) ?_ 0 _ H2 ⟨rfl,rfl,rfl,trivial⟩ ⟨.refl _ _,Nat.zero_le _⟩;rintro i H3 ⟨hk3,hle⟩;have hv3:IsSl H3 v 4 l.length (l.flatMap tkC):=(hv.keep0 (k02.trans0 hk3))
 have hr3:=hr2.keep0 hk3;by_cases hi:i<ts.length;rotate_left
 ·(repeat' first|(refine zad rfl ?_;first|((first|refine zaa ?_|refine zav rfl ?_);first|refine zaq rfl rfl rfl ?_|refine zae FpF.h (by decide) rfl ?_|refine za3 rfl rfl rfl UnF.h rfl hv3 ?_|refine zc4 (c:=((ts.length:Nat):Int)) rfl rfl (zas (by omega) (by omega) (by omega)) ?_|refine zah PlF.h rfl hr3 rfl ?_|refine zcr rfl rfl (by omega) ?_|refine zax rfl rfl (by omega) ?_|refine zkh rfl rfl (by (decide)) ?_)|refine zab ?_)|refine zag rfl ?_|refine zac ?_|refine zaj ?_|refine zbq ?_|(refine zao ?_;refine zbr rfl ?_))
  all_goals exact hQ _ (k02.trans0 hk3)
 obtain ⟨x,hx⟩:∃x,l[i]? = some x:=⟨_,Qa (by omega)⟩
 have hxt:x.1∈ts:=by
  have:=congrArg (fun x=>x[i]?) hl;simp only [List.getElem?_map,hx,Option.map_some,List.getElem?_append_left hi] at this;exact Qe this.symm
 obtain ⟨w,hw⟩:=hts _ hxt;refine zaj ?_;(repeat' first|(refine zad rfl ?_;first|(refine zaa ?_;first|refine za3 rfl rfl rfl UnF.h rfl hv3 ?_|refine zc4 (c:=((ts.length:Nat):Int)) rfl rfl (zas (by omega) (by omega) (by omega)) ?_|refine zbz zds UnF.h SzF.h rfl hv3 rfl rfl hx (fun q1 hq1=>?_)|refine zat (k:=4) PlF.h rfl (by decide) rfl hq1 ?_|refine zaf rfl rfl rfl (TText_ok hw x.2 fun u H4 hk4=>?_)|refine zb8 rfl rfl (by omega) ?_)|refine zab ?_)|refine zai rfl ?_|refine zag rfl ?_|refine zac ?_|refine zaj ?_|refine za1 ?_|refine zau ?_|refine zam ?_);refine zad rfl ?_;refine zaa (zaz (c:=((i+1:Nat):Int)) rfl rfl (zas (by omega) (by omega) (by omega)) ?_);refine zad rfl ?_;refine zab ⟨i+1,?_,⟨rfl,rfl,rfl,trivial⟩,hk3.trans0 hk4,by omega⟩;show ts.length-(i+1)<ts.length-i;omega
end
end Go.Proofs.YtniflgldgnmiaaaGreatDoor
