/-
  Rows shown about one, and found by a mark: the plain law. No conditions.
-/
import Derived.Test.YtniflgldgnmiaaaGreatDoorWrS
namespace Go.Proofs.YtniflgldgnmiaaaGreatDoor
open Go Eng Tryz
structure Rw where
 text:List UInt8
 proc:Int
 mark:Int
def rwC (r:Rw):List AV:=[S r.text,.int .i64 r.proc,.int .i64 r.mark]
theorem rwC_len (r:Rw):(rwC r).length=3:=rfl
structure LR where
 deep:Nat
 words:Ws
 proc:Nat
 mark:Int
def LR.text (r:LR):List UInt8:=List.replicate (2*r.deep) 32++joinW r.words
def LR.rw (r:LR):Rw:=⟨r.text,r.proc,r.mark⟩
mutual
def cS:Stm→Nat
 |.mk _ _ _ _ _ b f=>1+cSs b+cSs f
def cSs:List Stm→Nat
 |[]=>0
 |x::l=>cS x+cSs l
end
mutual
def lS (p:Nat):Stm→Nat→Nat→List LR
 |.mk k n pr z e b f,d,m=>
  if k=4 then ⟨d,[[105,102],[40]]++wdE0 e++[[41],[123]],p,(m:Int)+1⟩::(lSs p b (d+1) (m+1)++(if f.length=0 then [] else ⟨d,[[125],[101,108,115,101],[123]],p,-1⟩::lSs p f (d+1) (m+1+cSs b))++[⟨d,[[125]],p,-1⟩])
  else if k=5 then ⟨d,[[119,104,105,108,101],[40]]++wdE0 e++[[41],[123]],p,(m:Int)+1⟩::(lSs p b (d+1) (m+1)++[⟨d,[[125]],p,-1⟩])
  else [⟨d,wdS (.mk k n pr z e b f),p,(m:Int)+1⟩]
def lSs (p:Nat):List Stm→Nat→Nat→List LR
 |[],_,_=>[]
 |x::l,d,m=>lS p x d m++lSs p l d (m+cS x)
end
def lP (i:Nat) (x:Prc):List LR:=⟨0,wdH x++[[123]],i,0⟩::(lSs i x.body 1 0++[⟨0,[[125]],i,(cSs x.body:Int)+1⟩])
def lPs:List Prc→Nat→List LR
 |[],_=>[]
 |x::l,i=>lP i x++lPs l (i+1)
theorem cS_eq (x:Stm):cS x=1+cSs x.body+cSs x.els:=by cases x;simp only [cS];rfl
theorem lS_eq (p:Nat) (x:Stm) (d m:Nat):lS p x d m =
  if x.kind=4 then ⟨d,[[105,102],[40]]++wdE0 x.e++[[41],[123]],p,(m:Int)+1⟩::(lSs p x.body (d+1) (m+1)++(if x.els.length=0 then [] else ⟨d,[[125],[101,108,115,101],[123]],p,-1⟩::lSs p x.els (d+1) (m+1+cSs x.body))++[⟨d,[[125]],p,-1⟩])
  else if x.kind=5 then ⟨d,[[119,104,105,108,101],[40]]++wdE0 x.e++[[41],[123]],p,(m:Int)+1⟩::(lSs p x.body (d+1) (m+1)++[⟨d,[[125]],p,-1⟩])
  else [⟨d,wdS x,p,(m:Int)+1⟩]:=by
 cases x;simp only [lS];rfl
theorem zsd (p:Nat) (x:Stm):∀(l:List Stm) (d m:Nat),lSs p (l++[x]) d m=lSs p l d m++lS p x d (m+cSs l)
 |[],d,m=>by simp [lSs,cSs]
 |y::l,d,m=>by
  simp only [List.cons_append,lSs,zsd p x l,cSs,List.append_assoc];rw [show m+cS y+cSs l=m+(cS y+cSs l) by omega]
theorem zrt (x:Stm):∀l:List Stm,cSs (l++[x])=cSs l+cS x
 |[]=>by simp [cSs]
 |y::l=>by simp only [List.cons_append,cSs,zrt x l];omega
theorem zsb (x:Prc):∀(l:List Prc) (i:Nat),lPs (l++[x]) i=lPs l i++lP (i+l.length) x
 |[],i=>by simp [lPs]
 |y::l,i=>by
  simp only [List.cons_append,lPs,zsb x l,List.append_assoc,Jy];rw [show i+1+l.length=i+(l.length+1) by omega]
mutual
theorem cS_le:∀x:Stm,cS x≤sizS x
 |.mk k n p z e b f=>by have:=zkv b;have:=zkv f;simp only [cS,sizS];omega
theorem zkv:∀l:List Stm,cSs l≤sizSs l
 |[]=>by simp [cSs]
 |x::l=>by have:=cS_le x;have:=zkv l;simp only [cSs,sizSs];omega
end
mutual
theorem lS_len (p:Nat):∀(x:Stm) (d m:Nat),(lS p x d m).length≤3*sizS x
 |.mk k n pr z e b f,d,m=>by
  have h1:=zfv p b (d+1) (m+1);have h2:=zfv p f (d+1) (m+1+cSs b);simp only [lS,sizS];split
  ·split<;>simp only [Jy,J1,J9]<;>omega
  split
  ·simp only [Jy,J1,J9];omega
  ·simp only [Jy,J9];omega
theorem zfv (p:Nat):∀(l:List Stm) (d m:Nat),(lSs p l d m).length≤3*sizSs l
 |[],_,_=>by simp [lSs]
 |x::l,d,m=>by
  have h1:=lS_len p x d m;have h2:=zfv p l d (m+cS x);simp only [lSs,sizSs,J1];omega
end
theorem lP_len (i:Nat) (x:Prc):(lP i x).length≤3*sizP x:=by
 have:=zfv i x.body 1 0;unfold lP sizP;simp only [Jy,J1,J9];omega
theorem znr:∀(l:List Prc) (i:Nat),(lPs l i).length≤3*sizPs l
 |[],_=>by simp [lPs]
 |x::l,i=>by
  have h1:=lP_len i x;have h2:=znr l (i+1);simp only [lPs,sizPs,J1];omega
theorem okS_fits {x:Stm}(h:okS x=true):fitsB x=true∧okEs x.e=true∧okSs x.body=true∧okSs x.els=true:=by
 cases x;simp only [okS,J8] at h;exact ⟨h.1.1.1.1,h.1.1.2,h.1.2,h.2⟩
set_option maxHeartbeats 0
def v120c0:CV:=Jt [Jc 4 (.assign (.const (.bool false)))] (.ret)
def v120h1:CV:=Jt [Jg 5 165 2 0,Jf 6 3 5,Jg 7 165 3 0,Jf 8 3 7,Jc 9 (.binOp .neq 3 (Ja 6) (Ja 8) 3),Jd 10 9,Jq 10 false 11 165 2 1,Jr 10 false 12 9 11,Jq 10 false 13 165 3 1,Jr 10 false 14 9 13,Js 10 false 15 (.binOp .neq 9 (Ja 12) (Ja 14) 9),Jc 16 (.pick (Ja 10) (.const (.bool true)) (Ja 15)),Jd 17 16,Jq 17 false 18 165 2 2,Jr 17 false 19 2 18,Jq 17 false 20 165 3 2,Jr 17 false 21 2 20,Js 17 false 22 (.binOp .neq 2 (Ja 19) (Ja 21) 2),Jc 23 (.pick (Ja 17) (.const (.bool true)) (Ja 22))] (.cond (Ja 23) v120c0 (.skip))
def v120t2:CV:=Jt [Jg 24 165 2 3,Jf 25 146 24,Jg 26 165 3 3,Jf 27 146 26,Jo 28 66 25 27 146 146,Jh 4 28] (.ret)
def v120t1:CV:=.seq v120h1 v120t2
def v120:CV:=Jt [Jc 2 (.box 165 (Ja 0)),Jc 3 (.box 165 (Ja 1)),Jc 4 (.assign (.const (.bool false)))] v120t1
noncomputable def b120:Code:=f120.body.getD .skip
theorem b120_eq:f120.body=some b120:=by kernel_rfl
theorem v120_eq:viewC prog b120=some v120:=by kernel_rfl
theorem r120_eq:f120.results.toList=[.tmp 4]:=by kernel_rfl
def v66c0:CV:=Jt [Jc 4 (.assign (.const (.bool false)))] (.ret)
def v66h1:CV:=Jt [Jd 6 0,Jj 7 6 146,Jd 8 1,Jj 9 8 146,Jc 10 (.binOp .neq 3 (Ja 7) (Ja 9) 3)] (.cond (Ja 10) v66c0 (.skip))
def v66l1h0:CV:=Jt [Jd 11 5,Jd 12 0,Jj 13 12 146,Jc 14 (.binOp .lss 3 (Ja 11) (Ja 13) 3)] (.cond (Ja 14) (.skip) (.exit 0))
def v66c2:CV:=Jt [Jc 4 (.assign (.const (.bool false)))] (.ret)
def v66k0:CV:=Jt [Jd 17 0,Jd 18 5,Jk 19 146 17 18,Jf 20 165 19,Jd 21 1,Jd 22 5,Jk 23 146 21 22,Jf 24 165 23,Jo 25 120 20 24 165 165,Jc 26 (.unOp .not 4 (Ja 25))] (.cond (Ja 26) v66c2 (.skip))
def v66l1t1:CV:=.seq (.block 1 v66k0) (.reg [Jd 15 5,Jc 16 (.binOp .add 3 (Ja 15) (Jb 1) 3),Jh 5 16])
def v66l1:CV:=.seq v66l1h0 v66l1t1
def v66h2:CV:=Jt [Ji 5 0] (.block 0 (.loop v66l1))
def v66t3:CV:=Jt [Jc 4 (.assign (.const (.bool true)))] (.ret)
def v66t2:CV:=.seq v66h2 v66t3
def v66t1:CV:=.seq v66h1 v66t2
def v66:CV:=Jt [Jc 4 (.assign (.const (.bool false)))] v66t1
noncomputable def b66:Code:=f66.body.getD .skip
theorem b66_eq:f66.body=some b66:=by kernel_rfl
theorem v66_eq:viewC prog b66=some v66:=by kernel_rfl
theorem r66_eq:f66.results.toList=[.tmp 4]:=by kernel_rfl
def v24c0:CV:=Jt [Jc 4 (.assign (.const (.bool false)))] (.ret)
def v24h1:CV:=Jt [Jd 8 0,Jj 9 8 67,Jd 10 1,Jj 11 10 67,Jc 12 (.binOp .neq 3 (Ja 9) (Ja 11) 3)] (.cond (Ja 12) v24c0 (.skip))
def v24l1h0:CV:=Jt [Jd 13 5,Jd 14 0,Jj 15 14 67,Jc 16 (.binOp .lss 3 (Ja 13) (Ja 15) 3)] (.cond (Ja 16) (.skip) (.exit 0))
def v24c2:CV:=Jt [Jc 4 (.assign (.const (.bool false)))] (.ret)
def v24k0t1:CV:=Jt [Jg 27 148 6 0,Jf 28 3 27,Jg 29 148 7 0,Jf 30 3 29,Jc 31 (.binOp .neq 3 (Ja 28) (Ja 30) 3),Jd 32 31,Jq 32 false 33 148 6 1,Jr 32 false 34 9 33,Jq 32 false 35 148 7 1,Jr 32 false 36 9 35,Js 32 false 37 (.binOp .neq 9 (Ja 34) (Ja 36) 9),Jc 38 (.pick (Ja 32) (.const (.bool true)) (Ja 37)),Jd 39 38,Jq 39 false 40 148 6 2,Jr 39 false 41 9 40,Jq 39 false 42 148 7 2,Jr 39 false 43 9 42,Js 39 false 44 (.binOp .neq 9 (Ja 41) (Ja 43) 9),Jc 45 (.pick (Ja 39) (.const (.bool true)) (Ja 44)),Jd 46 45,Jq 46 false 47 148 6 3,Jr 46 false 48 2 47,Jq 46 false 49 148 7 3,Jr 46 false 50 2 49,Js 46 false 51 (.binOp .neq 2 (Ja 48) (Ja 50) 2),Jc 52 (.pick (Ja 46) (.const (.bool true)) (Ja 51)),Jd 53 52,Jq 53 false 54 148 6 4,Jr 53 false 55 146 54,Jq 53 false 56 148 7 4,Jr 53 false 57 146 56,Js 53 false 58 (.call ⟨.value (.func 66),#[(Ja 55),(Ja 57)],#[146,146]⟩),Js 53 false 59 (.unOp .not 4 (Ja 58)),Jc 60 (.pick (Ja 53) (.const (.bool true)) (Ja 59)),Jd 61 60,Jq 61 false 62 148 6 5,Jr 61 false 63 67 62,Jq 61 false 64 148 7 5,Jr 61 false 65 67 64,Js 61 false 66 (.call ⟨.value (.func 24),#[(Ja 63),(Ja 65)],#[67,67]⟩),Js 61 false 67 (.unOp .not 4 (Ja 66)),Jc 68 (.pick (Ja 61) (.const (.bool true)) (Ja 67)),Jd 69 68,Jq 69 false 70 148 6 6,Jr 69 false 71 67 70,Jq 69 false 72 148 7 6,Jr 69 false 73 67 72,Js 69 false 74 (.call ⟨.value (.func 24),#[(Ja 71),(Ja 73)],#[67,67]⟩),Js 69 false 75 (.unOp .not 4 (Ja 74)),Jc 76 (.pick (Ja 69) (.const (.bool true)) (Ja 75))] (.cond (Ja 76) v24c2 (.skip))
def v24k0:CV:=Jt [Jd 19 0,Jd 20 5,Jk 21 67 19 20,Jf 22 148 21,Jd 23 1,Jd 24 5,Jk 25 67 23 24,Jf 26 148 25,Jc 6 (.alloc 148),Jc 7 (.alloc 148),.op none (.store 148 (Ja 6) (Ja 22)),.ck 26 (.load 148 (Ja 25)),.op none (.store 148 (Ja 7) (Ja 26))] v24k0t1
def v24l1t1:CV:=.seq (.block 1 v24k0) (.reg [Jd 17 5,Jc 18 (.binOp .add 3 (Ja 17) (Jb 1) 3),Jh 5 18])
def v24l1:CV:=.seq v24l1h0 v24l1t1
def v24h2:CV:=Jt [Ji 5 0] (.block 0 (.loop v24l1))
def v24t3:CV:=Jt [Jc 4 (.assign (.const (.bool true)))] (.ret)
def v24t2:CV:=.seq v24h2 v24t3
def v24t1:CV:=.seq v24h1 v24t2
def v24:CV:=Jt [Jc 4 (.assign (.const (.bool false)))] v24t1
noncomputable def b24:Code:=f24.body.getD .skip
theorem b24_eq:f24.body=some b24:=by kernel_rfl
theorem v24_eq:viewC prog b24=some v24:=by kernel_rfl
theorem r24_eq:f24.results.toList=[.tmp 4]:=by kernel_rfl
def v9c0:CV:=Jt [Jc 4 (.assign (.const (.bool false)))] (.ret)
def v9h1:CV:=Jt [Jg 9 24 2 0,Jf 10 22 9,Jj 11 10 22,Jg 12 24 3 0,Jf 13 22 12,Jj 14 13 22,Jc 15 (.binOp .neq 3 (Ja 11) (Ja 14) 3)] (.cond (Ja 15) v9c0 (.skip))
def v9l1h0:CV:=Jt [Jd 16 5,Jg 17 24 2 0,Jf 18 22 17,Jj 19 18 22,Jc 20 (.binOp .lss 3 (Ja 16) (Ja 19) 3)] (.cond (Ja 20) (.skip) (.exit 0))
def v9c2:CV:=Jt [Jc 4 (.assign (.const (.bool false)))] (.ret)
def v9k0h1:CV:=Jt [Jg 33 69 6 0,Jf 34 9 33,Jg 35 69 7 0,Jf 36 9 35,Jc 37 (.binOp .neq 9 (Ja 34) (Ja 36) 9),Jd 38 37,Jq 38 false 39 69 6 2,Jr 38 false 40 3 39,Jq 38 false 41 69 7 2,Jr 38 false 42 3 41,Js 38 false 43 (.binOp .neq 3 (Ja 40) (Ja 42) 3),Jc 44 (.pick (Ja 38) (.const (.bool true)) (Ja 43)),Jd 45 44,Jq 45 false 46 69 6 1,Jr 45 false 47 66 46,Js 45 false 48 (.call ⟨.builtin .len,#[(Ja 47)],#[66]⟩),Jq 45 false 49 69 7 1,Jr 45 false 50 66 49,Js 45 false 51 (.call ⟨.builtin .len,#[(Ja 50)],#[66]⟩),Js 45 false 52 (.binOp .neq 3 (Ja 48) (Ja 51) 3),Jc 53 (.pick (Ja 45) (.const (.bool true)) (Ja 52)),Jd 54 53,Jq 54 false 55 69 6 3,Jr 54 false 56 67 55,Jq 54 false 57 69 7 3,Jr 54 false 58 67 57,Js 54 false 59 (.call ⟨.value (.func 24),#[(Ja 56),(Ja 58)],#[67,67]⟩),Js 54 false 60 (.unOp .not 4 (Ja 59)),Jc 61 (.pick (Ja 54) (.const (.bool true)) (Ja 60))] (.cond (Ja 61) v9c2 (.skip))
def v9l3h0:CV:=Jt [Jd 62 8,Jg 63 69 6 1,Jf 64 66 63,Jj 65 64 66,Jc 66 (.binOp .lss 3 (Ja 62) (Ja 65) 3)] (.cond (Ja 66) (.skip) (.exit 2))
def v9c4:CV:=Jt [Jc 4 (.assign (.const (.bool false)))] (.ret)
def v9k1:CV:=Jt [Jg 69 69 6 1,Jf 70 66 69,Jd 71 8,Jk 72 66 70 71,Jf 73 82 72,Jg 74 69 7 1,Jf 75 66 74,Jd 76 8,Jk 77 66 75 76,Jf 78 82 77,Jc 79 (.binOp .neq 82 (Ja 73) (Ja 78) 82)] (.cond (Ja 79) v9c4 (.skip))
def v9l3t1:CV:=.seq (.block 3 v9k1) (.reg [Jd 67 8,Jc 68 (.binOp .add 3 (Ja 67) (Jb 1) 3),Jh 8 68])
def v9l3:CV:=.seq v9l3h0 v9l3t1
def v9k0t2:CV:=Jt [Ji 8 0] (.block 2 (.loop v9l3))
def v9k0t1:CV:=.seq v9k0h1 v9k0t2
def v9k0:CV:=Jt [Jg 23 24 2 0,Jf 24 22 23,Jd 25 5,Jk 26 22 24 25,Jf 27 69 26,Jg 28 24 3 0,Jf 29 22 28,Jd 30 5,Jk 31 22 29 30,Jf 32 69 31,Jc 6 (.alloc 69),Jc 7 (.alloc 69),.op none (.store 69 (Ja 6) (Ja 27)),.ck 29 (.load 22 (Ja 28)),.ck 32 (.load 69 (Ja 31)),.op none (.store 69 (Ja 7) (Ja 32))] v9k0t1
def v9l1t1:CV:=.seq (.block 1 v9k0) (.reg [Jd 21 5,Jc 22 (.binOp .add 3 (Ja 21) (Jb 1) 3),Jh 5 22])
def v9l1:CV:=.seq v9l1h0 v9l1t1
def v9h2:CV:=Jt [Ji 5 0] (.block 0 (.loop v9l1))
def v9t3:CV:=Jt [Jc 4 (.assign (.const (.bool true)))] (.ret)
def v9t2:CV:=.seq v9h2 v9t3
def v9t1:CV:=.seq v9h1 v9t2
def v9:CV:=Jt [Jc 2 (.box 24 (Ja 0)),Jc 3 (.box 24 (Ja 1)),Jc 4 (.assign (.const (.bool false)))] v9t1
noncomputable def b9:Code:=f9.body.getD .skip
theorem b9_eq:f9.body=some b9:=by kernel_rfl
theorem v9_eq:viewC prog b9=some v9:=by kernel_rfl
theorem r9_eq:f9.results.toList=[.tmp 4]:=by kernel_rfl
section
variable {tb:List FuncId}{gl:List (List AV)}{A B:Nat→Prop}{H:Heap}{u v w:AV}{b:Nat}{Q:AV→Heap→Prop}
def SamE (tb:List FuncId) (gl:List (List AV)) (k:Nat):Prop:=∀(A B:Nat→Prop) (x:Exp) (a c:List AV) (H:Heap) (Q:AV→Heap→Prop),szE x<k→IsE A H a x→IsE B H c x→(∀H',Keep Non H H'→Q (.bool true) H')→WpF prog tb gl 120 [.agg a,.agg c] H Q
theorem zpw {k:Nat}(ih:SamE tb gl k) {l:List Exp}(hk:szEs l≤k) (hll:l.length≤rB) (hL:IsLs A (IsE A) 4 H v l) (hM:IsLs B (IsE B) 4 H w l) (hQ:∀H',Keep Non H H'→Q (.bool true) H'):WpF prog tb gl 66 [v,w] H Q:=by
 have hrB:rB=140737488351232:=rfl;refine fa func66 b66_eq v66_eq r66_eq (.inr (by simp)) ?_;(repeat' first|(refine zad rfl ?_;first|(refine zaa ?_;first|refine zcv rfl rfl rfl UnF.h rfl hL ?_|refine zcv rfl rfl rfl UnF.h rfl hM ?_|refine zc9 rfl rfl (by omega) ?_)|refine zab ?_)|refine zag rfl ?_|refine zac ?_|refine zaj ?_|refine zau ?_|refine zam ?_);refine zbv (fun (i:Nat)=>[(0,v),(1,w),(5,.int .i64 (i:Int))]) (fun i H'=>Keep Non H H'∧i≤l.length) (fun i=>l.length-i) ?_ 0 _ H ⟨rfl,rfl,rfl,trivial⟩ ⟨.refl _ _,Nat.zero_le _⟩;rintro i H1 ⟨hk1,hle⟩;have hL1:=hL.keep hk1 fun _ _ _ h=>h.keep hk1;have hM1:=hM.keep hk1 fun _ _ _ h=>h.keep hk1;by_cases hi:i<l.length;rotate_left
 ·(repeat' first|(refine zad rfl ?_;first|(refine zaa ?_;first|refine zcv rfl rfl rfl UnF.h rfl hL1 ?_|refine zcr rfl rfl (by omega) ?_)|refine zab ?_)|refine zag rfl ?_|refine zac ?_|refine zaj ?_|refine zbq ?_|(refine zao ?_;refine zbr rfl ?_));exact hQ _ hk1
 obtain ⟨x,hx⟩:∃x,l[i]? = some x:=⟨_,Qa hi⟩
 have hsx:=zha (Qe hx);refine zaj (zac ?_);refine zad rfl ?_;refine zaa (zcv rfl rfl rfl UnF.h rfl hL1 ?_);refine zaa (zb8 rfl rfl (by omega) ?_);refine zab (zai rfl (zam (zaj (zau (zac ?_)))));refine zad rfl ?_;refine zaa (zdv UnF.h SzF.h rfl hL1 rfl rfl hx fun p c hR hcl hpt=>?_);refine zaa (zat (k:=4) PlF.h hcl (by decide) rfl hpt ?_);refine zad rfl ?_;refine zaa (zdv UnF.h SzF.h rfl hM1 rfl rfl hx fun p c2 hR2 hcl2 hpt2=>?_);refine zaa (zat (k:=4) PlF.h hcl2 (by decide) rfl hpt2 ?_);refine zaa (zaf rfl rfl rfl (ih A B x c c2 H1 _ (by omega) hR hR2 fun H2 hk2=>?_));(repeat' first|(refine zad rfl ?_;(refine zab ?_))|refine zag rfl ?_|refine za1 ?_|refine zam ?_);refine zad rfl ?_;refine zaa (zaz (c:=((i+1:Nat):Int)) rfl rfl Ju ?_);refine zad rfl ?_;refine zab ⟨i+1,?_,⟨rfl,rfl,rfl,trivial⟩,hk1.trans0 hk2,by omega⟩;show l.length-(i+1)<l.length-i;omega
theorem ztg:∀k:Nat,SamE tb gl k
 |0=>fun _ _ _ _ _ _ _ h=>by omega
 |k+1=>fun A B x a c H Q hk hX hY hQ=>by
  have hrB:rB=140737488351232:=rfl;obtain ⟨v,rfl,_,_,_,hl,hL⟩:=hX.out;obtain ⟨w,rfl,_,_,_,_,hM⟩:=hY.out;have hsz:szE x=szEs x.l+1:=by cases x;simp only [szE];rfl
  refine fa func120 b120_eq v120_eq r120_eq (.inr (by simp)) ?_;refine zac ?_;refine zad rfl ?_;refine zaa (zcy rfl fun H1 hk1 hr1=>?_);refine zaa (zcy rfl fun H2 hk2 hr2=>?_);(repeat' first|(refine zad rfl ?_;first|refine zbh rfl ?_|((first|refine zaa ?_|refine zav rfl ?_);first|refine zaq rfl rfl rfl ?_|refine za0 rfl rfl ?_|refine zae FpF.h (by decide) rfl ?_|refine zah PlF.h rfl (hr1.keep0 hk2) rfl ?_|refine zah PlF.h rfl hr2 rfl ?_|refine zaf rfl rfl rfl (zpw (ztg k) (by omega) hl ((hL.keep (hk1.trans0 hk2) fun _ _ _ h=>h.keep (hk1.trans0 hk2))) ((hM.keep (hk1.trans0 hk2) fun _ _ _ h=>h.keep (hk1.trans0 hk2))) fun H3 hk3=>?_)|refine zc9 rfl rfl (by omega) ?_|refine zij rfl rfl (fun hc=>?_) (fun hc=>?_))|refine zab ?_)|refine zai rfl ?_|refine zag rfl ?_|refine zac ?_|refine zaj ?_|refine zam ?_|(refine zao ?_;refine zbr rfl ?_))
  all_goals first|exact absurd rfl (by assumption)|exact hQ _ ((hk1.trans0 hk2).trans0 hk3)
theorem zlr:∀(k:Nat) {l:List Stm}{v w:AV}{H:Heap}{Q:AV→Heap→Prop},szSs l<k→l.length≤rB→IsLs A (IsS A) 7 H v l→IsLs B (IsS B) 7 H w l→(∀H',Keep Non H H'→Q (.bool true) H')→WpF prog tb gl 24 [v,w] H Q
 |0,_,_,_,_,_,h,_,_,_,_=>by omega
 |k+1,l,v,w,H,Q,hk,hll,hL,hM,hQ=>by
  have hrB:rB=140737488351232:=rfl;refine fa func24 b24_eq v24_eq r24_eq (.inr (by simp)) ?_;(repeat' first|(refine zad rfl ?_;first|(refine zaa ?_;first|refine zcv rfl rfl rfl UnF.h rfl hL ?_|refine zcv rfl rfl rfl UnF.h rfl hM ?_|refine zc9 rfl rfl (by omega) ?_)|refine zab ?_)|refine zag rfl ?_|refine zac ?_|refine zaj ?_|refine zau ?_|refine zam ?_);refine zbv (fun (i:Nat)=>[(0,v),(1,w),(5,.int .i64 (i:Int))]) (fun i H'=>Keep Non H H'∧i≤l.length) (fun i=>l.length-i) ?_ 0 _ H ⟨rfl,rfl,rfl,trivial⟩ ⟨.refl _ _,Nat.zero_le _⟩;rintro i H1 ⟨hk1,hle⟩;have hL1:=hL.keep hk1 fun _ _ _ h=>h.keep hk1;have hM1:=hM.keep hk1 fun _ _ _ h=>h.keep hk1;by_cases hi:i<l.length;rotate_left
  ·(repeat' first|(refine zad rfl ?_;first|(refine zaa ?_;first|refine zcv rfl rfl rfl UnF.h rfl hL1 ?_|refine zcr rfl rfl (by omega) ?_)|refine zab ?_)|refine zag rfl ?_|refine zac ?_|refine zaj ?_|refine zbq ?_|(refine zao ?_;refine zbr rfl ?_));exact hQ _ hk1
  obtain ⟨x,hx⟩:∃x,l[i]? = some x:=⟨_,Qa hi⟩
  have hsx:=zhb (Qe hx);have hszx:szS x=szSs x.body+szSs x.els+1:=by cases x;simp only [szS];rfl
  refine zaj (zac ?_);refine zad rfl ?_;refine zaa (zcv rfl rfl rfl UnF.h rfl hL1 ?_);refine zaa (zb8 rfl rfl (by omega) ?_);refine zab (zai rfl (zam (zaj (zau (zac ?_)))));refine zad rfl ?_;refine zaa (zdv UnF.h SzF.h rfl hL1 rfl rfl hx fun p c hR hcl hpt=>?_);refine zaa (zat (k:=7) PlF.h hcl (by decide) rfl hpt ?_);refine zad rfl ?_;refine zaa (zdv UnF.h SzF.h rfl hM1 rfl rfl hx fun p2 c2 hR2 hcl2 hpt2=>?_);refine zaa (zat (k:=7) PlF.h hcl2 (by decide) rfl hpt2 ?_);obtain ⟨v1,v2,v3,rfl,_,_,_,_,hle,hlb,hlf,hLe,hLb,hLf⟩:=hR.out;obtain ⟨w1,w2,w3,rfl,_,_,_,_,_,_,_,hMe,hMb,hMf⟩:=hR2.out;have hsc:=zg0 hR;have hsc2:=zg0 hR2;obtain ⟨bx,hbx⟩:∃b,b=H1.nx:=⟨_,rfl⟩
  refine zaa (za8 ZeF.h fun H2 hk2 hr2=>?_);rw [←hbx] at hr2 ⊢;obtain ⟨bz,hbz⟩:∃b,b=H2.nx:=⟨_,rfl⟩
  refine zaa (za8 ZeF.h fun H3 hk3 hr3=>?_);rw [←hbz] at hr3 ⊢;refine zaa (zan (k:=7) SzF.h rfl rfl rfl hsc (hr2.keep0 hk3) rfl fun H4 hk4 hn4 hr4=>?_);have h12:=hk2.nx;have hlt2:=hr2.1;have k13:Keep Non H1 H3:=hk2.trans0 hk3;have k14:Keep Non H1 H4:=(k13.trans hk4 fun c hc=>.inr (by rw [hc,hbx];exact Jz _)).wide fun _ h=>h;refine zwi PlF.h hcl2 (by decide) rfl (hpt2.keep k14 fun _=>id) rfl ?_;refine zaa (zan (k:=7) SzF.h rfl rfl rfl hsc2 (hr3.keep hk4 (.inl (by show ¬bz=bx;omega))) rfl fun H5 hk5 hn5 hr5=>?_);have k15:Keep Non H1 H5:=(k14.trans hk5 fun c hc=>.inr (by rw [hc,hbz];exact h12)).wide fun _ h=>h;have hr6:=hr4.keep hk5 (.inl (by show ¬bx=bz;omega));have hLe5:=hLe.keep k15 fun _ _ _ h=>h.keep k15;have hMe5:=hMe.keep k15 fun _ _ _ h=>h.keep k15;(repeat' first|(refine zad rfl ?_;first|refine zbh rfl ?_|((first|refine zaa ?_|refine zav rfl ?_);first|refine zaq rfl rfl rfl ?_|refine za0 rfl rfl ?_|refine zfh rfl ?_|refine zae FpF.h (by decide) rfl ?_|refine zah PlF.h rfl hr6 rfl ?_|refine zah PlF.h rfl hr5 rfl ?_|refine zah PlF.h rfl (hr6.keep0 k6) rfl ?_|refine zah PlF.h rfl (hr5.keep0 k6) rfl ?_|refine zah PlF.h rfl (hr6.keep0 k7) rfl ?_|refine zah PlF.h rfl (hr5.keep0 k7) rfl ?_|refine zaf rfl rfl rfl (zpw (k:=szEs x.e) (ztg _) (Jz _) hle hLe5 hMe5 fun H6 k6=>?_)|refine zaf rfl rfl rfl (zlr k (by omega) hlb (hLb.keep (k15.trans0 k6) fun _ _ _ h=>h.keep (k15.trans0 k6)) (hMb.keep (k15.trans0 k6) fun _ _ _ h=>h.keep (k15.trans0 k6)) fun H7 k07=>(have k7:=k6.trans0 k07;?_))|refine zaf rfl rfl rfl (zlr k (by omega) hlf (hLf.keep (k15.trans0 k7) fun _ _ _ h=>h.keep (k15.trans0 k7)) (hMf.keep (k15.trans0 k7) fun _ _ _ h=>h.keep (k15.trans0 k7)) fun H8 k8=>?_)|refine zc9 rfl rfl (by omega) ?_|refine zij rfl rfl (fun hc=>?_) (fun hc=>?_))|refine zab ?_)|refine zai rfl ?_|refine zag rfl ?_|refine zac ?_|refine za1 ?_|refine zam ?_|(refine zao ?_;refine zbr rfl ?_))
  all_goals first|exact absurd rfl (by assumption)|skip
  refine zad rfl ?_;refine zaa (zaz (c:=((i+1:Nat):Int)) rfl rfl Ju ?_);refine zad rfl ?_;refine zab ⟨i+1,?_,⟨rfl,rfl,rfl,trivial⟩,((hk1.trans0 k15).trans0 k7).trans0 k8,by omega⟩;show l.length-(i+1)<l.length-i;omega
theorem ff_prm:flatF prog 82=some [.string,.int .i64]:=by kernel_rfl
theorem eg_prm:prog.eqGuardType prog.depth 82=false:=by kernel_rfl
theorem zuw (n x:Nat):strEq n x n x=true:=by simp [strEq]
theorem prm_eq (n:List UInt8) (t:Int):flatEq [.string,.int .i64] [S n,.int .i64 t] [S n,.int .i64 t]=some true:=by
 have:=ztz (k:=.i64) (a:=t) (b:=t) (ds:=[]) (us:=[]) (vs:=[]) rfl;simp only [flatEq,S,zuw] at this ⊢;rw [this];simp
theorem Same_ok {p:List Prc}(hp:IsPg A H v p) (hq:IsPg B H w p) (hQ:∀H',Keep Non H H'→Q (.bool true) H'):WpF prog tb gl 9 [v,w] H Q:=by
 have hrB:rB=140737488351232:=rfl;obtain ⟨hpl,u,rfl,hL⟩:=hp;obtain ⟨_,z,rfl,hM⟩:=hq;refine fa func9 b9_eq v9_eq r9_eq (.inr (by simp)) ?_;refine zac ?_;refine zad rfl ?_;refine zaa (zcy rfl fun H1 hk1 hr1=>?_);refine zaa (zcy rfl fun H2 hk2 hr2=>?_);have k02:=hk1.trans0 hk2;have hL2:=hL.keep k02 fun _ _ _ h=>h.keep k02;have hM2:=hM.keep k02 fun _ _ _ h=>h.keep k02;have hr12:=hr1.keep0 hk2;obtain ⟨bp,hbp⟩:∃b,b=H.nx:=⟨_,rfl⟩
 obtain ⟨bq,hbq⟩:∃b,b=H1.nx:=⟨_,rfl⟩
 rw [←hbp] at hr12 ⊢;rw [←hbq] at hr2 ⊢;(repeat' first|(refine zad rfl ?_;first|(refine zaa ?_;first|refine zae FpF.h (by decide) rfl ?_|refine zah PlF.h rfl hr12 rfl ?_|refine zah PlF.h rfl hr2 rfl ?_|refine zcv rfl rfl rfl UnF.h rfl hL2 ?_|refine zcv rfl rfl rfl UnF.h rfl hM2 ?_|refine zc9 rfl rfl (by omega) ?_)|refine zab ?_)|refine zag rfl ?_|refine zac ?_|refine zaj ?_|refine zau ?_|refine zam ?_);refine zbv (fun (i:Nat)=>[(2,.ptr bp 0),(3,.ptr bq 0),(5,.int .i64 (i:Int))]) (fun i H'=>Keep Non H2 H'∧i≤p.length) (fun i=>p.length-i) ?_ 0 _ H2 ⟨rfl,rfl,rfl,trivial⟩ ⟨.refl _ _,Nat.zero_le _⟩;rintro i H3 ⟨hk3,hle⟩;have hL3:=hL2.keep hk3 fun _ _ _ h=>h.keep hk3;have hM3:=hM2.keep hk3 fun _ _ _ h=>h.keep hk3;have hr13:=hr12.keep0 hk3;have hr23:=hr2.keep0 hk3;by_cases hi:i<p.length;rotate_left
 ·(repeat' first|(refine zad rfl ?_;first|(refine zaa ?_;first|refine zae FpF.h (by decide) rfl ?_|refine zah PlF.h rfl hr13 rfl ?_|refine zcv rfl rfl rfl UnF.h rfl hL3 ?_|refine zcr rfl rfl (by omega) ?_)|refine zab ?_)|refine zag rfl ?_|refine zac ?_|refine zaj ?_|refine zbq ?_|(refine zao ?_;refine zbr rfl ?_));exact hQ _ (k02.trans0 hk3)
 obtain ⟨x,hx⟩:∃x,p[i]? = some x:=⟨_,Qa hi⟩
 refine zaj ?_;(repeat' first|(refine zad rfl ?_;first|(refine zaa ?_;first|refine zae FpF.h (by decide) rfl ?_|refine zah PlF.h rfl hr13 rfl ?_|refine zcv rfl rfl rfl UnF.h rfl hL3 ?_|refine zb8 rfl rfl (by omega) ?_)|refine zab ?_)|refine zai rfl ?_|refine zac ?_|refine zaj ?_|refine zau ?_|refine zam ?_);refine zad rfl ?_;refine zaa (zdv UnF.h SzF.h rfl hL3 rfl rfl hx fun p1 c1 hR1 hcl1 hpt1=>?_);refine zaa (zat (k:=4) PlF.h hcl1 (by decide) rfl hpt1 ?_);refine zad rfl ?_;(repeat ((refine zaa ?_;first|refine zae FpF.h (by decide) rfl ?_|refine zah PlF.h rfl hr23 rfl ?_);refine zad rfl ?_));refine zaa (zdv UnF.h SzF.h rfl hM3 rfl rfl hx fun p2 c2 hR2 hcl2 hpt2=>?_);refine zaa (zat (k:=4) PlF.h hcl2 (by decide) rfl hpt2 ?_);have hsc:=zgg hR1;have hsc2:=zgg hR2;obtain ⟨v1,v2,rfl,hnl,hty,hpl1,hbl1,hL1,hB1⟩:=hR1;obtain ⟨w1,w2,rfl,_,_,_,_,hM1,hB2⟩:=hR2;obtain ⟨bx,hbx⟩:∃b,b=H3.nx:=⟨_,rfl⟩
 refine zaa (za8 ZeF.h fun H4 hk4 hr4=>?_);rw [←hbx] at hr4 ⊢;obtain ⟨bz,hbz⟩:∃b,b=H4.nx:=⟨_,rfl⟩
 refine zaa (za8 ZeF.h fun H5 hk5 hr5=>?_);rw [←hbz] at hr5 ⊢;refine zaa (zan (k:=4) SzF.h rfl rfl rfl hsc (hr4.keep0 hk5) rfl fun H6 hk6 hn6 hr6=>?_);have h34:=hk4.nx;have hlt4:=hr4.1;have k35:Keep Non H3 H5:=hk4.trans0 hk5;have k36:Keep Non H3 H6:=(k35.trans hk6 fun c hc=>.inr (by rw [hc,hbx];exact Jz _)).wide fun _ h=>h;refine zo3 PlF.h rfl (hr23.keep0 k36) rfl rfl ?_;refine zwi PlF.h hcl2 (by decide) rfl (hpt2.keep k36 fun _=>id) rfl ?_;refine zaa (zan (k:=4) SzF.h rfl rfl rfl hsc2 (hr5.keep hk6 (.inl (by show ¬bz=bx;omega))) rfl fun H7 hk7 hn7 hr7=>?_);have k37:Keep Non H3 H7:=(k36.trans hk7 fun c hc=>.inr (by rw [hc,hbz];exact h34)).wide fun _ h=>h;have hr8:=hr6.keep hk7 (.inl (by show ¬bx=bz;omega));have hL7:=hL1.keep k37 fun _ _ _ h=>h;have hM7:=hM1.keep k37 fun _ _ _ h=>h;refine zab ?_;(repeat' first|(refine zad rfl ?_;first|refine zbh rfl ?_|((first|refine zaa ?_|refine zav rfl ?_);first|refine zaq rfl rfl rfl ?_|refine za0 rfl rfl ?_|refine zfh rfl ?_|refine zae FpF.h (by decide) rfl ?_|refine zah PlF.h rfl hr8 rfl ?_|refine zah PlF.h rfl hr7 rfl ?_|refine zcv rfl rfl rfl UnF.h rfl hL7 ?_|refine zcv rfl rfl rfl UnF.h rfl hM7 ?_|refine zaf rfl rfl rfl (zlr (szSs x.body+1) (by omega) hbl1 (hB1.keep k37 fun _ _ _ h=>h.keep k37) (hB2.keep k37 fun _ _ _ h=>h.keep k37) fun H8 k8=>?_)|refine zc9 rfl rfl (by omega) ?_|refine zij rfl rfl (fun hc=>?_) (fun hc=>?_))|refine zab ?_)|refine zai rfl ?_|refine zag rfl ?_|refine zac ?_|refine zaj ?_|refine zau ?_|refine zam ?_|(refine zao ?_;refine zbr rfl ?_))
 all_goals first|exact absurd rfl (by assumption)|skip
 have hr88:=hr8.keep0 k8;have hr78:=hr7.keep0 k8;have k38:Keep Non H3 H8:=k37.trans0 k8;have hL8:=hL1.keep k38 fun _ _ _ h=>h;have hM8:=hM1.keep k38 fun _ _ _ h=>h;refine zbv (fun (j:Nat)=>[(2,.ptr bp 0),(3,.ptr bq 0),(5,.int .i64 (i:Int)),(6,.ptr bx 0),(7,.ptr bz 0),(8,.int .i64 (j:Int))]) (fun j H'=>H'=H8∧j≤x.params.length) (fun j=>x.params.length-j) ?_ 0 _ H8 ⟨rfl,rfl,rfl,rfl,rfl,rfl,trivial⟩ ⟨rfl,Nat.zero_le _⟩;rintro j H9 ⟨rfl,hjle⟩;by_cases hj:j<x.params.length;rotate_left
 ·(repeat' first|(refine zad rfl ?_;first|(refine zaa ?_;first|refine zae FpF.h (by decide) rfl ?_|refine zah PlF.h rfl hr88 rfl ?_|refine zcv rfl rfl rfl UnF.h rfl hL8 ?_|refine zcr rfl rfl (by omega) ?_)|refine zab ?_)|refine zag rfl ?_|refine zac ?_|refine zaj ?_|refine za1 ?_|refine zbq ?_);refine zad rfl ?_;refine zaa (zaz (c:=((i+1:Nat):Int)) rfl rfl Ju ?_);refine zad rfl ?_;refine zab ⟨i+1,?_,⟨rfl,rfl,rfl,trivial⟩,hk3.trans0 k38,by omega⟩;show p.length-(i+1)<p.length-i;omega
 obtain ⟨y,hy⟩:∃y,x.params[j]? = some y:=⟨_,Qa hj⟩
 refine zaj ?_;(repeat' first|(refine zad rfl ?_;first|(refine zaa ?_;first|refine zae FpF.h (by decide) rfl ?_|refine zah PlF.h rfl hr88 rfl ?_|refine zcv rfl rfl rfl UnF.h rfl hL8 ?_|refine zb8 rfl rfl (by omega) ?_)|refine zab ?_)|refine zai rfl ?_|refine zac ?_|refine zaj ?_|refine zau ?_|refine zam ?_);refine zad rfl ?_;(repeat (((refine zaa (zar rfl ?_)));refine zad rfl ?_));refine zaa (zdv UnF.h SzF.h rfl hL8 rfl rfl hy fun p3 c3 hR3 hcl3 hpt3=>?_);obtain ⟨rfl,_,_⟩:=hR3;refine zaa (zat (k:=2) PlF.h rfl (by decide) rfl hpt3 ?_);refine zad rfl ?_;(repeat ((refine zaa ?_;first|refine zae FpF.h (by decide) rfl ?_|refine zah PlF.h rfl hr78 rfl ?_);refine zad rfl ?_));refine zaa (zdv UnF.h SzF.h rfl hM8 rfl rfl hy fun p4 c4 hR4 hcl4 hpt4=>?_);obtain ⟨rfl,_,_⟩:=hR4;refine zaa (zat (k:=2) PlF.h rfl (by decide) rfl hpt4 ?_);refine zaa (oa_aneq ff_prm eg_prm rfl rfl (prm_eq _ _) ?_);(repeat' first|(refine zad rfl ?_;(refine zab ?_))|refine zag rfl ?_|refine za1 ?_|refine zam ?_);refine zad rfl ?_;refine zaa (zaz (c:=((j+1:Nat):Int)) rfl rfl Ju ?_);refine zad rfl ?_;refine zab ⟨j+1,?_,⟨rfl,rfl,rfl,rfl,rfl,rfl,trivial⟩,rfl,by omega⟩;show x.params.length-(j+1)<x.params.length-j;omega
end
end Go.Proofs.YtniflgldgnmiaaaGreatDoor
