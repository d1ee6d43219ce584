/-
  The document's parser of statements and blocks (parallaxref03.In: stmt, block), walked along right statements' words. Conditions: the words stand at hand.
-/
import Derived.Test.YtniflgldgnmiaaaGreatDoorPrs5
namespace Go.Proofs.YtniflgldgnmiaaaGreatDoor
open Go Eng Tryz
instance isz_67:SzF prog 67 1:=⟨by kernel_rfl⟩
def v165l0h0:CV:=Jt [Jd 14 7,Jd 15 6,Jj 16 15 40,Jc 17 (.binOp .lss 3 (Ja 14) (Ja 16) 3)] (.cond (Ja 17) (.skip) (.exit 0))
def v165l0t1:CV:=.seq (.block 1 (.reg [Jd 20 5,Jd 21 20,Jp 21 false 22 0,Jp 21 false 23 6,Jp 21 false 24 7,Js 21 false 25 (.indexAddr 40 (Ja 23) (Ja 24)),Jr 21 false 26 9 25,Js 21 false 27 (.call ⟨.value (.func 164),#[(Ja 22),(Ja 26)],#[157,9]⟩),Jc 28 (.pick (Ja 21) (.const (.bool true)) (Ja 27)),Jh 5 28])) (.reg [Jd 18 7,Jc 19 (.binOp .add 3 (Ja 18) (Jb 1) 3),Jh 7 19])
def v165l0:CV:=.seq v165l0h0 v165l0t1
def v165h3:CV:=Jt [Ji 7 0] (.block 0 (.loop v165l0))
def v165c1h2:CV:=Jt [Jd 45 0,Jc 46 (.call ⟨.value (.func 116),#[(Ja 45),(.const (.string ⟨⟨[101,108,115,101]⟩⟩))],#[157,9]⟩)] (.cond (Ja 46) (.reg [Jd 47 0,Jd 48 1,Jc 49 (.binOp .add 3 (Ja 48) (Jb 1) 3),Jo 50 119 47 49 157 3,Jg 51 148 8 6,.op none (.store 67 (Ja 51) (Ja 50))]) (.skip))
def v165c1t3:CV:=Jt [Jf 52 148 8,.op none (.store 148 (Ja 4) (Ja 52))] (.ret)
def v165c1t2:CV:=.seq v165c1h2 v165c1t3
def v165c1t1:CV:=Jt [Jd 40 0,Jd 41 1,Jc 42 (.binOp .add 3 (Ja 41) (Jb 1) 3),Jo 43 119 40 42 157 3,Jg 44 148 8 5,.op none (.store 67 (Ja 44) (Ja 43))] v165c1t2
def v165c1:CV:=Jt [Jd 35 0,Jd 36 1,Jc 37 (.binOp .add 3 (Ja 36) (Jb 1) 3),Jo 38 217 35 37 157 3,Jc 39 (.build 148 #[(0,(Jb 4)),(4,(Ja 38))]),Jc 8 (.alloc 148),.op none (.store 148 (Ja 8) (Ja 39))] v165c1t1
def v165h5:CV:=Jt [Jd 33 0,Jc 34 (.call ⟨.value (.func 116),#[(Ja 33),(.const (.string ⟨⟨[105,102]⟩⟩))],#[157,9]⟩)] (.cond (Ja 34) v165c1 (.skip))
def v165c2t2:CV:=Jt [Jf 65 148 9,.op none (.store 148 (Ja 4) (Ja 65))] (.ret)
def v165c2t1:CV:=Jt [Jd 60 0,Jd 61 1,Jc 62 (.binOp .add 3 (Ja 61) (Jb 1) 3),Jo 63 119 60 62 157 3,Jg 64 148 9 5,.op none (.store 67 (Ja 64) (Ja 63))] v165c2t2
def v165c2:CV:=Jt [Jd 55 0,Jd 56 1,Jc 57 (.binOp .add 3 (Ja 56) (Jb 1) 3),Jo 58 217 55 57 157 3,Jc 59 (.build 148 #[(0,(Jb 5)),(4,(Ja 58))]),Jc 9 (.alloc 148),.op none (.store 148 (Ja 9) (Ja 59))] v165c2t1
def v165h6:CV:=Jt [Jd 53 0,Jc 54 (.call ⟨.value (.func 116),#[(Ja 53),(.const (.string ⟨⟨[119,104,105,108,101]⟩⟩))],#[157,9]⟩)] (.cond (Ja 54) v165c2 (.skip))
def v165t9:CV:=Jt [Jf 72 148 10,.op none (.store 148 (Ja 4) (Ja 72))] (.ret)
def v165t8:CV:=Jt [Jd 70 0,Jc 71 (.call ⟨.value (.func 114),#[(Ja 70),(.const (.string ⟨⟨[59]⟩⟩))],#[157,9]⟩)] v165t9
def v165t7:CV:=Jt [Jd 66 0,Jd 67 1,Jc 68 (.binOp .add 3 (Ja 67) (Jb 1) 3),Jo 69 218 66 68 157 3,Jc 10 (.alloc 148),.op none (.store 148 (Ja 10) (Ja 69))] v165t8
def v165t6:CV:=.seq v165h6 v165t7
def v165t5:CV:=.seq v165h5 v165t6
def v165t4:CV:=Jt [Jd 29 0,Jd 30 5,Jd 31 1,Jc 32 (.call ⟨.value (.func 216),#[(Ja 29),(Ja 30),(Ja 31)],#[157,4,3]⟩)] v165t5
def v165t3:CV:=.seq v165h3 v165t4
def v165t2:CV:=Jt [Jc 13 (.buildSlice 40 7 #[(0,(.const (.string ⟨⟨[118,97,114]⟩⟩))),(1,(.const (.string ⟨⟨[105,102]⟩⟩))),(2,(.const (.string ⟨⟨[119,104,105,108,101]⟩⟩))),(3,(.const (.string ⟨⟨[114,101,116,117,114,110]⟩⟩))),(4,(.const (.string ⟨⟨[112,114,105,110,116]⟩⟩))),(5,(.const (.string ⟨⟨[114,101,97,100]⟩⟩))),(6,(.const (.string ⟨⟨[97,115,115,101,114,116]⟩⟩)))]),Jh 6 13] v165t3
def v165t1:CV:=Jt [Jd 11 0,Jc 12 (.call ⟨.value (.func 64),#[(Ja 11),(Jb 1)],#[157,3]⟩),Jh 5 12] v165t2
def v165:CV:=Jt [Jc 4 (.alloc 148)] v165t1
noncomputable def b165:Code:=f165.body.getD .skip
theorem b165_eq:f165.body=some b165:=by kernel_rfl
theorem v165_eq:viewC prog b165=some v165:=by kernel_rfl
theorem r165_eq:f165.results.toList=[.cell 4 148]:=by kernel_rfl
def v119l0h0:CV:=Jt [Jd 9 0,Jm 10 9,Jg 11 159 10 2,Jf 12 28 11,Jc 13 (.binOp .eql 28 (Ja 12) (Jb 0) 28),Jd 14 13,Jp 14 true 15 0,Js 14 true 16 (.call ⟨.value (.func 116),#[(Ja 15),(.const (.string ⟨⟨[125]⟩⟩))],#[157,9]⟩),Js 14 true 17 (.unOp .not 4 (Ja 16)),Jc 18 (.pick (Ja 14) (Ja 17) (.const (.bool false)))] (.cond (Ja 18) (.skip) (.exit 0))
def v119k0:CV:=Jt [Jd 19 0,Jd 20 1,Jo 21 165 19 20 157 3,Jc 6 (.alloc 148),.op none (.store 148 (Ja 6) (Ja 21))] (.reg [Jd 22 5,Jf 23 148 6,Jc 24 (.buildSlice 67 1 #[(0,(Ja 23))]),Jc 25 (.call ⟨.builtin .append,#[(Ja 22),(Ja 24)],#[67,67]⟩),Jh 5 25])
def v119l0:CV:=.seq v119l0h0 (.block 1 v119k0)
def v119t4:CV:=Jt [Jd 26 5,Jh 4 26] (.ret)
def v119t3:CV:=.seq (.block 0 (.loop v119l0)) v119t4
def v119t2:CV:=Jt [Jd 7 0,Jc 8 (.call ⟨.value (.func 114),#[(Ja 7),(.const (.string ⟨⟨[123]⟩⟩))],#[157,9]⟩)] v119t3
def v119t1:CV:=Jt [Jc 5 (.assign (.const (.slice none 0 0)))] v119t2
def v119:CV:=Jt [Jc 4 (.assign (.const (.slice none 0 0)))] v119t1
noncomputable def b119:Code:=f119.body.getD .skip
theorem b119_eq:f119.body=some b119:=by kernel_rfl
theorem v119_eq:viewC prog b119=some v119:=by kernel_rfl
theorem r119_eq:f119.results.toList=[.tmp 4]:=by kernel_rfl
def kwl:List (List UInt8):=[[118,97,114],[105,102],[119,104,105,108,101],[114,101,116,117,114,110],[112,114,105,110,116],[114,101,97,100],[97,115,115,101,114,116]]
def bgB (t:Tok) (i:Nat):Bool:=decide (t.kind=1)||(kwl.take i).any (isB t)
theorem bgB_all (t:Tok):bgB t 7=begB t:=by simp [bgB,begB,kwl]
theorem bgB_next {t:Tok}{i:Nat}{s:List UInt8}(h:kwl[i]? = some s):bgB t (i+1)=(bgB t i||isB t s):=by
 unfold bgB;rw [zbs h,List.any_append,Bool.or_assoc];simp
theorem zyc {x:Stm}(h:RS x):∃w vs,wdS x=w::vs∧(¬x.kind=4→isB (tokW w) [105,102]=false)∧(¬x.kind=5→isB (tokW w) [119,104,105,108,101]=false):=by
 have hn:∀{n:List UInt8},nameB n=true→∀s,isB (tokW n) s=false:=fun h s=>zgf (.inl (by rw [zci h])) s;cases h with
 |vbool h=>exact ⟨_,_,zgx _,fun _=>zbk rfl (by decide) _,fun _=>zbk rfl (by decide) _⟩
 |vint h=>exact ⟨_,_,zi3 _,fun _=>zbk rfl (by decide) _,fun _=>zbk rfl (by decide) _⟩
 |varr h h0 hm=>exact ⟨_,_,zi2 _ h0,fun _=>zbk rfl (by decide) _,fun _=>zbk rfl (by decide) _⟩
 |set h hx=>exact ⟨_,_,zmc _ _,fun _=>hn h _,fun _=>hn h _⟩
 |put h hi hx=>exact ⟨_,_,zmb _ _ _,fun _=>hn h _,fun _=>hn h _⟩
 |ite hx hb hf=>exact ⟨_,_,zl9 _ _ _,fun h=>absurd rfl h,fun _=>zbk rfl (by decide) _⟩
 |loop hx hb=>exact ⟨_,_,ziy _ _,fun _=>zbk rfl (by decide) _,fun h=>absurd rfl h⟩
 |call h hp hl=>
  rcases h with rfl|h
  ·exact ⟨_,_,zix _ _,fun _=>hn hp _,fun _=>hn hp _⟩
  ·exact ⟨_,_,zgw h _ _,fun _=>hn h _,fun _=>hn h _⟩
 |ret0=>exact ⟨_,_,zi0,fun _=>zbk rfl (by decide) _,fun _=>zbk rfl (by decide) _⟩
 |ret1 hx=>exact ⟨_,_,zi1 _,fun _=>zbk rfl (by decide) _,fun _=>zbk rfl (by decide) _⟩
 |prt hx=>exact ⟨_,_,zma _,fun _=>zbk rfl (by decide) _,fun _=>zbk rfl (by decide) _⟩
 |read h=>exact ⟨_,_,ziz _,fun _=>zbk rfl (by decide) _,fun _=>zbk rfl (by decide) _⟩
 |asrt hx=>exact ⟨_,_,ziw _,fun _=>zbk rfl (by decide) _,fun _=>zbk rfl (by decide) _⟩
theorem zv3 (x:Stm) (d:Nat):d≤dpS x d∧dpEs (d+1) x.e≤dpS x d∧dpSs x.body (d+1)≤dpS x d∧dpSs x.els (d+1)≤dpS x d:=by
 cases x;simp only [dpS,Stm.e,Stm.body,Stm.els];omega
theorem zzk {x:Stm}(h:RS x):0<(wdS x).length:=by
 obtain ⟨w,vs,e,_⟩:=zin h;rw [e];simp
section
variable {gl:List (List AV)}{H H' H'':Heap}{u v w:AV}{b k n0 d:Nat}{l:List (Tok×Int)}{Q:AV→Heap→Prop}
def StmtAt (gl:List (List AV)) (b:Nat) (u:AV) (l:List (Tok×Int)) (x:Stm):Prop:=∀(n0 k d:Nat) (H:Heap) (Q:AV→Heap→Prop),b<n0→PI H b u l k→n0≤H.nx→Seg l k (wdS x)→(∃y,l[k+(wdS x).length]? = some y∧isB y.1 [101,108,115,101]=false)→dpS x d≤60→
 (∀c H',Keep (· = b) H H'→PI H' b u l (k+(wdS x).length)→IsS (Frs n0) H' c x→Q (.agg c) H')→WpF prog [5] gl 165 [.ptr b 0,.int .i64 (d:Int)] H Q
set_option maxHeartbeats 0 in
theorem zjo (h:PI H b u l k) {x:Tok×Int}(hx:l[k]? = some x) (hbeg:begB x.1=true) (hd:d≤60)
  (q:∀b4 H1 l',Keep Non H H1→b4=H.nx→b4<H1.nx→PI H1 b u l k→IsRow H1 b4 [.int .i64 0,.str 0 0,.str 0 0,.int .i64 0,.nils,.nils,.nils] false false→Sb [(0,.ptr b 0),(1,.int .i64 (d:Int)),(4,.ptr b4 0)] l'→
   VA prog [5] gl v165t5 l' H1 (leftC prog [.cell 4 148] Q)):
  WpF prog [5] gl 165 [.ptr b 0,.int .i64 (d:Int)] H Q:=by
 refine faC func165 b165_eq v165_eq r165_eq (.inr (by simp)) ?_;refine zac ?_;obtain ⟨b4,hb4⟩:∃b,b=H.nx:=⟨_,rfl⟩
 refine zaa (za8 ZeF.h fun H1 k1 r4=>?_);rw [←hb4] at r4 ⊢;have h1:=h.keep0 k1;(repeat' first|(refine zad rfl ?_;first|(refine zaa ?_;(refine zaf rfl rfl rfl (zek h1 hx 1 ?_)))|refine zab ?_)|refine zac ?_);refine zaa (zap (n:=7) ElF.h (by decide) rfl rfl fun H2 k2 r2=>?_);have hsl:IsSl H2 (.sl H1.nx 0 7 7) 1 kwl.length (kwl.flatMap txC):=IsRow.sl (es:=1) (n:=7) r2 rfl (Jz _);generalize AV.sl H1.nx 0 7 7=w at hsl ⊢;(repeat' first|(refine zad rfl ?_;(refine zab ?_))|refine zac ?_|refine zaj ?_|refine zau ?_);refine zbv (fun (i:Nat)=>[(0,.ptr b 0),(1,.int .i64 (d:Int)),(4,.ptr b4 0),(5,.bool (bgB x.1 i)),(6,w),(7,.int .i64 (i:Int))]) (fun i H'=>Keep Non H2 H'∧i≤7) (fun i=>7-i) ?_ 0 _ H2 ⟨rfl,rfl,rfl,by show _=_;simp [bgB];rfl,rfl,rfl,trivial⟩ ⟨.refl _ _,Nat.zero_le _⟩;rintro i H3 ⟨k3,hi⟩;have h3:=(h1.keep0 k2).keep0 k3;have hsl3:=hsl.keep0 k3;have hkl:kwl.length=7:=rfl;by_cases hi7:i<7;rotate_left
 ·obtain rfl:i=7:=by omega
  have e:bgB x.1 7=true:=by rw [bgB_all];exact hbeg
  show VA _ _ _ _ [(0,.ptr b 0),(1,.int .i64 (d:Int)),(4,.ptr b4 0),(5,.bool (bgB x.1 7)),(6,w),(7,.int .i64 ((7:Nat):Int))] _ _;rw [e];(repeat' first|(refine zad rfl ?_;first|(refine zaa ?_;first|refine za3 rfl rfl rfl UnF.h rfl hsl3 ?_|refine zcr rfl rfl (by omega) ?_)|refine zab ?_)|refine zag rfl ?_|refine zac ?_|refine zaj ?_|refine zbq ?_);refine zad rfl ?_;refine zaa (zaf rfl rfl rfl (zob (by omega) fun vv=>?_));refine zad rfl (zab ?_);have kA:=(k1.trans0 k2).trans0 k3;exact q b4 H3 _ kA hb4 (Nat.lt_of_lt_of_le r4.1 (k2.trans0 k3).nx) h3 ((r4.keep0 k2).keep0 k3) ⟨rfl,rfl,rfl,trivial⟩
 obtain ⟨s,hs⟩:∃s,kwl[i]? = some s:=⟨_,Qa (show i<kwl.length from hi7)⟩
 have hnext:=bgB_next (t:=x.1) hs;cases hbg:bgB x.1 i
 ·rw [hbg,Bool.false_or] at hnext;(repeat' first|(refine zad rfl ?_;first|((first|refine zaa ?_|refine zav rfl ?_);first|refine zal rfl ?_|refine za0 rfl rfl ?_|refine za3 rfl rfl rfl UnF.h rfl hsl3 ?_|refine zbz zog UnF.h SzF.h rfl hsl3 rfl rfl hs (fun q0 hq0=>?_)|refine zby PlF.h rfl hq0 rfl ?_|refine zaf rfl rfl rfl (zc2 h3 hx s fun H4 k4=>?_)|refine zb8 rfl rfl (by omega) ?_)|refine zab ?_)|refine zai rfl ?_|refine zac ?_|refine zaj ?_|refine za1 ?_|refine zau ?_|refine zam ?_);refine zad rfl ?_;refine zaa (zaz (c:=((i+1:Nat):Int)) rfl rfl Ju ?_);refine zad rfl ?_;refine zab ⟨i+1,?_,⟨rfl,rfl,rfl,by show _=_;rw [hnext];rfl,rfl,rfl,trivial⟩,k3.trans0 k4,by omega⟩;show 7-(i+1)<7-i;omega
 ·rw [hbg,Bool.true_or] at hnext;(repeat' first|(refine zad rfl ?_;first|refine zbh rfl ?_|(refine zaa ?_;first|refine zaq rfl rfl rfl ?_|refine za3 rfl rfl rfl UnF.h rfl hsl3 ?_|refine zb8 rfl rfl (by omega) ?_)|refine zab ?_)|refine zai rfl ?_|refine zac ?_|refine zaj ?_|refine za1 ?_|refine zau ?_|refine zam ?_);refine zad rfl ?_;refine zaa (zaz (c:=((i+1:Nat):Int)) rfl rfl Ju ?_);refine zad rfl ?_;refine zab ⟨i+1,?_,⟨rfl,rfl,rfl,by show _=_;rw [hnext];rfl,rfl,rfl,trivial⟩,k3,by omega⟩;show 7-(i+1)<7-i;omega
end
set_option maxHeartbeats 0
theorem Seg.at {l:List (Tok×Int)}{k k':Nat}{ws:List (List UInt8)}(h:Seg l k ws) (e:k=k'):Seg l k' ws:=by rw [←e];exact h
theorem zvg {t:Tok}(h:begB t=true):isB t [101,108,115,101]=false∧isB t [125]=false:=by
 constructor
 all_goals
  rw [←Bool.not_eq_true];intro hc;simp only [isB,J8,Bool.or_eq_true,Qj] at hc;obtain ⟨c1,c2⟩:=hc;rcases c2 with c2|c2<;>simp [begB,isB,c1,c2] at h
section
variable {gl:List (List AV)}{H H' H'':Heap}{u v w:AV}{b k n0 d:Nat}{l:List (Tok×Int)}{Q:AV→Heap→Prop}
def BlockAt (gl:List (List AV)) (b:Nat) (u:AV) (l:List (Tok×Int)) (bs:List Stm):Prop:=∀(n0 k d:Nat) (H:Heap) (Q:AV→Heap→Prop),b<n0→PI H b u l k→n0≤H.nx→Seg l k ([123]::(wdSs bs++[[125]]))→dpSs bs d≤60→
 (∀v H',Keep (· = b) H H'→PI H' b u l (k+1+(wdSs bs).length+1)→IsLs (Frs n0) (IsS (Frs n0)) 7 H' v bs→Q v H')→WpF prog [5] gl 119 [.ptr b 0,.int .i64 (d:Int)] H Q
theorem zi4 (x:Stm) (r:List Stm):wdSs (x::r)=wdS x++wdSs r:=by simp only [wdSs]
theorem zr3 {y:Stm}{d:Nat}:∀{r:List Stm},y∈r→dpS y d≤dpSs r d
 |[],h=>by cases h
 |z::r,h=>by
  simp only [dpSs];rcases List.mem_cons.1 h with rfl|h
  ·omega
  ·have:=zr3 (d:=d) h;omega
theorem zyu:∀{bs:List Stm},(∀s∈bs,RS s)→bs.length≤(wdSs bs).length
 |[],_=>Nat.zero_le _
 |x::bs,h=>by
  have h1:=zzk (h x (by simp));have h2:=zyu fun s hs=>h s (List.mem_cons_of_mem x hs);rw [zi4,J1,Jy];omega
theorem Seg.lt {ws:List (List UInt8)}{l:List (Tok×Int)}{k:Nat}(h:Seg l k ws) (hp:0<ws.length):k+ws.length≤l.length:=by
 obtain ⟨x,hx,_⟩:=h (ws.length-1) ws[ws.length-1] (Qa (by omega));have:=(Qb.1 hx).1;omega
theorem zrs {bs:List Stm}(hR:∀s∈bs,RS s) (hs:Seg l k ([123]::(wdSs bs++[[125]]))) (hl:l.length<100000):bs.length≤rB:=by
 have h1:=zyu hR;have h2:=hs.lt (by simp);have hrB:rB=140737488351232:=rfl;simp only [Jy,J1,J9] at h2;omega
theorem zj3 {bs:List Stm}(hR:∀s∈bs,RS s) (hA:∀s∈bs,StmtAt gl b u l s):BlockAt gl b u l bs:=by
 intro n0 k d H Q hbn h hn hs hd hQ;obtain ⟨⟨t0,ht0,e0⟩,hs1⟩:=hs.hd;have hlow:∀a,ownB u a→a<H.nx:=fun a ha=>Own.lt h.tks ha;have hb:=h.row.1;refine fa func119 b119_eq v119_eq r119_eq (.inr (by simp)) ?_;(repeat' first|(refine zad rfl ?_;first|(refine zaa ?_;(refine zaf rfl rfl rfl (zcw h ht0 (zbc e0 (by decide) [123]) fun vv H1 k1 h1=>?_)))|refine zab ?_)|refine zac ?_|refine zaj ?_|refine zau ?_);refine zbv (fun (a:AV×List Stm×List Stm×Nat)=>[(0,.ptr b 0),(1,.int .i64 (d:Int)),(5,a.1)])
  (fun a H'=>Keep (· = b) H H'∧PI H' b u l a.2.2.2∧Grow IsS H.nx 7 H' a.1 a.2.1∧a.2.1.length≤a.2.2.2∧a.2.1++a.2.2.1=bs∧Seg l a.2.2.2 (wdSs a.2.2.1++[[125]])∧a.2.2.2+(wdSs a.2.2.1).length=k+1+(wdSs bs).length) (fun a=>a.2.2.1.length) ?_ (.nils,[],bs,k+1) _ H1 ⟨rfl,rfl,rfl,trivial⟩ ⟨k1,h1,.nil,Nat.zero_le _,rfl,hs1,rfl⟩
 rintro ⟨v,done,rest,k'⟩ H3 ⟨k3,h3,hG,hlen,hsum,hseg,hend⟩;have hlen:done.length≤k':=hlen;have hsum:done++rest=bs:=hsum;have hseg:Seg l k' (wdSs rest++[[125]]):=hseg;have hend:k'+(wdSs rest).length=k+1+(wdSs bs).length:=hend;have h3:PI H3 b u l k':=h3;have hG:Grow IsS H.nx 7 H3 v done:=hG;have hr3:=h3.row;have n3:=k3.nx;cases rest with
 |nil=>
  obtain ⟨⟨t1,ht1,e1⟩,_⟩:=hseg.hd;rw [List.append_nil] at hsum;subst hsum;(repeat' first|(refine zad rfl ?_;first|((first|refine zaa ?_|refine zav rfl ?_);first|refine zal rfl ?_|refine zaq rfl rfl rfl ?_|refine zfh rfl ?_|refine zar rfl ?_|refine zae FpF.h (by decide) rfl ?_|refine zah PlF.h rfl hr3 rfl ?_|refine zaf rfl rfl rfl (zb6 h3 ht1 (zbc e1 (by decide) [125]) fun H4 k4 h4=>?_)|refine zax rfl rfl (by omega) ?_)|refine zab ?_)|refine zag rfl ?_|refine zac ?_|refine zaj ?_|refine zbq ?_|(refine zao ?_;refine zbr rfl ?_));have hG4:=hG.keep lawS k4 fun c hc e=>by omega
  refine hQ _ _ (kbb k3 k4) (h4.at ?_) (zcl (hG4.done lawS) (fun c hc _=>by have hc:H.nx≤c:=hc;show n0≤c;omega) fun c a _ h=>zf5 h fun c hc _=>by have hc:H.nx≤c:=hc;show n0≤c;omega);rw [←hend];simp [wdSs]
 |cons y ys=>
  have hy:RS y:=hR y (by rw [←hsum];simp);have hyA:=hA y (by rw [←hsum];simp);have hdy:dpS y d≤60:=Nat.le_trans (zr3 (by rw [←hsum];simp)) hd;rw [zi4,List.append_assoc] at hseg;obtain ⟨hsy,hs2⟩:=hseg.app;obtain ⟨w,vs,ew,hbeg,_⟩:=zin hy;obtain ⟨t1,ht1,e1⟩:=hsy 0 w (by rw [ew];rfl);have i125:isB t1.1 [125]=false:=(zvg (by rw [e1];exact hbeg)).2;have hpos:=zzk hy;have hnxt:∃z,l[k'+(wdS y).length]? = some z∧isB z.1 [101,108,115,101]=false:=by
   cases ys with
   |nil=>
    obtain ⟨⟨t2,ht2,e2⟩,_⟩:=hs2.hd;exact ⟨t2,ht2,zbc e2 (by decide) _⟩
   |cons z zs=>
    obtain ⟨w2,vs2,ew2,hbeg2,_⟩:=zin (hR z (by rw [←hsum];simp));obtain ⟨t2,ht2,e2⟩:=hs2 0 w2 (by rw [zi4,ew2];rfl);exact ⟨t2,ht2,(zvg (by rw [e2];exact hbeg2)).1⟩
  have hkl:k'<l.length:=(Qb.1 ht1).1;have hll:=h.len;(repeat' first|(refine zad rfl ?_;first|((first|refine zaa ?_|refine zav rfl ?_);first|refine zal rfl ?_|refine zaq rfl rfl rfl ?_|refine zfh rfl ?_|refine zar rfl ?_|refine zae FpF.h (by decide) rfl ?_|refine zah PlF.h rfl hr3 rfl ?_|refine zaf rfl rfl rfl (zbm h3 ht1 i125 fun H4 k4 h4=>?_)|refine zax rfl rfl (by omega) ?_)|refine zab ?_)|refine zai rfl ?_|refine zac ?_|refine zaj ?_|refine zau ?_|refine zam ?_);have n4:=k4.nx;(repeat' (refine zad rfl ?_;(refine zaa ?_;(refine zaf rfl rfl rfl (hyA H4.nx k' d H4 _ (by omega) h4 (Jz _) hsy hnxt hdy fun c H5 k5 h5 hI=>?_)))));have hsc:=zg0 hI;have hI0:=hI;obtain ⟨v1,v2,v3,rfl,_⟩:=id hI.out;have n5:=k5.nx;refine zad rfl ?_;obtain ⟨bX,hbX⟩:∃b,b=H5.nx:=⟨_,rfl⟩
  refine zaa (za8 ZeF.h fun HaX haX raX=>?_);rw [←hbX] at raX ⊢;refine zad rfl ?_;refine zaa (zan (k:=7) SzF.h rfl rfl rfl hsc raX rfl fun HX hsX hnX rX=>?_);have kX:Keep Non H5 HX:=zb3 haX hsX (by rw [hbX];exact Jz _);(repeat' first|(refine zad rfl ?_;first|(refine zaa ?_;(refine zat (k:=7) PlF.h rfl (by decide) rfl rX.pts ?_))|refine zab ?_)|refine za1 ?_);refine zaa (zap (n:=1) ElF.h (by decide) rfl rfl fun H6 k6 r6=>?_);refine zad rfl ?_;have h6:=(h5.keep0 kX).keep0 k6;have hG6:=(((hG.keep lawS k4 fun _ _ h=>h).keep lawS k5 fun c hc e=>by omega).keep lawS kX fun _ _ h=>h).keep lawS k6 fun _ _ h=>h;have kB:Keep (· = b) H H6:=kb0 (kb0 (kbb (kb0 k3 k4) k5) kX) k6;refine zaa (zn1 (z:=7) (n1:=H4.nx) lawS rfl rfl rfl ElF.h rfl (.inl UnF.h) rfl hG6 rfl r6 rfl hsc ((hI0.keep kX).keep k6) (by omega) (fun c hc=>by have:=hG.lt hc;omega) (show done.length+1<1000000 by omega) kB.nx fun v6 H7 hG7 k7=>?_);have h7:=h6.grow hG6 k7 hb hlow;have kC:Keep (· = b) H H7:=kbg kB hG6 k7 (Jz _);refine zad rfl (zab ?_);refine ⟨(v6,done++[y],ys,k'+(wdS y).length),?_,⟨rfl,rfl,rfl,trivial⟩,kC,h7,hG7,?_,?_,hs2,?_⟩
  ·show ys.length<(y::ys).length;simp only [Jy];omega
  ·show (done++[y]).length≤k'+(wdS y).length;simp only [J1,Jy,J9];omega
  ·show (done++[y])++ys=bs;rw [←hsum];simp
  ·show k'+(wdS y).length+(wdSs ys).length=k+1+(wdSs bs).length;rw [zi4] at hend;simp only [J1] at hend;omega
theorem zc1 {x:Stm}(hx:RS x) (h4:¬x.kind=4) (h5:¬x.kind=5) (hend:∃ws,wdS x=ws++[[59]]):StmtAt gl b u l x:=by
 intro n0 k d H Q hbn h hn hs hnx hd hQ;obtain ⟨g1,g2,_⟩:=zv3 x d;obtain ⟨w,vs,ew,hbeg,_⟩:=zin hx;obtain ⟨w',vs',ew',i1,i2⟩:=zyc hx;rw [ew] at ew';injection ew' with ew1 _
 subst ew1;obtain ⟨t0,ht0,e0⟩:=hs 0 w (by rw [ew];rfl);rw [←e0] at hbeg i1 i2;obtain ⟨ws,hws⟩:=hend;obtain ⟨t9,ht9,e9⟩:=(by rw [hws] at hs;exact hs.app.2 0 [59] rfl:∃t9,l[k+ws.length+0]? = some t9∧t9.1=tokW [59])
 have hlen:(wdS x).length-1=ws.length:=by rw [hws];simp
 have hlow:∀a,ownB u a→a<H.nx:=fun a ha=>Own.lt h.tks ha;have hb:=h.row.1;refine zjo h ht0 hbeg (by omega) fun b4 H1 l' k1 hb4 g4 h1 r4 hsb=>?_;refine VA.sub hsb ?_;have n1:=k1.nx;(repeat' first|(refine zad rfl ?_;first|(refine zaa ?_;(refine zaf rfl rfl rfl (zbm h1 ht0 (i1 h4) fun H2 k2 h2=>?_)))|refine zab ?_)|refine zag rfl ?_|refine zac ?_|refine zaj ?_|refine zam ?_);(repeat' first|(refine zad rfl ?_;first|(refine zaa ?_;(refine zaf rfl rfl rfl (zbm h2 ht0 (i2 h5) fun H3 k3 h3=>?_)))|refine zab ?_)|refine zag rfl ?_|refine zac ?_|refine zam ?_);have n2:=k2.nx;have n3:=k3.nx;(repeat' (refine zad rfl ?_;(refine zaa ?_;first|refine zaz (c:=((d+1:Nat):Int)) rfl rfl (zas (by omega) (by omega) (by omega)) ?_|refine zaf rfl rfl rfl (short_ok hx h4 h5 H3.nx _ _ H3 _ (by omega) h3 (Jz _) hs (by omega) fun c H4 k4 hp4 hI=>?_))));rw [hlen] at hp4;have hsc:=zg0 hI;have hI0:=hI;obtain ⟨v1,v2,v3,rfl,_⟩:=id hI.out;have n4:=k4.nx;refine zad rfl ?_;obtain ⟨bX,hbX⟩:∃b,b=H4.nx:=⟨_,rfl⟩
 refine zaa (za8 ZeF.h fun HaX haX raX=>?_);rw [←hbX] at raX ⊢;refine zad rfl ?_;refine zaa (zan (k:=7) SzF.h rfl rfl rfl hsc raX rfl fun HX hsX hnX rX=>?_);have kX:Keep Non H4 HX:=zb3 haX hsX (by rw [hbX];exact Jz _);(repeat' first|(refine zad rfl ?_;first|(refine zaa ?_;(refine zaf rfl rfl rfl (zcw (hp4.keep0 kX) ht9 (zbc e9 (by decide) [59]) fun vv H5 k5 h5=>?_)))|refine zab ?_)|refine zac ?_);have rX':=rX.keep k5 (.inl (by show ¬bX=b;omega));have kC:=kbb (kb0 (kbb (kb0 (k2.wide fun _ h=>h.elim:Keep (· = b) H1 H2) k3) k4) kX) k5;(repeat' (refine zad rfl ?_;(refine zaa ?_;(refine zat (k:=7) PlF.h rfl (by decide) rfl rX'.pts ?_))));refine zad rfl ?_;refine zaa (zan (k:=7) SzF.h rfl rfl rfl hsc (r4.keep kC (.inl (by show ¬b4=b;omega))) rfl fun H6 k6 hn6 r6=>?_);refine zad rfl ?_;refine zab (zao (zbg PlF.h rfl r6 rfl ?_));obtain ⟨f1,f2,f3⟩:=zhe (n0:=n0) k1 kC hb4 hb h5 hlow k6 (zf5 ((hI0.keep kX).keepS k5 fun c hc e=>by have hc:H3.nx≤c:=hc;omega) fun c hc _=>by have hc:H3.nx≤c:=hc;exact ⟨by omega,by omega⟩);exact hQ _ _ f1 (f2.at (by rw [hws];simp only [J1,Jy,J9];omega)) f3
theorem zyo {x:Exp}{bs:List Stm}(hx:RE x) (hR:∀s∈bs,RS s) (hB:BlockAt gl b u l bs):StmtAt gl b u l (.mk 5 [] [] 0 [x] bs []):=by
 intro n0 k d H Q hbn h hn hs hnx hd hQ;obtain ⟨g1,g2,g3,_⟩:=zv3 (.mk 5 [] [] 0 [x] bs []) d;have g2:dpEs (d+1) [x]≤60:=Nat.le_trans g2 hd;have g3:dpSs bs (d+1)≤60:=Nat.le_trans g3 hd;rw [ziy] at hs hQ;obtain ⟨⟨t0,ht0,e0⟩,hs1⟩:=hs.hd;have hsp:[40]::(wdE x++[41]::[123]::(wdSs bs++[[125]]))=([40]::(wdE x++[[41]]))++([123]::(wdSs bs++[[125]])):=by simp
 rw [hsp] at hs1;obtain ⟨hsE,hsB⟩:=hs1.app;have hlow:∀a,ownB u a→a<H.nx:=fun a ha=>Own.lt h.tks ha;have hb:=h.row.1;have hbeg:begB t0.1=true:=by rw [e0,zdb _ (by decide)];decide
 refine zjo h ht0 hbeg (by omega) fun b4 H1 l' k1 hb4 g4 h1 r4 hsb=>?_;refine VA.sub hsb ?_;have n1:=k1.nx;(repeat' first|(refine zad rfl ?_;first|(refine zaa ?_;(refine zaf rfl rfl rfl (zbm h1 ht0 (zbk e0 (by decide) [105,102]) fun H2 k2 h2=>?_)))|refine zab ?_)|refine zag rfl ?_|refine zac ?_|refine zaj ?_|refine zam ?_);(repeat' first|(refine zad rfl ?_;first|(refine zaa ?_;(refine zaf rfl rfl rfl (zb6 h2 ht0 (zbk e0 (by decide) [119,104,105,108,101]) fun H3 k3 h3=>?_)))|refine zab ?_)|refine zai rfl ?_|refine zac ?_);have n2:=k2.nx;have n3:=k3.nx;(repeat' (refine zad rfl ?_;(refine zaa ?_;first|refine zaz (c:=((d+1:Nat):Int)) rfl rfl (zas (by omega) (by omega) (by omega)) ?_|refine zaf rfl rfl rfl (zpq (n0:=H3.nx) hx (zfs g2) (by omega) h3 (Jz _) hsE fun va H4 k4 h4 hL=>?_))));have n4:=k4.nx;refine zad rfl ?_;refine zaa (zba (vs:=[.int .i64 5,S [],S [],.int .i64 0,va,.nils,.nils]) BsF.h ZeF.h PsF.h (by rcases zig hL with rfl|⟨_,rfl⟩|⟨_,_,_,_,rfl⟩|⟨_,_,_,_,rfl⟩<;>rfl) ?_);refine zad rfl ?_;obtain ⟨bX,hbX⟩:∃b,b=H4.nx:=⟨_,rfl⟩
 refine zaa (za8 ZeF.h fun HaX haX raX=>?_);rw [←hbX] at raX ⊢;refine zad rfl ?_;refine zaa (zan (k:=7) SzF.h rfl rfl rfl (zth (zb2 hL)) raX rfl fun HX hsX hnX rX=>?_);have kX:Keep Non H4 HX:=zb3 haX hsX (by rw [hbX];exact Jz _);have nX:=kX.nx;have gX:=rX.1;have h4':=h4.keep0 kX;(repeat' first|(refine zad rfl ?_;first|(refine zaa ?_;first|refine zae FpF.h (by decide) rfl ?_|refine zaz (c:=((d+1:Nat):Int)) rfl rfl (zas (by omega) (by omega) (by omega)) ?_|refine zaf rfl rfl rfl (hB HX.nx _ _ HX _ (by omega) h4' (Jz _) (hsB.at (by simp only [Jy,J1,J9];omega)) g3 fun vb H5 k5 h5 hLb=>?_))|refine zab ?_)|refine zac ?_);have n5:=k5.nx;have rX':=rX.keep k5 (.inl (by show ¬bX=b;omega));refine zaa (zbu SzF.h rfl rfl (zb2 hLb) rX' (show 0+5<7 by decide) fun H6 k6 hn6 r6=>?_);have r6:IsRow H6 bX [.int .i64 5,S [],S [],.int .i64 0,va,vb,.nils] false false:=r6;have h6:=h5.st k6 (by omega) fun a ha=>by have:=hlow a ha;omega
 have hsc6:scalL [.int .i64 5,S [],S [],.int .i64 0,va,vb,.nils]=true:=zdq fun a ha=>by
  simp only [List.mem_cons,List.not_mem_nil,or_false] at ha;rcases ha with rfl|rfl|rfl|rfl|rfl|rfl|rfl<;>first|rfl|exact zb2 hL|exact zb2 hLb
 refine zab ?_;(repeat' first|(refine zad rfl ?_;(refine zaa ?_;(refine zat (k:=7) PlF.h rfl (by decide) rfl r6.pts ?_)))|refine zac ?_);have kC:Keep (· = b) H1 H6:=kbx (kbb (kb0 (kbb (kbb (k2.wide fun _ h=>h.elim:Keep (· = b) H1 H2) k3) k4) kX) k5) k6 (by omega);refine zad rfl ?_;refine zaa (zan (k:=7) SzF.h rfl rfl rfl hsc6 (r4.keep kC (.inl (by show ¬b4=b;omega))) rfl fun H7 k7 hn7 r7=>?_);refine zad rfl ?_;refine zab (zao (zbg PlF.h rfl r7 rfl ?_));have hL6:=(zcl hL (B:=fun c=>n0≤c∧c≠b4∧c≠bX∧c≠b) (fun c hc hl=>by have hc:H3.nx≤c:=hc;exact ⟨by omega,by omega,by omega,by omega⟩) fun c a _ h=>zdc h (B:=fun c=>n0≤c∧c≠b4∧c≠bX∧c≠b) fun c hc hl=>by have hc:H3.nx≤c:=hc;exact ⟨by omega,by omega,by omega,by omega⟩)
 have hL7:=((hL6.keepS kX (fun _ _ h=>h) fun c a _ h=>h.keepS kX fun _ _ h=>h).keepS k5 (fun c hc e=>hc.2.2.2 e) fun c a _ h=>h.keepS k5 fun c hc e=>hc.2.2.2 e).keepS k6 (fun c hc e=>hc.2.2.1 e) fun c a _ h=>h.keepS k6 fun c hc e=>hc.2.2.1 e;have hLb6:=hLb.keepS k6 (fun c hc e=>by have hc:HX.nx≤c:=hc;omega) fun c a _ h=>h.keepS k6 fun c hc e=>by have hc:HX.nx≤c:=hc;omega
 have hlenb:=zrs hR hsB h.len;obtain ⟨f1,f2,f3⟩:=zhe (n0:=n0) k1 kC hb4 hb h6 hlow k7 (IsS.of (k:=5) (n:=0) (s:=[]) (p:=[]) (l:=[x]) (b:=bs) (d:=[]) (zb1 (by omega) (by omega)) (zb1 (by omega) (by omega)) zdk zdk (by show 1≤140737488351232;omega) hlenb (Nat.zero_le _) (zcl hL7 (fun c hc _=>⟨hc.1,hc.2.1⟩) fun c a _ h=>zdc h fun c hc _=>⟨hc.1,hc.2.1⟩) (zcl hLb6 (fun c hc _=>by have hc:HX.nx≤c:=hc;exact ⟨by omega,by omega⟩) fun c a _ h=>zf5 h fun c hc _=>by have hc:HX.nx≤c:=hc;exact ⟨by omega,by omega⟩) zec);exact hQ _ _ f1 (f2.at (by simp only [Jy,J1,J9];omega)) f3
end
end Go.Proofs.YtniflgldgnmiaaaGreatDoor
namespace Go.Proofs.YtniflgldgnmiaaaGreatDoor
open Go Eng Tryz
section
variable {gl:List (List AV)}{H H' H'':Heap}{u v w:AV}{b k n0 d:Nat}{l:List (Tok×Int)}{Q:AV→Heap→Prop}
theorem stmt_ite {x:Exp}{bs fs:List Stm}(hx:RE x) (hR:∀s∈bs,RS s) (hRf:∀s∈fs,RS s) (hB:BlockAt gl b u l bs) (hF:BlockAt gl b u l fs):StmtAt gl b u l (.mk 4 [] [] 0 [x] bs fs):=by
 intro n0 k d H Q hbn h hn hs hnx hd hQ;obtain ⟨g1,g2,g3,g3f⟩:=zv3 (.mk 4 [] [] 0 [x] bs fs) d;have g2:dpEs (d+1) [x]≤60:=Nat.le_trans g2 hd;have g3:dpSs bs (d+1)≤60:=Nat.le_trans g3 hd;have g3f:dpSs fs (d+1)≤60:=Nat.le_trans g3f hd;rw [zl9] at hs hQ hnx;obtain ⟨tl,htl⟩:∃tl,tl=(if fs.length=0 then [] else [101,108,115,101]::[123]::(wdSs fs++[[125]]):List (List UInt8)):=⟨_,rfl⟩
 rw [←htl] at hs hQ hnx;obtain ⟨⟨t0,ht0,e0⟩,hs1⟩:=hs.hd;have hsp:[40]::(wdE x++[41]::[123]::(wdSs bs++[125]::tl))=([40]::(wdE x++[[41]]))++(([123]::(wdSs bs++[[125]]))++tl):=by simp
 rw [hsp] at hs1;obtain ⟨hsE,hs2⟩:=hs1.app;obtain ⟨hsB,hsT⟩:=hs2.app;have hlow:∀a,ownB u a→a<H.nx:=fun a ha=>Own.lt h.tks ha;have hb:=h.row.1;have hbeg:begB t0.1=true:=by rw [e0,zdb _ (by decide)];decide
 refine zjo h ht0 hbeg (by omega) fun b4 H1 l' k1 hb4 g4 h1 r4 hsb=>?_;refine VA.sub hsb ?_;have n1:=k1.nx;(repeat' first|(refine zad rfl ?_;first|(refine zaa ?_;(refine zaf rfl rfl rfl (zb6 h1 ht0 (zbk e0 (by decide) [105,102]) fun H3 k3 h3=>?_)))|refine zab ?_)|refine zai rfl ?_|refine zac ?_|refine zaj ?_);have n3:=k3.nx;(repeat' (refine zad rfl ?_;(refine zaa ?_;first|refine zaz (c:=((d+1:Nat):Int)) rfl rfl (zas (by omega) (by omega) (by omega)) ?_|refine zaf rfl rfl rfl (zpq (n0:=H3.nx) hx (zfs g2) (by omega) h3 (Jz _) hsE fun va H4 k4 h4 hL=>?_))));have n4:=k4.nx;refine zad rfl ?_;refine zaa (zba (vs:=[.int .i64 4,S [],S [],.int .i64 0,va,.nils,.nils]) BsF.h ZeF.h PsF.h (by rcases zig hL with rfl|⟨_,rfl⟩|⟨_,_,_,_,rfl⟩|⟨_,_,_,_,rfl⟩<;>rfl) ?_);refine zad rfl ?_;obtain ⟨bX,hbX⟩:∃b,b=H4.nx:=⟨_,rfl⟩
 refine zaa (za8 ZeF.h fun HaX haX raX=>?_);rw [←hbX] at raX ⊢;refine zad rfl ?_;refine zaa (zan (k:=7) SzF.h rfl rfl rfl (zth (zb2 hL)) raX rfl fun HX hsX hnX rX=>?_);have kX:Keep Non H4 HX:=zb3 haX hsX (by rw [hbX];exact Jz _);have nX:=kX.nx;have gX:=rX.1;have h4':=h4.keep0 kX;(repeat' first|(refine zad rfl ?_;first|(refine zaa ?_;first|refine zae FpF.h (by decide) rfl ?_|refine zaz (c:=((d+1:Nat):Int)) rfl rfl (zas (by omega) (by omega) (by omega)) ?_|refine zaf rfl rfl rfl (hB HX.nx _ _ HX _ (by omega) h4' (Jz _) (hsB.at (by simp only [Jy,J1,J9];omega)) g3 fun vb H5 k5 h5 hLb=>?_))|refine zab ?_)|refine zac ?_);have n5:=k5.nx;have rX':=rX.keep k5 (.inl (by show ¬bX=b;omega));refine zaa (zbu SzF.h rfl rfl (zb2 hLb) rX' (show 0+5<7 by decide) fun H6 k6 hn6 r6=>?_);have r6:IsRow H6 bX [.int .i64 4,S [],S [],.int .i64 0,va,vb,.nils] false false:=r6;have h6:=h5.st k6 (by omega) fun a ha=>by have:=hlow a ha;omega
 have kC:Keep (· = b) H1 H6:=kbx (kbb (kb0 (kbb k3 k4) kX) k5) k6 (by omega);have hL6:=zcl hL (B:=fun c=>n0≤c∧c≠b4∧c≠bX∧c≠b) (fun c hc hl=>by have hc:H3.nx≤c:=hc;exact ⟨by omega,by omega,by omega,by omega⟩) fun c a _ h=>zdc h (B:=fun c=>n0≤c∧c≠b4∧c≠bX∧c≠b) fun c hc hl=>by have hc:H3.nx≤c:=hc;exact ⟨by omega,by omega,by omega,by omega⟩
 have hL7:=((hL6.keepS kX (fun _ _ h=>h) fun c a _ h=>h.keepS kX fun _ _ h=>h).keepS k5 (fun c hc e=>hc.2.2.2 e) fun c a _ h=>h.keepS k5 fun c hc e=>hc.2.2.2 e).keepS k6 (fun c hc e=>hc.2.2.1 e) fun c a _ h=>h.keepS k6 fun c hc e=>hc.2.2.1 e;have hLb5:=zcl hLb (B:=fun c=>n0≤c∧c≠b4∧c≠bX∧c≠b) (fun c hc hl=>by have hc:HX.nx≤c:=hc;exact ⟨by omega,by omega,by omega,by omega⟩) fun c a _ h=>zf5 h (B:=fun c=>n0≤c∧c≠b4∧c≠bX∧c≠b) fun c hc hl=>by have hc:HX.nx≤c:=hc;exact ⟨by omega,by omega,by omega,by omega⟩
 have hLb6:=hLb5.keepS k6 (fun c hc e=>hc.2.2.1 e) fun c a _ h=>h.keepS k6 fun c hc e=>hc.2.2.1 e;have hlenb:=zrs hR hsB h.len;refine zab ?_;by_cases hf0:fs.length=0
 ·have hf0':fs=[]:=List.length_eq_zero_iff.1 hf0;subst hf0';simp only [J9,if_true] at htl;subst htl;have hsc6:scalL [.int .i64 4,S [],S [],.int .i64 0,va,vb,.nils]=true:=zdq fun a ha=>by
   simp only [List.mem_cons,List.not_mem_nil,or_false] at ha;rcases ha with rfl|rfl|rfl|rfl|rfl|rfl|rfl<;>first|rfl|exact zb2 hL|exact zb2 hLb
  obtain ⟨y,hy,hye⟩:=hnx;have hh6:PI H6 b u l (k+([105,102]::[40]::(wdE x++[41]::[123]::(wdSs bs++[125]::[]))).length):=h6.at (by simp only [Jy,J1,J9];omega);(repeat' first|(refine zad rfl ?_;first|(refine zaa ?_;(refine zaf rfl rfl rfl (zbm hh6 hy hye fun H7 k7 h7=>?_)))|refine zab ?_)|refine zag rfl ?_|refine zac ?_|refine zaj ?_|refine zam ?_);have r7:=r6.keep0 k7;(repeat' (refine zad rfl ?_;(refine zaa ?_;(refine zat (k:=7) PlF.h rfl (by decide) rfl r7.pts ?_))));refine zad rfl ?_;refine zaa (zan (k:=7) SzF.h rfl rfl rfl hsc6 ((r4.keep kC (.inl (by show ¬b4=b;omega))).keep0 k7) rfl fun H8 k8 hn8 r8=>?_);refine zad rfl ?_;refine zab (zao (zbg PlF.h rfl r8 rfl ?_));have hL8:=hL7.keepS k7 (fun _ _ h=>h) fun c a _ h=>h.keepS k7 fun _ _ h=>h;have hLb8:=hLb6.keepS k7 (fun _ _ h=>h) fun c a _ h=>h.keepS k7 fun _ _ h=>h;obtain ⟨f1,f2,f3⟩:=zhe (n0:=n0) k1 (kb0 kC k7) hb4 hb h7 hlow k8 (IsS.of (k:=4) (n:=0) (s:=[]) (p:=[]) (l:=[x]) (b:=bs) (d:=[]) (zb1 (by omega) (by omega)) (zb1 (by omega) (by omega)) zdk zdk (by show 1≤140737488351232;omega) hlenb (Nat.zero_le _) (zcl hL8 (fun c hc _=>⟨hc.1,hc.2.1⟩) fun c a _ h=>zdc h fun c hc _=>⟨hc.1,hc.2.1⟩) (zcl hLb8 (fun c hc _=>⟨hc.1,hc.2.1⟩) fun c a _ h=>zf5 h fun c hc _=>⟨hc.1,hc.2.1⟩) zec);exact hQ _ _ f1 f2 f3
 ·rw [if_neg hf0] at htl;subst htl;obtain ⟨⟨t7,ht7,e7⟩,hsF⟩:=hsT.hd;have hh6:PI H6 b u l (k+1+([40]::(wdE x++[[41]])).length+([123]::(wdSs bs++[[125]])).length):=h6.at (by simp only [Jy,J1,J9];omega);(repeat' first|(refine zad rfl ?_;first|(refine zaa ?_;(refine zaf rfl rfl rfl (zb6 hh6 ht7 (zbk e7 (by decide) [101,108,115,101]) fun H7 k7 h7=>?_)))|refine zab ?_)|refine zai rfl ?_|refine zac ?_|refine zaj ?_|refine za1 ?_);have n7:=k7.nx;have n6:H5.nx=H6.nx:=hn6.symm;(repeat' (refine zad rfl ?_;(refine zaa ?_;first|refine zae FpF.h (by decide) rfl ?_|refine zaz (c:=((d+1:Nat):Int)) rfl rfl (zas (by omega) (by omega) (by omega)) ?_|refine zaf rfl rfl rfl (hF H7.nx _ _ H7 _ (by omega) h7 (Jz _) hsF g3f fun vf H8 k8 h8 hLf=>?_))));have n8:=k8.nx;have r8:=(r6.keep k7 (.inl (by show ¬bX=b;omega))).keep k8 (.inl (by show ¬bX=b;omega));refine zaa (zbu SzF.h rfl rfl (zb2 hLf) r8 (show 0+6<7 by decide) fun H9 k9 hn9 r9=>?_);have r9:IsRow H9 bX [.int .i64 4,S [],S [],.int .i64 0,va,vb,vf] false false:=r9;have h9:=h8.st k9 (by omega) fun a ha=>by have:=hlow a ha;omega
  have kD:Keep (· = b) H1 H9:=kbx (kbb (kbb kC k7) k8) k9 (by omega);have hsc9:scalL [.int .i64 4,S [],S [],.int .i64 0,va,vb,vf]=true:=zdq fun a ha=>by
   simp only [List.mem_cons,List.not_mem_nil,or_false] at ha;rcases ha with rfl|rfl|rfl|rfl|rfl|rfl|rfl<;>first|rfl|exact zb2 hL|exact zb2 hLb|exact zb2 hLf
  have hlenf:=zrs hRf hsF h.len;refine zab ?_;(repeat' first|(refine zad rfl ?_;(refine zaa ?_;(refine zat (k:=7) PlF.h rfl (by decide) rfl r9.pts ?_)))|refine zac ?_);refine zad rfl ?_;refine zaa (zan (k:=7) SzF.h rfl rfl rfl hsc9 (r4.keep kD (.inl (by show ¬b4=b;omega))) rfl fun H10 k10 hn10 r10=>?_);refine zad rfl ?_;refine zab (zao (zbg PlF.h rfl r10 rfl ?_));have hL9:=((hL7.keepS k7 (fun c hc e=>hc.2.2.2 e) fun c a _ h=>h.keepS k7 fun c hc e=>hc.2.2.2 e).keepS k8 (fun c hc e=>hc.2.2.2 e) fun c a _ h=>h.keepS k8 fun c hc e=>hc.2.2.2 e).keepS k9 (fun c hc e=>hc.2.2.1 e) fun c a _ h=>h.keepS k9 fun c hc e=>hc.2.2.1 e;have hLb9:=((hLb6.keepS k7 (fun c hc e=>hc.2.2.2 e) fun c a _ h=>h.keepS k7 fun c hc e=>hc.2.2.2 e).keepS k8 (fun c hc e=>hc.2.2.2 e) fun c a _ h=>h.keepS k8 fun c hc e=>hc.2.2.2 e).keepS k9 (fun c hc e=>hc.2.2.1 e) fun c a _ h=>h.keepS k9 fun c hc e=>hc.2.2.1 e;have hLf9:=hLf.keepS k9 (fun c hc e=>by have hc:H7.nx≤c:=hc;omega) fun c a _ h=>h.keepS k9 fun c hc e=>by have hc:H7.nx≤c:=hc;omega
  obtain ⟨f1,f2,f3⟩:=zhe (n0:=n0) k1 kD hb4 hb h9 hlow k10 (IsS.of (k:=4) (n:=0) (s:=[]) (p:=[]) (l:=[x]) (b:=bs) (d:=fs) (zb1 (by omega) (by omega)) (zb1 (by omega) (by omega)) zdk zdk (by show 1≤140737488351232;omega) hlenb hlenf (zcl hL9 (fun c hc _=>⟨hc.1,hc.2.1⟩) fun c a _ h=>zdc h fun c hc _=>⟨hc.1,hc.2.1⟩) (zcl hLb9 (fun c hc _=>⟨hc.1,hc.2.1⟩) fun c a _ h=>zf5 h fun c hc _=>⟨hc.1,hc.2.1⟩) (zcl hLf9 (fun c hc _=>by have hc:H7.nx≤c:=hc;exact ⟨by omega,by omega⟩) fun c a _ h=>zf5 h fun c hc _=>by have hc:H7.nx≤c:=hc;exact ⟨by omega,by omega⟩));exact hQ _ _ f1 (f2.at (by simp only [Jy,J1,J9];omega)) f3
theorem pstmt_ok {x:Stm}(hx:RS x):StmtAt gl b u l x:=by
 induction hx with
 |ite hx hb hf ihb ihf=>exact stmt_ite hx hb hf (zj3 hb ihb) (zj3 hf ihf)
 |loop hx hb ihb=>exact zyo hx hb (zj3 hb ihb)
 |vbool h=>exact zc1 (.vbool h) (fun e=>by cases e) (fun e=>by cases e) ⟨[_,_,_],zgx _⟩
 |vint h=>exact zc1 (.vint h) (fun e=>by cases e) (fun e=>by cases e) ⟨[_,_],zi3 _⟩
 |varr h h0 hm=>exact zc1 (.varr h h0 hm) (fun e=>by cases e) (fun e=>by cases e) ⟨[_,_,_,_,_],zi2 _ h0⟩
 |set h hx=>exact zc1 (.set h hx) (fun e=>by cases e) (fun e=>by cases e) ⟨_::_::wdE _,zmc _ _⟩
 |@put n i x h hi hx=>exact zc1 (.put h hi hx) (fun e=>by cases e) (fun e=>by cases e) ⟨n::[91]::(wdE i++[93]::[61]::wdE x),by rw [zmb];simp⟩
 |@call n p es h hp hl=>
  refine zc1 (.call h hp hl) (fun e=>by cases e) (fun e=>by cases e) ?_;rcases h with rfl|h
  ·exact ⟨p::[40]::(wdAs es 0++[[41]]),by rw [zix];simp⟩
  ·exact ⟨n::[61]::p::[40]::(wdAs es 0++[[41]]),by rw [zgw h];simp⟩
 |ret0=>exact zc1 .ret0 (fun e=>by cases e) (fun e=>by cases e) ⟨[_],zi0⟩
 |ret1 hx=>exact zc1 (.ret1 hx) (fun e=>by cases e) (fun e=>by cases e) ⟨_::wdE _,zi1 _⟩
 |prt hx=>exact zc1 (.prt hx) (fun e=>by cases e) (fun e=>by cases e) ⟨_::wdE _,zma _⟩
 |read h=>exact zc1 (.read h) (fun e=>by cases e) (fun e=>by cases e) ⟨[_,_],ziz _⟩
 |asrt hx=>exact zc1 (.asrt hx) (fun e=>by cases e) (fun e=>by cases e) ⟨_::wdE _,ziw _⟩
theorem zxu {bs:List Stm}(hR:∀s∈bs,RS s):BlockAt gl b u l bs:=zj3 hR fun s hs=>pstmt_ok (hR s hs)
end
instance ibs_69:BsF prog 69:=⟨by kernel_rfl⟩
instance ips_69:PsF prog 69 [(0,1),(1,1),(2,1),(3,1)]:=⟨by kernel_rfl⟩
instance ibs_82:BsF prog 82:=⟨by kernel_rfl⟩
instance ips_82:PsF prog 82 [(0,1),(1,1)]:=⟨by kernel_rfl⟩
instance isz_66:SzF prog 66 1:=⟨by kernel_rfl⟩
def v65l0h0:CV:=Jt [Jd 14 0,Jm 15 14,Jg 16 159 15 2,Jf 17 28 16,Jc 18 (.binOp .eql 28 (Ja 17) (Jb 0) 28),Jd 19 18,Jp 19 true 20 4,Jp 19 true 21 20,Jp 21 true 22 0,Js 21 true 23 (.call ⟨.value (.func 116),#[(Ja 22),(.const (.string ⟨⟨[41]⟩⟩))],#[157,9]⟩),Js 19 true 24 (.pick (Ja 21) (Ja 23) (.const (.bool false))),Js 19 true 25 (.unOp .not 4 (Ja 24)),Jc 26 (.pick (Ja 19) (Ja 25) (.const (.bool false)))] (.cond (Ja 26) (.skip) (.exit 0))
def v65k0h1:CV:=Jt [Jd 29 5,Jc 30 (.binOp .eql 3 (Ja 29) (Jb 0) 3)] (.cond (Ja 30) (.reg [Jd 31 0,Jc 32 (.call ⟨.value (.func 118),#[(Ja 31),(Jb 30)],#[157,28]⟩)]) (.skip))
def v65c1:CV:=Jt [Jd 46 0,Jc 47 (.call ⟨.value (.func 114),#[(Ja 46),(.const (.string ⟨⟨[41]⟩⟩))],#[157,9]⟩)] (.exit 0)
def v65k0t4:CV:=Jt [Jd 43 0,Jc 44 (.call ⟨.value (.func 116),#[(Ja 43),(.const (.string ⟨⟨[44]⟩⟩))],#[157,9]⟩),Jc 45 (.unOp .not 4 (Ja 44))] (.cond (Ja 45) v65c1 (.skip))
def v65k0t3:CV:=Jt [Jg 35 69 3 1,Jf 36 66 35,Jd 37 6,Jd 38 5,Jc 39 (.build 82 #[(0,(Ja 37)),(1,(Ja 38))]),Jc 40 (.buildSlice 66 1 #[(0,(Ja 39))]),Jc 41 (.call ⟨.builtin .append,#[(Ja 36),(Ja 40)],#[66,66]⟩),Jg 42 69 3 1,.op none (.store 66 (Ja 42) (Ja 41))] v65k0t4
def v65k0t2:CV:=Jt [Jd 33 0,Jn 34 115 33 157,Jh 6 34] v65k0t3
def v65k0t1:CV:=.seq v65k0h1 v65k0t2
def v65k0:CV:=Jt [Jd 27 0,Jn 28 117 27 157,Jh 5 28] v65k0t1
def v65l0t1:CV:=.seq (.block 1 v65k0) (.reg [Jc 4 (.assign (.const (.bool false)))])
def v65l0:CV:=.seq v65l0h0 v65l0t1
def v65h4:CV:=Jt [Jc 4 (.assign (.const (.bool true)))] (.block 0 (.loop v65l0))
def v65t7:CV:=Jt [Jf 54 69 3,.op none (.store 69 (Ja 2) (Ja 54))] (.ret)
def v65t6:CV:=Jt [Jd 51 0,Jc 52 (.call ⟨.value (.func 119),#[(Ja 51),(Jb 1)],#[157,3]⟩),Jg 53 69 3 3,.op none (.store 67 (Ja 53) (Ja 52))] v65t7
def v65t5:CV:=Jt [Jd 48 0,Jn 49 117 48 157,Jg 50 69 3 2,.op none (.store 3 (Ja 50) (Ja 49))] v65t6
def v65t4:CV:=.seq v65h4 v65t5
def v65t3:CV:=Jt [Jd 12 0,Jc 13 (.call ⟨.value (.func 114),#[(Ja 12),(.const (.string ⟨⟨[40]⟩⟩))],#[157,9]⟩)] v65t4
def v65t2:CV:=Jt [Jd 9 0,Jn 10 115 9 157,Jc 11 (.build 69 #[(0,(Ja 10))]),Jc 3 (.alloc 69),.op none (.store 69 (Ja 3) (Ja 11))] v65t3
def v65t1:CV:=Jt [Jd 7 0,Jc 8 (.call ⟨.value (.func 114),#[(Ja 7),(.const (.string ⟨⟨[112,114,111,99]⟩⟩))],#[157,9]⟩)] v65t2
def v65:CV:=Jt [Jc 2 (.alloc 69)] v65t1
noncomputable def b65:Code:=f65.body.getD .skip
theorem b65_eq:f65.body=some b65:=by kernel_rfl
theorem v65_eq:viewC prog b65=some v65:=by kernel_rfl
theorem r65_eq:f65.results.toList=[.cell 2 69]:=by kernel_rfl
theorem zzd:∀(l:List Prm) (i:Nat),wdMs l (i+1)=wdMs l 1
 |[],_=>by simp [wdMs]
 |x::l,i=>by
  simp only [wdMs];rw [zzd l (i+1),zzd l 1,if_pos (by omega),if_pos (by omega)]
theorem zm3 (x:Prm) (l:List Prm):wdMs (x::l) 0=wdT x.type::x.name::wdMs l 1:=by
 simp only [wdMs];rw [if_neg (by omega)];rfl
theorem zm4 (x:Prm) (l:List Prm):wdMs (x::l) 1=[44]::wdT x.type::x.name::wdMs l 1:=by
 simp only [wdMs];rw [if_pos (by omega),zzd l 1];rfl
theorem zxl {t:Int}{x:Tok}(h:okT t=true) (e:x=tokW (wdT t)):(t=1∧isB x [105,110,116]=true)∨(t=2∧isB x [105,110,116]=false∧isB x [98,111,111,108]=true):=by
 have hk:=zn4 h;simp only [okT,Bool.or_eq_true,Qj] at h;rcases h with rfl|rfl
 ·exact .inl ⟨rfl,zbk e hk _⟩
 ·exact .inr ⟨rfl,zbk e hk _,zbk e hk _⟩
section
variable {gl:List (List AV)}{H H' H'':Heap}{u v w:AV}{b k n0 d N:Nat}{l:List (Tok×Int)}{Q:AV→Heap→Prop}
theorem prm_body {P:Ex→Fm→Heap→Prop}{b2 b3:Nat}{nm:List UInt8}{l':Fm}{y:Prm}{ys done:List Prm}(h:PI H b u l k) (hseg:Seg l k (wdT y.type::y.name::(wdMs ys 1++[[41]]))) (hT:okT y.type=true) (hname:nameB y.name=true) (hbN:b<N) (h3N:b3<N) (hlow:∀a,ownB u a→a<N) (hlow3:∀a,ownB u a→a<b3) (hb3:b≠b3) (hNH:N≤H.nx) (hdk:done.length≤k)
  (r3:IsRow H b3 [S nm,v,.int .i64 0,.nils] false false) (hG:Grow (fun _=>IsPm) N 2 H v done) (hsb:Sb [(0,.ptr b 0),(2,.ptr b2 0),(3,.ptr b3 0)] l')
  (q1:∀z zs,ys=z::zs→∀v' H' l'',Keep (fun c=>c=b∨c=b3∨N≤c) H H'→PI H' b u l (k+3)→IsRow H' b3 [S nm,v',.int .i64 0,.nils] false false→Grow (fun _=>IsPm) N 2 H' v' (done++[y])→Sb [(0,.ptr b 0),(2,.ptr b2 0),(3,.ptr b3 0)] l''→P .normal l'' H')
  (q2:ys=[]→∀v' H' l'',Keep (fun c=>c=b∨c=b3∨N≤c) H H'→PI H' b u l (k+3)→IsRow H' b3 [S nm,v',.int .i64 0,.nils] false false→Grow (fun _=>IsPm) N 2 H' v' (done++[y])→Sb [(0,.ptr b 0),(2,.ptr b2 0),(3,.ptr b3 0)] l''→P (.exit 0) l'' H'):VA prog [5] gl v65k0 l' H P:=by
 obtain ⟨⟨t0,ht0,e0⟩,hs1⟩:=hseg.hd;obtain ⟨⟨t1,ht1,e1⟩,hs2⟩:=hs1.hd;rw [zci hname] at e1;have hty:=zxl hT e0;have hne:¬y.type=0:=by rcases hty with ⟨h,_⟩|⟨h,_⟩<;>omega
 have hkl:k<l.length:=(Qb.1 ht0).1;have hll:=h.len;have hok:ok64 y.type:=by rcases hty with ⟨h,_⟩|⟨h,_⟩<;>(rw [h];unfold ok64;omega)
 refine VA.sub hsb ?_;(repeat' first|(refine zad rfl ?_;first|(refine zaa ?_;first|refine zaf rfl rfl rfl (zxy h ht0 y.type hty fun H1 k1 h1=>?_)|refine za2 rfl rfl (by omega) ?_)|refine zab ?_)|refine zag rfl ?_|refine zac ?_|refine zaj ?_|refine zam ?_);(repeat' first|(refine zad rfl ?_;first|(refine zaa ?_;first|refine zae FpF.h (by decide) rfl ?_|refine zaf rfl rfl rfl (zee h1 ht1 (by rw [e1]) fun H2 k2 h2=>?_))|refine zab ?_)|refine zac ?_);have hb3':¬b3=b:=fun e=>hb3 e.symm;have r3':=(r3.keep k1 (.inl hb3')).keep k2 (.inl hb3');rw [show t1.1.text=y.name by rw [e1]];have n1:=k1.nx;have n2:=k2.nx;(repeat' (refine zad rfl ?_;(refine zaa ?_;(refine zah PlF.h rfl r3' rfl ?_))));refine zad rfl ?_;refine zaa (zba BsF.h ZeF.h PsF.h rfl ?_);refine zad rfl ?_;refine zaa (zap (n:=1) ElF.h (by decide) rfl rfl fun H3 k3 r4=>?_);refine zad rfl ?_;have hG3:=((hG.keep lawM k1 fun c hc e=>by omega).keep lawM k2 fun c hc e=>by omega).keep lawM k3 fun _ _ h=>h;have n3:=k3.nx;refine zaa (zn1 (a:=y) (z:=2) (n1:=H.nx) lawM rfl rfl rfl ElF.h rfl (.inl UnF.h) rfl hG3 rfl r4 rfl rfl ⟨rfl,nlen hname,hok⟩ hNH (fun c hc=>hG.lt hc) (by omega) (by omega) fun v4 H4 hG4 k4=>?_);have h3:=h2.keep0 k3;have h4:PI H4 b u l (k+1+1):=h3.grow hG3 k4 hbN hlow;have r5:=(r3'.keep0 k3).keep k4 (.inl fun e=>by have:=hG3.low b3 e;omega);(repeat' (refine zad rfl ?_;(refine zaa ?_;(refine zae FpF.h (by decide) rfl ?_))));refine zaa (zbu SzF.h rfl rfl hG4.scal r5 (show 0+1<4 by decide) fun H5 k5 hn5 r6=>?_);have r6:IsRow H5 b3 [S nm,v4,.int .i64 0,.nils] false false:=r6;have h5:=h4.st k5 hb3 hlow3;have hG5:=hG4.keep lawM k5 fun c hc e=>by omega
 have kA:Keep (fun c=>c=b∨c=b3∨N≤c) H H5:=((((k1.wide fun c hc=>.inl hc).trans k2 fun c hc=>.inl (.inl hc)).trans k3 fun c hc=>hc.elim).trans k4 fun c hc=>.inl (.inr (.inr (hG3.low c hc)))).trans k5 fun c hc=>.inl (.inr (.inl hc));refine zab ?_;cases ys with
 |nil=>
  obtain ⟨⟨t2,ht2,e2⟩,_⟩:=hs2.hd;(repeat' first|(refine zad rfl ?_;first|(refine zaa ?_;(refine zaf rfl rfl rfl (zbm h5 ht2 (zbc e2 (by decide) [44]) fun H6 k6 h6=>?_)))|refine zab ?_)|refine zai rfl ?_|refine zac ?_);(repeat' first|(refine zad rfl ?_;first|(refine zaa ?_;(refine zaf rfl rfl rfl (zcw h6 ht2 (zbc e2 (by decide) [41]) fun vv H7 k7 h7=>?_)))|refine zab ?_)|refine zbq ?_);exact q2 rfl v4 H7 _ ((kA.trans k6 fun c hc=>hc.elim).trans k7 fun c hc=>.inl (.inl hc)) h7 ((r6.keep0 k6).keep k7 (.inl hb3')) ((hG5.keep lawM k6 fun _ _ h=>h).keep lawM k7 fun c hc e=>by omega) ⟨rfl,rfl,rfl,trivial⟩
 |cons z zs=>
  rw [zm4] at hs2;obtain ⟨⟨t2,ht2,e2⟩,_⟩:=hs2.hd;(repeat' first|(refine zad rfl ?_;first|(refine zaa ?_;(refine zaf rfl rfl rfl (zb6 h5 ht2 (zbc e2 (by decide) [44]) fun H7 k7 h7=>?_)))|refine zab ?_)|refine zag rfl ?_|refine zac ?_|refine zam ?_);exact q1 z zs rfl v4 H7 _ (kA.trans k7 fun c hc=>.inl (.inl hc)) h7 (r6.keep k7 (.inl hb3')) (hG5.keep lawM k7 fun c hc e=>by omega) ⟨rfl,rfl,rfl,trivial⟩
theorem zzh (p:Prc):wdP p=[112,114,111,99]::p.name::[40]::(wdMs p.params 0++[41]::((if p.type=0 then [] else [wdT p.type])++([123]::(wdSs p.body++[[125]])))):=by simp [wdP,wdH]
def ProcAt (gl:List (List AV)) (b:Nat) (u:AV) (l:List (Tok×Int)) (p:Prc):Prop:=∀(n0 k:Nat) (H:Heap) (Q:AV→Heap→Prop),b<n0→PI H b u l k→n0≤H.nx→Seg l k (wdP p)→dpSs p.body 1≤60→
 (∀c H',Keep (· = b) H H'→PI H' b u l (k+(wdP p).length)→IsPc (Frs n0) H' c p→Q (.agg c) H')→WpF prog [5] gl 65 [.ptr b 0] H Q
theorem zs6:∀(ps:List Prm) (i:Nat),ps.length≤(wdMs ps i).length
 |[],_=>Nat.zero_le _
 |x::ps,i=>by
  have:=zs6 ps (i+1);simp only [wdMs,J1,Jy,J9];omega
theorem zxw {b2 b3 n0 N:Nat}{l':Fm}{H0:Heap}{p:Prc}(hp:RP p) (hd:dpSs p.body 1≤60) (_hbn:b<n0) (hn:n0≤H0.nx) (hb0:b<H0.nx) (hlow:∀a,ownB u a→a<H0.nx) (hb2:b2=H0.nx) (h23:b2<b3) (h3N:b3<N) (hNH:N≤H.nx) (hpl:p.params.length≤rB) (k0:Keep (· = b) H0 H) (h:PI H b u l k) (hs:Seg l k ((if p.type=0 then [] else [wdT p.type])++([123]::(wdSs p.body++[[125]]))))
  (r2:IsRow H b2 [.str 0 0,.nils,.int .i64 0,.nils] false false) (r3:IsRow H b3 [S p.name,v,.int .i64 0,.nils] false false) (hL:IsLs (Frs N) IsPm 2 H v p.params) (hsb:Sb [(0,.ptr b 0),(2,.ptr b2 0),(3,.ptr b3 0)] l')
  (hQ:∀c H',Keep (· = b) H0 H'→PI H' b u l (k+((if p.type=0 then [] else [wdT p.type])++([123]::(wdSs p.body++[[125]]))).length)→IsPc (Frs n0) H' c p→Q (.agg c) H'):VA prog [5] gl v65t5 l' H (leftC prog [.cell 2 69] Q):=by
 refine VA.sub hsb ?_;have hb3:b≠b3:=by omega
 have hb3':¬b3=b:=by omega
 have hb2':¬b2=b:=by omega
 have hlow3:∀a,ownB u a→a<b3:=fun a ha=>by have:=hlow a ha;omega
 -- the type
 have htyp:∀(Q':AV→Heap→Prop),(∀H' k',Keep (· = b) H H'→PI H' b u l k'→Seg l k' ([123]::(wdSs p.body++[[125]]))→k'+([123]::(wdSs p.body++[[125]])).length=k+((if p.type=0 then [] else [wdT p.type])++([123]::(wdSs p.body++[[125]]))).length→Q' (.int .i64 p.type) H')→WpF prog [5] gl 117 [.ptr b 0] H Q':=by
  intro Q' hQ';by_cases ht:p.type=0
  ·rw [if_pos ht] at hs hQ';obtain ⟨⟨t0,ht0,e0⟩,_⟩:=hs.hd;rw [ht] at hQ';exact ptyp_no h ht0 (zbc e0 (by decide) _) (zbc e0 (by decide) _) fun H1 k1 h1=>hQ' H1 k (k1.wide fun _ h=>h.elim) h1 hs (by simp)
  ·rw [if_neg ht] at hs hQ';obtain ⟨⟨t0,ht0,e0⟩,hs1⟩:=hs.hd;have hT:okT p.type=true:=hp.type.resolve_left ht;exact zxy h ht0 p.type (zxl hT e0) fun H1 k1 h1=>hQ' H1 (k+1) k1 h1 hs1 (by simp only [Jy,J1,J9];omega)
 have hok:ok64 p.type:=by
  rcases hp.type with h|h
  ·rw [h];unfold ok64;omega
  ·simp only [okT,Bool.or_eq_true,Qj] at h;unfold ok64;omega
 refine zac ?_;refine zad rfl ?_;refine zaa (zaf rfl rfl rfl (htyp _ fun H1 k' k1 h1 hs1 hk=>?_));have n1:=k1.nx;(repeat' (refine zad rfl ?_;(refine zaa ?_;(refine zae FpF.h (by decide) rfl ?_))));refine zaa (zbu SzF.h rfl rfl rfl (r3.keep k1 (.inl hb3')) (show 0+2<4 by decide) fun H2 k2 hn2 r4=>?_);have r4:IsRow H2 b3 [S p.name,v,.int .i64 p.type,.nils] false false:=r4;have h2:=h1.st k2 hb3 hlow3;refine zab ?_;(repeat' first|(refine zad rfl ?_;(refine zaa ?_;first|refine zae FpF.h (by decide) rfl ?_|refine zaf rfl rfl rfl (zxu hp.body H2.nx k' 1 H2 _ (by omega) h2 (Jz _) hs1 hd fun vb H3 k3 h3 hLb=>?_)))|refine zac ?_);have n3:=k3.nx;have r5:=r4.keep k3 (.inl hb3');refine zaa (zbu SzF.h rfl rfl (zb2 hLb) r5 (show 0+3<4 by decide) fun H4 k4 hn4 r6=>?_);have r6:IsRow H4 b3 [S p.name,v,.int .i64 p.type,vb] false false:=r6;have h4:=h3.st k4 hb3 hlow3;have hsc6:scalL [S p.name,v,.int .i64 p.type,vb]=true:=zdq fun a ha=>by
  simp only [List.mem_cons,List.not_mem_nil,or_false] at ha;rcases ha with rfl|rfl|rfl|rfl<;>first|rfl|exact zb2 hL|exact zb2 hLb
 refine zab ?_;have r2':=(((r2.keep k1 (.inl hb2')).keep k2 (.inl (by show ¬b2=b3;omega))).keep k3 (.inl hb2')).keep k4 (.inl (by show ¬b2=b3;omega));(repeat' first|(refine zad rfl ?_;(refine zaa ?_;(refine zat (k:=4) PlF.h rfl (by decide) rfl r6.pts ?_)))|refine zac ?_);refine zad rfl ?_;refine zaa (zan (k:=4) SzF.h rfl rfl rfl hsc6 r2' rfl fun H5 k5 hn5 r5=>?_);refine zad rfl ?_;refine zab (zao (zbg PlF.h rfl r5 rfl ?_));have kC:Keep (· = b) H0 H5:=kbx (kbx (kbb (kbx (kbb k0 k1) k2 (by omega)) k3) k4 (by omega)) k5 (by omega);have hL0:=zcl hL (B:=fun c=>n0≤c∧c≠b2∧c≠b3∧c≠b) (fun c hc _=>by have hc:N≤c:=hc;exact ⟨by omega,by omega,by omega,by omega⟩) fun c a _ h=>h;have hL5:=((((hL0.keepS k1 (fun c hc e=>hc.2.2.2 e) fun c a _ h=>h).keepS k2 (fun c hc e=>hc.2.2.1 e) fun c a _ h=>h).keepS k3 (fun c hc e=>hc.2.2.2 e) fun c a _ h=>h).keepS k4 (fun c hc e=>hc.2.2.1 e) fun c a _ h=>h).keepS k5 (fun c hc e=>hc.2.1 e) fun c a _ h=>h;have hLb0:=zcl hLb (B:=fun c=>n0≤c∧c≠b2∧c≠b3) (fun c hc _=>by have hc:H2.nx≤c:=hc;exact ⟨by omega,by omega,by omega⟩) fun c a _ h=>zf5 h (B:=fun c=>n0≤c∧c≠b2∧c≠b3) fun c hc _=>by have hc:H2.nx≤c:=hc;exact ⟨by omega,by omega,by omega⟩
 have hLb5:=(hLb0.keepS k4 (fun c hc e=>hc.2.2 e) fun c a _ h=>h.keepS k4 fun c hc e=>hc.2.2 e).keepS k5 (fun c hc e=>hc.2.1 e) fun c a _ h=>h.keepS k5 fun c hc e=>hc.2.1 e;refine hQ _ _ kC ((h4.st k5 (by omega) fun a ha=>by have:=hlow a ha;omega).at ?_) ⟨v,vb,rfl,nlen hp.name,hok,hpl,zrs hp.body hs1 h.len,zcl hL5 (fun c hc _=>hc.1) fun c a _ h=>h,zcl hLb5 (fun c hc _=>hc.1) fun c a _ h=>zf5 h fun c hc _=>hc.1⟩;rw [←hk];simp only [Jy,J1,J9];omega
theorem pproc_ok {p:Prc}(hp:RP p):ProcAt gl b u l p:=by
 intro n0 k H Q hbn h hn hs hd hQ;rw [zzh] at hs hQ;obtain ⟨⟨t0,ht0,e0⟩,hs1⟩:=hs.hd;obtain ⟨⟨t1,ht1,e1⟩,hs2⟩:=hs1.hd;obtain ⟨⟨t2,ht2,e2⟩,hs3⟩:=hs2.hd;have hsplit:wdMs p.params 0++[41]::((if p.type=0 then [] else [wdT p.type])++([123]::(wdSs p.body++[[125]])))=(wdMs p.params 0++[[41]])++((if p.type=0 then [] else [wdT p.type])++([123]::(wdSs p.body++[[125]]))):=by simp
 rw [hsplit] at hs3 hQ;obtain ⟨hsM,hsT⟩:=hs3.app;rw [zci hp.name] at e1;have hlow:∀a,ownB u a→a<H.nx:=fun a ha=>Own.lt h.tks ha;have hb:=h.row.1;have hll:=h.len;have hpl:p.params.length≤rB:=by
  have h1:=zs6 p.params 0;have h2:=hsM.lt (by simp);have hrB:rB=140737488351232:=rfl;simp only [J1,Jy,J9] at h2;omega
 refine faC func65 b65_eq v65_eq r65_eq (.inr (by simp)) ?_;refine zac ?_;obtain ⟨b2,hb2⟩:∃b,b=H.nx:=⟨_,rfl⟩
 refine zaa (za8 ZeF.h fun H1 k1 r2=>?_);rw [←hb2] at r2 ⊢;have g2:=r2.1;have n1:=k1.nx;(repeat' first|(refine zad rfl ?_;first|(refine zaa ?_;(refine zaf rfl rfl rfl (zcw (h.keep0 k1) ht0 (zbk e0 (by decide) [112,114,111,99]) fun vv H2 k2 h2=>?_)))|refine zab ?_)|refine zac ?_);have n2:=k2.nx;(repeat' (refine zad rfl ?_;(refine zaa ?_;(refine zaf rfl rfl rfl (zee h2 ht1 (by rw [e1]) fun H3 k3 h3=>?_)))));rw [show t1.1.text=p.name by rw [e1]];have n3:=k3.nx;refine zad rfl ?_;refine zaa (zba BsF.h ZeF.h PsF.h rfl ?_);refine zad rfl ?_;obtain ⟨bX,hbX⟩:∃b,b=H3.nx:=⟨_,rfl⟩
 refine zaa (za8 ZeF.h fun HaX haX raX=>?_);rw [←hbX] at raX ⊢;refine zad rfl ?_;refine zaa (zan (k:=4) SzF.h rfl rfl rfl rfl raX rfl fun HX hsX hnX rX=>?_);have kX:Keep Non H3 HX:=zb3 haX hsX (by rw [hbX];exact Jz _);have nX:=kX.nx;have gX:=rX.1;have hbX3:¬bX=b:=by omega
 have hb2':¬b2=b:=by omega
 (repeat' first|(refine zad rfl ?_;first|(refine zaa ?_;(refine zaf rfl rfl rfl (zcw (h3.keep0 kX) ht2 (zbc e2 (by decide) [40]) fun vv H4 k4 h4=>?_)))|refine zab ?_)|refine zac ?_|refine zaj ?_|refine zau ?_);have n4:=k4.nx;have rX4:=rX.keep k4 (.inl hbX3);have r24:=(((r2.keep k2 (.inl hb2')).keep k3 (.inl hb2')).keep0 kX).keep k4 (.inl hb2');have kA:Keep (· = b) H H4:=kbb (kb0 (kbb (k0b k1 k2) k3) kX) k4;have hlen0:(wdMs p.params 0++[[41]]++((if p.type=0 then [] else [wdT p.type])++([123]::(wdSs p.body++[[125]])))).length=(wdMs p.params 0++[[41]]).length+((if p.type=0 then [] else [wdT p.type])++([123]::(wdSs p.body++[[125]]))).length:=by rw [J1]
 have hfin:∀(H5:Heap) (v:AV) (l'':Fm),Keep (fun c=>c=b∨c=bX∨H4.nx≤c) H4 H5→PI H5 b u l (k+1+1+1+(wdMs p.params 0++[[41]]).length)→IsRow H5 bX [S p.name,v,.int .i64 0,.nils] false false→Grow (fun _=>IsPm) H4.nx 2 H5 v p.params→Sb [(0,.ptr b 0),(2,.ptr b2 0),(3,.ptr bX 0)] l''→VA prog [5] gl v65t5 l'' H5 (leftC prog [.cell 2 69] Q):=fun H5 v l'' k5 h5 r5 hG hsb=>
  zxw hp hd hbn hn hb hlow hb2 (by omega) (by omega:bX<H4.nx) k5.nx hpl (kA.trans k5 fun c hc=>by rcases hc with hc|hc|hc;exact .inl hc;exact .inr (by omega);exact .inr (by omega)) h5 hsT (r24.keep k5 (.inl fun hc=>by omega)) r5 (hG.done lawM) hsb fun c H' f1 f2 f3=>hQ c H' f1 (f2.at (by simp only [Jy];rw [hlen0];omega)) f3
 cases hps:p.params with
 |nil=>
  rw [hps] at hsM hfin;obtain ⟨⟨t3,ht3,e3⟩,_⟩:=hsM.hd;have hr4:=h4.row;(repeat' (refine zad rfl ?_;(refine zbh rfl ?_)));refine zbv (fun (_:Unit)=>[(0,.ptr b 0),(2,.ptr b2 0),(3,.ptr bX 0),(4,.bool true)]) (fun _ H'=>H'=H4) (fun _=>0) ?_ () _ H4 ⟨rfl,rfl,rfl,rfl,trivial⟩ rfl;rintro _ H' rfl;(repeat' first|(refine zad rfl ?_;first|((first|refine zaa ?_|refine zav rfl ?_);first|refine zal rfl ?_|refine zaq rfl rfl rfl ?_|refine zfh rfl ?_|refine zar rfl ?_|refine zae FpF.h (by decide) rfl ?_|refine zah PlF.h rfl hr4 rfl ?_|refine zaf rfl rfl rfl (zb6 h4 ht3 (zbc e3 (by decide) [41]) fun H5 k5 h5=>?_)|refine zax rfl rfl (by omega) ?_)|refine zab ?_)|refine zac ?_|refine zaj ?_);refine zag rfl (zbq ?_);exact hfin H5 .nils _ (k5.wide fun c hc=>.inl hc) h5 (rX4.keep k5 (.inl hbX3)) .nil ⟨rfl,rfl,rfl,trivial⟩
 |cons y ys=>
  have hall:=hp.params;rw [hps] at hsM hfin hall;rw [zm3] at hsM;have hsM':Seg l (k+1+1+1) (wdT y.type::y.name::(wdMs ys 1++[[41]])):=hsM;(repeat' (refine zad rfl ?_;(refine zbh rfl ?_)));refine zbv (fun (a:Bool×AV×List Prm×List Prm×Nat)=>[(0,.ptr b 0),(2,.ptr b2 0),(3,.ptr bX 0),(4,.bool a.1)])
   (fun a H'=>Keep (fun c=>c=b∨c=bX∨H4.nx≤c) H4 H'∧PI H' b u l a.2.2.2.2∧IsRow H' bX [S p.name,a.2.1,.int .i64 0,.nils] false false∧Grow (fun _=>IsPm) H4.nx 2 H' a.2.1 a.2.2.1∧a.2.2.1.length≤a.2.2.2.2∧a.2.2.1++a.2.2.2.1=y::ys∧∃z zs,a.2.2.2.1=z::zs∧Seg l a.2.2.2.2 (wdT z.type::z.name::(wdMs zs 1++[[41]]))∧a.2.2.2.2+(wdMs zs 1).length=k+1+1+1+(wdMs ys 1).length) (fun a=>a.2.2.2.1.length) ?_ (true,.nils,[],y::ys,k+1+1+1) _ H4 ⟨rfl,rfl,rfl,rfl,trivial⟩ ⟨.refl _ _,h4,rX4,.nil,Nat.zero_le _,rfl,y,ys,rfl,hsM',rfl⟩
  rintro ⟨first,v,done,rest,k'⟩ H5 ⟨k5,h5,r5,hG,hlen,hsum,z,zs,hrest,hseg,hend⟩;have h5:PI H5 b u l k':=h5;have r5:IsRow H5 bX [S p.name,v,.int .i64 0,.nils] false false:=r5;have hG:Grow (fun _=>IsPm) H4.nx 2 H5 v done:=hG;have hlen:done.length≤k':=hlen;have hsum:done++rest=y::ys:=hsum;have hrest:rest=z::zs:=hrest;have hseg:Seg l k' (wdT z.type::z.name::(wdMs zs 1++[[41]])):=hseg;have hend:k'+(wdMs zs 1).length=k+1+1+1+(wdMs ys 1).length:=hend;subst hrest;obtain ⟨hzT,hzn⟩:=hall z (by rw [←hsum];simp);obtain ⟨⟨t5,ht5,e5⟩,_⟩:=hseg.hd;have i41:isB t5.1 [41]=false:=by
   have hk:=zn4 hzT;rw [zbk e5 hk,decide_eq_false_iff_not];unfold wdT;split<;>decide
  have hbody:∀(H6:Heap) (l':Fm) (P:Ex→Fm→Heap→Prop),Keep Non H5 H6→PI H6 b u l k'→Sb [(0,.ptr b 0),(2,.ptr b2 0),(3,.ptr bX 0)] l'→
    (∀z' zs',zs=z'::zs'→∀v' H' l'',Keep (fun c=>c=b∨c=bX∨H4.nx≤c) H4 H'→PI H' b u l (k'+3)→IsRow H' bX [S p.name,v',.int .i64 0,.nils] false false→Grow (fun _=>IsPm) H4.nx 2 H' v' (done++[z])→Sb [(0,.ptr b 0),(2,.ptr b2 0),(3,.ptr bX 0)] l''→P .normal l'' H')→
    (zs=[]→∀v' H' l'',Keep (fun c=>c=b∨c=bX∨H4.nx≤c) H4 H'→PI H' b u l (k'+3)→IsRow H' bX [S p.name,v',.int .i64 0,.nils] false false→Grow (fun _=>IsPm) H4.nx 2 H' v' (done++[z])→Sb [(0,.ptr b 0),(2,.ptr b2 0),(3,.ptr bX 0)] l''→P (.exit 0) l'' H')→
    VA prog [5] gl v65k0 l' H6 P:=fun H6 l' P k6 h6 hsb q1 q2=>
   prm_body h6 hseg hzT hzn (by omega) (by omega:bX<H4.nx) (fun a ha=>by have:=hlow a ha;omega) (fun a ha=>by have:=hlow a ha;omega) (by omega) (by have:=k5.nx;have:=k6.nx;omega) hlen (r5.keep0 k6) (hG.keep lawM k6 fun _ _ h=>h) hsb
    (fun z' zs' e v' H' l'' f1=>q1 z' zs' e v' H' l'' ((k5.trans k6 fun _ h=>h.elim).trans f1 fun c hc=>.inl hc)) fun e v' H' l'' f1=>q2 e v' H' l'' ((k5.trans k6 fun _ h=>h.elim).trans f1 fun c hc=>.inl hc)
  have hr5:=h5.row;have hdone:∀(H':Heap) (v':AV) (l'':Fm),zs=[]→Keep (fun c=>c=b∨c=bX∨H4.nx≤c) H4 H'→PI H' b u l (k'+3)→IsRow H' bX [S p.name,v',.int .i64 0,.nils] false false→Grow (fun _=>IsPm) H4.nx 2 H' v' (done++[z])→Sb [(0,.ptr b 0),(2,.ptr b2 0),(3,.ptr bX 0)] l''→VA prog [5] gl v65t5 l'' H' (leftC prog [.cell 2 69] Q):=fun H' v' l'' hz f1 f2 f3 f4 f5=>by
   subst hz;rw [hsum] at f4;refine hfin H' v' l'' f1 (f2.at ?_) f3 f4 f5;rw [zm3];simp only [J1,Jy,J9,wdMs] at hend ⊢;omega
  have hmore:∀(H':Heap) (v':AV) (l'':Fm) (z':Prm) (zs':List Prm),zs=z'::zs'→PI H' b u l (k'+3)→Seg l (k'+3) (wdT z'.type::z'.name::(wdMs zs' 1++[[41]]))∧k'+3+(wdMs zs' 1).length=k+1+1+1+(wdMs ys 1).length:=fun H' v' l'' z' zs' hz f2=>by
   subst hz;rw [zm4] at hseg hend;refine ⟨(hseg.hd.2.hd.2.hd.2:Seg l (k'+1+1+1) _),?_⟩;simp only [Jy] at hend;omega
  have hl3:(done++[z]).length≤k'+3:=by simp only [J1,Jy,J9];omega
  have hs3:(done++[z])++zs=y::ys:=by rw [←hsum];simp
  have hmea:zs.length<(z::zs).length:=by simp
  cases first
  ·(repeat' first|(refine zad rfl ?_;first|refine zbh rfl ?_|((first|refine zaa ?_|refine zav rfl ?_);first|refine zal rfl ?_|refine zaq rfl rfl rfl ?_|refine za0 rfl rfl ?_|refine zfh rfl ?_|refine zar rfl ?_|refine zae FpF.h (by decide) rfl ?_|refine zah PlF.h rfl hr5 rfl ?_|refine zax rfl rfl (by omega) ?_)|refine zab ?_)|refine zac ?_|refine zaj ?_);refine zai rfl (zam ?_);refine zaj (zau ?_);refine hbody H5 _ _ (.refl _ _) h5 ⟨rfl,rfl,rfl,trivial⟩ (fun z' zs' hz v' H' l'' f1 f2 f3 f4 f5=>?_) fun hz v' H' l'' f1 f2 f3 f4 f5=>hdone H' v' l'' hz f1 f2 f3 f4 f5;obtain ⟨m1,m2⟩:=hmore H' v' l'' z' zs' hz f2;refine VA.sub f5 ?_;(repeat' first|(refine zad rfl ?_;(refine zab ?_))|refine za1 ?_);exact ⟨(false,v',done++[z],zs,k'+3),hmea,⟨rfl,rfl,rfl,rfl,trivial⟩,f1,f2,f3,f4,hl3,hs3,z',zs',hz,m1,m2⟩
  ·(repeat' first|(refine zad rfl ?_;first|((first|refine zaa ?_|refine zav rfl ?_);first|refine zal rfl ?_|refine zaq rfl rfl rfl ?_|refine zfh rfl ?_|refine zar rfl ?_|refine zae FpF.h (by decide) rfl ?_|refine zah PlF.h rfl hr5 rfl ?_|refine zaf rfl rfl rfl (zbm h5 ht5 i41 fun H6 k6 h6=>?_)|refine zax rfl rfl (by omega) ?_)|refine zab ?_)|refine zac ?_|refine zaj ?_);refine zai rfl (zam ?_);refine zaj (zau ?_);refine hbody H6 _ _ k6 h6 ⟨rfl,rfl,rfl,trivial⟩ (fun z' zs' hz v' H' l'' f1 f2 f3 f4 f5=>?_) fun hz v' H' l'' f1 f2 f3 f4 f5=>hdone H' v' l'' hz f1 f2 f3 f4 f5;obtain ⟨m1,m2⟩:=hmore H' v' l'' z' zs' hz f2;refine VA.sub f5 ?_;(repeat' first|(refine zad rfl ?_;(refine zab ?_))|refine za1 ?_);exact ⟨(false,v',done++[z],zs,k'+3),hmea,⟨rfl,rfl,rfl,rfl,trivial⟩,f1,f2,f3,f4,hl3,hs3,z',zs',hz,m1,m2⟩
end
instance ize_24:ZeF prog 24 (.agg [.nils]):=⟨by kernel_rfl⟩
instance ibs_24:BsF prog 24:=⟨by kernel_rfl⟩
instance ips_24:PsF prog 24 [(0,1)]:=⟨by kernel_rfl⟩
instance ize_159:ZeF prog 159 (.agg [.nils,.int .i64 0,.int .i64 0,.int .i64 0]):=⟨by kernel_rfl⟩
instance ibs_159:BsF prog 159:=⟨by kernel_rfl⟩
instance ips_159:PsF prog 159 [(0,1),(1,1),(2,1),(3,1)]:=⟨by kernel_rfl⟩
instance isz_22:SzF prog 22 1:=⟨by kernel_rfl⟩
instance ipl_24:PlF prog 24 ⟨0,true,1⟩:=⟨by kernel_rfl⟩
def v23c0:CV:=Jt [Jc 11 (.build 24 #[]),.op none (.store 24 (Ja 2) (Ja 11)),Ji 3 0,Ji 4 32] (.ret)
def v23h1:CV:=Jt [Jd 8 0,Jn 9 63 8 33,Jc 10 (.unOp .not 4 (Ja 9))] (.cond (Ja 10) v23c0 (.skip))
def v23l1h0:CV:=Jt [Jd 16 5,Jm 17 16,Jg 18 159 17 2,Jf 19 28 18,Jc 20 (.binOp .eql 28 (Ja 19) (Jb 0) 28),Jd 21 20,Jp 21 true 22 5,Js 21 true 23 (.call ⟨.value (.func 64),#[(Ja 22),(Jb 0)],#[157,3]⟩),Js 21 true 24 (.unOp .not 4 (Ja 23)),Jc 25 (.pick (Ja 21) (Ja 24) (.const (.bool false)))] (.cond (Ja 25) (.skip) (.exit 0))
def v23k0:CV:=Jt [Jd 26 5,Jn 27 65 26 157,Jc 7 (.alloc 69),.op none (.store 69 (Ja 7) (Ja 27))] (.reg [Jg 28 24 6 0,Jf 29 22 28,Jf 30 69 7,Jc 31 (.buildSlice 22 1 #[(0,(Ja 30))]),Jc 32 (.call ⟨.builtin .append,#[(Ja 29),(Ja 31)],#[22,22]⟩),Jg 33 24 6 0,.op none (.store 22 (Ja 33) (Ja 32))])
def v23l1:CV:=.seq v23l1h0 (.block 1 v23k0)
def v23c2:CV:=Jt [Jc 39 (.build 24 #[]),Jd 40 5,Jm 41 40,Jg 42 159 41 3,Jf 43 3 42,Jd 44 5,Jm 45 44,Jg 46 159 45 2,Jf 47 28 46,.op none (.store 24 (Ja 2) (Ja 39)),.ck 43 (.load 3 (Ja 42)),.ck 47 (.load 28 (Ja 46)),Jh 3 43,Jh 4 47] (.ret)
def v23h5:CV:=Jt [Jd 34 5,Jm 35 34,Jg 36 159 35 2,Jf 37 28 36,Jc 38 (.binOp .neq 28 (Ja 37) (Jb 0) 28)] (.cond (Ja 38) v23c2 (.skip))
def v23t6:CV:=Jt [Jf 48 24 6,.op none (.store 24 (Ja 2) (Ja 48)),Ji 3 0,Ji 4 0] (.ret)
def v23t5:CV:=.seq v23h5 v23t6
def v23t4:CV:=.seq (.block 0 (.loop v23l1)) v23t5
def v23t3:CV:=Jt [Jc 15 (.build 24 #[]),Jc 6 (.alloc 24),.op none (.store 24 (Ja 6) (Ja 15))] v23t4
def v23t2:CV:=Jt [Jd 12 0,Jc 13 (.build 159 #[(0,(Ja 12))]),Jc 14 (.box 159 (Ja 13)),Jh 5 14] v23t3
def v23t1:CV:=.seq v23h1 v23t2
def v23:CV:=Jt [Jc 2 (.alloc 24),Ji 3 0,Ji 4 0] v23t1
noncomputable def b23:Code:=f23.body.getD .skip
theorem b23_eq:f23.body=some b23:=by kernel_rfl
theorem v23_eq:viewC prog b23=some v23:=by kernel_rfl
theorem r23_eq:f23.results.toList=[.cell 2 24,.tmp 3,.tmp 4]:=by kernel_rfl
def v8c0:CV:=Jt [Jc 16 (.build 24 #[]),Jd 17 6,Jd 18 7,.op none (.store 24 (Ja 2) (Ja 16)),Jh 3 17,Jh 4 18] (.ret)
def v8h2:CV:=Jt [Jd 14 7,Jc 15 (.binOp .neq 28 (Ja 14) (Jb 0) 28)] (.cond (Ja 15) v8c0 (.skip))
def v8t3:CV:=Jt [Jd 19 5,Jn 20 23 19 33,Jl 21 20 0,Jl 22 20 1,Jl 23 20 2,.op none (.store 24 (Ja 2) (Ja 21)),Jh 3 22,Jh 4 23] (.ret)
def v8t2:CV:=.seq v8h2 v8t3
def v8t1:CV:=Jt [Jd 9 0,Jn 10 7 9 9,Jd 8 10,Jl 11 8 0,Jl 12 8 1,Jl 13 8 2,Jh 5 11,Jh 6 12,Jh 7 13] v8t2
def v8:CV:=Jt [Jc 2 (.alloc 24),Ji 3 0,Ji 4 0] v8t1
noncomputable def b8:Code:=f8.body.getD .skip
theorem b8_eq:f8.body=some b8:=by kernel_rfl
theorem v8_eq:viewC prog b8=some v8:=by kernel_rfl
theorem r8_eq:f8.results.toList=[.cell 2 24,.tmp 3,.tmp 4]:=by kernel_rfl
theorem left3 {b o z:Nat}{t:TypeId}{s p q:Tmp}{cs:List AV}{tl ro:Bool}{w x:AV}{H:Heap}{l:Fm}{Q:AV→Heap→Prop}(hp:plcOf prog t 0=some ⟨o,true,z⟩) (hx:lk s l=some (.ptr b 0)) (hr:IsRow H b cs tl ro) (hz:cs.length=z) (hu:lk p l=some w) (hv:lk q l=some x) (r:Q (.tup [.agg cs,w,x]) H):
  leftC prog [.cell s t,.tmp p,.tmp q] Q .ret l H:=by
 refine ⟨[.agg cs,w,x],fun T hT=>?_,r⟩;obtain ⟨_,tr,hB,hT'⟩:=hr;have ht:takeC tr 0 z=some cs:=zd9 _ _ _ hz fun j hj=>by
  rw [hT' _ (by omega),Nat.zero_add]
 simp only [resL,resV,hT s _ hx,hp,loadR,hB,cond_true,ht,hT p _ hu,hT q _ hv]
theorem own_form {H:Heap}{v:AV}{es n:Nat}{cs:List AV}(h:Own H v es n cs):v=.nils∨∃b o n e,v=.so b o n e:=by
 obtain ⟨_,_,⟨h,_⟩|⟨b,row,h,_⟩⟩:=h
 ·exact .inl h
 ·exact .inr ⟨_,_,_,_,h⟩
theorem zzi (x:Prc) (l:List Prc):wdPs (x::l)=wdP x++wdPs l:=rfl
theorem zr1 {y:Prc}:∀{r:List Prc},y∈r→dpSs y.body 1≤dpPs r
 |[],h=>by cases h
 |z::r,h=>by
  simp only [dpPs];rcases List.mem_cons.1 h with rfl|h
  ·omega
  ·have:=zr1 h;omega
theorem wdP_pos (p:Prc):0<(wdP p).length:=by rw [zzh];simp
section
variable {gl:List (List AV)}{H H' H'':Heap}{u v w:AV}{b k n0 d N:Nat}{l:List (Tok×Int)}{Q:AV→Heap→Prop}
theorem pread_ok {p:List Prc}(hl:l.map (·.1)=(wdPs p).map tokW++[⟨0,[],0⟩]) (hR:∀x∈p,RP x) (hd:dpPs p≤60) (hv:OwnTk H u l) (hn:l.length<100000) (hN0:n0≤H.nx)
  (hQ:∀c H',Keep Non H H'→IsPg (Frs n0) H' (.agg [c]) p→Q (.tup [.agg [c],.int .i64 0,.int .i64 0]) H'):WpF prog [5] gl 23 [u] H Q:=by
 have hlen:l.length=(wdPs p).length+1:=by
  have:=congrArg List.length hl;simpa using this
 have hget:∀(j:Nat) (t:Tok),((wdPs p).map tokW++[⟨0,[],0⟩])[j]? = some t→∃x,l[j]? = some x∧x.1=t:=by
  intro j t ht;rw [←hl,List.getElem?_map] at ht;cases hx:l[j]? with
  |none=>rw [hx] at ht;cases ht
  |some x=>rw [hx] at ht;injection ht with ht;exact ⟨x,rfl,ht⟩
 have hseg:Seg l 0 (wdPs p):=fun j w hw=>by
  rw [Nat.zero_add];refine hget j _ ?_;rw [List.getElem?_append_left (by have:=(Qb.1 hw).1;simpa using this),List.getElem?_map,hw];rfl
 obtain ⟨te,hte,ete⟩:=hget (wdPs p).length ⟨0,[],0⟩ (by rw [List.getElem?_append_right (by simp)];simp);have hts:∀t∈(wdPs p).map tokW,∃w,IsTok w t:=fun t ht=>by
  obtain ⟨w,hw,rfl⟩:=List.mem_map.1 ht;exact ⟨w,zf1 hR w hw⟩
 have hlow:∀a,ownB u a→a<H.nx:=fun a ha=>Own.lt hv ha;refine faC func23 b23_eq v23_eq r23_eq (.inr (by simp)) ?_;refine zac ?_;obtain ⟨b2,hb2⟩:∃b,b=H.nx:=⟨_,rfl⟩
 refine zaa (za8 ZeF.h fun H1 k1 r2=>?_);rw [←hb2] at r2 ⊢;have g2:=r2.1;(repeat' first|(refine zad rfl ?_;first|(refine zaa ?_;(refine zaf rfl rfl rfl (Right_ok hl hts hn (hv.keep0 k1).sl fun H2 k2=>?_)))|refine zab ?_)|refine zag rfl ?_|refine zac ?_|refine zaj ?_|refine zam ?_);refine zad rfl ?_;refine zaa (zba (vs:=[u,.int .i64 0,.int .i64 0,.int .i64 0]) BsF.h ZeF.h PsF.h (by rcases own_form hv with rfl|⟨_,_,_,_,rfl⟩<;>rfl) ?_);refine zad rfl ?_;obtain ⟨b,hb⟩:∃b,b=H2.nx:=⟨_,rfl⟩
 refine zaa (zcy rfl fun H3 k3 r3=>?_);rw [←hb] at r3 ⊢;have r3:IsRow H3 b [u,.int .i64 ((0:Nat):Int),.int .i64 0,.int .i64 0] false false:=r3;have g3:=r3.1;have n1:=k1.nx;have n2:=k2.nx;have n3:=k3.nx;have kA:Keep Non H H3:=(k1.trans0 k2).trans0 k3;have h3:PI H3 b u l 0:=⟨r3,hv.keep0 kA,fun e=>by have:=hlow b e;omega,hn⟩
 have r23:=(r2.keep0 k2).keep0 k3;refine zad rfl ?_;refine zab (zac ?_);refine zad rfl ?_;refine zaa (zba BsF.h ZeF.h PsF.h rfl ?_);refine zad rfl ?_;obtain ⟨bX,hbX⟩:∃b,b=H3.nx:=⟨_,rfl⟩
 refine zaa (za8 ZeF.h fun HaX haX raX=>?_);rw [←hbX] at raX ⊢;refine zad rfl ?_;refine zaa (zan (k:=1) SzF.h rfl rfl rfl rfl raX rfl fun HX hsX hnX rX=>?_);have kX:Keep Non H3 HX:=zb3 haX hsX (by rw [hbX];exact Jz _);have gX:=rX.1;have nX:=kX.nx;have h4:=h3.keep0 kX;have r24:=r23.keep0 kX;have hbX3:¬bX=b:=by omega
 have hb2':¬b2=b:=by omega
 have kB:Keep Non H HX:=kA.trans0 kX;have nB:=kB.nx;(repeat' first|(refine zad rfl ?_;(refine zab ?_))|refine zaj ?_|refine zau ?_);refine zbv (fun (a:AV×List Prc×List Prc×Nat)=>[(2,.ptr b2 0),(5,.ptr b 0),(6,.ptr bX 0)])
  (fun a H'=>Keep Non H H'∧HX.nx≤H'.nx∧PI H' b u l a.2.2.2∧IsRow H' bX [a.1] false false∧IsRow H' b2 [.nils] false false∧Grow IsPc HX.nx 4 H' a.1 a.2.1∧a.2.1.length≤a.2.2.2∧a.2.1++a.2.2.1=p∧Seg l a.2.2.2 (wdPs a.2.2.1)∧a.2.2.2+(wdPs a.2.2.1).length=(wdPs p).length) (fun a=>a.2.2.1.length) ?_ (.nils,[],p,0) _ HX ⟨rfl,rfl,rfl,trivial⟩ ⟨kB,Jz _,h4,rX,r24,.nil,Nat.zero_le _,rfl,hseg,by show 0+(wdPs p).length=(wdPs p).length;omega⟩
 rintro ⟨v,done,rest,k'⟩ H5 ⟨k5,n5,h5,r5,r25,hG,hdl,hsum,hsg,hend⟩;have h5:PI H5 b u l k':=h5;have r5:IsRow H5 bX [v] false false:=r5;have hG:Grow IsPc HX.nx 4 H5 v done:=hG;have hdl:done.length≤k':=hdl;have hsum:done++rest=p:=hsum;have hsg:Seg l k' (wdPs rest):=hsg;have hend:k'+(wdPs rest).length=(wdPs p).length:=hend;have hr5:=h5.row;cases rest with
 |nil=>
  have hk':k'=(wdPs p).length:=by rw [←hend];rfl
  have hp':done=p:=by rw [←hsum,List.append_nil]
  rw [←hk'] at hte;(repeat' first|(refine zad rfl ?_;first|((first|refine zaa ?_|refine zav rfl ?_);first|refine zal rfl ?_|refine zaq rfl rfl rfl ?_|refine zfh rfl ?_|refine zar rfl ?_|refine zae FpF.h (by decide) rfl ?_|refine zah PlF.h rfl hr5 rfl ?_|refine zaf rfl rfl rfl (zek h5 hte 0 ?_)|refine zax rfl rfl (by omega) ?_)|refine zab ?_)|refine zac ?_|refine zaj ?_);rw [Qg (show te.1.kind=0 by rw [ete])];(repeat' first|(refine zad rfl ?_;first|(refine zaa ?_;first|refine zar rfl ?_|refine zae FpF.h (by decide) rfl ?_|refine zah PlF.h rfl hr5 rfl ?_|refine zat (k:=1) PlF.h rfl (by decide) rfl r5.pts ?_|refine zc9 rfl rfl (by omega) ?_)|refine zab ?_)|refine zag rfl ?_|refine zac ?_|refine zaj ?_|refine zam ?_|refine zbq ?_);refine zaa (zan (k:=1) SzF.h rfl rfl rfl (zdq fun a ha=>by rw [List.mem_singleton.1 ha];exact hG.scal) r25 rfl fun H6 k6 hn6 r6=>?_);(repeat' (refine zad rfl ?_;(refine zab ?_)));refine zao (left3 PlF.h rfl r6 rfl rfl rfl ?_);have hpl:p.length≤rB:=by
   have hrB:rB=140737488351232:=rfl;rw [←hp'];omega
  refine hQ _ _ (zb3 k5 k6 (by omega)) ⟨hpl,_,rfl,?_⟩;have hD:=(hG.keep lawC k6 fun c hc e=>by omega).done lawC;rw [hp'] at hD;exact zcl hD (fun c hc _=>by have hc:HX.nx≤c:=hc;show n0≤c;omega) fun c a _ h=>zqp h fun c hc _=>by have hc:HX.nx≤c:=hc;show n0≤c;omega
 |cons y ys=>
  rw [zzi] at hsg hend;obtain ⟨hsy,hsr⟩:=hsg.app;obtain ⟨t0,ht0,e0⟩:=hsy 0 [112,114,111,99] (by rw [zzh];rfl);have hk0:¬t0.1.kind=0:=by rw [e0,zdb _ (by decide)];decide
  have hpos:=wdP_pos y;rw [J1] at hend;(repeat' first|(refine zad rfl ?_;first|((first|refine zaa ?_|refine zav rfl ?_);first|refine zal rfl ?_|refine zaq rfl rfl rfl ?_|refine zfh rfl ?_|refine zar rfl ?_|refine zae FpF.h (by decide) rfl ?_|refine zah PlF.h rfl hr5 rfl ?_|refine zaf rfl rfl rfl (zek h5 ht0 0 ?_)|refine zax rfl rfl (by omega) ?_)|refine zab ?_)|refine zac ?_|refine zaj ?_);rw [Qf hk0];(repeat' first|(refine zad rfl ?_;(refine zaa ?_;(refine zaf rfl rfl rfl (pproc_ok (hR y (by rw [←hsum];simp)) H5.nx k' H5 _ (by omega) h5 (Jz _) hsy (Nat.le_trans (zr1 (by rw [←hsum];simp)) hd) fun c H6 k6 h6 hI=>?_))))|refine zai rfl ?_|refine zac ?_|refine zau ?_|refine zam ?_);have hsc:=zgg hI;have hI0:=hI;obtain ⟨v1,v2,rfl,_⟩:=id hI;have n6:=k6.nx;refine zad rfl ?_;obtain ⟨bY,hbY⟩:∃b,b=H6.nx:=⟨_,rfl⟩
  refine zaa (za8 ZeF.h fun HaY haY raY=>?_);rw [←hbY] at raY ⊢;refine zad rfl ?_;refine zaa (zan (k:=4) SzF.h rfl rfl rfl hsc raY rfl fun HY hsY hnY rY=>?_);have kY:Keep Non H6 HY:=zb3 haY hsY (by rw [hbY];exact Jz _);have nY:=kY.nx;have r5':=(r5.keep k6 (.inl hbX3)).keep0 kY;(repeat' first|(refine zad rfl ?_;first|(refine zaa ?_;first|refine zae FpF.h (by decide) rfl ?_|refine zah PlF.h rfl r5' rfl ?_|refine zat (k:=4) PlF.h rfl (by decide) rfl rY.pts ?_)|refine zab ?_)|refine za1 ?_);refine zaa (zap (n:=1) ElF.h (by decide) rfl rfl fun H7 k7 r7=>?_);refine zad rfl ?_;have h7:=(h6.keep0 kY).keep0 k7;have hG7:=((hG.keep lawC k6 fun c hc e=>by omega).keep lawC kY fun _ _ h=>h).keep lawC k7 fun _ _ h=>h;have n7:=k7.nx;refine zaa (zn1 (z:=4) (n1:=H5.nx) lawC rfl rfl rfl ElF.h rfl (.inl UnF.h) rfl hG7 rfl r7 rfl hsc ((hI0.keep kY).keep k7) n5 (fun c hc=>hG.lt hc) (show done.length+1<1000000 by omega) (by omega) fun v8 H8 hG8 k8=>?_);have n8:=k8.nx;have h8:=h7.grow hG7 k8 (by omega) fun a ha=>by have:=hlow a ha;omega
  have r58:=(r5'.keep0 k7).keep k8 (.inl fun e=>by have:=hG7.low bX e;omega);have r28:=(((r25.keep k6 (.inl hb2')).keep0 kY).keep0 k7).keep k8 (.inl fun e=>by have:=hG7.low b2 e;omega);(repeat' (refine zad rfl ?_;(refine zaa ?_;(refine zae FpF.h (by decide) rfl ?_))));refine zaa (zbu SzF.h rfl rfl hG8.scal r58 (show 0+0<1 by decide) fun H9 k9 hn9 r9=>?_);have r9:IsRow H9 bX [v8] false false:=r9;have hbXb:b≠bX:=fun e=>hbX3 e.symm;refine zab ⟨(v8,done++[y],ys,k'+(wdP y).length),?_,⟨rfl,rfl,rfl,trivial⟩,?_,by omega,h8.st k9 hbXb fun a ha=>by have:=hlow a ha;omega,r9,r28.keep k9 (.inl (by show ¬b2=bX;omega)),hG8.keep lawC k9 fun c hc e=>by omega,?_,?_,hsr,?_⟩
  ·show ys.length<(y::ys).length;simp only [Jy];omega
  ·have e1:Keep Non H H6:=(k5.trans k6 fun c hc=>.inr (by omega)).wide fun _ h=>h;exact zb3 (((e1.trans0 kY).trans0 k7).trans k8 fun c hc=>.inr (by have:=hG7.low c hc;omega)) k9 (by omega)
  ·show (done++[y]).length≤k'+(wdP y).length;simp only [J1,Jy,J9];omega
  ·show (done++[y])++ys=p;rw [←hsum];simp
  ·show k'+(wdP y).length+(wdPs ys).length=(wdPs p).length;omega
theorem zpt {p:List Prc}{g0:List UInt8}{ws:List (List UInt8×List UInt8)}(hg0:Gap g0) (hws:ws.map (·.1)=wdPs p) (hgs:Gaps ws) (hs:(g0++rsW ws).length<450000) (hR:∀x∈p,RP x) (hd:dpPs p≤60)
  (hno:¬((g0++rsW ws).length≤16384∧ws.length<4000)→∀a H',Keep Non H H'→Q (.tup [.agg [.nils],.int .i64 a,.int .i64 2]) H')
  (hyes:(g0++rsW ws).length≤16384∧ws.length<4000→∀c H',Keep Non H H'→Eng.scal c=true→IsPg (Frs H.nx) H' (.agg [c]) p→Q (.tup [.agg [c],.int .i64 0,.int .i64 0]) H'):WpF prog [5] gl 8 [S (g0++rsW ws)] H Q:=by
 have hw:=ws_ok hgs (by rw [hws];exact zf1 hR);refine faC func8 b8_eq v8_eq r8_eq (.inr (by simp)) ?_;refine zac ?_;obtain ⟨b2,hb2⟩:∃b,b=H.nx:=⟨_,rfl⟩
 refine zaa (za8 ZeF.h fun H1 k1 r2=>?_);rw [←hb2] at r2 ⊢;have g2:=r2.1;have n1:=k1.nx;refine zad rfl ?_;refine zab (zac ?_);refine zad rfl ?_;refine zaa (zaf rfl rfl rfl (zu8 hg0 hw hs (fun hc a H2 k2=>?_) fun hc u l H2 k2 hl hu hf=>?_))
 ·(repeat' first|(refine zad rfl ?_;first|(refine zaa ?_;(refine zfy rfl rfl (by omega) ?_))|refine zab ?_)|refine zai rfl ?_|refine zac ?_|refine zaj ?_);refine zad rfl ?_;refine zaa (zba BsF.h ZeF.h PsF.h rfl ?_);refine zad rfl ?_;refine zaa (zan (k:=1) SzF.h rfl rfl rfl rfl (r2.keep0 k2) rfl fun H3 k3 hn3 r3=>?_);(repeat' (refine zad rfl ?_;(refine zab ?_)));refine zao (left3 PlF.h rfl r3 rfl rfl rfl ?_);exact hno hc _ _ (zb3 (k1.trans0 k2) k3 (by omega))
 ·have hlen:l.length<100000:=by
   have:=congrArg List.length hl;simp only [List.length_map,J1,Jy,J9] at this;omega
  have n2:=k2.nx;have hl':l.map (·.1)=(wdPs p).map tokW++[⟨0,[],0⟩]:=by
   rw [hl,←hws,List.map_map];rfl
  (repeat' first|(refine zad rfl ?_;first|(refine zaa ?_;first|refine zaf rfl rfl rfl (pread_ok (n0:=H2.nx) hl' hR hd hu hlen (Jz _) fun c H3 k3 hI=>?_)|refine zc9 rfl rfl (by omega) ?_)|refine zab ?_)|refine zag rfl ?_|refine zac ?_|refine zaj ?_|refine zam ?_);have hc':Eng.scal c=true:=by
   obtain ⟨_,x,hx,hL⟩:=hI;injection hx with hx
   injection hx with hx _
   rw [hx];exact zb2 hL
  have n3:=k3.nx;have hscc:scalL [c]=true:=zdq fun a ha=>by rw [List.mem_singleton.1 ha];exact hc'
  refine zad rfl ?_;refine zaa (zan (k:=1) SzF.h rfl rfl rfl hscc ((r2.keep0 k2).keep0 k3) rfl fun H4 k4 hn4 r4=>?_);(repeat' (refine zad rfl ?_;(refine zab ?_)));refine zao (left3 PlF.h rfl r4 rfl rfl rfl ?_);refine hyes hc _ _ (zb3 ((k1.trans0 k2).trans0 k3) k4 (by omega)) hc' ?_;obtain ⟨i1,x,i2,hL⟩:=hI.keepS k4 fun c hc e=>by have hc:H2.nx≤c:=hc;omega
  exact ⟨i1,x,i2,zcl hL (fun c hc _=>by have hc:H2.nx≤c:=hc;show H.nx≤c;omega) fun c a _ h=>zqp h fun c hc _=>by have hc:H2.nx≤c:=hc;show H.nx≤c;omega⟩
end
end Go.Proofs.YtniflgldgnmiaaaGreatDoor
