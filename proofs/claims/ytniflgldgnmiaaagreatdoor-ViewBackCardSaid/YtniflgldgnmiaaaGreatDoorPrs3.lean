/-
  The document's parser of expressions (parallaxref03.In: expr, tight, one), walked along a right expression's words. Conditions: the words stand at hand, and a stop behind them.
-/
import Derived.Test.YtniflgldgnmiaaaGreatDoorPrs1
import Derived.Test.YtniflgldgnmiaaaGreatDoorShow
namespace Go.Proofs.YtniflgldgnmiaaaGreatDoor
open Go Eng Tryz
set_option maxHeartbeats 0
instance ibs_165:BsF prog 165:=⟨by kernel_rfl⟩
instance ips_165:PsF prog 165 [(0,1),(1,1),(2,1),(3,1)]:=⟨by kernel_rfl⟩
def v252t2:CV:=Jt [Jd 10 0,Jd 11 1,Jc 12 (.call ⟨.value (.func 279),#[(Ja 10),(Jb 1),(Ja 11)],#[157,3,3]⟩),.op none (.store 165 (Ja 4) (Ja 12))] (.ret)
def v252t1:CV:=Jt [Jd 5 0,Jd 6 0,Jn 7 278 6 157,Jd 8 1,Jc 9 (.call ⟨.value (.func 216),#[(Ja 5),(Ja 7),(Ja 8)],#[157,4,3]⟩)] v252t2
def v252:CV:=Jt [Jc 4 (.alloc 165)] v252t1
noncomputable def b252:Code:=f252.body.getD .skip
theorem b252_eq:f252.body=some b252:=by kernel_rfl
theorem v252_eq:viewC prog b252=some v252:=by kernel_rfl
theorem r252_eq:f252.results.toList=[.cell 4 165]:=by kernel_rfl
def v279l0h0:CV:=Jt [Jd 15 0,Jm 16 15,Jg 17 159 16 2,Jf 18 28 17,Jc 19 (.binOp .eql 28 (Ja 18) (Jb 0) 28),Jd 20 19,Jp 20 true 21 0,Js 20 true 22 (.nilCheck (Ja 21)),Jq 20 true 23 159 22 0,Jr 20 true 24 33 23,Jp 20 true 25 0,Js 20 true 26 (.nilCheck (Ja 25)),Jq 20 true 27 159 26 1,Jr 20 true 28 3 27,Js 20 true 29 (.indexAddr 33 (Ja 24) (Ja 28)),Jq 20 true 30 76 29 0,Jr 20 true 31 3 30,Js 20 true 32 (.binOp .eql 3 (Ja 31) (Jb 4) 3),Jc 33 (.pick (Ja 20) (Ja 32) (.const (.bool false)))] (.cond (Ja 33) (.skip) (.exit 0))
def v279c1:CV:=Jt [Jf 59 165 7,.op none (.store 165 (Ja 6) (Ja 59))] (.ret)
def v279k0h2:CV:=Jt [Jd 47 10,Jc 48 (.binOp .eql 3 (Ja 47) (Jb 0) 3),Jd 49 48,Jp 49 false 50 10,Jp 49 false 51 1,Js 49 false 52 (.binOp .lss 3 (Ja 50) (Ja 51) 3),Jc 53 (.pick (Ja 49) (.const (.bool true)) (Ja 52)),Jd 54 53,Jp 54 false 55 10,Jp 54 false 56 8,Js 54 false 57 (.binOp .gtr 3 (Ja 55) (Ja 56) 3),Jc 58 (.pick (Ja 54) (.const (.bool true)) (Ja 57))] (.cond (Ja 58) v279c1 (.skip))
def v279k0t7:CV:=Jt [Jd 78 10,Jc 79 (.binOp .eql 3 (Ja 78) (Jb 3) 3)] (.cond (Ja 79) (.reg [Ji 8 2]) (.skip))
def v279k0t6:CV:=Jt [Jd 77 10,Jh 8 77] v279k0t7
def v279k0t5:CV:=Jt [Jd 72 9,Jf 73 165 7,Jf 74 165 11,Jc 75 (.buildSlice 146 2 #[(0,(Ja 73)),(1,(Ja 74))]),Jc 76 (.build 165 #[(0,(Jb 6)),(1,(Ja 72)),(3,(Ja 75))]),.op none (.store 165 (Ja 7) (Ja 76))] v279k0t6
def v279k0t4:CV:=Jt [Jd 67 0,Jd 68 10,Jc 69 (.binOp .add 3 (Ja 68) (Jb 1) 3),Jd 70 2,Jc 71 (.call ⟨.value (.func 279),#[(Ja 67),(Ja 69),(Ja 70)],#[157,3,3]⟩),Jc 11 (.alloc 165),.op none (.store 165 (Ja 11) (Ja 71))] v279k0t5
def v279k0t3:CV:=Jt [Jd 60 0,Jm 61 60,Jg 62 159 61 1,Jf 63 3 62,Jc 64 (.binOp .add 3 (Ja 63) (Jb 1) 3),Jm 65 60,Jg 66 159 65 1,.op none (.store 3 (Ja 66) (Ja 64))] v279k0t4
def v279k0t2:CV:=.seq v279k0h2 v279k0t3
def v279k0t1:CV:=Jt [Jd 45 9,Jn 46 293 45 9,Jh 10 46] v279k0t2
def v279k0:CV:=Jt [Jd 34 0,Jm 35 34,Jg 36 159 35 0,Jf 37 33 36,Jd 38 0,Jm 39 38,Jg 40 159 39 1,Jf 41 3 40,Jk 42 33 37 41,Jg 43 76 42 1,Jf 44 9 43,Jh 9 44] v279k0t1
def v279l0:CV:=.seq v279l0h0 (.block 1 v279k0)
def v279t4:CV:=Jt [Jf 80 165 7,.op none (.store 165 (Ja 6) (Ja 80))] (.ret)
def v279t3:CV:=.seq (.block 0 (.loop v279l0)) v279t4
def v279t2:CV:=Jt [Ji 8 5] v279t3
def v279t1:CV:=Jt [Jd 12 0,Jd 13 2,Jo 14 292 12 13 157 3,Jc 7 (.alloc 165),.op none (.store 165 (Ja 7) (Ja 14))] v279t2
def v279:CV:=Jt [Jc 6 (.alloc 165)] v279t1
noncomputable def b279:Code:=f279.body.getD .skip
theorem zve:f279.body=some b279:=by kernel_rfl
theorem zy0:viewC prog b279=some v279:=by kernel_rfl
theorem zx1:f279.results.toList=[.cell 6 165]:=by kernel_rfl
def v292c0:CV:=Jt [Jc 14 (.build 165 #[]),.op none (.store 165 (Ja 4) (Ja 14))] (.ret)
def v292h1:CV:=Jt [Jd 9 0,Jm 10 9,Jg 11 159 10 2,Jf 12 28 11,Jc 13 (.binOp .neq 28 (Ja 12) (Jb 0) 28)] (.cond (Ja 13) v292c0 (.skip))
def v292c1t2:CV:=Jt [Jg 44 76 5 1,Jf 45 9 44,Jd 46 0,Jd 47 1,Jc 48 (.binOp .add 3 (Ja 47) (Jb 1) 3),Jo 49 292 46 48 157 3,.ck 45 (.load 9 (Ja 44)),Jc 50 (.buildSlice 146 1 #[(0,(Ja 49))]),Jc 51 (.build 165 #[(0,(Jb 5)),(1,(Ja 45)),(3,(Ja 50))]),.op none (.store 165 (Ja 4) (Ja 51))] (.ret)
def v292c1t1:CV:=Jt [Jd 38 0,Jd 39 0,Jn 40 278 39 157,Jd 41 1,Jc 42 (.binOp .add 3 (Ja 41) (Jb 1) 3),Jc 43 (.call ⟨.value (.func 216),#[(Ja 38),(Ja 40),(Ja 42)],#[157,4,3]⟩)] v292c1t2
def v292c1:CV:=Jt [Jd 31 0,Jm 32 31,Jg 33 159 32 1,Jf 34 3 33,Jc 35 (.binOp .add 3 (Ja 34) (Jb 1) 3),Jm 36 31,Jg 37 159 36 1,.op none (.store 3 (Ja 37) (Ja 35))] v292c1t1
def v292h3:CV:=Jt [Jd 25 0,Jc 26 (.call ⟨.value (.func 164),#[(Ja 25),(.const (.string ⟨⟨[45]⟩⟩))],#[157,9]⟩),Jd 27 26,Jp 27 false 28 0,Js 27 false 29 (.call ⟨.value (.func 164),#[(Ja 28),(.const (.string ⟨⟨[33]⟩⟩))],#[157,9]⟩),Jc 30 (.pick (Ja 27) (.const (.bool true)) (Ja 29))] (.cond (Ja 30) v292c1 (.skip))
def v292c2t2:CV:=Jt [Jf 60 165 6,.op none (.store 165 (Ja 4) (Ja 60))] (.ret)
def v292c2t1:CV:=Jt [Jd 58 0,Jc 59 (.call ⟨.value (.func 114),#[(Ja 58),(.const (.string ⟨⟨[41]⟩⟩))],#[157,9]⟩)] v292c2t2
def v292c2:CV:=Jt [Jd 54 0,Jd 55 1,Jc 56 (.binOp .add 3 (Ja 55) (Jb 1) 3),Jo 57 252 54 56 157 3,Jc 6 (.alloc 165),.op none (.store 165 (Ja 6) (Ja 57))] v292c2t1
def v292h4:CV:=Jt [Jd 52 0,Jc 53 (.call ⟨.value (.func 116),#[(Ja 52),(.const (.string ⟨⟨[40]⟩⟩))],#[157,9]⟩)] (.cond (Ja 53) v292c2 (.skip))
def v292c3:CV:=Jt [Jc 63 (.build 165 #[(0,(Jb 2)),(2,(Jb 1))]),.op none (.store 165 (Ja 4) (Ja 63))] (.ret)
def v292h5:CV:=Jt [Jd 61 0,Jc 62 (.call ⟨.value (.func 116),#[(Ja 61),(.const (.string ⟨⟨[116,114,117,101]⟩⟩))],#[157,9]⟩)] (.cond (Ja 62) v292c3 (.skip))
def v292c4:CV:=Jt [Jc 66 (.build 165 #[(0,(Jb 2))]),.op none (.store 165 (Ja 4) (Ja 66))] (.ret)
def v292h6:CV:=Jt [Jd 64 0,Jc 65 (.call ⟨.value (.func 116),#[(Ja 64),(.const (.string ⟨⟨[102,97,108,115,101]⟩⟩))],#[157,9]⟩)] (.cond (Ja 65) v292c4 (.skip))
def v292c5t1:CV:=Jt [Jg 77 76 5 2,Jf 78 2 77,Jc 79 (.build 165 #[(0,(Jb 1)),(2,(Ja 78))]),.op none (.store 165 (Ja 4) (Ja 79))] (.ret)
def v292c5:CV:=Jt [Jd 70 0,Jm 71 70,Jg 72 159 71 1,Jf 73 3 72,Jc 74 (.binOp .add 3 (Ja 73) (Jb 1) 3),Jm 75 70,Jg 76 159 75 1,.op none (.store 3 (Ja 76) (Ja 74))] v292c5t1
def v292h7:CV:=Jt [Jg 67 76 5 0,Jf 68 3 67,Jc 69 (.binOp .eql 3 (Ja 68) (Jb 2) 3)] (.cond (Ja 69) v292c5 (.skip))
def v292c6t2:CV:=Jt [Jd 90 7,Jf 91 165 8,Jc 92 (.buildSlice 146 1 #[(0,(Ja 91))]),Jc 93 (.build 165 #[(0,(Jb 4)),(1,(Ja 90)),(3,(Ja 92))]),.op none (.store 165 (Ja 4) (Ja 93))] (.ret)
def v292c6t1:CV:=Jt [Jd 88 0,Jc 89 (.call ⟨.value (.func 114),#[(Ja 88),(.const (.string ⟨⟨[93]⟩⟩))],#[157,9]⟩)] v292c6t2
def v292c6:CV:=Jt [Jd 84 0,Jd 85 1,Jc 86 (.binOp .add 3 (Ja 85) (Jb 1) 3),Jo 87 252 84 86 157 3,Jc 8 (.alloc 165),.op none (.store 165 (Ja 8) (Ja 87))] v292c6t1
def v292h9:CV:=Jt [Jd 82 0,Jc 83 (.call ⟨.value (.func 116),#[(Ja 82),(.const (.string ⟨⟨[91]⟩⟩))],#[157,9]⟩)] (.cond (Ja 83) v292c6 (.skip))
def v292t10:CV:=Jt [Jd 94 7,Jc 95 (.build 165 #[(0,(Jb 3)),(1,(Ja 94))]),.op none (.store 165 (Ja 4) (Ja 95))] (.ret)
def v292t9:CV:=.seq v292h9 v292t10
def v292t8:CV:=Jt [Jd 80 0,Jn 81 115 80 157,Jh 7 81] v292t9
def v292t7:CV:=.seq v292h7 v292t8
def v292t6:CV:=.seq v292h6 v292t7
def v292t5:CV:=.seq v292h5 v292t6
def v292t4:CV:=.seq v292h4 v292t5
def v292t3:CV:=.seq v292h3 v292t4
def v292t2:CV:=Jt [Jd 15 0,Jm 16 15,Jg 17 159 16 0,Jf 18 33 17,Jd 19 0,Jm 20 19,Jg 21 159 20 1,Jf 22 3 21,Jk 23 33 18 22,Jf 24 76 23,Jc 5 (.alloc 76),.op none (.store 76 (Ja 5) (Ja 24))] v292t3
def v292t1:CV:=.seq v292h1 v292t2
def v292:CV:=Jt [Jc 4 (.alloc 165)] v292t1
noncomputable def b292:Code:=f292.body.getD .skip
theorem b292_eq:f292.body=some b292:=by kernel_rfl
theorem v292_eq:viewC prog b292=some v292:=by kernel_rfl
theorem r292_eq:f292.results.toList=[.cell 4 165]:=by kernel_rfl
section
variable {gl:List (List AV)}{H:Heap}{u v w:AV}{b k n0:Nat}{l:List (Tok×Int)}{Q:AV→Heap→Prop}
def stopB (t:Tok):Bool:=!(decide (t.kind=4)&&decide (0<levB t.text)) && !isB t [91]
theorem zg3 {d:Int}(h:PI H b u l k) {x:Tok×Int}(hx:l[k]? = some x) (_hn:n0≤H.nx)
  (q:∀b4 b5 H' l',Keep Non H H'→H.nx≤b4→H.nx≤b5→PI H' b u l k→IsRow H' b4 [.int .i64 0,.str 0 0,.int .i64 0,.nils] false false→IsRow H' b5 (tkC x) false false→Sb [(0,.ptr b 0),(1,.int .i64 d),(4,.ptr b4 0),(5,.ptr b5 0)] l'→
   VA prog [5] gl v292t3 l' H' (leftC prog [.cell 4 165] Q)):
  WpF prog [5] gl 292 [.ptr b 0,.int .i64 d] H Q:=by
 refine faC func292 b292_eq v292_eq r292_eq (.inr (by simp)) ?_;refine zac ?_;obtain ⟨b4,hb4⟩:∃b,b=H.nx:=⟨_,rfl⟩
 refine zaa (za8 ZeF.h fun H1 hk1 hr1=>?_);rw [←hb4] at hr1 ⊢;have h1:=h.keep0 hk1;have hr:=h1.row;have hv:IsSl H1 u 4 l.length (l.flatMap tkC):=h1.tks.sl;(repeat' first|(refine zad rfl ?_;first|(refine zaa ?_;first|refine zar rfl ?_|refine zae FpF.h (by decide) rfl ?_|refine zah PlF.h rfl hr rfl ?_|refine zbz zds UnF.h SzF.h rfl hv rfl rfl hx (fun q0 hq0=>?_)|refine zat (k:=4) PlF.h rfl (by decide) rfl hq0 ?_|refine zc9 rfl rfl (by omega) ?_)|refine zab ?_)|refine zag rfl ?_|refine zac ?_|refine zaj ?_|refine zam ?_);obtain ⟨b5,hb5⟩:∃b,b=H1.nx:=⟨_,rfl⟩
 refine zad rfl ?_;refine zaa (za8 ZeF.h fun H2 hk2 hr2=>?_);rw [←hb5] at hr2 ⊢;refine zaa (zan (k:=4) SzF.h rfl rfl rfl rfl hr2 rfl fun H3 hk3 hn3 hr3=>?_);have k13:Keep Non H1 H3:=zb3 hk2 hk3 (by rw [hb5];exact Jz _);refine zab ?_;exact q b4 b5 H3 _ (hk1.trans0 k13) (by rw [hb4];exact Jz _) (by rw [hb5];exact hk1.nx) (h1.keep0 k13) (hr1.keep0 k13) hr3 ⟨rfl,rfl,rfl,rfl,trivial⟩
theorem zgf {t:Tok}(h:t.kind=1∨t.kind=2) (s:List UInt8):isB t s=false:=by
 have h3:¬t.kind=3:=by omega
 have h4:¬t.kind=4:=by omega
 simp [isB,h3,h4]
theorem one_var {d:Int}{n:List UInt8}(hname:nameB n=true) (h:PI H b u l k) (hn:n0≤H.nx) {x y:Tok×Int}(hx:l[k]? = some x) (hxt:x.1=tokW n) (hy:l[k+1]? = some y) (hy1:isB y.1 [91]=false)
  (hQ:∀c H',Keep (· = b) H H'→PI H' b u l (k+1)→IsE (Frs n0) H' c (.mk 3 n 0 [])→Q (.agg c) H'):WpF prog [5] gl 292 [.ptr b 0,.int .i64 d] H Q:=by
 rw [zci hname] at hxt;have hk1:x.1.kind=1:=by rw [hxt]
 have hno:=zgf (t:=x.1) (.inl hk1);refine zg3 h hx hn fun b4 b5 H1 l' k1 g4 g5 h1 r4 r5 hsb=>?_;refine VA.sub hsb ?_;(repeat' first|(refine zad rfl ?_;(refine zaa ?_;(refine zaf rfl rfl rfl (zc2 h1 hx [45] fun H2 k2=>?_))))|refine zac ?_|refine zaj ?_);rw [hno];have h2:=h1.keep0 k2;(repeat' (refine zad rfl ?_;first|((first|refine zaa ?_|refine zav rfl ?_);first|refine zal rfl ?_|refine za0 rfl rfl ?_|refine zaf rfl rfl rfl (zc2 h2 hx [33] fun H3 k3=>?_))|refine zab ?_));rw [hno];have h3:=h2.keep0 k3;(repeat' first|(refine zad rfl ?_;first|(refine zaa ?_;(refine zaf rfl rfl rfl (zbm h3 hx (hno [40]) fun H4 k4 h4=>?_)))|refine zab ?_)|refine zag rfl ?_|refine zac ?_|refine zaj ?_|refine zam ?_);have h4:=h3.keep0 k4;(repeat' first|(refine zad rfl ?_;first|(refine zaa ?_;(refine zaf rfl rfl rfl (zbm h4 hx (hno [116,114,117,101]) fun H5 k5 h5=>?_)))|refine zab ?_)|refine zag rfl ?_|refine zac ?_|refine zaj ?_|refine zam ?_);have h5:=h4.keep0 k5;(repeat' first|(refine zad rfl ?_;first|(refine zaa ?_;first|refine zae FpF.h (by decide) rfl ?_|refine zaf rfl rfl rfl (zbm h5 hx (hno [102,97,108,115,101]) fun H6 k6 h6=>?_))|refine zab ?_)|refine zag rfl ?_|refine zac ?_|refine zaj ?_|refine zam ?_);have h6:=h5.keep0 k6;have k16:Keep Non H1 H6:=(((k2.trans0 k3).trans0 k4).trans0 k5).trans0 k6;have r5':IsRow H6 b5 [.int .i64 1,S x.1.text,.int .i64 x.1.num,.int .i64 x.2] false false:=by
  have:=r5.keep0 k16;rw [tkC,toC,hk1] at this;exact this
 (repeat' first|(refine zad rfl ?_;first|(refine zaa ?_;first|refine zah PlF.h rfl r5' rfl ?_|refine zaf rfl rfl rfl (zee h6 hx hk1 fun H7 k7 h7=>?_)|refine zaf rfl rfl rfl (zbm h7 hy hy1 fun H8 k8 h8=>?_)|refine za2 rfl rfl (by omega) ?_)|refine zab ?_)|refine zag rfl ?_|refine zac ?_|refine zaj ?_|refine zam ?_);have hb:=h.row.1;have kA:Keep (· = b) H H8:=(((k1.trans0 k16).wide fun _ h=>h.elim).trans k7 fun c hc=>.inl hc).trans k8 fun c hc=>hc.elim;have rA:=((r4.keep0 k16).keep k7 (.inl (by show ¬b4=b;omega))).keep0 k8;refine zad rfl ?_;refine zaa (zba BsF.h ZeF.h PsF.h rfl ?_);refine zaa (zan (k:=4) SzF.h rfl rfl rfl rfl rA rfl fun H9 hk9 hn9 hr9=>?_);refine zab (zao (zbg PlF.h rfl hr9 rfl ?_));have hlen:n.length≤rB:=by
  obtain ⟨_,_,_,_,_,_,hl⟩:=zdu hname;have hrB:rB=140737488351232:=rfl;omega
 refine hQ _ _ (kA.trans hk9 fun c hc=>.inr (by rw [hc];exact g4)) ⟨h8.row.keep hk9 (.inl (by show ¬b=b4;omega)),Own.keep h8.tks hk9 (fun a ha e=>by have:=Own.lt h.tks ha;have e:a=b4:=e;omega),h8.off,h8.len⟩ ?_;rw [show x.1.text=n by rw [hxt]];exact IsE.of (by unfold ok64;omega) (by unfold ok64;omega) hlen (Nat.zero_le _) ⟨[],⟨rfl,.inl ⟨.inl rfl,rfl⟩⟩,.nil,by simp⟩
theorem one_int {d:Int}(n:Nat) (hnn:n<9223372036854775808) (h:PI H b u l k) (hn:n0≤H.nx) {x:Tok×Int}(hx:l[k]? = some x) (hxt:x.1=tokW (textN n))
  (hQ:∀c H',Keep (· = b) H H'→PI H' b u l (k+1)→IsE (Frs n0) H' c (.mk 1 [] n [])→Q (.agg c) H'):WpF prog [5] gl 292 [.ptr b 0,.int .i64 d] H Q:=by
 rw [zir] at hxt;have hk1:x.1.kind=2:=by rw [hxt]
 have hno:=zgf (t:=x.1) (.inr hk1);have hkl:k<l.length:=(Qb.1 hx).1;have hll:=h.len;refine zg3 h hx hn fun b4 b5 H1 l' k1 g4 g5 h1 r4 r5 hsb=>?_;refine VA.sub hsb ?_;(repeat' first|(refine zad rfl ?_;(refine zaa ?_;(refine zaf rfl rfl rfl (zc2 h1 hx [45] fun H2 k2=>?_))))|refine zac ?_|refine zaj ?_);rw [hno];have h2:=h1.keep0 k2;(repeat' (refine zad rfl ?_;first|((first|refine zaa ?_|refine zav rfl ?_);first|refine zal rfl ?_|refine za0 rfl rfl ?_|refine zaf rfl rfl rfl (zc2 h2 hx [33] fun H3 k3=>?_))|refine zab ?_));rw [hno];have h3:=h2.keep0 k3;(repeat' first|(refine zad rfl ?_;first|(refine zaa ?_;(refine zaf rfl rfl rfl (zbm h3 hx (hno [40]) fun H4 k4 h4=>?_)))|refine zab ?_)|refine zag rfl ?_|refine zac ?_|refine zaj ?_|refine zam ?_);have h4:=h3.keep0 k4;(repeat' first|(refine zad rfl ?_;first|(refine zaa ?_;(refine zaf rfl rfl rfl (zbm h4 hx (hno [116,114,117,101]) fun H5 k5 h5=>?_)))|refine zab ?_)|refine zag rfl ?_|refine zac ?_|refine zaj ?_|refine zam ?_);have h5:=h4.keep0 k5;(repeat' first|(refine zad rfl ?_;first|(refine zaa ?_;first|refine zae FpF.h (by decide) rfl ?_|refine zaf rfl rfl rfl (zbm h5 hx (hno [102,97,108,115,101]) fun H6 k6 h6=>?_))|refine zab ?_)|refine zag rfl ?_|refine zac ?_|refine zaj ?_|refine zam ?_);have h6:=h5.keep0 k6;have k16:Keep Non H1 H6:=(((k2.trans0 k3).trans0 k4).trans0 k5).trans0 k6;have r5':IsRow H6 b5 [.int .i64 2,S x.1.text,.int .i64 (n:Int),.int .i64 x.2] false false:=by
  have:=r5.keep0 k16;rw [tkC,toC,hk1,show x.1.num=(n:Int) by rw [hxt]] at this;exact this
 have hr:=h6.row;(repeat' first|(refine zad rfl ?_;first|(refine zaa ?_;first|refine zar rfl ?_|refine zae FpF.h (by decide) rfl ?_|refine zah PlF.h rfl r5' rfl ?_|refine zah PlF.h rfl hr rfl ?_|refine zaz (c:=((k+1:Nat):Int)) rfl rfl Ju ?_|refine zax rfl rfl (by omega) ?_)|refine zab ?_)|refine zai rfl ?_|refine zac ?_);refine zaa (zbu SzF.h rfl rfl rfl hr (show 0+1<4 by decide) fun H7 k7 hn7 hr7=>?_);have h7:=h6.next k7 hr7;have hb:=h.row.1;have r5'':=r5'.keep k7 (.inl (by show ¬b5=b;omega));have kA:Keep (· = b) H H7:=((k1.trans0 k16).wide fun _ h=>h.elim).trans k7 fun c hc=>.inl hc;have rA:=(r4.keep0 k16).keep k7 (.inl (by show ¬b4=b;omega));refine zab ?_;(repeat' first|(refine zad rfl ?_;(refine zaa ?_;first|refine zae FpF.h (by decide) rfl ?_|refine zah PlF.h rfl r5'' rfl ?_|refine zba BsF.h ZeF.h PsF.h rfl ?_))|refine zac ?_);refine zaa (zan (k:=4) SzF.h rfl rfl rfl rfl rA rfl fun H9 hk9 hn9 hr9=>?_);refine zab (zao (zbg PlF.h rfl hr9 rfl ?_));refine hQ _ _ (kA.trans hk9 fun c hc=>.inr (by rw [hc];exact g4)) ⟨h7.row.keep hk9 (.inl (by show ¬b=b4;omega)),Own.keep h7.tks hk9 (fun a ha e=>by have:=Own.lt h.tks ha;have e:a=b4:=e;omega),h7.off,h7.len⟩ ?_;exact IsE.of (k:=1) (n:=(n:Int)) (s:=[]) (l:=[]) (by unfold ok64;omega) (by unfold ok64;omega) (Nat.zero_le _) (Nat.zero_le _) ⟨[],⟨rfl,.inl ⟨.inl rfl,rfl⟩⟩,.nil,by simp⟩
theorem one_bool {d z:Int}(hz:z=0∨z=1) (h:PI H b u l k) (hn:n0≤H.nx) {x:Tok×Int}(hx:l[k]? = some x) (hxt:x.1=tokW (if z=1 then [116,114,117,101] else [102,97,108,115,101]))
  (hQ:∀c H',Keep (· = b) H H'→PI H' b u l (k+1)→IsE (Frs n0) H' c (.mk 2 [] z [])→Q (.agg c) H'):WpF prog [5] gl 292 [.ptr b 0,.int .i64 d] H Q:=by
 have hb:=h.row.1;have e1:isB x.1 [45]=false:=by rw [hxt];split<;>(rw [zdb _ (by decide)];decide)
 have e2:isB x.1 [33]=false:=by rw [hxt];split<;>(rw [zdb _ (by decide)];decide)
 have e3:isB x.1 [40]=false:=by rw [hxt];split<;>(rw [zdb _ (by decide)];decide)
 refine zg3 h hx hn fun b4 b5 H1 l' k1 g4 g5 h1 r4 r5 hsb=>?_;refine VA.sub hsb ?_;(repeat' first|(refine zad rfl ?_;(refine zaa ?_;(refine zaf rfl rfl rfl (zc2 h1 hx [45] fun H2 k2=>?_))))|refine zac ?_|refine zaj ?_);rw [e1];have h2:=h1.keep0 k2;(repeat' (refine zad rfl ?_;first|((first|refine zaa ?_|refine zav rfl ?_);first|refine zal rfl ?_|refine za0 rfl rfl ?_|refine zaf rfl rfl rfl (zc2 h2 hx [33] fun H3 k3=>?_))|refine zab ?_));rw [e2];have h3:=h2.keep0 k3;(repeat' first|(refine zad rfl ?_;first|(refine zaa ?_;(refine zaf rfl rfl rfl (zbm h3 hx e3 fun H4 k4 h4=>?_)))|refine zab ?_)|refine zag rfl ?_|refine zac ?_|refine zaj ?_|refine zam ?_);have h4:=h3.keep0 k4;have k14:Keep Non H1 H4:=(k2.trans0 k3).trans0 k4;rcases hz with rfl|rfl
 ·have e4:isB x.1 [116,114,117,101]=false:=by rw [hxt,if_neg (by decide),zdb _ (by decide)];decide
  have e5:isB x.1 [102,97,108,115,101]=true:=by rw [hxt,if_neg (by decide),zdb _ (by decide)];decide
  (repeat' first|(refine zad rfl ?_;first|(refine zaa ?_;(refine zaf rfl rfl rfl (zbm h4 hx e4 fun H5 k5 h5=>?_)))|refine zab ?_)|refine zag rfl ?_|refine zac ?_|refine zaj ?_|refine zam ?_);have h5:=h4.keep0 k5;have k15:=k14.trans0 k5;(repeat' first|(refine zad rfl ?_;first|(refine zaa ?_;(refine zaf rfl rfl rfl (zb6 h5 hx e5 fun H6 k6 h6=>?_)))|refine zab ?_)|refine zai rfl ?_|refine zac ?_);have kA:Keep (· = b) H H6:=((k1.trans0 k15).wide fun _ h=>h.elim).trans k6 fun c hc=>.inl hc;have rA:=(r4.keep0 k15).keep k6 (.inl (by show ¬b4=b;omega));refine zad rfl ?_;refine zaa (zba BsF.h ZeF.h PsF.h rfl ?_);refine zaa (zan (k:=4) SzF.h rfl rfl rfl rfl rA rfl fun H9 hk9 hn9 hr9=>?_);refine zab (zao (zbg PlF.h rfl hr9 rfl ?_));refine hQ _ _ (kA.trans hk9 fun c hc=>.inr (by rw [hc];exact g4)) ⟨h6.row.keep hk9 (.inl (by show ¬b=b4;omega)),Own.keep h6.tks hk9 (fun a ha e=>by have:=Own.lt h.tks ha;have e:a=b4:=e;omega),h6.off,h6.len⟩ ?_;exact IsE.of (k:=2) (n:=0) (s:=[]) (l:=[]) (by unfold ok64;omega) (by unfold ok64;omega) (Nat.zero_le _) (Nat.zero_le _) ⟨[],⟨rfl,.inl ⟨.inl rfl,rfl⟩⟩,.nil,by simp⟩
 ·have e4:isB x.1 [116,114,117,101]=true:=by rw [hxt,if_pos rfl,zdb _ (by decide)];decide
  (repeat' first|(refine zad rfl ?_;first|(refine zaa ?_;(refine zaf rfl rfl rfl (zb6 h4 hx e4 fun H6 k6 h6=>?_)))|refine zab ?_)|refine zai rfl ?_|refine zac ?_);have kA:Keep (· = b) H H6:=((k1.trans0 k14).wide fun _ h=>h.elim).trans k6 fun c hc=>.inl hc;have rA:=(r4.keep0 k14).keep k6 (.inl (by show ¬b4=b;omega));refine zad rfl ?_;refine zaa (zba BsF.h ZeF.h PsF.h rfl ?_);refine zaa (zan (k:=4) SzF.h rfl rfl rfl rfl rA rfl fun H9 hk9 hn9 hr9=>?_);refine zab (zao (zbg PlF.h rfl hr9 rfl ?_));refine hQ _ _ (kA.trans hk9 fun c hc=>.inr (by rw [hc];exact g4)) ⟨h6.row.keep hk9 (.inl (by show ¬b=b4;omega)),Own.keep h6.tks hk9 (fun a ha e=>by have:=Own.lt h.tks ha;have e:a=b4:=e;omega),h6.off,h6.len⟩ ?_;exact IsE.of (k:=2) (n:=1) (s:=[]) (l:=[]) (by unfold ok64;omega) (by unfold ok64;omega) (Nat.zero_le _) (Nat.zero_le _) ⟨[],⟨rfl,.inl ⟨.inl rfl,rfl⟩⟩,.nil,by simp⟩
end
structure RP (p:Prc):Prop where
 name:nameB p.name=true
 params:∀m∈p.params,okT m.type=true∧nameB m.name=true
 type:p.type=0∨okT p.type=true
 body:∀s∈p.body,RS s
theorem zso:∀{l:List Prm},okMs l=true→∀m∈l,okT m.type=true∧nameB m.name=true
 |[],_,m,h=>by cases h
 |x::l,h,m,hm=>by
  simp only [okMs,J8] at h;rcases List.mem_cons.1 hm with rfl|hm
  ·exact h.1
  ·exact zso h.2 m hm
theorem rss_of {A:Nat→Prop}{H:Heap}{v:AV}{l:List Stm}(hL:IsLs A (IsS A) 7 H v l) (ho:okSs l=true):∀s∈l,RS s:=by
 obtain ⟨els,_,h2,_⟩:=hL;refine zyd (fun s hs hos=>?_) ho;obtain ⟨i,hi⟩:=List.mem_iff_getElem?.1 hs;obtain ⟨c,_,hr⟩:=h2.get' i s hi;exact rs_of _ (Nat.lt_succ_self _) hr hos
theorem zsp:∀{l:List Prc},okPs l=true→∀p∈l,okP p=true
 |[],_,m,h=>by cases h
 |x::l,h,m,hm=>by
  simp only [okPs,J8] at h;rcases List.mem_cons.1 hm with rfl|hm
  ·exact h.1
  ·exact zsp h.2 m hm
theorem rps_of {A:Nat→Prop}{H:Heap}{v:AV}{p:List Prc}(hP:IsPg A H v p) (ho:okPs p=true):∀x∈p,RP x:=by
 obtain ⟨_,u,_,els,_,h2,_⟩:=hP;intro x hx;obtain ⟨i,hi⟩:=List.mem_iff_getElem?.1 hx;obtain ⟨c,_,_,_,_,_,_,_,_,_,hb⟩:=h2.get' i x hi;have h:=zsp ho x hx;simp only [okP,okH,J8,Bool.or_eq_true,Qj] at h;obtain ⟨⟨⟨h1,h2⟩,h3⟩,h4⟩:=h;exact ⟨h1,zso h2,h3,rss_of hb h4⟩
theorem zn4 {t:Int}(_h:okT t=true):wdT t∈keysL:=by
 unfold wdT;split<;>decide
theorem zmu:∀{l:List Prm}(i:Nat),(∀m∈l,okT m.type=true∧nameB m.name=true)→AllW (wdMs l i)
 |[],_,_=>by simp only [wdMs];exact .nil
 |x::l,i,h=>by
  simp only [wdMs];obtain ⟨h1,h2⟩:=h x (by simp);refine .app (.app ?_ ((AllW.nil.cons (zdp h2)).key (zn4 h1))) (zmu (i+1) fun y hy=>h y (by simp [hy]));split
  ·exact AllW.nil.sign (by decide)
  ·exact .nil
theorem zt0 {p:Prc}(h:RP p):AllW (wdH p):=by
 unfold wdH;refine .app (.app (.app (((AllW.nil.sign (by decide)).cons (zdp h.name)).key (by decide)) (zmu 0 h.params)) (AllW.nil.sign (by decide))) ?_;by_cases e:p.type=0
 ·rw [if_pos e];exact .nil
 ·rw [if_neg e];exact AllW.nil.key (zn4 (h.type.resolve_left e))
theorem zuk {p:Prc}(h:RP p):AllW (wdP p):=by
 unfold wdP;exact .app (.app (.app (zt0 h) (AllW.nil.sign (by decide))) (ziq fun s hs=>rs_words (h.body s hs))) (AllW.nil.sign (by decide))
theorem zf1:∀{l:List Prc},(∀p∈l,RP p)→AllW (wdPs l)
 |[],_=>by simp only [wdPs];exact .nil
 |x::l,h=>by
  simp only [wdPs];exact .app (zuk (h x (by simp))) (zf1 fun p hp=>h p (by simp [hp]))
def wdRs (l:List LR):List (List UInt8):=l.flatMap LR.words
theorem zhd (a b:List LR):wdRs (a++b)=wdRs a++wdRs b:=by simp [wdRs]
theorem zfo (a:LR) (b:List LR):wdRs (a::b)=a.words++wdRs b:=by simp [wdRs]
theorem zoo:wdRs []=[]:=rfl
theorem zgj {l:List Stm}{p:Nat}(h:∀s∈l,∀d m,wdRs (lS p s d m)=wdS s):∀(d m:Nat),wdRs (lSs p l d m)=wdSs l:=by
 induction l with
 |nil=>intro d m;simp only [lSs,wdSs];rfl
 |cons x l ih=>
  intro d m;simp only [lSs,wdSs];rw [zhd,h x (by simp),ih fun s hs=>h s (by simp [hs])]
theorem lS_words {x:Stm}{p:Nat}(h:RS x):∀d m,wdRs (lS p x d m)=wdS x:=by
 induction h with
 |ite hx hb hf ihb ihf=>
  intro d m;rw [zl9];simp only [lS,if_true,wdE0];split
  ·simp [zfo,zhd,zoo,zgj ihb]
  ·simp [zfo,zhd,zoo,zgj ihb,zgj ihf]
 |loop hx hb ihb=>
  intro d m;rw [ziy];simp [lS,wdE0,zfo,zhd,zoo,zgj ihb]
 |_=>intro d m;simp [lS,wdRs]
theorem zpa:∀{l:List Prc}(i:Nat),(∀p∈l,RP p)→wdRs (lPs l i)=wdPs l
 |[],_,_=>rfl
 |x::l,i,h=>by
  simp only [lPs,wdPs,lP];rw [zhd,zpa (i+1) fun p hp=>h p (by simp [hp]),zfo,zhd,zgj fun s hs=>lS_words ((h x (by simp)).body s hs)];simp [wdP,wdRs]
theorem wdS_ne' {x:Stm}(h:RS x):wdS x≠[]:=by
 obtain ⟨w,vs,e,_⟩:=zin h;rw [e];simp
theorem zsc {l:List Stm}{p:Nat}(h:∀s∈l,∀d m,∀r∈lS p s d m,r.words≠[]):∀(d m:Nat),∀r∈lSs p l d m,r.words≠[]:=by
 induction l with
 |nil=>intro d m r hr;simp [lSs] at hr
 |cons x l ih=>
  intro d m r hr;simp only [lSs,List.mem_append] at hr;rcases hr with hr|hr
  ·exact h x (by simp) _ _ r hr
  ·exact ih (fun s hs=>h s (by simp [hs])) _ _ r hr
theorem lS_ne {x:Stm}{p:Nat}(h:RS x):∀d m,∀r∈lS p x d m,r.words≠[]:=by
 induction h with
 |ite hx hb hf ihb ihf=>
  intro d m r hr;simp only [lS,if_true,List.mem_cons,List.mem_append,List.not_mem_nil,or_false] at hr;rcases hr with rfl|(hr|hr)|rfl
  ·simp
  ·exact zsc ihb _ _ r hr
  ·split at hr
   ·cases hr
   ·rcases List.mem_cons.1 hr with rfl|hr
    ·simp
    ·exact zsc ihf _ _ r hr
  ·simp
 |loop hx hb ihb=>
  intro d m r hr;simp only [lS,if_neg (show ¬(5:Int)=4 by decide),if_true,List.mem_cons,List.mem_append,List.not_mem_nil,or_false] at hr;rcases hr with rfl|hr|rfl
  ·simp
  ·exact zsc ihb _ _ r hr
  ·simp
 |vbool h=>intro d m r hr;simp [lS] at hr;rw [hr];exact wdS_ne' (.vbool h)
 |vint h=>intro d m r hr;simp [lS] at hr;rw [hr];exact wdS_ne' (.vint h)
 |varr h h0 hm=>intro d m r hr;simp [lS] at hr;rw [hr];exact wdS_ne' (.varr h h0 hm)
 |set h hx=>intro d m r hr;simp [lS] at hr;rw [hr];exact wdS_ne' (.set h hx)
 |put h hi hx=>intro d m r hr;simp [lS] at hr;rw [hr];exact wdS_ne' (.put h hi hx)
 |call h hp hl=>intro d m r hr;simp [lS] at hr;rw [hr];exact wdS_ne' (.call h hp hl)
 |ret0=>intro d m r hr;simp [lS] at hr;rw [hr];exact wdS_ne' .ret0
 |ret1 hx=>intro d m r hr;simp [lS] at hr;rw [hr];exact wdS_ne' (.ret1 hx)
 |prt hx=>intro d m r hr;simp [lS] at hr;rw [hr];exact wdS_ne' (.prt hx)
 |read h=>intro d m r hr;simp [lS] at hr;rw [hr];exact wdS_ne' (.read h)
 |asrt hx=>intro d m r hr;simp [lS] at hr;rw [hr];exact wdS_ne' (.asrt hx)
theorem lPs_ne:∀{l:List Prc}(i:Nat),(∀p∈l,RP p)→∀r∈lPs l i,r.words≠[]
 |[],_,_,r,hr=>by simp [lPs] at hr
 |x::l,i,h,r,hr=>by
  simp only [lPs,lP,List.mem_append,List.mem_cons,List.not_mem_nil,or_false] at hr;rcases hr with (rfl|hr|rfl)|hr
  ·simp
  ·exact zsc (fun s hs=>lS_ne ((h x (by simp)).body s hs)) _ _ r hr
  ·simp
  ·exact lPs_ne (i+1) (fun p hp=>h p (by simp [hp])) r hr
def textRs (l:List LR):List UInt8:=l.flatMap fun r=>r.text++[10]
def Gaps (ws:List (List UInt8×List UInt8)):Prop:=∀x∈ws,x.2≠[]∧Gap x.2
theorem zwo:∀(w:List UInt8) (r:List (List UInt8)) {t:List UInt8},t≠[]→Gap t→∃ws,joinW (w::r)++t=rsW ws∧ws.map (·.1)=w::r∧Gaps ws
 |w,[],t,h,g=>⟨[(w,t)],by simp [joinW,rsW],rfl,by intro x hx;rw [List.mem_singleton.1 hx];exact ⟨h,g⟩⟩
 |w,v::r,t,h,g=>by
  obtain ⟨ws,h1,h2,h3⟩:=zwo v r h g;refine ⟨(w,[32])::ws,?_,by simp [h2],?_⟩
  ·have:rsW ((w,[32])::ws)=w++32::rsW ws:=by simp [rsW]
   rw [this,←h1];simp [joinW]
  ·intro x hx;rcases List.mem_cons.1 hx with rfl|hx
   ·exact ⟨by simp,by intro c hc;rw [List.mem_singleton.1 hc];exact .inl rfl⟩
   ·exact h3 x hx
theorem zyb:∀{l:List LR},(∀r∈l,r.words≠[])→∃g0 ws,textRs l=g0++rsW ws∧Gap g0∧ws.map (·.1)=wdRs l∧Gaps ws
 |[],_=>⟨[],[],rfl,fun _ hc=>(by cases hc),rfl,fun _ hx=>(by cases hx)⟩
 |r::l,h=>by
  obtain ⟨g0,ws,h1,h2,h3,h4⟩:=zyb (l:=l) fun r hr=>h r (by simp [hr]);obtain ⟨w,vs,e⟩:∃w vs,r.words=w::vs:=by
   cases e:r.words with
   |nil=>exact absurd e (h r (by simp))
   |cons w vs=>exact ⟨w,vs,rfl⟩
  obtain ⟨us,k1,k2,k3⟩:=zwo w vs (t:=10::g0) (by simp) (by
   intro c hc;rcases List.mem_cons.1 hc with rfl|hc
   ·exact .inr rfl
   ·exact h2 c hc)
  refine ⟨List.replicate (2*r.deep) 32,us++ws,?_,?_,?_,?_⟩
  ·have e1:textRs (r::l)=r.text++[10]++textRs l:=by simp [textRs]
   have e2:rsW (us++ws)=rsW us++rsW ws:=by simp [rsW]
   rw [e1,e2,h1,←k1,LR.text,e];simp
  ·intro c hc;exact .inl (List.eq_of_mem_replicate hc)
  ·rw [List.map_append,k2,h3,zfo,e]
  ·intro x hx;exact (List.mem_append.1 hx).elim (k3 x) (h4 x)
theorem ws_ok {ws:List (List UInt8×List UInt8)}(hg:Gaps ws) (hw:AllW (ws.map (·.1))):WsOK ws (ws.map fun x=>tokW x.1):=by
 refine ⟨by simp,fun i x t hx ht=>?_⟩;rw [List.getElem?_map,hx] at ht;injection ht with ht
 rw [←ht];have hm:=Qe hx;exact ⟨hw _ (List.mem_map.2 ⟨x,hm,rfl⟩),hg x hm⟩
end Go.Proofs.YtniflgldgnmiaaaGreatDoor
namespace Go.Proofs.YtniflgldgnmiaaaGreatDoor
open Go Eng Tryz
theorem zkd {l:List Stm}{p:Nat}(h:∀s∈l,∀d m,dpS s d≤60→∀r∈lS p s d m,r.deep≤60):∀(d m:Nat),dpSs l d≤60→∀r∈lSs p l d m,r.deep≤60:=by
 induction l with
 |nil=>intro d m _ r hr;simp [lSs] at hr
 |cons x l ih=>
  intro d m hd r hr;simp only [dpSs] at hd;simp only [lSs,List.mem_append] at hr;rcases hr with hr|hr
  ·exact h x (by simp) _ _ (by omega) r hr
  ·exact ih (fun s hs=>h s (by simp [hs])) _ _ (by omega) r hr
theorem lS_deep {x:Stm}{p:Nat}(h:RS x):∀d m,dpS x d≤60→∀r∈lS p x d m,r.deep≤60:=by
 induction h with
 |ite hx hb hf ihb ihf=>
  intro d m hd r hr;simp only [dpS] at hd;simp only [lS,if_true,List.mem_cons,List.mem_append,List.not_mem_nil,or_false] at hr;rcases hr with rfl|(hr|hr)|rfl
  ·show d≤60;omega
  ·exact zkd ihb _ _ (by omega) r hr
  ·split at hr
   ·cases hr
   ·rcases List.mem_cons.1 hr with rfl|hr
    ·show d≤60;omega
    ·exact zkd ihf _ _ (by omega) r hr
  ·show d≤60;omega
 |loop hx hb ihb=>
  intro d m hd r hr;simp only [dpS] at hd;simp only [lS,if_neg (show ¬(5:Int)=4 by decide),if_true,List.mem_cons,List.mem_append,List.not_mem_nil,or_false] at hr;rcases hr with rfl|hr|rfl
  ·show d≤60;omega
  ·exact zkd ihb _ _ (by omega) r hr
  ·show d≤60;omega
 |_=>
  intro d m hd r hr;simp only [dpS] at hd;simp [lS] at hr;rw [hr];show d≤60;omega
theorem zsa:∀{l:List Prc}(i:Nat),(∀p∈l,RP p)→dpPs l≤60→∀r∈lPs l i,r.deep≤60
 |[],_,_,_,r,hr=>by simp [lPs] at hr
 |x::l,i,h,hd,r,hr=>by
  simp only [dpPs] at hd;simp only [lPs,lP,List.mem_append,List.mem_cons,List.not_mem_nil,or_false] at hr;rcases hr with (rfl|hr|rfl)|hr
  ·show 0≤60;omega
  ·exact zkd (fun s hs=>lS_deep ((h x (by simp)).body s hs)) _ _ (by omega) r hr
  ·show 0≤60;omega
  ·exact zsa (i+1) (fun p hp=>h p (by simp [hp])) (by omega) r hr
theorem IsTok.short {w : List UInt8} {t : Tok} (h : IsTok w t) : w.length ≤ 40 := by
  cases h with
  | name h => obtain ⟨_, _, _, _, _, _, hl⟩ := zdu h; exact hl
  | num n h =>
              have hp : (10 : Nat) ^ 19 = 10000000000000000000 := rfl
              have := zeh 19 n (by omega) (by decide); omega
  | key h => have : ∀ w ∈ keysL, w.length ≤ 40 := by decide
             exact this w h
  | sign h => have : ∀ w ∈ signsL, w.length ≤ 40 := by decide
              exact this w h
theorem zqq {ws:List (List UInt8)}(h:AllW ws):(joinW ws).length≤41*ws.length:=by
 have:∀{ws:List (List UInt8)},AllW ws→(ws.flatMap (32 :: ·)).length≤41*ws.length:=by
  intro ws
  induction ws with
  |nil=>intro _;simp
  |cons w ws ih=>
   intro h;have h1:=IsTok.short (h w (by simp));have h2:=ih fun v hv=>h v (by simp [hv]);simp only [List.flatMap_cons,J1,Jy];omega
 have h1:=this h;unfold joinW;rw [List.length_tail];omega
theorem zmx:∀{l:List LR},(∀r∈l,r.deep≤60)→AllW (wdRs l)→(textRs l).length≤121*l.length+41*(wdRs l).length
 |[],_,_=>by simp [textRs]
 |r::l,h,hw=>by
  rw [zfo] at hw ⊢;have h1:=zqq fun w hm=>hw w (List.mem_append.2 (.inl hm));have h2:=zmx (l:=l) (fun r hr=>h r (by simp [hr])) fun w hm=>hw w (List.mem_append.2 (.inr hm));have h3:=h r (by simp);have e:textRs (r::l)=r.text++[10]++textRs l:=by simp [textRs]
  rw [e];simp only [LR.text,J1,List.length_replicate,Jy,J9];omega
theorem wdPs_len {p:List Prc}(hok:okPs p=true):(wdPs p).length≤12*sizPs p:=by
 have h1:=(zjq p).yes ⟨[],false,0⟩ rfl hok;have h2:=zjr p ⟨[],false,0⟩;rw [h1] at h2;simpa using h2
theorem zv0:∀(x:Exp) (d:Nat),d≤dpE x d
 |.mk k n z l,d=>by
  simp only [dpE];split
  ·omega
  ·split
   ·omega
   ·split<;>omega
theorem dpE_idx (n:List UInt8) (x:Exp) (d:Nat):dpE (.mk 4 n 0 [x]) d=max d (dpE x (d+1)):=by simp [dpE,dpE0]
theorem dpE_un (n:List UInt8) (x:Exp) (d:Nat):dpE (.mk 5 n 0 [x]) d=max d (max (d+1) (dpO x (d+1))):=by simp [dpE,dpO0,dpO]
theorem dpE_bin (n:List UInt8) (x y:Exp) (d:Nat):dpE (.mk 6 n 0 [x,y]) d=max d (max (dpO x d) (dpO y d)):=by simp [dpE,dpO0,dpO1,dpO]
theorem zqs (n:List UInt8):0≤levB n∧levB n≤5:=by
 unfold levB;split
 ·omega
 ·split
  ·omega
  ·split
   ·omega
   ·split
    ·omega
    ·split<;>omega
section
variable {gl:List (List AV)}{H H' H'':Heap}{u v w:AV}{b k n0:Nat}{l:List (Tok×Int)}{Q:AV→Heap→Prop}
theorem kb0 (h:Keep (· = b) H H') (k:Keep Non H' H''):Keep (· = b) H H'':=h.trans k fun _ h=>h.elim
theorem kbb (h:Keep (· = b) H H') (k:Keep (· = b) H' H''):Keep (· = b) H H'':=h.trans k fun _ h=>.inl h
theorem k0b (h:Keep Non H H') (k:Keep (· = b) H' H''):Keep (· = b) H H'':=(h.wide fun _ h=>h.elim).trans k fun _ h=>.inl h
theorem kbx {c:Nat}(h:Keep (· = b) H H') (k:Keep (· = c) H' H'') (hc:H.nx≤c):Keep (· = b) H H'':=h.trans k fun _ e=>.inr (by rw [e];exact hc)
theorem PI.st {c:Nat}(h:PI H b u l k) (hk:Keep (· = c) H H') (h1:b≠c) (h2:∀a,ownB u a→a<c):PI H' b u l k:=
 ⟨h.row.keep hk (.inl h1),Own.keep h.tks hk (fun a ha e=>by have:=h2 a ha;have e:a=c:=e;omega),h.off,h.len⟩
theorem PI.at {k':Nat}(h:PI H b u l k) (e:k=k'):PI H b u l k':=by rw [←e];exact h
def OneAt (gl:List (List AV)) (b:Nat) (u:AV) (l:List (Tok×Int)) (x:Exp):Prop:=∀(n0 k d:Nat) (H:Heap) (y:Tok×Int) (Q:AV→Heap→Prop),b<n0→PI H b u l k→n0≤H.nx→Seg l k (wdO x)→l[k+(wdO x).length]? = some y→isB y.1 [91]=false→dpO x d≤60→
 (∀c H',Keep (· = b) H H'→PI H' b u l (k+(wdO x).length)→IsE (Frs n0) H' c x→Q (.agg c) H')→WpF prog [5] gl 292 [.ptr b 0,.int .i64 (d:Int)] H Q
def ExprAt (gl:List (List AV)) (b:Nat) (u:AV) (l:List (Tok×Int)) (x:Exp):Prop:=∀(n0 k d:Nat) (H:Heap) (y:Tok×Int) (Q:AV→Heap→Prop),b<n0→PI H b u l k→n0≤H.nx→Seg l k (wdE x)→l[k+(wdE x).length]? = some y→stopB y.1=true→dpE x d≤60→
 (∀c H',Keep (· = b) H H'→PI H' b u l (k+(wdE x).length)→IsE (Frs n0) H' c x→Q (.agg c) H')→WpF prog [5] gl 252 [.ptr b 0,.int .i64 (d:Int)] H Q
theorem zbc {t:Tok}{w:List UInt8}(e:t=tokW w) (hw:w∈signsL) (s:List UInt8):isB t s=decide (w=s):=by
 rw [e,zc6 w hw];simp [isB]
theorem zbk {t:Tok}{w:List UInt8}(e:t=tokW w) (hw:w∈keysL) (s:List UInt8):isB t s=decide (w=s):=by
 rw [e,zdb w hw];simp [isB]
theorem zfl {t:Tok}{w:List UInt8}(e:t=tokW w) (hw:w∈signsL) (h:levB w=0∧w≠[91]):stopB t=true:=by
 unfold stopB;rw [zbc e hw,e,zc6 w hw,h.1];simp [h.2]
theorem one_idx {d:Nat}{n:List UInt8}{x:Exp}(hE:ExprAt gl b u l x) (hname:nameB n=true) (hdx:dpE x (d+1)≤60) (hbn:b<n0) (h:PI H b u l k) (hn:n0≤H.nx) (hs:Seg l k (n::[91]::(wdE x++[[93]])))
  (hQ:∀c H',Keep (· = b) H H'→PI H' b u l (k+1+1+(wdE x).length+1)→IsE (Frs n0) H' c (.mk 4 n 0 [x])→Q (.agg c) H'):WpF prog [5] gl 292 [.ptr b 0,.int .i64 (d:Int)] H Q:=by
 obtain ⟨⟨t0,hx,hxt⟩,hs1⟩:=hs.hd;obtain ⟨⟨t1,ht1,e1⟩,hs2⟩:=hs1.hd;obtain ⟨hsx,hs3⟩:=hs2.app;obtain ⟨⟨t3,ht3,e3⟩,_⟩:=hs3.hd;have hd1:=zv0 x (d+1);rw [zci hname] at hxt;have hk1:t0.1.kind=1:=by rw [hxt]
 have hno:=zgf (t:=t0.1) (.inl hk1);have y1:isB t1.1 [91]=true:=by rw [zbc e1 (by decide)];rfl
 have y3:isB t3.1 [93]=true:=by rw [zbc e3 (by decide)];rfl
 have s3:stopB t3.1=true:=zfl e3 (by decide) (by decide);have hlow:∀a,ownB u a→a<H.nx:=fun a ha=>Own.lt h.tks ha;refine zg3 h hx hn fun b4 b5 H1 l' k1 g4 g5 h1 r4 r5 hsb=>?_;refine VA.sub hsb ?_;(repeat' first|(refine zad rfl ?_;(refine zaa ?_;(refine zaf rfl rfl rfl (zc2 h1 hx [45] fun H2 k2=>?_))))|refine zac ?_|refine zaj ?_);rw [hno];have h2:=h1.keep0 k2;(repeat' (refine zad rfl ?_;first|((first|refine zaa ?_|refine zav rfl ?_);first|refine zal rfl ?_|refine za0 rfl rfl ?_|refine zaf rfl rfl rfl (zc2 h2 hx [33] fun H3 k3=>?_))|refine zab ?_));rw [hno];have h3:=h2.keep0 k3;(repeat' first|(refine zad rfl ?_;first|(refine zaa ?_;(refine zaf rfl rfl rfl (zbm h3 hx (hno [40]) fun H4 k4 h4=>?_)))|refine zab ?_)|refine zag rfl ?_|refine zac ?_|refine zaj ?_|refine zam ?_);(repeat' first|(refine zad rfl ?_;first|(refine zaa ?_;(refine zaf rfl rfl rfl (zbm h4 hx (hno [116,114,117,101]) fun H5 k5 h5=>?_)))|refine zab ?_)|refine zag rfl ?_|refine zac ?_|refine zaj ?_|refine zam ?_);(repeat' first|(refine zad rfl ?_;first|(refine zaa ?_;first|refine zae FpF.h (by decide) rfl ?_|refine zaf rfl rfl rfl (zbm h5 hx (hno [102,97,108,115,101]) fun H6 k6 h6=>?_))|refine zab ?_)|refine zag rfl ?_|refine zac ?_|refine zaj ?_|refine zam ?_);have k16:Keep Non H1 H6:=(((k2.trans0 k3).trans0 k4).trans0 k5).trans0 k6;have r5':IsRow H6 b5 [.int .i64 1,S t0.1.text,.int .i64 t0.1.num,.int .i64 t0.2] false false:=by
  have:=r5.keep0 k16;rw [tkC,toC,hk1] at this;exact this
 (repeat' first|(refine zad rfl ?_;first|(refine zaa ?_;first|refine zah PlF.h rfl r5' rfl ?_|refine zaf rfl rfl rfl (zee h6 hx hk1 fun H7 k7 h7=>?_)|refine zaf rfl rfl rfl (zb6 h7 ht1 y1 fun H8 k8 h8=>?_)|refine za2 rfl rfl (by omega) ?_)|refine zab ?_)|refine zai rfl ?_|refine zag rfl ?_|refine zac ?_|refine zaj ?_|refine zam ?_);have hb:=h.row.1;have kA:Keep (· = b) H H8:=kbb (k0b (k1.trans0 k16) k7) k8;have n8:n0≤H8.nx:=Nat.le_trans hn kA.nx;(repeat' (refine zad rfl ?_;(refine zaa ?_;first|refine zaz (c:=((d+1:Nat):Int)) rfl rfl (zas (by omega) (by omega) (by omega)) ?_|refine zaf rfl rfl rfl (hE H8.nx _ _ H8 t3 _ (by omega) h8 (Jz _) hsx ht3 s3 hdx fun c H9 k9 h9 hI=>?_))));have hsc:=zda hI;obtain ⟨v1,rfl,_⟩:=id hI.out;refine zad rfl ?_;obtain ⟨bX,hbX⟩:∃b,b=H9.nx:=⟨_,rfl⟩
 refine zaa (za8 ZeF.h fun HaX haX raX=>?_);rw [←hbX] at raX ⊢;refine zad rfl ?_;refine zaa (zan (k:=4) SzF.h rfl rfl rfl hsc raX rfl fun HX hsX hnX rX=>?_);have kX:Keep Non H9 HX:=zb3 haX hsX (by rw [hbX];exact Jz _);have kB:Keep (· = b) H HX:=kb0 (kbb kA k9) kX;(repeat' first|(refine zad rfl ?_;first|(refine zaa ?_;(refine zaf rfl rfl rfl (zcw (h9.keep0 kX) ht3 y3 fun vv H10 k10 h10=>?_)))|refine zab ?_)|refine zac ?_);have r10:=rX.keep k10 (.inl (by have:=k9.nx;have:=kA.nx;show ¬bX=b;omega));have hI10:=(hI.keep kX).keepS k10 fun c hc e=>by have hc:H8.nx≤c:=hc;omega
 (repeat' (refine zad rfl ?_;(refine zaa ?_;(refine zat (k:=4) PlF.h rfl (by decide) rfl r10.pts ?_))));refine zad rfl ?_;refine zaa (zap (n:=1) ElF.h (by decide) rfl rfl fun H11 k11 r11=>?_);refine zad rfl ?_;refine zaa (zba BsF.h ZeF.h PsF.h rfl ?_);have kC:Keep (· = b) H H11:=kb0 (kbb kB k10) k11;have rA:=((((r4.keep0 k16).keep k7 (.inl (by show ¬b4=b;omega))).keep k8 (.inl (by show ¬b4=b;omega))).keep k9 (.inl (by show ¬b4=b;omega))).keep0 kX |>.keep k10 (.inl (by show ¬b4=b;omega)) |>.keep0 k11
 refine zad rfl ?_;refine zaa (zan (k:=4) SzF.h rfl rfl rfl rfl rA rfl fun H12 k12 hn12 r12=>?_);refine zad rfl ?_;refine zab (zao (zbg PlF.h rfl r12 rfl ?_));have g12:H.nx≤H10.nx:=(kbb kB k10).nx;refine hQ _ _ (kbx kC k12 g4) ((h10.keep0 k11).st k12 (by omega) fun a ha=>by have:=hlow a ha;omega) ?_;have hlen:n.length≤rB:=by
  obtain ⟨_,_,_,_,_,_,hl⟩:=zdu hname;have hrB:rB=140737488351232:=rfl;omega
 rw [show t0.1.text=n by rw [hxt]];have hb4:b4<H8.nx:=Nat.lt_of_lt_of_le r4.1 (Nat.le_trans k16.nx (Nat.le_trans k7.nx k8.nx));have hI12:=(hI10.keep k11).keepS k12 fun c hc e=>by have hc:H8.nx≤c:=hc;omega
 exact IsE.of (by unfold ok64;omega) (by unfold ok64;omega) hlen (by show 1≤140737488351232;omega) (zkc (r11.keep k12 (.inl (by show ¬H10.nx=b4;have:=k9.nx;have:=kX.nx;have:=k10.nx;omega))) (by show n0≤H10.nx;omega) (zdc hI12 fun c hc _=>by have hc:H8.nx≤c:=hc;show n0≤c;omega) rfl)
theorem zyx {l':Fm}{H0 H1:Heap}{b4 b5 d:Nat}{n:List UInt8}{x:Exp}(hO:OneAt gl b u l x) (hname:n=[45]∨n=[33]) (hdx:dpO x (d+1)≤60) (hd1:d+1≤60) (ho:∃w vs,wdO x=w::vs∧opB (tokW w)=true) (hbn:b<n0) (h:PI H1 b u l k) (hn:n0≤H0.nx) (k01:Keep (· = b) H0 H1) (hlow:∀a,ownB u a→a<H0.nx) (hb4:H0.nx≤b4) (hb5:H0.nx≤b5)
  {t0 y:Tok×Int}(hx:l[k]? = some t0) (hxt:t0.1.text=n) (hs:Seg l (k+1) (wdO x)) (hy:l[k+1+(wdO x).length]? = some y) (hy1:isB y.1 [91]=false) (r4:IsRow H1 b4 [.int .i64 0,.str 0 0,.int .i64 0,.nils] false false) (r5:IsRow H1 b5 (tkC t0) false false) (hsb:Sb [(0,.ptr b 0),(1,.int .i64 (d:Int)),(4,.ptr b4 0),(5,.ptr b5 0)] l')
  (hQ:∀c H',Keep (· = b) H0 H'→PI H' b u l (k+1+(wdO x).length)→IsE (Frs n0) H' c (.mk 5 n 0 [x])→Q (.agg c) H'):VA prog [5] gl v292c1 l' H1 (seqA prog [5] gl v292t4 (leftC prog [.cell 4 165] Q)):=by
 refine VA.sub hsb ?_;have hkl:k<l.length:=(Qb.1 hx).1;have hll:=h.len;have hr:=h.row;obtain ⟨w,vs,ew,how⟩:=ho;obtain ⟨t1,ht1,e1⟩:=hs 0 w (by rw [ew];rfl);have ho1:opB t1.1=true:=by rw [e1];exact how
 (repeat' first|(refine zad rfl ?_;(refine zaa ?_;first|refine zar rfl ?_|refine zae FpF.h (by decide) rfl ?_|refine zah PlF.h rfl hr rfl ?_|refine zaz (c:=((k+1:Nat):Int)) rfl rfl (zas (by omega) (by omega) (by omega)) ?_))|refine zac ?_);refine zaa (zbu SzF.h rfl rfl rfl hr (show 0+1<4 by decide) fun H2 hk2 hn2 hr2=>?_);have h2:=h.next hk2 hr2;have r4':=r4.keep hk2 (.inl (by show ¬b4=b;omega));have r5':IsRow H2 b5 [.int .i64 t0.1.kind,S t0.1.text,.int .i64 t0.1.num,.int .i64 t0.2] false false:=r5.keep hk2 (.inl (by show ¬b5=b;omega));refine zab ?_;(repeat' first|(refine zad rfl ?_;(refine zaa ?_;(refine zaf rfl rfl rfl (zps h2 ht1 ho1 fun H3 k3 h3=>?_))))|refine zac ?_);have r5'':=r5'.keep0 k3;(repeat' first|(refine zad rfl ?_;first|(refine zaa ?_;first|refine zae FpF.h (by decide) rfl ?_|refine zaz (c:=((d+1:Nat):Int)) rfl rfl (zas (by omega) (by omega) (by omega)) ?_|refine zaf rfl rfl rfl (zob (by omega) fun vv=>?_)|refine zah PlF.h rfl r5'' rfl ?_)|refine zab ?_)|refine zac ?_);have n3:H0.nx≤H3.nx:=(kb0 (kbb k01 hk2) k3).nx;have hb43:b4<H3.nx:=Nat.lt_of_lt_of_le r4'.1 k3.nx;have hb53:b5<H3.nx:=Nat.lt_of_lt_of_le r5'.1 k3.nx;(repeat' (refine zad rfl ?_;(refine zaa ?_;(refine zaf rfl rfl rfl (hO H3.nx _ _ H3 y _ (by omega) h3 (Jz _) hs hy hy1 hdx fun c H4 k4 h4 hI=>?_)))));have hsc:=zda hI;obtain ⟨v1,rfl,_⟩:=id hI.out;have r5x:=r5''.keep k4 (.inl (by show ¬b5=b;omega));refine zo3 PlF.h rfl r5x rfl rfl ?_;refine zad rfl ?_;refine zaa (zap (n:=1) ElF.h (by decide) rfl rfl fun H5 k5 r7=>?_);refine zad rfl ?_;refine zaa (zba BsF.h ZeF.h PsF.h rfl ?_);have kC:Keep (· = b) H0 H5:=kb0 (kbb (kb0 (kbb k01 hk2) k3) k4) k5;have rA:=((r4'.keep0 k3).keep k4 (.inl (by show ¬b4=b;omega))).keep0 k5;refine zad rfl ?_;refine zaa (zan (k:=4) SzF.h rfl rfl rfl rfl rA rfl fun H6 k6 hn6 r6=>?_);refine zad rfl ?_;refine zab (zao (zbg PlF.h rfl r6 rfl ?_));refine hQ _ _ (kbx kC k6 hb4) ((h4.keep0 k5).st k6 (by omega) fun a ha=>by have:=hlow a ha;omega) ?_;have hlen:n.length≤rB:=by
  have hrB:rB=140737488351232:=rfl;rcases hname with rfl|rfl<;>(simp only [Jy,J9];omega)
 rw [hxt];have hI6:=(hI.keep k5).keepS k6 fun c hc e=>by have hc:H3.nx≤c:=hc;omega
 exact IsE.of (by unfold ok64;omega) (by unfold ok64;omega) hlen (by show 1≤140737488351232;omega) (zkc (r7.keep k6 (.inl (by show ¬H4.nx=b4;have:=k4.nx;omega))) (by show n0≤H4.nx;have:=k4.nx;omega) (zdc hI6 fun c hc _=>by have hc:H3.nx≤c:=hc;show n0≤c;omega) rfl)
theorem one_un {d:Nat}{n:List UInt8}{x:Exp}(hO:OneAt gl b u l x) (hname:n=[45]∨n=[33]) (hdx:dpO x (d+1)≤60) (hd1:d+1≤60) (ho:∃w vs,wdO x=w::vs∧opB (tokW w)=true) (hbn:b<n0) (h:PI H b u l k) (hn:n0≤H.nx) {y:Tok×Int}(hs:Seg l k (n::wdO x)) (hy:l[k+1+(wdO x).length]? = some y) (hy1:isB y.1 [91]=false)
  (hQ:∀c H',Keep (· = b) H H'→PI H' b u l (k+1+(wdO x).length)→IsE (Frs n0) H' c (.mk 5 n 0 [x])→Q (.agg c) H'):WpF prog [5] gl 292 [.ptr b 0,.int .i64 (d:Int)] H Q:=by
 obtain ⟨⟨t0,hx,hxt⟩,hs1⟩:=hs.hd;have hlow:∀a,ownB u a→a<H.nx:=fun a ha=>Own.lt h.tks ha;refine zg3 h hx hn fun b4 b5 H1 l' k1 g4 g5 h1 r4 r5 hsb=>?_;refine VA.sub hsb ?_;have hm:n∈signsL:=by rcases hname with rfl|rfl<;>decide
 have htx:t0.1.text=n:=by rw [hxt,zc6 n hm]
 have i45:=zbc hxt hm [45];have i33:=zbc hxt hm [33];(repeat' first|(refine zad rfl ?_;(refine zaa ?_;(refine zaf rfl rfl rfl (zc2 h1 hx [45] fun H2 k2=>?_))))|refine zac ?_|refine zaj ?_);rw [i45];have h2:=h1.keep0 k2;rcases hname with rfl|rfl
 ·(repeat' (refine zad rfl ?_;first|refine zbh rfl ?_|(refine zaa ?_;(refine zaq rfl rfl rfl ?_))|refine zab ?_));refine zai rfl ?_;refine zyx hO (.inl rfl) hdx hd1 ho hbn h2 hn (k0b (k1.trans0 k2) (.refl _ _)) hlow g4 g5 hx htx hs1 hy hy1 (r4.keep0 k2) (r5.keep0 k2) ?_ hQ;exact ⟨rfl,rfl,rfl,rfl,trivial⟩
 ·(repeat' (refine zad rfl ?_;first|((first|refine zaa ?_|refine zav rfl ?_);first|refine zal rfl ?_|refine za0 rfl rfl ?_|refine zaf rfl rfl rfl (zc2 h2 hx [33] fun H3 k3=>?_))|refine zab ?_));rw [i33];(repeat' (refine zad rfl ?_;(refine zbh rfl ?_)));refine zai rfl ?_;refine zyx hO (.inr rfl) hdx hd1 ho hbn (h2.keep0 k3) hn (k0b ((k1.trans0 k2).trans0 k3) (.refl _ _)) hlow g4 g5 hx htx hs1 hy hy1 ((r4.keep0 k2).keep0 k3) ((r5.keep0 k2).keep0 k3) ?_ hQ;exact ⟨rfl,rfl,rfl,rfl,trivial⟩
theorem one_br {d:Nat}{x:Exp}(hE:ExprAt gl b u l x) (hdx:dpE x (d+1)≤60) (_hbn:b<n0) (h:PI H b u l k) (hn:n0≤H.nx) (hs:Seg l k ([40]::(wdE x++[[41]])))
  (hQ:∀c H',Keep (· = b) H H'→PI H' b u l (k+1+(wdE x).length+1)→IsE (Frs n0) H' c x→Q (.agg c) H'):WpF prog [5] gl 292 [.ptr b 0,.int .i64 (d:Int)] H Q:=by
 obtain ⟨⟨t0,hx,hxt⟩,hs1⟩:=hs.hd;obtain ⟨hsx,hs2⟩:=hs1.app;obtain ⟨⟨t3,ht3,e3⟩,_⟩:=hs2.hd;have hd1:=zv0 x (d+1);have hlow:∀a,ownB u a→a<H.nx:=fun a ha=>Own.lt h.tks ha;have i45:=zbc hxt (by decide) [45];have i33:=zbc hxt (by decide) [33];have i40:isB t0.1 [40]=true:=zbc hxt (by decide) [40];have y3:isB t3.1 [41]=true:=by rw [zbc e3 (by decide)];rfl
 have s3:stopB t3.1=true:=zfl e3 (by decide) (by decide);refine zg3 h hx hn fun b4 b5 H1 l' k1 g4 g5 h1 r4 r5 hsb=>?_;refine VA.sub hsb ?_;(repeat' first|(refine zad rfl ?_;(refine zaa ?_;(refine zaf rfl rfl rfl (zc2 h1 hx [45] fun H2 k2=>?_))))|refine zac ?_|refine zaj ?_);rw [i45];have h2:=h1.keep0 k2;(repeat' (refine zad rfl ?_;first|((first|refine zaa ?_|refine zav rfl ?_);first|refine zal rfl ?_|refine za0 rfl rfl ?_|refine zaf rfl rfl rfl (zc2 h2 hx [33] fun H3 k3=>?_))|refine zab ?_));rw [i33];have h3:=h2.keep0 k3;(repeat' first|(refine zad rfl ?_;first|(refine zaa ?_;(refine zaf rfl rfl rfl (zb6 h3 hx i40 fun H4 k4 h4=>?_)))|refine zab ?_)|refine zai rfl ?_|refine zag rfl ?_|refine zac ?_|refine zaj ?_|refine zam ?_);have hb:=h.row.1;have kA:Keep (· = b) H H4:=k0b ((k1.trans0 k2).trans0 k3) k4;have n4:H.nx≤H4.nx:=kA.nx;(repeat' (refine zad rfl ?_;(refine zaa ?_;first|refine zaz (c:=((d+1:Nat):Int)) rfl rfl (zas (by omega) (by omega) (by omega)) ?_|refine zaf rfl rfl rfl (hE H4.nx _ _ H4 t3 _ (by omega) h4 (Jz _) hsx ht3 s3 hdx fun c H9 k9 h9 hI=>?_))));have hsc:=zda hI;have hI0:=hI;obtain ⟨v1,rfl,_⟩:=id hI.out;refine zad rfl ?_;obtain ⟨bX,hbX⟩:∃b,b=H9.nx:=⟨_,rfl⟩
 refine zaa (za8 ZeF.h fun HaX haX raX=>?_);rw [←hbX] at raX ⊢;refine zad rfl ?_;refine zaa (zan (k:=4) SzF.h rfl rfl rfl hsc raX rfl fun HX hsX hnX rX=>?_);have kX:Keep Non H9 HX:=zb3 haX hsX (by rw [hbX];exact Jz _);have kB:Keep (· = b) H HX:=kb0 (kbb kA k9) kX;(repeat' first|(refine zad rfl ?_;first|(refine zaa ?_;(refine zaf rfl rfl rfl (zcw (h9.keep0 kX) ht3 y3 fun vv H10 k10 h10=>?_)))|refine zab ?_)|refine zac ?_);have r10:=rX.keep k10 (.inl (by have:=k9.nx;have:=kA.nx;show ¬bX=b;omega));have hI10:=(hI.keep kX).keepS k10 fun c hc e=>by have hc:H4.nx≤c:=hc;omega
 have rA:=(((r4.keep0 (k2.trans0 k3)).keep k4 (.inl (by show ¬b4=b;omega))).keep k9 (.inl (by show ¬b4=b;omega))).keep0 kX |>.keep k10 (.inl (by show ¬b4=b;omega))
 have hb4:b4<H4.nx:=Nat.lt_of_lt_of_le r4.1 (Nat.le_trans (k2.trans0 k3).nx k4.nx);(repeat' (refine zad rfl ?_;(refine zaa ?_;(refine zat (k:=4) PlF.h rfl (by decide) rfl r10.pts ?_))));refine zad rfl ?_;refine zaa (zan (k:=4) SzF.h rfl rfl rfl hsc rA rfl fun H12 k12 hn12 r12=>?_);refine zad rfl ?_;refine zab (zao (zbg PlF.h rfl r12 rfl ?_));refine hQ _ _ (kbx (kbb kB k10) k12 g4) (h10.st k12 (by omega) fun a ha=>by have:=hlow a ha;omega) ?_;exact zdc (hI10.keepS k12 fun c hc e=>by have hc:H4.nx≤c:=hc;omega) fun c hc _=>by have hc:H4.nx≤c:=hc;show n0≤c;omega
theorem zmy {d:Nat}{x:Exp}(t:Int) (hO:OneAt gl b u l x) (hdx:dpO x d≤60) (_hbn:b<n0) (h:PI H b u l k) (hn:n0≤H.nx) (hs:Seg l k (wdO x)) {y:Tok×Int}(hy:l[k+(wdO x).length]? = some y) (hy1:stopB y.1=true)
  (hQ:∀c H',Keep (· = b) H H'→PI H' b u l (k+(wdO x).length)→IsE (Frs n0) H' c x→Q (.agg c) H'):WpF prog [5] gl 279 [.ptr b 0,.int .i64 t,.int .i64 (d:Int)] H Q:=by
 have hlow:∀a,ownB u a→a<H.nx:=fun a ha=>Own.lt h.tks ha;unfold stopB at hy1;simp only [J8,Bool.not_eq_true',Bool.and_eq_false_iff,decide_eq_false_iff_not] at hy1;obtain ⟨hy2,hy3⟩:=hy1;have hb:=h.row.1;refine faC func279 zve zy0 zx1 (.inr (by simp)) ?_;refine zac ?_;obtain ⟨b6,hb6⟩:∃b,b=H.nx:=⟨_,rfl⟩
 refine zaa (za8 ZeF.h fun H1 k1 r6=>?_);rw [←hb6] at r6 ⊢;have hb61:=r6.1;have h1:=h.keep0 k1;(repeat' first|(refine zad rfl ?_;first|(refine zaa ?_;(refine zaf rfl rfl rfl (hO H1.nx _ _ H1 y _ (by omega) h1 (Jz _) hs hy hy3 hdx fun c H2 k2 h2 hI=>?_)))|refine zab ?_)|refine zac ?_);have hsc:=zda hI;have hI0:=hI;obtain ⟨v1,rfl,_⟩:=id hI.out;refine zad rfl ?_;obtain ⟨bX,hbX⟩:∃b,b=H2.nx:=⟨_,rfl⟩
 refine zaa (za8 ZeF.h fun HaX haX raX=>?_);rw [←hbX] at raX ⊢;refine zad rfl ?_;refine zaa (zan (k:=4) SzF.h rfl rfl rfl hsc raX rfl fun HX hsX hnX rX=>?_);have kX:Keep Non H2 HX:=zb3 haX hsX (by rw [hbX];exact Jz _);have hX:=h2.keep0 kX;have r6X:=(r6.keep k2 (.inl (by show ¬b6=b;omega))).keep0 kX;have hr:=hX.row;have hv:IsSl HX u 4 l.length (l.flatMap tkC):=hX.tks.sl;have kA:Keep (· = b) H HX:=kb0 (k0b k1 k2) kX;(repeat' first|(refine zad rfl ?_;(refine zab ?_))|refine zac ?_|refine zaj ?_|refine zau ?_);have hfin:∀H3 H4,Keep Non HX H3→Keep (· = b6) H3 H4→Q (.agg [AV.int .i64 x.kind,S x.name,AV.int .i64 x.num,v1]) H4:=fun H3 H4 k3 k4=>
  hQ _ _ (kbx (kb0 kA k3) k4 (by omega)) ((hX.keep0 k3).st k4 (by omega) fun a ha=>by have:=hlow a ha;omega) (zdc (((hI.keep kX).keep k3).keepS k4 fun c hc e=>by have hc:H1.nx≤c:=hc;omega) fun c hc _=>by have hc:H1.nx≤c:=hc;have:=k1.nx;show n0≤c;omega)
 refine zbv (fun (_:Unit)=>[(0,.ptr b 0),(1,.int .i64 t),(2,.int .i64 (d:Int)),(6,.ptr b6 0),(7,.ptr bX 0),(8,.int .i64 5)]) (fun _ H'=>H'=HX) (fun _=>0) ?_ () _ HX ⟨rfl,rfl,rfl,rfl,rfl,rfl,trivial⟩ rfl;rintro _ H' rfl;by_cases hk4:y.1.kind=4
 ·have hlv:levB y.1.text=0:=by
   have:=zqs y.1.text;rcases hy2 with h|h
   ·exact absurd hk4 h
   ·omega
  (repeat' first|(refine zad rfl ?_;first|refine zbh rfl ?_|((first|refine zaa ?_|refine zav rfl ?_);first|refine zal rfl ?_|refine zaq rfl rfl rfl ?_|refine zar rfl ?_|refine zae FpF.h (by decide) rfl ?_|refine zah PlF.h rfl hr rfl ?_|refine zbz zds UnF.h SzF.h rfl hv rfl rfl hy (fun q0 hq0=>?_)|refine za6 FpF.h (by decide) rfl hq0 (fun p2 hp2=>?_)|refine zby PlF.h rfl hp2 rfl ?_|refine zaf rfl rfl rfl (zm6 y.1.text fun H3 k3=>?_)|refine zax rfl rfl (by omega) ?_)|refine zab ?_)|refine zai rfl ?_|refine zac ?_|refine zaj ?_|refine zau ?_|refine zam ?_);have rX3:=rX.keep0 k3;(repeat' (refine zad rfl ?_;(refine zaa ?_;(refine zat (k:=4) PlF.h rfl (by decide) rfl rX3.pts ?_))));refine zad rfl ?_;refine zaa (zan (k:=4) SzF.h rfl rfl rfl hsc (r6X.keep0 k3) rfl fun H4 k4 hn4 r4=>?_);refine zad rfl ?_;refine zab (zao (zbg PlF.h rfl r4 rfl ?_));exact hfin _ _ k3 k4
 ·(repeat' first|(refine zad rfl ?_;first|((first|refine zaa ?_|refine zav rfl ?_);first|refine zal rfl ?_|refine zaq rfl rfl rfl ?_|refine zar rfl ?_|refine zae FpF.h (by decide) rfl ?_|refine zah PlF.h rfl hr rfl ?_|refine zbz zds UnF.h SzF.h rfl hv rfl rfl hy (fun q0 hq0=>?_)|refine za6 FpF.h (by decide) rfl hq0 (fun p2 hp2=>?_)|refine zby PlF.h rfl hp2 rfl ?_|refine zat (k:=4) PlF.h rfl (by decide) rfl rX.pts ?_|refine zax rfl rfl (by omega) ?_|refine za2 rfl rfl (by omega) ?_)|refine zab ?_)|refine zag rfl ?_|refine zac ?_|refine zaj ?_|refine zbq ?_);refine zad rfl ?_;refine zaa (zan (k:=4) SzF.h rfl rfl rfl hsc r6X rfl fun H4 k4 hn4 r4=>?_);refine zad rfl ?_;refine zab (zao (zbg PlF.h rfl r4 rfl ?_));exact hfin _ _ (.refl _ _) k4
theorem zyv {d:Nat}{n:List UInt8}{x z:Exp}(hO:OneAt gl b u l x) (hO':OneAt gl b u l z) (hlev:0<levB n) (hdx:dpO x d≤60) (hdz:dpO z d≤60) (_hbn:b<n0) (h:PI H b u l k) (hn:n0≤H.nx) (hs:Seg l k (wdO x++n::wdO z)) {y:Tok×Int}(hy:l[k+(wdO x).length+1+(wdO z).length]? = some y) (hy1:stopB y.1=true)
  (hQ:∀c H',Keep (· = b) H H'→PI H' b u l (k+(wdO x).length+1+(wdO z).length)→IsE (Frs n0) H' c (.mk 6 n 0 [x,z])→Q (.agg c) H'):WpF prog [5] gl 279 [.ptr b 0,.int .i64 1,.int .i64 (d:Int)] H Q:=by
 obtain ⟨hsx,hs1⟩:=hs.app;obtain ⟨⟨t0,ht0,et0⟩,hsz⟩:=hs1.hd;have hm:=zpf hlev;have ht4:t0.1.kind=4:=by rw [et0,zc6 n hm]
 have htt:t0.1.text=n:=by rw [et0,zc6 n hm]
 have ht91:isB t0.1 [91]=false:=by
  rw [zbc et0 hm,decide_eq_false_iff_not];rintro rfl;revert hlev;decide
 have hlow:∀a,ownB u a→a<H.nx:=fun a ha=>Own.lt h.tks ha;have hy0:=hy1;unfold stopB at hy1;simp only [J8,Bool.not_eq_true',Bool.and_eq_false_iff,decide_eq_false_iff_not] at hy1;obtain ⟨hy2,hy3⟩:=hy1;have hb:=h.row.1;have hle:=zqs n;refine faC func279 zve zy0 zx1 (.inr (by simp)) ?_;refine zac ?_;obtain ⟨b6,hb6⟩:∃b,b=H.nx:=⟨_,rfl⟩
 refine zaa (za8 ZeF.h fun H1 k1 r6=>?_);rw [←hb6] at r6 ⊢;have hb61:=r6.1;have h1:=h.keep0 k1;(repeat' first|(refine zad rfl ?_;first|(refine zaa ?_;(refine zaf rfl rfl rfl (hO H1.nx _ _ H1 t0 _ (by omega) h1 (Jz _) hsx ht0 ht91 hdx fun c H2 k2 h2 hI=>?_)))|refine zab ?_)|refine zac ?_);have hsc:=zda hI;obtain ⟨v1,rfl,_⟩:=id hI.out;refine zad rfl ?_;obtain ⟨bX,hbX⟩:∃b,b=H2.nx:=⟨_,rfl⟩
 refine zaa (za8 ZeF.h fun HaX haX raX=>?_);rw [←hbX] at raX ⊢;refine zad rfl ?_;refine zaa (zan (k:=4) SzF.h rfl rfl rfl hsc raX rfl fun HX hsX hnX rX=>?_);have kX:Keep Non H2 HX:=zb3 haX hsX (by rw [hbX];exact Jz _);have hX:=h2.keep0 kX;have r6X:=(r6.keep k2 (.inl (by show ¬b6=b;omega))).keep0 kX;have hr:=hX.row;have hv:IsSl HX u 4 l.length (l.flatMap tkC):=hX.tks.sl;have kA:Keep (· = b) H HX:=kb0 (k0b k1 k2) kX;have hIX:=(zdc hI (B:=fun c=>H1.nx≤c∧c<bX) fun c hc hl=>⟨hc,by omega⟩).keep kX;have hbX1:b6<bX:=by have:=k2.nx;omega
 have hbXn:=rX.1;(repeat' first|(refine zad rfl ?_;(refine zab ?_))|refine zac ?_|refine zaj ?_|refine zau ?_);refine zbv (fun (a:Nat×Int)=>[(0,.ptr b 0),(1,.int .i64 1),(2,.int .i64 (d:Int)),(6,.ptr b6 0),(7,.ptr bX 0),(8,.int .i64 a.2)])
  (fun a H'=>(a.1=0∧a.2=5∧H'=HX)∨(a.1=1∧∃c,Keep (· = b) H H'∧PI H' b u l (k+(wdO x).length+1+(wdO z).length)∧IsRow H' b6 [.int .i64 0,.str 0 0,.int .i64 0,.nils] false false∧IsRow H' bX c false false∧c.length=4∧IsE (fun c=>n0≤c∧c≠b6∧c≠bX) H' c (.mk 6 n 0 [x,z]))) (fun a=>1-a.1) ?_ (0,5) _ HX ⟨rfl,rfl,rfl,rfl,rfl,rfl,trivial⟩ (.inl ⟨rfl,rfl,rfl⟩)
 rintro ⟨i,mo⟩ H' (⟨hi,hmo,rfl⟩|⟨hi,c,kE,hP,r6E,rE,hcl,hIE⟩)
 ·have hi:i=0:=hi;have hmo:mo=5:=hmo;subst hi hmo;have hkl:k+(wdO x).length<l.length:=(Qb.1 ht0).1;have hll:=h.len;have hlt:levB t0.1.text=levB n:=by rw [htt]
  show VA _ _ _ _ [(0,.ptr b 0),(1,.int .i64 1),(2,.int .i64 (d:Int)),(6,.ptr b6 0),(7,.ptr bX 0),(8,.int .i64 5)] _ _;(repeat' first|(refine zad rfl ?_;first|((first|refine zaa ?_|refine zav rfl ?_);first|refine zal rfl ?_|refine zaq rfl rfl rfl ?_|refine za0 rfl rfl ?_|refine zar rfl ?_|refine zae FpF.h (by decide) rfl ?_|refine zah PlF.h rfl hr rfl ?_|refine zbz zds UnF.h SzF.h rfl hv rfl rfl ht0 (fun q0 hq0=>?_)|refine za6 FpF.h (by decide) rfl hq0 (fun p2 hp2=>?_)|refine zby PlF.h rfl hp2 rfl ?_|refine zaf rfl rfl rfl (zm6 t0.1.text fun H3 k3=>?_)|refine zcr rfl rfl (by omega) ?_|refine zd1 rfl rfl (by omega) ?_|refine zax rfl rfl (by omega) ?_|refine za2 rfl rfl (by omega) ?_)|refine zab ?_)|refine zai rfl ?_|refine zag rfl ?_|refine zac ?_|refine zaj ?_|refine zau ?_|refine zam ?_);have h3:=hX.keep0 k3;have hr3:=h3.row;(repeat' (refine zad rfl ?_;(refine zaa ?_;first|refine zar rfl ?_|refine zae FpF.h (by decide) rfl ?_|refine zah PlF.h rfl hr3 rfl ?_|refine zaz (c:=((k+(wdO x).length+1:Nat):Int)) rfl rfl (zas (by omega) (by omega) (by omega)) ?_)));refine zaa (zbu SzF.h rfl rfl rfl hr3 (show 0+1<4 by decide) fun H4 k4 hn4 hr4=>?_);have h4:=h3.next k4 hr4;have n34:=k3.nx;have n44:=k4.nx;refine zab ?_;(repeat' first|(refine zad rfl ?_;(refine zaa ?_;first|refine zaz (c:=levB t0.1.text+1) rfl rfl (zas (by omega) (by omega) (by omega)) ?_|refine zaf rfl rfl rfl (zmy (n0:=H4.nx) (levB t0.1.text+1) hO' hdz (by omega) h4 (Jz _) hsz hy hy0 fun c2 H5 k5 h5 hI5=>?_)))|refine zac ?_);have hsc2:=zda hI5;obtain ⟨v2,rfl,_⟩:=id hI5.out;refine zad rfl ?_;obtain ⟨bY,hbY⟩:∃b,b=H5.nx:=⟨_,rfl⟩
  refine zaa (za8 ZeF.h fun HaY haY raY=>?_);rw [←hbY] at raY ⊢;refine zad rfl ?_;refine zaa (zan (k:=4) SzF.h rfl rfl rfl hsc2 raY rfl fun HY hsY hnY rY=>?_);have kY:Keep Non H5 HY:=zb3 haY hsY (by rw [hbY];exact Jz _);have n55:=k5.nx;have n5Y:=kY.nx;have rX':=(((rX.keep0 k3).keep k4 (.inl (by show ¬bX=b;omega))).keep k5 (.inl (by show ¬bX=b;omega))).keep0 kY;have r6':=(((r6X.keep0 k3).keep k4 (.inl (by show ¬b6=b;omega))).keep k5 (.inl (by show ¬b6=b;omega))).keep0 kY;(repeat' first|(refine zad rfl ?_;first|(refine zaa ?_;first|refine zat (k:=4) PlF.h rfl (by decide) rfl rX'.pts ?_|refine zat (k:=4) PlF.h rfl (by decide) rfl rY.pts ?_)|refine zab ?_)|refine zac ?_);refine zaa (zap (n:=2) ElF.h (by decide) rfl rfl fun H6 k6 r8=>?_);refine zad rfl ?_;refine zaa (zba BsF.h ZeF.h PsF.h rfl ?_);refine zad rfl ?_;refine zaa (zan (k:=4) SzF.h rfl rfl rfl rfl (rX'.keep0 k6) rfl fun H7 k7 hn7 r7=>?_);have n6:=k6.nx;have kE:Keep (· = b) H H7:=kbx (kb0 (kb0 (kbb (kbb (kb0 kA k3) k4) k5) kY) k6) k7 (by omega);have hx7:IsE (fun c=>n0≤c∧c≠b6∧c≠bX) H7 _ x:=zdc (((((hIX.keep k3).keepS k4 fun c hc e=>by have:=hc.1;omega).keepS k5 fun c hc e=>by have:=hc.1;omega).keep kY).keep k6 |>.keepS k7 fun c hc e=>by have:=hc.2;omega) fun c hc _=>by
   have h1:=hc.1;have h2:=hc.2;exact ⟨by omega,by omega,by omega⟩
  have hz7:IsE (fun c=>n0≤c∧c≠b6∧c≠bX) H7 _ z:=zdc (((hI5.keep kY).keep k6).keepS k7 fun c hc e=>by have hc:H4.nx≤c:=hc;omega) fun c hc _=>by
   have hc:H4.nx≤c:=hc;exact ⟨by omega,by omega,by omega⟩
  have hlen:n.length≤rB:=by
   have hrB:rB=140737488351232:=rfl;have:=zsh hlev;omega
  rw [htt] at r7;have hfin:∃c,Keep (· = b) H H7∧PI H7 b u l (k+(wdO x).length+1+(wdO z).length)∧IsRow H7 b6 [.int .i64 0,.str 0 0,.int .i64 0,.nils] false false∧IsRow H7 bX c false false∧c.length=4∧IsE (fun c=>n0≤c∧c≠b6∧c≠bX) H7 c (.mk 6 n 0 [x,z]):=
   ⟨_,kE,(((h5.keep0 kY).keep0 k6).st k7 (by omega) fun a ha=>by have:=hlow a ha;omega),(r6'.keep0 k6).keep k7 (.inl (by show ¬b6=bX;omega)),r7,rfl,
    IsE.of (by unfold ok64;omega) (by unfold ok64;omega) hlen (by show 2≤140737488351232;omega) (zr6 (r8.keep k7 (.inl (by show ¬HY.nx=bX;omega))) ⟨by omega,by omega,by omega⟩ hx7 hz7 rfl rfl)⟩
  refine zab ?_;(repeat' first|(refine zad rfl ?_;first|(refine zaa ?_;(refine zn0 rfl rfl (fun hc=>?_) (fun hc=>?_)))|refine zab ?_)|refine zai rfl ?_|refine zag rfl ?_|refine zac ?_|refine za1 ?_|refine zam ?_)
  ·exact ⟨(1,2),by show 1-1<1-0;omega,⟨rfl,rfl,rfl,rfl,rfl,rfl,trivial⟩,.inr ⟨rfl,hfin⟩⟩
  ·exact ⟨(1,levB t0.1.text),by show 1-1<1-0;omega,⟨rfl,rfl,rfl,rfl,rfl,rfl,trivial⟩,.inr ⟨rfl,hfin⟩⟩
 ·have hIE0:=hIE;obtain ⟨v3,rfl,_⟩:=id hIE.out;have hfin:∀H3 H4,Keep Non H' H3→Keep (· = b6) H3 H4→Q (.agg _) H4:=fun H3 H4 k3 k4=>
   hQ _ _ (kbx (kb0 kE k3) k4 (by omega)) ((hP.keep0 k3).st k4 (by omega) fun a ha=>by have:=hlow a ha;omega) (zdc ((hIE.keep k3).keepS k4 fun c hc e=>hc.2.1 e) fun c hc _=>hc.1)
  have hsc:=zda hIE;have hrE:=hP.row;have hvE:IsSl H' u 4 l.length (l.flatMap tkC):=hP.tks.sl;by_cases hk4:y.1.kind=4
  ·have hlv:levB y.1.text=0:=by
    have:=zqs y.1.text;rcases hy2 with h|h
    ·exact absurd hk4 h
    ·omega
   (repeat' first|(refine zad rfl ?_;first|refine zbh rfl ?_|((first|refine zaa ?_|refine zav rfl ?_);first|refine zal rfl ?_|refine zaq rfl rfl rfl ?_|refine zar rfl ?_|refine zae FpF.h (by decide) rfl ?_|refine zah PlF.h rfl hrE rfl ?_|refine zbz zds UnF.h SzF.h rfl hvE rfl rfl hy (fun q0 hq0=>?_)|refine za6 FpF.h (by decide) rfl hq0 (fun p2 hp2=>?_)|refine zby PlF.h rfl hp2 rfl ?_|refine zaf rfl rfl rfl (zm6 y.1.text fun H3 k3=>?_)|refine zax rfl rfl (by omega) ?_)|refine zab ?_)|refine zai rfl ?_|refine zac ?_|refine zaj ?_|refine zau ?_|refine zam ?_);have rX3:=rE.keep0 k3;(repeat' (refine zad rfl ?_;(refine zaa ?_;(refine zat (k:=4) PlF.h hcl (by decide) rfl rX3.pts ?_))));refine zad rfl ?_;refine zaa (zan (k:=4) SzF.h rfl rfl rfl hsc (r6E.keep0 k3) rfl fun H4 k4 hn4 r4=>?_);refine zad rfl ?_;refine zab (zao (zbg PlF.h rfl r4 rfl ?_));exact hfin _ _ k3 k4
  ·(repeat' first|(refine zad rfl ?_;first|((first|refine zaa ?_|refine zav rfl ?_);first|refine zal rfl ?_|refine zaq rfl rfl rfl ?_|refine zar rfl ?_|refine zae FpF.h (by decide) rfl ?_|refine zah PlF.h rfl hrE rfl ?_|refine zbz zds UnF.h SzF.h rfl hvE rfl rfl hy (fun q0 hq0=>?_)|refine za6 FpF.h (by decide) rfl hq0 (fun p2 hp2=>?_)|refine zby PlF.h rfl hp2 rfl ?_|refine zat (k:=4) PlF.h hcl (by decide) rfl rE.pts ?_|refine zax rfl rfl (by omega) ?_|refine za2 rfl rfl (by omega) ?_)|refine zab ?_)|refine zag rfl ?_|refine zac ?_|refine zaj ?_|refine zbq ?_);refine zad rfl ?_;refine zaa (zan (k:=4) SzF.h rfl rfl rfl hsc r6E rfl fun H4 k4 hn4 r4=>?_);refine zad rfl ?_;refine zab (zao (zbg PlF.h rfl r4 rfl ?_));exact hfin _ _ (.refl _ _) k4
theorem wdO_eq6 {x:Exp}(h:x.kind=6):wdO x=[40]::(wdE x++[[41]]):=by unfold wdO;rw [if_pos h];rfl
theorem zzf {x:Exp}(h:¬x.kind=6):wdO x=wdE x:=by unfold wdO;rw [if_neg h]
theorem dpO_eq6 {x:Exp}(h:x.kind=6) (d:Nat):dpO x d=dpE x (d+1):=by unfold dpO;rw [if_pos h]
theorem zv1 {x:Exp}(h:¬x.kind=6) (d:Nat):dpO x d=dpE x d:=by unfold dpO;rw [if_neg h]
theorem expr_of {x:Exp}(hx:RE x) (hT:∀(n0 k d:Nat) (H:Heap) (y:Tok×Int) (Q:AV→Heap→Prop),b<n0→PI H b u l k→n0≤H.nx→Seg l k (wdE x)→l[k+(wdE x).length]? = some y→stopB y.1=true→dpE x d≤60→
  (∀c H',Keep (· = b) H H'→PI H' b u l (k+(wdE x).length)→IsE (Frs n0) H' c x→Q (.agg c) H')→WpF prog [5] gl 279 [.ptr b 0,.int .i64 1,.int .i64 (d:Int)] H Q):ExprAt gl b u l x:=by
 intro n0 k d H y Q hbn h hn hs hy hy1 hd hQ;have hd1:=zv0 x d;have hlow:∀a,ownB u a→a<H.nx:=fun a ha=>Own.lt h.tks ha;obtain ⟨w,vs,ew,how⟩:=ze3 hx;obtain ⟨t1,ht1,e1⟩:=hs 0 w (by rw [ew];rfl);have ho1:opB t1.1=true:=by rw [e1];exact how
 have hb:=h.row.1;refine faC func252 b252_eq v252_eq r252_eq (.inr (by simp)) ?_;refine zac ?_;obtain ⟨b4,hb4⟩:∃b,b=H.nx:=⟨_,rfl⟩
 refine zaa (za8 ZeF.h fun H1 k1 r4=>?_);rw [←hb4] at r4 ⊢;have hb41:=r4.1;have h1:=h.keep0 k1;(repeat' first|(refine zad rfl ?_;first|(refine zaa ?_;first|refine zaf rfl rfl rfl (zps h1 ht1 ho1 fun H2 k2 h2=>?_)|refine zaf rfl rfl rfl (zob (by omega) fun vv=>?_))|refine zab ?_)|refine zac ?_);have n12:=k2.nx;(repeat' (refine zad rfl ?_;(refine zaa ?_;(refine zaf rfl rfl rfl (hT H2.nx _ _ H2 y _ (by omega) h2 (Jz _) hs hy hy1 hd fun c H3 k3 h3 hI=>?_)))));have hsc:=zda hI;have hI0:=hI;obtain ⟨v1,rfl,_⟩:=id hI.out;have rA:=(r4.keep0 k2).keep k3 (.inl (by show ¬b4=b;omega));refine zad rfl ?_;refine zaa (zan (k:=4) SzF.h rfl rfl rfl hsc rA rfl fun H4 k4 hn4 r4=>?_);refine zad rfl ?_;refine zab (zao (zbg PlF.h rfl r4 rfl ?_));exact hQ _ _ (kbx (k0b (k1.trans0 k2) k3) k4 (by omega)) (h3.st k4 (by omega) fun a ha=>by have:=hlow a ha;omega) (zdc (hI0.keepS k4 fun c hc e=>by have hc:H2.nx≤c:=hc;omega) fun c hc _=>by have hc:H2.nx≤c:=hc;have:=k1.nx;show n0≤c;omega)
theorem zib (gl:List (List AV)) (b:Nat) (u:AV) (l:List (Tok×Int)):∀(m:Nat) (x:Exp),RE x→szE x<m→ExprAt gl b u l x∧OneAt gl b u l x
 |0,_,_,h=>by omega
 |m+1,x,hx,hm=>by
  have hNB:¬x.kind=6→OneAt gl b u l x:=by
   intro h6 n0 k d H y Q hbn h hn hs hy hy1 hd hQ;rw [zzf h6] at hs hy hQ;rw [zv1 h6] at hd;cases hx with
   |int n hnn=>
    rw [zom] at hs hQ;obtain ⟨⟨t0,ht0,e0⟩,_⟩:=hs.hd;exact one_int n hnn h hn ht0 e0 fun c H'=>hQ c H'
   |bool hz=>
    rw [zkn] at hs hQ;obtain ⟨⟨t0,ht0,e0⟩,_⟩:=hs.hd;exact one_bool hz h hn ht0 e0 fun c H'=>hQ c H'
   |var hname=>
    rw [zon] at hs hQ hy;obtain ⟨⟨t0,ht0,e0⟩,_⟩:=hs.hd;exact one_var hname h hn ht0 e0 hy hy1 fun c H'=>hQ c H'
   |@idx n x hname hx=>
    rw [zol] at hs hQ;rw [dpE_idx] at hd;refine one_idx (zib gl b u l m x hx (by simp only [szE,szEs] at hm;omega)).1 hname (by omega) hbn h hn hs fun c H' hk hP hI=>hQ c H' hk (hP.at ?_) hI;simp only [Jy,J1,J9];omega
   |@un n x hname hx=>
    rw [ztr] at hs hQ hy;rw [dpE_un] at hd;refine one_un (zib gl b u l m x hx (by simp only [szE,szEs] at hm;omega)).2 hname (by omega) (by omega) (zn5 (ze3 hx)) hbn h hn hs (y:=y) ?_ hy1 fun c H' hk hP hI=>hQ c H' hk (hP.at ?_) hI
    ·rw [←hy];congr 1;simp only [Jy];omega
    ·simp only [Jy];omega
   |bin _ _ _=>exact absurd rfl h6
  have hE:ExprAt gl b u l x:=by
   refine expr_of hx fun n0 k d H y Q hbn h hn hs hy hy1 hd hQ=>?_;by_cases h6:x.kind=6
   ·cases hx with
    |int n hnn=>cases h6
    |bool hz=>cases h6
    |var hname=>cases h6
    |idx hname hx=>cases h6
    |un hname hx=>cases h6
    |@bin n x z hl hx hz=>
     rw [zok] at hs hy hQ;rw [dpE_bin] at hd;refine zyv (zib gl b u l m x hx (by simp only [szE,szEs] at hm;omega)).2 (zib gl b u l m z hz (by simp only [szE,szEs] at hm;omega)).2 hl (by omega) (by omega) hbn h hn hs (y:=y) ?_ hy1 fun c H' hk hP hI=>hQ c H' hk (hP.at ?_) hI
     ·rw [←hy];congr 1;simp only [Jy,J1];omega
     ·simp only [Jy,J1];omega
   ·have e:=zzf h6;rw [←e] at hs hy hQ;exact zmy 1 (hNB h6) (by rw [zv1 h6];exact hd) hbn h hn hs hy hy1 hQ
  refine ⟨hE,?_⟩;by_cases h6:x.kind=6
  ·intro n0 k d H y Q hbn h hn hs hy hy1 hd hQ;rw [wdO_eq6 h6] at hs hQ;rw [dpO_eq6 h6] at hd;refine one_br hE hd hbn h hn hs fun c H' hk hP hI=>hQ c H' hk (hP.at ?_) hI;simp only [Jy,J1,J9];omega
  ·exact hNB h6
theorem ze2 {x:Exp}(hx:RE x):ExprAt gl b u l x:=(zib gl b u l _ x hx (Nat.lt_succ_self _)).1
end
end Go.Proofs.YtniflgldgnmiaaaGreatDoor
