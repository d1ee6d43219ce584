/-
  The document's parser: its state (parallaxref03.In) and its small steps (is, kind, got, want, word, part, opens, typ), walked where there is no error. Conditions: the tokens at hand.
-/
import Derived.Test.YtniflgldgnmiaaaGreatDoorScn1
import Derived.Test.YtniflgldgnmiaaaGreatDoorWrS
namespace Go.Proofs.YtniflgldgnmiaaaGreatDoor
open Go Eng Tryz
set_option maxHeartbeats 0
instance ifp_159_0:FpF prog 159 0 ⟨0,false,1⟩:=⟨by kernel_rfl⟩
instance ipl_33:PlF prog 33 ⟨0,false,1⟩:=⟨by kernel_rfl⟩
instance ifp_159_1:FpF prog 159 1 ⟨1,false,1⟩:=⟨by kernel_rfl⟩
instance ifp_159_2:FpF prog 159 2 ⟨2,false,1⟩:=⟨by kernel_rfl⟩
instance ipl_28:PlF prog 28 ⟨0,false,1⟩:=⟨by kernel_rfl⟩
def v164t2:CV:=Jt [Jd 16 0,Jm 17 16,Jg 18 159 17 2,Jf 19 28 18,Jc 20 (.binOp .eql 28 (Ja 19) (Jb 0) 28),Jd 21 20,Jq 21 true 22 76 5 1,Jr 21 true 23 9 22,Jp 21 true 24 1,Js 21 true 25 (.binOp .eql 9 (Ja 23) (Ja 24) 9),Jc 26 (.pick (Ja 21) (Ja 25) (.const (.bool false))),Jd 27 26,Jq 27 true 28 76 5 0,Jr 27 true 29 3 28,Js 27 true 30 (.binOp .eql 3 (Ja 29) (Jb 3) 3),Jp 27 true 31 30,Jq 31 false 32 76 5 0,Jr 31 false 33 3 32,Js 31 false 34 (.binOp .eql 3 (Ja 33) (Jb 4) 3),Js 27 true 35 (.pick (Ja 31) (.const (.bool true)) (Ja 34)),Jc 36 (.pick (Ja 27) (Ja 35) (.const (.bool false))),Jh 4 36] (.ret)
def v164t1:CV:=Jt [Jd 6 0,Jm 7 6,Jg 8 159 7 0,Jf 9 33 8,Jd 10 0,Jm 11 10,Jg 12 159 11 1,Jf 13 3 12,Jk 14 33 9 13,Jf 15 76 14,Jc 5 (.alloc 76),.op none (.store 76 (Ja 5) (Ja 15))] v164t2
def v164:CV:=Jt [Jc 4 (.assign (.const (.bool false)))] v164t1
noncomputable def b164:Code:=f164.body.getD .skip
theorem b164_eq:f164.body=some b164:=by kernel_rfl
theorem v164_eq:viewC prog b164=some v164:=by kernel_rfl
theorem r164_eq:f164.results.toList=[.tmp 4]:=by kernel_rfl
def v64t1:CV:=Jt [Jd 5 0,Jm 6 5,Jg 7 159 6 2,Jf 8 28 7,Jc 9 (.binOp .eql 28 (Ja 8) (Jb 0) 28),Jd 10 9,Jp 10 true 11 0,Js 10 true 12 (.nilCheck (Ja 11)),Jq 10 true 13 159 12 0,Jr 10 true 14 33 13,Jp 10 true 15 0,Js 10 true 16 (.nilCheck (Ja 15)),Jq 10 true 17 159 16 1,Jr 10 true 18 3 17,Js 10 true 19 (.indexAddr 33 (Ja 14) (Ja 18)),Jq 10 true 20 76 19 0,Jr 10 true 21 3 20,Jp 10 true 22 1,Js 10 true 23 (.binOp .eql 3 (Ja 21) (Ja 22) 3),Jc 24 (.pick (Ja 10) (Ja 23) (.const (.bool false))),Jh 4 24] (.ret)
def v64:CV:=Jt [Jc 4 (.assign (.const (.bool false)))] v64t1
noncomputable def b64:Code:=f64.body.getD .skip
theorem b64_eq:f64.body=some b64:=by kernel_rfl
theorem v64_eq:viewC prog b64=some v64:=by kernel_rfl
theorem r64_eq:f64.results.toList=[.tmp 4]:=by kernel_rfl
def v116c0t1:CV:=Jt [Jc 4 (.assign (.const (.bool true)))] (.ret)
def v116c0:CV:=Jt [Jd 8 0,Jm 9 8,Jg 10 159 9 1,Jf 11 3 10,Jc 12 (.binOp .add 3 (Ja 11) (Jb 1) 3),Jm 13 8,Jg 14 159 13 1,.op none (.store 3 (Ja 14) (Ja 12))] v116c0t1
def v116h1:CV:=Jt [Jd 5 0,Jd 6 1,Jo 7 164 5 6 157 9] (.cond (Ja 7) v116c0 (.skip))
def v116t2:CV:=Jt [Jc 4 (.assign (.const (.bool false)))] (.ret)
def v116t1:CV:=.seq v116h1 v116t2
def v116:CV:=Jt [Jc 4 (.assign (.const (.bool false)))] v116t1
noncomputable def b116:Code:=f116.body.getD .skip
theorem zvc:f116.body=some b116:=by kernel_rfl
theorem zyy:viewC prog b116=some v116:=by kernel_rfl
theorem zxz:f116.results.toList=[.tmp 4]:=by kernel_rfl
def v114:CV:=Jt [Jd 4 0,Jd 5 1,Jo 6 116 4 5 157 9,Jc 7 (.unOp .not 4 (Ja 6))] (.cond (Ja 7) (.reg [Jd 8 0,Jc 9 (.call ⟨.value (.func 118),#[(Ja 8),(Jb 30)],#[157,28]⟩)]) (.skip))
noncomputable def b114:Code:=f114.body.getD .skip
theorem b114_eq:f114.body=some b114:=by kernel_rfl
theorem v114_eq:viewC prog b114=some v114:=by kernel_rfl
theorem r114_eq:f114.results.toList=[]:=by kernel_rfl
def v115c0t1:CV:=Jt [Jc 2 (.assign (.const (.string ⟨⟨[]⟩⟩)))] (.ret)
def v115c0:CV:=Jt [Jd 6 0,Jc 7 (.call ⟨.value (.func 118),#[(Ja 6),(Jb 30)],#[157,28]⟩)] v115c0t1
def v115h1:CV:=Jt [Jd 3 0,Jc 4 (.call ⟨.value (.func 64),#[(Ja 3),(Jb 1)],#[157,3]⟩),Jc 5 (.unOp .not 4 (Ja 4))] (.cond (Ja 5) v115c0 (.skip))
def v115t3:CV:=Jt [Jd 15 0,Jm 16 15,Jg 17 159 16 0,Jf 18 33 17,Jd 19 0,Jm 20 19,Jg 21 159 20 1,Jf 22 3 21,Jc 23 (.binOp .sub 3 (Ja 22) (Jb 1) 3),Jk 24 33 18 23,Jg 25 76 24 1,Jf 26 9 25,Jh 2 26] (.ret)
def v115t2:CV:=Jt [Jd 8 0,Jm 9 8,Jg 10 159 9 1,Jf 11 3 10,Jc 12 (.binOp .add 3 (Ja 11) (Jb 1) 3),Jm 13 8,Jg 14 159 13 1,.op none (.store 3 (Ja 14) (Ja 12))] v115t3
def v115t1:CV:=.seq v115h1 v115t2
def v115:CV:=Jt [Jc 2 (.assign (.const (.string ⟨⟨[]⟩⟩)))] v115t1
noncomputable def b115:Code:=f115.body.getD .skip
theorem b115_eq:f115.body=some b115:=by kernel_rfl
theorem v115_eq:viewC prog b115=some v115:=by kernel_rfl
theorem r115_eq:f115.results.toList=[.tmp 2]:=by kernel_rfl
def v216h0:CV:=Jt [Jd 6 1,Jc 7 (.unOp .not 4 (Ja 6))] (.cond (Ja 7) (.reg [Jd 8 0,Jc 9 (.call ⟨.value (.func 118),#[(Ja 8),(Jb 30)],#[157,28]⟩)]) (.skip))
def v216t1:CV:=Jt [Jd 10 2,Jc 11 (.binOp .gtr 3 (Ja 10) (Jb 60) 3)] (.cond (Ja 11) (.reg [Jd 12 0,Jc 13 (.call ⟨.value (.func 118),#[(Ja 12),(Jb 31)],#[157,28]⟩)]) (.skip))
def v216:CV:=.seq v216h0 v216t1
noncomputable def b216:Code:=f216.body.getD .skip
theorem b216_eq:f216.body=some b216:=by kernel_rfl
theorem v216_eq:viewC prog b216=some v216:=by kernel_rfl
theorem r216_eq:f216.results.toList=[]:=by kernel_rfl
def v278t1:CV:=Jt [Jd 3 0,Jc 4 (.call ⟨.value (.func 64),#[(Ja 3),(Jb 1)],#[157,3]⟩),Jd 5 4,Jp 5 false 6 0,Js 5 false 7 (.call ⟨.value (.func 64),#[(Ja 6),(Jb 2)],#[157,3]⟩),Jc 8 (.pick (Ja 5) (.const (.bool true)) (Ja 7)),Jd 9 8,Jp 9 false 10 0,Js 9 false 11 (.call ⟨.value (.func 164),#[(Ja 10),(.const (.string ⟨⟨[116,114,117,101]⟩⟩))],#[157,9]⟩),Jc 12 (.pick (Ja 9) (.const (.bool true)) (Ja 11)),Jd 13 12,Jp 13 false 14 0,Js 13 false 15 (.call ⟨.value (.func 164),#[(Ja 14),(.const (.string ⟨⟨[102,97,108,115,101]⟩⟩))],#[157,9]⟩),Jc 16 (.pick (Ja 13) (.const (.bool true)) (Ja 15)),Jd 17 16,Jp 17 false 18 0,Js 17 false 19 (.call ⟨.value (.func 164),#[(Ja 18),(.const (.string ⟨⟨[40]⟩⟩))],#[157,9]⟩),Jc 20 (.pick (Ja 17) (.const (.bool true)) (Ja 19)),Jd 21 20,Jp 21 false 22 0,Js 21 false 23 (.call ⟨.value (.func 164),#[(Ja 22),(.const (.string ⟨⟨[45]⟩⟩))],#[157,9]⟩),Jc 24 (.pick (Ja 21) (.const (.bool true)) (Ja 23)),Jd 25 24,Jp 25 false 26 0,Js 25 false 27 (.call ⟨.value (.func 164),#[(Ja 26),(.const (.string ⟨⟨[33]⟩⟩))],#[157,9]⟩),Jc 28 (.pick (Ja 25) (.const (.bool true)) (Ja 27)),Jh 2 28] (.ret)
def v278:CV:=Jt [Jc 2 (.assign (.const (.bool false)))] v278t1
noncomputable def b278:Code:=f278.body.getD .skip
theorem b278_eq:f278.body=some b278:=by kernel_rfl
theorem v278_eq:viewC prog b278=some v278:=by kernel_rfl
theorem r278_eq:f278.results.toList=[.tmp 2]:=by kernel_rfl
def v117c0:CV:=Jt [Ji 2 1] (.ret)
def v117h1:CV:=Jt [Jd 3 0,Jc 4 (.call ⟨.value (.func 116),#[(Ja 3),(.const (.string ⟨⟨[105,110,116]⟩⟩))],#[157,9]⟩)] (.cond (Ja 4) v117c0 (.skip))
def v117c1:CV:=Jt [Ji 2 2] (.ret)
def v117h2:CV:=Jt [Jd 5 0,Jc 6 (.call ⟨.value (.func 116),#[(Ja 5),(.const (.string ⟨⟨[98,111,111,108]⟩⟩))],#[157,9]⟩)] (.cond (Ja 6) v117c1 (.skip))
def v117t3:CV:=Jt [Ji 2 0] (.ret)
def v117t2:CV:=.seq v117h2 v117t3
def v117t1:CV:=.seq v117h1 v117t2
def v117:CV:=Jt [Ji 2 0] v117t1
noncomputable def b117:Code:=f117.body.getD .skip
theorem zvd:f117.body=some b117:=by kernel_rfl
theorem zyz:viewC prog b117=some v117:=by kernel_rfl
theorem zx0:f117.results.toList=[.tmp 2]:=by kernel_rfl
structure PI (H:Heap) (b:Nat) (u:AV) (l:List (Tok×Int)) (k:Nat):Prop where
 row:IsRow H b [u,.int .i64 (k:Int),.int .i64 0,.int .i64 0] false false
 tks:OwnTk H u l
 off:¬ownB u b
 len:l.length<100000
theorem PI.keep0 {H H':Heap}{b k:Nat}{u:AV}{l:List (Tok×Int)}(h:PI H b u l k) (c:Keep Non H H'):PI H' b u l k:=⟨h.row.keep0 c,Own.keep0 h.tks c,h.off,h.len⟩
def isB (t:Tok) (s:List UInt8):Bool:=decide (t.text=s)&&(decide (t.kind=3)||decide (t.kind=4))
theorem PI.next {H H':Heap}{b k:Nat}{u:AV}{l:List (Tok×Int)}(h:PI H b u l k) (c:Keep (· = b) H H') (hr:IsRow H' b [u,.int .i64 ((k+1:Nat):Int),.int .i64 0,.int .i64 0] false false):PI H' b u l (k+1):=⟨hr,Own.keep h.tks c fun a ha e=>h.off (by rw [←e];exact ha),h.off,h.len⟩
section
variable {gl:List (List AV)}{H:Heap}{u v w:AV}{b k:Nat}{l:List (Tok×Int)}{Q:AV→Heap→Prop}
theorem zc2 (h:PI H b u l k) {x:Tok×Int}(hx:l[k]? = some x) (s:List UInt8) (hQ:∀H',Keep Non H H'→Q (.bool (isB x.1 s)) H'):WpF prog [5] gl 164 [.ptr b 0,S s] H Q:=by
 have hr:=h.row;have hv:IsSl H u 4 l.length (l.flatMap tkC):=h.tks.sl;refine fa func164 b164_eq v164_eq r164_eq (.inr (by simp)) ?_;refine zac ?_;refine zad rfl ?_;refine zab (zac ?_);refine zad rfl ?_;(repeat ((refine zaa ?_;first|refine zar rfl ?_|refine zae FpF.h (by decide) rfl ?_|refine zah PlF.h rfl hr rfl ?_);refine zad rfl ?_));refine zaa (zbz zds UnF.h SzF.h rfl hv rfl rfl hx fun q0 hq0=>?_);refine zaa (zat (k:=4) PlF.h rfl (by decide) rfl hq0 ?_);obtain ⟨bx,hbx⟩:∃b,b=H.nx:=⟨_,rfl⟩
 refine zaa (za8 ZeF.h fun H1 hk1 hr1=>?_);rw [←hbx] at hr1 ⊢;refine zaa (zan (k:=4) SzF.h rfl rfl rfl rfl hr1 rfl fun H2 hk2 hn2 hr2=>?_);have k02:Keep Non H H2:=zb3 hk1 hk2 (by rw [hbx];exact Jz _);have hr3:=hr.keep0 k02;have hr2:IsRow H2 bx [.int .i64 x.1.kind,S x.1.text,.int .i64 x.1.num,.int .i64 x.2] false false:=hr2;refine zab ?_;(repeat' first|(refine zad rfl ?_;first|refine zbh rfl ?_|refine zo4 rfl ?_|((first|refine zaa ?_|refine zav rfl ?_);first|refine zal rfl ?_|refine zaq rfl rfl rfl ?_|refine za0 rfl rfl ?_|refine zar rfl ?_|refine zae FpF.h (by decide) rfl ?_|refine zah PlF.h rfl hr3 rfl ?_|refine zah PlF.h rfl hr2 rfl ?_|refine zax rfl rfl (by omega) ?_|refine zn0 rfl rfl (fun hc=>?_) (fun hc=>?_)|refine zn3 rfl rfl (fun hc=>?_) (fun hc=>?_))|refine zab ?_)|refine zac ?_|(refine zao ?_;refine zbr rfl ?_))
 all_goals
  have e:=hQ H2 k02;clear hQ;revert e;unfold isB;simp [*]
theorem zek (h:PI H b u l k) {x:Tok×Int}(hx:l[k]? = some x) (n:Int) (hQ:Q (.bool (decide (x.1.kind=n))) H):WpF prog [5] gl 64 [.ptr b 0,.int .i64 n] H Q:=by
 have hr:=h.row;have hv:IsSl H u 4 l.length (l.flatMap tkC):=h.tks.sl;refine fa func64 b64_eq v64_eq r64_eq (.inr (by simp)) ?_;(repeat' first|(refine zad rfl ?_;first|((first|refine zaa ?_|refine zav rfl ?_);first|refine zal rfl ?_|refine zaq rfl rfl rfl ?_|refine zar rfl ?_|refine zae FpF.h (by decide) rfl ?_|refine zah PlF.h rfl hr rfl ?_|refine zbz zds UnF.h SzF.h rfl hv rfl rfl hx (fun q0 hq0=>?_)|refine za6 FpF.h (by decide) rfl hq0 (fun p2 hp2=>?_)|refine zby PlF.h rfl hp2 rfl ?_|refine zax rfl rfl (by omega) ?_|refine zn0 rfl rfl (fun hc=>?_) (fun hc=>?_))|refine zab ?_)|refine zac ?_|(refine zao ?_;refine zbr rfl ?_))
 all_goals
  revert hQ;simp [*]
theorem zb6 (h:PI H b u l k) {x:Tok×Int}(hx:l[k]? = some x) {s:List UInt8}(hs:isB x.1 s=true) (hQ:∀H',Keep (· = b) H H'→PI H' b u l (k+1)→Q (.bool true) H'):WpF prog [5] gl 116 [.ptr b 0,S s] H Q:=by
 have hkl:k<l.length:=(Qb.1 hx).1;have hll:=h.len;refine fa func116 zvc zyy zxz (.inr (by simp)) ?_;(repeat' first|(refine zad rfl ?_;first|(refine zaa ?_;(refine zaf rfl rfl rfl (zc2 h hx s fun H1 k1=>?_)))|refine zab ?_)|refine zac ?_|refine zaj ?_);rw [hs];have h1:=h.keep0 k1;have hr:=h1.row;(repeat' first|(refine zad rfl ?_;(refine zaa ?_;first|refine zar rfl ?_|refine zae FpF.h (by decide) rfl ?_|refine zah PlF.h rfl hr rfl ?_|refine zaz (c:=((k+1:Nat):Int)) rfl rfl Ju ?_))|refine zai rfl ?_|refine zac ?_);refine zaa (zbu SzF.h rfl rfl rfl hr (show 0+1<4 by decide) fun H2 hk2 hn2 hr2=>?_);have k02:Keep (· = b) H H2:=(k1.wide fun _ h=>h.elim).trans hk2 fun c hc=>.inl hc;(repeat' first|(refine zad rfl ?_;(refine zab ?_))|refine zac ?_|(refine zao ?_;refine zbr rfl ?_));exact hQ _ k02 (h1.next hk2 hr2)
theorem zbm (h:PI H b u l k) {x:Tok×Int}(hx:l[k]? = some x) {s:List UInt8}(hs:isB x.1 s=false) (hQ:∀H',Keep Non H H'→PI H' b u l k→Q (.bool false) H'):WpF prog [5] gl 116 [.ptr b 0,S s] H Q:=by
 refine fa func116 zvc zyy zxz (.inr (by simp)) ?_;(repeat' first|(refine zad rfl ?_;first|(refine zaa ?_;(refine zaf rfl rfl rfl (zc2 h hx s fun H1 k1=>?_)))|refine zab ?_)|refine zac ?_|refine zaj ?_);rw [hs];(repeat' first|(refine zad rfl ?_;(refine zab ?_))|refine zag rfl ?_|refine zac ?_|refine zam ?_|(refine zao ?_;refine zbr rfl ?_));exact hQ _ k1 (h.keep0 k1)
theorem zcw (h:PI H b u l k) {x:Tok×Int}(hx:l[k]? = some x) {s:List UInt8}(hs:isB x.1 s=true) (hQ:∀v H',Keep (· = b) H H'→PI H' b u l (k+1)→Q v H'):WpF prog [5] gl 114 [.ptr b 0,S s] H Q:=by
 refine fa func114 b114_eq v114_eq r114_eq (.inr (by simp)) ?_;(repeat' first|(refine zad rfl ?_;first|(refine zaa ?_;(refine zaf rfl rfl rfl (zb6 h hx hs fun H1 k1 h1=>?_)))|refine zab ?_)|refine zag rfl ?_|refine zac ?_|refine zam ?_|refine left_n rfl ?_);exact hQ _ _ k1 h1
theorem zee (h:PI H b u l k) {x:Tok×Int}(hx:l[k]? = some x) (hs:x.1.kind=1) (hQ:∀H',Keep (· = b) H H'→PI H' b u l (k+1)→Q (S x.1.text) H'):WpF prog [5] gl 115 [.ptr b 0] H Q:=by
 have hkl:k<l.length:=(Qb.1 hx).1;have hll:=h.len;have hr:=h.row;refine fa func115 b115_eq v115_eq r115_eq (.inr (by simp)) ?_;(repeat' first|(refine zad rfl ?_;first|(refine zaa ?_;(refine zaf rfl rfl rfl (zek h hx 1 ?_)))|refine zab ?_)|refine zac ?_|refine zaj ?_);rw [Qg hs];(repeat' first|(refine zad rfl ?_;(refine zaa ?_;first|refine zar rfl ?_|refine zae FpF.h (by decide) rfl ?_|refine zah PlF.h rfl hr rfl ?_|refine zaz (c:=((k+1:Nat):Int)) rfl rfl Ju ?_))|refine zag rfl ?_|refine zac ?_|refine zam ?_);refine zaa (zbu SzF.h rfl rfl rfl hr (show 0+1<4 by decide) fun H2 hk2 hn2 hr2=>?_);have h2:=h.next hk2 hr2;have hr3:=h2.row;have hv:IsSl H2 u 4 l.length (l.flatMap tkC):=h2.tks.sl;refine zab ?_;(repeat' first|(refine zad rfl ?_;first|(refine zaa ?_;first|refine zar rfl ?_|refine zae FpF.h (by decide) rfl ?_|refine zah PlF.h rfl hr3 rfl ?_|refine zc4 (c:=((k:Nat):Int)) rfl rfl Ju ?_|refine zbz zds UnF.h SzF.h rfl hv rfl rfl hx (fun q0 hq0=>?_)|refine za6 FpF.h (by decide) rfl hq0 (fun p2 hp2=>?_)|refine zby PlF.h rfl hp2 rfl ?_)|refine zab ?_)|refine zac ?_|(refine zao ?_;refine zbr rfl ?_));exact hQ _ hk2 h2
theorem zob {d:Int}(hd:d≤60) (hQ:∀v,Q v H):WpF prog [5] gl 216 [.ptr b 0,.bool true,.int .i64 d] H Q:=by
 refine fa func216 b216_eq v216_eq r216_eq (.inr (by simp)) ?_;(repeat' first|(refine zad rfl ?_;first|(refine zaa ?_;(refine zd1 rfl rfl (by omega) ?_))|refine zab ?_)|refine zag rfl ?_|refine zac ?_|refine zaj ?_|refine zam ?_|refine left_n rfl ?_);exact hQ _
def opB (t:Tok):Bool:=decide (t.kind=1)||(decide (t.kind=2)||(isB t [116,114,117,101]||(isB t [102,97,108,115,101]||(isB t [40]||(isB t [45]||isB t [33])))))
theorem zps (h:PI H b u l k) {x:Tok×Int}(hx:l[k]? = some x) (ho:opB x.1=true) (hQ:∀H',Keep Non H H'→PI H' b u l k→Q (.bool true) H'):WpF prog [5] gl 278 [.ptr b 0] H Q:=by
 unfold opB at ho;refine fa func278 b278_eq v278_eq r278_eq (.inr (by simp)) ?_;(repeat' first|(refine zad rfl ?_;first|(refine zaa ?_;(refine zaf rfl rfl rfl (zek h hx 1 ?_)))|refine zab ?_)|refine zac ?_);cases e1:decide (x.1.kind=1);rotate_left
 ·(repeat' first|(refine zad rfl ?_;first|refine zbh rfl ?_|(refine zaa ?_;(refine zaq rfl rfl rfl ?_))|refine zab ?_)|(refine zao ?_;refine zbr rfl ?_));exact hQ _ (.refl _ _) h
 rw [e1,Bool.false_or] at ho;(repeat' (refine zad rfl ?_;((first|refine zaa ?_|refine zav rfl ?_);first|refine zal rfl ?_|refine za0 rfl rfl ?_|refine zaf rfl rfl rfl (zek h hx 2 ?_))));cases e2:decide (x.1.kind=2);rotate_left
 ·(repeat' first|(refine zad rfl ?_;first|refine zbh rfl ?_|(refine zaa ?_;(refine zaq rfl rfl rfl ?_))|refine zab ?_)|(refine zao ?_;refine zbr rfl ?_));exact hQ _ (.refl _ _) h
 rw [e2,Bool.false_or] at ho;(repeat' (refine zad rfl ?_;((first|refine zaa ?_|refine zav rfl ?_);first|refine zal rfl ?_|refine za0 rfl rfl ?_|refine zaf rfl rfl rfl (zc2 h hx [116,114,117,101] fun H1 k1=>?_))));have h1:=h.keep0 k1;cases f1:isB x.1 [116,114,117,101];rotate_left
 ·(repeat' first|(refine zad rfl ?_;first|refine zbh rfl ?_|(refine zaa ?_;(refine zaq rfl rfl rfl ?_))|refine zab ?_)|(refine zao ?_;refine zbr rfl ?_));exact hQ _ k1 h1
 rw [f1,Bool.false_or] at ho;(repeat' (refine zad rfl ?_;((first|refine zaa ?_|refine zav rfl ?_);first|refine zal rfl ?_|refine za0 rfl rfl ?_|refine zaf rfl rfl rfl (zc2 h1 hx [102,97,108,115,101] fun H2 k2=>?_))));have h2:=h1.keep0 k2;have kk2:=k1.trans0 k2;cases f2:isB x.1 [102,97,108,115,101];rotate_left
 ·(repeat' first|(refine zad rfl ?_;first|refine zbh rfl ?_|(refine zaa ?_;(refine zaq rfl rfl rfl ?_))|refine zab ?_)|(refine zao ?_;refine zbr rfl ?_));exact hQ _ kk2 h2
 rw [f2,Bool.false_or] at ho;(repeat' (refine zad rfl ?_;((first|refine zaa ?_|refine zav rfl ?_);first|refine zal rfl ?_|refine za0 rfl rfl ?_|refine zaf rfl rfl rfl (zc2 h2 hx [40] fun H3 k3=>?_))));have h3:=h2.keep0 k3;have kk3:=kk2.trans0 k3;cases f3:isB x.1 [40];rotate_left
 ·(repeat' first|(refine zad rfl ?_;first|refine zbh rfl ?_|(refine zaa ?_;(refine zaq rfl rfl rfl ?_))|refine zab ?_)|(refine zao ?_;refine zbr rfl ?_));exact hQ _ kk3 h3
 rw [f3,Bool.false_or] at ho;(repeat' (refine zad rfl ?_;((first|refine zaa ?_|refine zav rfl ?_);first|refine zal rfl ?_|refine za0 rfl rfl ?_|refine zaf rfl rfl rfl (zc2 h3 hx [45] fun H4 k4=>?_))));have h4:=h3.keep0 k4;have kk4:=kk3.trans0 k4;cases f4:isB x.1 [45];rotate_left
 ·(repeat' first|(refine zad rfl ?_;first|refine zbh rfl ?_|(refine zaa ?_;(refine zaq rfl rfl rfl ?_))|refine zab ?_)|(refine zao ?_;refine zbr rfl ?_));exact hQ _ kk4 h4
 rw [f4,Bool.false_or] at ho;(repeat' first|(refine zad rfl ?_;first|((first|refine zaa ?_|refine zav rfl ?_);first|refine zal rfl ?_|refine za0 rfl rfl ?_|refine zaf rfl rfl rfl (zc2 h4 hx [33] fun H5 k5=>?_))|refine zab ?_)|(refine zao ?_;refine zbr rfl ?_));have h5:=h4.keep0 k5;have kk5:=kk4.trans0 k5;rw [ho];(repeat' (refine zad rfl ?_;(refine zbh rfl ?_)));exact hQ _ kk5 h5
theorem zxy (h:PI H b u l k) {x:Tok×Int}(hx:l[k]? = some x) (c:Int) (hc:(c=1∧isB x.1 [105,110,116]=true)∨(c=2∧isB x.1 [105,110,116]=false∧isB x.1 [98,111,111,108]=true)) (hQ:∀H',Keep (· = b) H H'→PI H' b u l (k+1)→Q (.int .i64 c) H'):WpF prog [5] gl 117 [.ptr b 0] H Q:=by
 refine fa func117 zvd zyz zx0 (.inr (by simp)) ?_;rcases hc with ⟨rfl,h1⟩|⟨rfl,h1,h2⟩
 ·(repeat' first|(refine zad rfl ?_;first|(refine zaa ?_;(refine zaf rfl rfl rfl (zb6 h hx h1 fun H1 k1 h1=>?_)))|refine zab ?_)|refine zai rfl ?_|refine zac ?_|refine zaj ?_|(refine zao ?_;refine zbr rfl ?_));exact hQ _ k1 h1
 ·(repeat' first|(refine zad rfl ?_;first|(refine zaa ?_;(refine zaf rfl rfl rfl (zbm h hx h1 fun H1 k1 h1=>?_)))|refine zab ?_)|refine zag rfl ?_|refine zac ?_|refine zaj ?_|refine zam ?_);(repeat' first|(refine zad rfl ?_;first|(refine zaa ?_;(refine zaf rfl rfl rfl (zb6 h1 hx h2 fun H2 k2 h2=>?_)))|refine zab ?_)|refine zai rfl ?_|refine zac ?_|(refine zao ?_;refine zbr rfl ?_));exact hQ _ ((k1.wide fun _ h=>h.elim).trans k2 fun c hc=>.inl hc) h2
theorem ptyp_no (h:PI H b u l k) {x:Tok×Int}(hx:l[k]? = some x) (h1:isB x.1 [105,110,116]=false) (h2:isB x.1 [98,111,111,108]=false) (hQ:∀H',Keep Non H H'→PI H' b u l k→Q (.int .i64 0) H'):WpF prog [5] gl 117 [.ptr b 0] H Q:=by
 refine fa func117 zvd zyz zx0 (.inr (by simp)) ?_;(repeat' first|(refine zad rfl ?_;first|(refine zaa ?_;(refine zaf rfl rfl rfl (zbm h hx h1 fun H1 k1 h1=>?_)))|refine zab ?_)|refine zag rfl ?_|refine zac ?_|refine zaj ?_|refine zam ?_);(repeat' first|(refine zad rfl ?_;first|(refine zaa ?_;(refine zaf rfl rfl rfl (zbm h1 hx h2 fun H2 k2 h2=>?_)))|refine zab ?_)|refine zag rfl ?_|refine zac ?_|refine zam ?_|(refine zao ?_;refine zbr rfl ?_));exact hQ _ (k1.trans0 k2) h2
end
instance iel_385:ElF prog 385 ⟨40,1,.nils⟩:=⟨by kernel_rfl⟩
instance iun_385:UnF prog 385 (.slice 40):=⟨by kernel_rfl⟩
def v293l0h0:CV:=Jt [Jd 12 4,Jd 13 3,Jj 14 13 385,Jc 15 (.binOp .lss 3 (Ja 12) (Ja 14) 3)] (.cond (Ja 15) (.skip) (.exit 0))
def v293l1h0:CV:=Jt [Jd 18 5,Jd 19 3,Jd 20 4,Jk 21 385 19 20,Jf 22 40 21,Jj 23 22 40,Jc 24 (.binOp .lss 3 (Ja 18) (Ja 23) 3)] (.cond (Ja 24) (.skip) (.exit 2))
def v293c2:CV:=Jt [Jd 36 4,Jc 37 (.binOp .add 3 (Ja 36) (Jb 1) 3),Jh 2 37] (.ret)
def v293k1:CV:=Jt [Jd 27 3,Jd 28 4,Jk 29 385 27 28,Jf 30 40 29,Jd 31 5,Jk 32 40 30 31,Jf 33 9 32,Jd 34 0,Jc 35 (.binOp .eql 9 (Ja 33) (Ja 34) 9)] (.cond (Ja 35) v293c2 (.skip))
def v293l1t1:CV:=.seq (.block 3 v293k1) (.reg [Jd 25 5,Jc 26 (.binOp .add 3 (Ja 25) (Jb 1) 3),Jh 5 26])
def v293l1:CV:=.seq v293l1h0 v293l1t1
def v293k0:CV:=Jt [Ji 5 0] (.block 2 (.loop v293l1))
def v293l0t1:CV:=.seq (.block 1 v293k0) (.reg [Jd 16 4,Jc 17 (.binOp .add 3 (Ja 16) (Jb 1) 3),Jh 4 17])
def v293l0:CV:=.seq v293l0h0 v293l0t1
def v293h2:CV:=Jt [Ji 4 0] (.block 0 (.loop v293l0))
def v293t3:CV:=Jt [Ji 2 0] (.ret)
def v293t2:CV:=.seq v293h2 v293t3
def v293t1:CV:=Jt [Jc 6 (.buildSlice 40 1 #[(0,(.const (.string ⟨⟨[124,124]⟩⟩)))]),Jc 7 (.buildSlice 40 1 #[(0,(.const (.string ⟨⟨[38,38]⟩⟩)))]),Jc 8 (.buildSlice 40 4 #[(0,(.const (.string ⟨⟨[61,61]⟩⟩))),(1,(.const (.string ⟨⟨[33,61]⟩⟩))),(2,(.const (.string ⟨⟨[60]⟩⟩))),(3,(.const (.string ⟨⟨[60,61]⟩⟩)))]),Jc 9 (.buildSlice 40 2 #[(0,(.const (.string ⟨⟨[43]⟩⟩))),(1,(.const (.string ⟨⟨[45]⟩⟩)))]),Jc 10 (.buildSlice 40 3 #[(0,(.const (.string ⟨⟨[42]⟩⟩))),(1,(.const (.string ⟨⟨[47]⟩⟩))),(2,(.const (.string ⟨⟨[37]⟩⟩)))]),Jc 11 (.buildSlice 385 5 #[(0,(Ja 6)),(1,(Ja 7)),(2,(Ja 8)),(3,(Ja 9)),(4,(Ja 10))]),Jh 3 11] v293t2
def v293:CV:=Jt [Ji 2 0] v293t1
noncomputable def b293:Code:=f293.body.getD .skip
theorem b293_eq:f293.body=some b293:=by kernel_rfl
theorem v293_eq:viewC prog b293=some v293:=by kernel_rfl
theorem r293_eq:f293.results.toList=[.tmp 2]:=by kernel_rfl
def rowsT:List (List (List UInt8)):=[[[124,124]],[[38,38]],[[61,61],[33,61],[60],[60,61]],[[43],[45]],[[42],[47],[37]]]
theorem zya:∀(i:Nat) (r:List (List UInt8)),rowsT[i]? = some r→∀s∈r,levB s=((i+1:Nat):Int):=by
 intro i r h;have hi:i<5:=(Qb.1 h).1
 match i,hi with
 |0,_=>cases h;decide
 |1,_=>cases h;decide
 |2,_=>cases h;decide
 |3,_=>cases h;decide
 |4,_=>cases h;decide
theorem zte {s:List UInt8}(h:∀r∈rowsT,s∉r):levB s=0:=by
 simp only [rowsT,List.mem_cons,List.not_mem_nil,or_false,forall_eq_or_imp,forall_eq,not_or] at h;obtain ⟨h1,h2,⟨h3,h4,h5,h6⟩,⟨h7,h8⟩,h9,h10,h11⟩:=h;simp only [levB,h1,h2,h3,h4,h5,h6,h7,h8,h9,h10,h11,or_self,if_false]
theorem zx9:∀r∈rowsT,r.length<10:=by decide
section
variable {tb:List FuncId}{gl:List (List AV)}{H:Heap}{u v w:AV}{Q:AV→Heap→Prop}
set_option maxHeartbeats 0 in
theorem zm6 (s:List UInt8) (hQ:∀H',Keep Non H H'→Q (.int .i64 (levB s)) H'):WpF prog tb gl 293 [S s] H Q:=by
 refine fa func293 b293_eq v293_eq r293_eq (.inr (by simp)) ?_;refine zac ?_;refine zad rfl ?_;refine zab (zac ?_);refine zaa (zap (n:=1) ElF.h (by decide) rfl rfl fun H1 k1 r1=>?_);refine zaa (zap (n:=1) ElF.h (by decide) rfl rfl fun H2 k2 r2=>?_);refine zaa (zap (n:=4) ElF.h (by decide) rfl rfl fun H3 k3 r3=>?_);refine zaa (zap (n:=2) ElF.h (by decide) rfl rfl fun H4 k4 r4=>?_);refine zaa (zap (n:=3) ElF.h (by decide) rfl rfl fun H5 k5 r5=>?_);refine zaa (zap (n:=5) ElF.h (by decide) rfl rfl fun H6 k6 r6=>?_);have s1:IsSl H1 _ 1 1 ([[124,124]].flatMap txC):=IsRow.sl (es:=1) (n:=1) r1 rfl (Jz _);have s2:IsSl H2 _ 1 1 ([[38,38]].flatMap txC):=IsRow.sl (es:=1) (n:=1) r2 rfl (Jz _);have s3:IsSl H3 _ 1 4 ([[61,61],[33,61],[60],[60,61]].flatMap txC):=IsRow.sl (es:=1) (n:=4) r3 rfl (Jz _);have s4:IsSl H4 _ 1 2 ([[43],[45]].flatMap txC):=IsRow.sl (es:=1) (n:=2) r4 rfl (Jz _);have s5:IsSl H5 _ 1 3 ([[42],[47],[37]].flatMap txC):=IsRow.sl (es:=1) (n:=3) r5 rfl (Jz _);have k06:Keep Non H H6:=((((k1.trans0 k2).trans0 k3).trans0 k4).trans0 k5).trans0 k6;have k46:=k5.trans0 k6;have k36:=k4.trans0 k46;have k26:=k3.trans0 k36;have k16:=k2.trans0 k26;have hrow:∀(i:Nat) (r:List (List UInt8)),rowsT[i]? = some r→∃v,[AV.sl H.nx 0 1 1,.sl H1.nx 0 1 1,.sl H2.nx 0 4 4,.sl H3.nx 0 2 2,.sl H4.nx 0 3 3][i]? = some v∧IsSl H6 v 1 r.length (r.flatMap txC):=by
  intro i r h;have hi:i<5:=(Qb.1 h).1
  match i,hi with
  |0,_=>cases h;exact ⟨_,rfl,s1.keep0 k16⟩
  |1,_=>cases h;exact ⟨_,rfl,s2.keep0 k26⟩
  |2,_=>cases h;exact ⟨_,rfl,s3.keep0 k36⟩
  |3,_=>cases h;exact ⟨_,rfl,s4.keep0 k46⟩
  |4,_=>cases h;exact ⟨_,rfl,s5.keep0 k6⟩
 have hvl:([AV.sl H.nx 0 1 1,.sl H1.nx 0 1 1,.sl H2.nx 0 4 4,.sl H3.nx 0 2 2,.sl H4.nx 0 3 3]:List AV).length=5:=rfl;have hout:IsSl H6 (.sl H5.nx 0 5 5) 1 ([AV.sl H.nx 0 1 1,.sl H1.nx 0 1 1,.sl H2.nx 0 4 4,.sl H3.nx 0 2 2,.sl H4.nx 0 3 3]:List AV).length ([AV.sl H.nx 0 1 1,.sl H1.nx 0 1 1,.sl H2.nx 0 4 4,.sl H3.nx 0 2 2,.sl H4.nx 0 3 3].flatMap fun a=>[a]):=IsRow.sl (es:=1) (n:=5) r6 rfl (Jz _);generalize [AV.sl H.nx 0 1 1,.sl H1.nx 0 1 1,.sl H2.nx 0 4 4,.sl H3.nx 0 2 2,.sl H4.nx 0 3 3]=vs at hrow hout hvl;generalize hw:AV.sl H5.nx 0 5 5=w at hout ⊢;(repeat' first|(refine zad rfl ?_;(refine zab ?_))|refine zac ?_|refine zaj ?_|refine zau ?_);refine zbv (fun (i:Nat)=>[(0,S s),(3,w),(4,.int .i64 (i:Int))]) (fun i H'=>H'=H6∧i≤5∧∀r∈rowsT.take i,s∉r) (fun i=>5-i) ?_ 0 _ H6 ⟨rfl,rfl,rfl,trivial⟩ ⟨rfl,Nat.zero_le _,by simp⟩;rintro i H' ⟨rfl,hle,hno⟩;by_cases hi:i<5;rotate_left
 ·rw [Qd (show rowsT.length≤i by show 5≤i;omega)] at hno;(repeat' first|(refine zad rfl ?_;first|(refine zaa ?_;first|refine za3 rfl rfl rfl UnF.h rfl hout ?_|refine zcr rfl rfl (by omega) ?_)|refine zab ?_)|refine zag rfl ?_|refine zac ?_|refine zaj ?_|refine zbq ?_|(refine zao ?_;refine zbr rfl ?_));have:=hQ _ k06;rw [zte hno] at this;exact this
 obtain ⟨r,hr⟩:∃r,rowsT[i]? = some r:=⟨_,Qa (show i<rowsT.length from hi)⟩
 obtain ⟨vi,hvi,hsl⟩:=hrow i r hr;have hrl:=zx9 r (Qe hr);refine zaj ?_;(repeat' first|(refine zad rfl ?_;first|(refine zaa ?_;first|refine za3 rfl rfl rfl UnF.h rfl hout ?_|refine zb8 rfl rfl (by omega) ?_)|refine zab ?_)|refine zai rfl ?_|refine zac ?_|refine zaj ?_|refine zau ?_|refine zam ?_);refine zbv (fun (j:Nat)=>[(0,S s),(3,w),(4,.int .i64 (i:Int)),(5,.int .i64 (j:Int))]) (fun j H0=>H0=H'∧j≤r.length∧s∉r.take j) (fun j=>r.length-j) ?_ 0 _ H' ⟨rfl,rfl,rfl,rfl,trivial⟩ ⟨rfl,Nat.zero_le _,by simp⟩;rintro j H0 ⟨rfl,hjl,hnj⟩;by_cases hj:j<r.length;rotate_left
 ·rw [Qd (by omega)] at hnj;refine zaj ?_;(repeat' first|(refine zad rfl ?_;first|(refine zaa ?_;first|refine zbz (f:=fun a=>[a]) (fun _=>rfl) UnF.h SzF.h rfl hout rfl rfl hvi (fun q0 hq0=>?_)|refine zby PlF.h rfl hq0 rfl ?_|refine za3 rfl rfl rfl UnF.h rfl hsl ?_|refine zcr rfl rfl (by omega) ?_)|refine zab ?_)|refine zag rfl ?_|refine zac ?_|refine za1 ?_|refine zbq ?_);refine zad rfl ?_;refine zaa (zaz (c:=((i+1:Nat):Int)) rfl rfl Ju ?_);refine zad rfl ?_;refine zab ⟨i+1,?_,⟨rfl,rfl,rfl,trivial⟩,rfl,by omega,?_⟩
  ·show 5-(i+1)<5-i;omega
  ·intro r' hr';rw [zbs hr] at hr';rcases List.mem_append.1 hr' with h|h
   ·exact hno r' h
   ·rw [List.mem_singleton.1 h];exact hnj
 obtain ⟨x,hx⟩:∃x,r[j]? = some x:=⟨_,Qa hj⟩
 refine zaj ?_;(repeat' first|(refine zad rfl ?_;first|(refine zaa ?_;first|refine zbz (f:=fun a=>[a]) (fun _=>rfl) UnF.h SzF.h rfl hout rfl rfl hvi (fun q0 hq0=>?_)|refine zby PlF.h rfl hq0 rfl ?_|refine za3 rfl rfl rfl UnF.h rfl hsl ?_|refine zbz zog UnF.h SzF.h rfl hsl rfl rfl hx (fun q1 hq1=>?_)|refine zby PlF.h rfl hq1 rfl ?_|refine zaz (c:=((i+1:Nat):Int)) rfl rfl Ju ?_|refine zb8 rfl rfl (by omega) ?_|refine zn3 rfl rfl (fun hc=>?_) (fun hc=>?_))|refine zab ?_)|refine zai rfl ?_|refine zag rfl ?_|refine zac ?_|refine zaj ?_|refine za1 ?_|refine zau ?_|refine zam ?_|(refine zao ?_;refine zbr rfl ?_))
 ·have e:x=s:=by assumption
  have:=hQ _ k06;rw [zya i r hr s (by rw [←e];exact Qe hx)] at this;exact this
 ·have e:¬x=s:=by assumption
  refine zad rfl ?_;refine zaa (zaz (c:=((j+1:Nat):Int)) rfl rfl Ju ?_);refine zad rfl ?_;refine zab ⟨j+1,?_,⟨rfl,rfl,rfl,rfl,trivial⟩,rfl,by omega,?_⟩
  ·show r.length-(j+1)<r.length-j;omega
  ·rw [zbs hx];simp only [List.mem_append,List.mem_singleton,not_or];exact ⟨hnj,fun h=>e h.symm⟩
end
def tokW (w:List UInt8):Tok:=if nameB w=true then ⟨1,w,0⟩ else if keysL.contains w=true then ⟨3,w,0⟩ else if signsL.contains w=true then ⟨4,w,0⟩ else ⟨2,[],(digV w:Int)⟩
theorem zci {w:List UInt8}(h:nameB w=true):tokW w=⟨1,w,0⟩:=by rw [tokW,if_pos h]
theorem zdb:∀w∈keysL,tokW w=⟨3,w,0⟩:=by
 intro w hw;have hk:keysL.contains w=true:=by rw [List.contains_iff_mem];exact hw
 have hn:¬nameB w=true:=fun h=>by
  obtain ⟨_,_,_,_,_,h2,_⟩:=zdu h;rw [hk] at h2;cases h2
 rw [tokW,if_neg hn,if_pos hk]
theorem zyl:∀w∈signsL,nameB w=false∧keysL.contains w=false:=by decide
theorem zc6:∀w∈signsL,tokW w=⟨4,w,0⟩:=by
 intro w hw;obtain ⟨h1,h2⟩:=zyl w hw;rw [tokW,if_neg (by rw [h1];simp),if_neg (by rw [h2];simp),if_pos (by rw [List.contains_iff_mem];exact hw)]
theorem zt4:∀w∈keysL,(match w with|[]=>false|d::_=>!digB d)=true:=by decide
theorem zq8:∀w∈signsL,(match w with|[]=>false|d::_=>!digB d)=true:=by decide
theorem zir (n:Nat):tokW (textN n)=⟨2,[],(n:Int)⟩:=by
 obtain ⟨hV,hD⟩:=zh7 n;have hp:=zfm n;obtain ⟨d,x,hdx⟩:∃d x,textN n=d::x:=by
  cases h:textN n with
  |nil=>rw [h] at hp;simp at hp
  |cons d x=>exact ⟨d,x,rfl⟩
 have hd:digB d=true:=by
  obtain ⟨h1,h2⟩:=hD d (by rw [hdx];exact List.mem_cons_self ..);simp [digB,h1,h2]
 have hn:¬nameB (textN n)=true:=fun h=>by
  obtain ⟨c,r,e,h2,_⟩:=zdu h;rw [hdx] at e;injection e with e1 _
  rw [e1,h2] at hd;cases hd
 have hk:¬keysL.contains (textN n)=true:=fun h=>by
  have:=zt4 _ (List.contains_iff_mem.1 h);rw [hdx] at this;simp [hd] at this
 have hs:¬signsL.contains (textN n)=true:=fun h=>by
  have:=zq8 _ (List.contains_iff_mem.1 h);rw [hdx] at this;simp [hd] at this
 rw [tokW,if_neg hn,if_neg hk,if_neg hs,hV]
def okW (w:List UInt8):Prop:=IsTok w (tokW w)
theorem zdp {w:List UInt8}(h:nameB w=true):okW w:=by unfold okW;rw [zci h];exact .name h
theorem zq1 {w:List UInt8}(h:w∈keysL):okW w:=by unfold okW;rw [zdb w h];exact .key h
theorem zfz {w:List UInt8}(h:w∈signsL):okW w:=by unfold okW;rw [zc6 w h];exact .sign h
theorem zxm {n:Nat}(h:n<9223372036854775808):okW (textN n):=by unfold okW;rw [zir n];exact .num n h
def Seg (l:List (Tok×Int)) (k:Nat) (ws:List (List UInt8)):Prop:=∀j w,ws[j]? = some w→∃x,l[k+j]? = some x∧x.1=tokW w
theorem Seg.app {l:List (Tok×Int)}{k:Nat}{ws vs:List (List UInt8)}(h:Seg l k (ws++vs)):Seg l k ws∧Seg l (k+ws.length) vs:=by
 refine ⟨fun j w hj=>h j w ?_,fun j w hj=>?_⟩
 ·rw [List.getElem?_append_left (Qb.1 hj).1];exact hj
 ·have:=h (ws.length+j) w (by rw [List.getElem?_append_right (by omega),Nat.add_sub_cancel_left];exact hj);rw [Nat.add_assoc];exact this
theorem Seg.hd {l:List (Tok×Int)}{k:Nat}{w:List UInt8}{vs:List (List UInt8)}(h:Seg l k (w::vs)):(∃x,l[k]? = some x∧x.1=tokW w)∧Seg l (k+1) vs:=by
 refine ⟨h 0 w rfl,fun j v hj=>?_⟩;have:=h (j+1) v hj;rw [Nat.add_assoc,Nat.add_comm 1 j];exact this
end Go.Proofs.YtniflgldgnmiaaaGreatDoor
namespace Go.Proofs.YtniflgldgnmiaaaGreatDoor
open Go Eng Tryz
inductive RE:Exp→Prop
 |int (n:Nat) (h:n<9223372036854775808):RE (.mk 1 [] n [])
 |bool {z:Int}(h:z=0∨z=1):RE (.mk 2 [] z [])
 |var {n:List UInt8}(h:nameB n=true):RE (.mk 3 n 0 [])
 |idx {n:List UInt8}{x:Exp}(h:nameB n=true) (hx:RE x):RE (.mk 4 n 0 [x])
 |un {n:List UInt8}{x:Exp}(h:n=[45]∨n=[33]) (hx:RE x):RE (.mk 5 n 0 [x])
 |bin {n:List UInt8}{x y:Exp}(h:0<levB n) (hx:RE x) (hy:RE y):RE (.mk 6 n 0 [x,y])
theorem bareE_mk (k:Int) (n:List UInt8) (z:Int) (l:List Exp):bareE (.mk k n z l)=(((!decide (n=[]))==(!decide (k=1) && !decide (k=2)))&&(decide (z=0)||decide (k=1)||decide (k=2))):=rfl
section
variable {A:Nat→Prop}{H:Heap}
theorem zx3:∀(k:Nat) {x:Exp}{c:List AV},szE x<k→IsE A H c x→okE x=true→RE x
 |0,_,_,h,_,_=>by omega
 |k+1,.mk kd n z l,c,hk,hE,ho=>by
  obtain ⟨v,rfl,_,hz,_,_,hL⟩:=hE.out;obtain ⟨els,_,h2,_⟩:=hL;have hz:ok64 z:=hz;unfold ok64 at hz;simp only [okE,plainE,J8] at ho;obtain ⟨⟨⟨hb,hf⟩,hn⟩,he⟩:=ho;rw [zj8] at hf;rw [bareE_mk] at hb;simp only [szE] at hk;by_cases k1:kd=1
  ·subst k1;simp only [if_true,J8,Qj,List.length_eq_zero_iff] at hf;obtain ⟨hz0,rfl⟩:=hf;have hn0:n=[]:=by simpa using hb
   subst hn0;obtain ⟨m,rfl⟩:=Int.eq_ofNat_of_zero_le hz0;exact .int m (by omega)
  by_cases k2:kd=2
  ·subst k2;simp only [if_neg (show ¬(2:Int)=1 by decide),if_true,J8,Bool.or_eq_true,Qj,List.length_eq_zero_iff] at hf;obtain ⟨hz0,rfl⟩:=hf;have hn0:n=[]:=by simpa using hb
   subst hn0;exact .bool hz0
  have hz0:z=0:=by
   simp [k1,k2] at hb;exact hb.2
  subst hz0;rw [if_neg k1,if_neg k2] at hf;by_cases k3:kd=3
  ·subst k3;simp only [if_true,Qj,List.length_eq_zero_iff] at hf;subst hf;exact .var (by simpa using hn)
  rw [if_neg k3] at hf;by_cases k4:kd=4
  ·subst k4;simp only [if_true,Qj] at hf;obtain ⟨x,rfl⟩:=List.length_eq_one_iff.1 hf;obtain ⟨c,_,hr⟩:=h2.get' 0 x rfl;simp [okEs] at he;exact .idx (by simpa using hn) (zx3 k (by simp only [szEs] at hk;omega) hr he)
  rw [if_neg k4] at hf;by_cases k5:kd=5
  ·subst k5;simp only [if_true,J8,Bool.or_eq_true,Qj] at hf;obtain ⟨hnm,hf⟩:=hf;obtain ⟨x,rfl⟩:=List.length_eq_one_iff.1 hf;obtain ⟨c,_,hr⟩:=h2.get' 0 x rfl;simp [okEs] at he;exact .un hnm (zx3 k (by simp only [szEs] at hk;omega) hr he)
  rw [if_neg k5] at hf;by_cases k6:kd=6
  ·subst k6;simp only [if_true,J8,Qj] at hf;obtain ⟨hnm,hf⟩:=hf;obtain ⟨x,y,rfl⟩:∃x y,l=[x,y]:=by
    match l,hf with
    |[x,y],_=>exact ⟨x,y,rfl⟩
   obtain ⟨c,_,hr⟩:=h2.get' 0 x rfl;obtain ⟨c',_,hr'⟩:=h2.get' 1 y rfl;simp [okEs] at he;exact .bin hnm (zx3 k (by simp only [szEs] at hk;omega) hr he.1) (zx3 k (by simp only [szEs] at hk;omega) hr' he.2)
  ·rw [if_neg k6] at hf;cases hf
end
theorem zpf {n:List UInt8}(h:0<levB n):n∈signsL:=by
 by_cases hm:∀r∈rowsT,n∉r
 ·rw [zte hm] at h;omega
 ·simp only [Classical.not_forall,Classical.not_not] at hm;obtain ⟨r,hr,hn⟩:=hm;have:∀r∈rowsT,∀n∈r,n∈signsL:=by decide
  exact this r hr n hn
theorem wdO_eq (x:Exp):wdO0 [x]=wdO x:=by simp only [wdO0,wdO]
theorem zom (n:Nat):wdE (.mk 1 [] n [])=[textN n]:=by
 simp only [wdE,if_true,textZ,if_neg (show ¬(n:Int)<0 by omega),Int.natAbs_natCast]
theorem zkn (z:Int):wdE (.mk 2 [] z [])=[if z=1 then [116,114,117,101] else [102,97,108,115,101]]:=by simp [wdE]
theorem zon (n:List UInt8):wdE (.mk 3 n 0 [])=[n]:=by simp [wdE]
theorem zol (n:List UInt8) (x:Exp):wdE (.mk 4 n 0 [x])=n::[91]::(wdE x++[[93]]):=by simp [wdE,wdE0]
theorem ztr (n:List UInt8) (x:Exp):wdE (.mk 5 n 0 [x])=n::wdO x:=by
 simp only [wdE,if_neg (show ¬(5:Int)=1 by decide),if_neg (show ¬(5:Int)=2 by decide),if_neg (show ¬(5:Int)=3 by decide),if_neg (show ¬(5:Int)=4 by decide),if_true,wdO_eq]
theorem zok (n:List UInt8) (x y:Exp):wdE (.mk 6 n 0 [x,y])=wdO x++n::wdO y:=by
 simp only [wdE,if_neg (show ¬(6:Int)=1 by decide),if_neg (show ¬(6:Int)=2 by decide),if_neg (show ¬(6:Int)=3 by decide),if_neg (show ¬(6:Int)=4 by decide),if_neg (show ¬(6:Int)=5 by decide),if_true];simp only [wdO0,wdO1,wdO]
theorem zxn {x:Exp}(h:∀w∈wdE x,okW w):∀w∈wdO x,okW w:=by
 intro w hw;unfold wdO at hw;split at hw
 ·simp only [List.mem_append,List.mem_singleton] at hw;rcases hw with (rfl|hw)|rfl
  ·exact zfz (by decide)
  ·exact h w hw
  ·exact zfz (by decide)
 ·exact h w hw
theorem zs9 {x:Exp}(h:RE x):∀w∈wdE x,okW w:=by
 induction h with
 |int n h=>
  intro w hw;rw [zom,List.mem_singleton] at hw;rw [hw];exact zxm h
 |bool h=>
  intro w hw;rw [zkn,List.mem_singleton] at hw;rw [hw];split
  ·exact zq1 (by decide)
  ·exact zq1 (by decide)
 |var h=>
  intro w hw;rw [zon,List.mem_singleton] at hw;rw [hw];exact zdp h
 |idx h _ ih=>
  intro w hw;rw [zol] at hw;simp only [List.mem_cons,List.mem_append,List.not_mem_nil,or_false] at hw;rcases hw with rfl|rfl|hw|rfl
  ·exact zdp h
  ·exact zfz (by decide)
  ·exact ih w hw
  ·exact zfz (by decide)
 |un h _ ih=>
  intro w hw;rw [ztr,List.mem_cons] at hw;rcases hw with rfl|hw
  ·rcases h with rfl|rfl<;>exact zfz (by decide)
  ·exact zxn ih w hw
 |bin h _ _ ih1 ih2=>
  intro w hw;rw [zok,List.mem_append,List.mem_cons] at hw;rcases hw with hw|rfl|hw
  ·exact zxn ih1 w hw
  ·exact zfz (zpf h)
  ·exact zxn ih2 w hw
theorem zn5 {x:Exp}(h:∃w vs,wdE x=w::vs∧opB (tokW w)=true):∃w vs,wdO x=w::vs∧opB (tokW w)=true:=by
 obtain ⟨w,vs,e,ho⟩:=h;unfold wdO;split
 ·exact ⟨[40],wdE x++[[41]],rfl,by rw [zc6 _ (by decide)];decide⟩
 ·exact ⟨w,vs,e,ho⟩
theorem ze3 {x:Exp}(h:RE x):∃w vs,wdE x=w::vs∧opB (tokW w)=true:=by
 induction h with
 |int n h=>exact ⟨_,_,zom n,by rw [zir];rfl⟩
 |bool h=>
  refine ⟨_,_,zkn _,?_⟩;split
  ·rw [zdb _ (by decide)];decide
  ·rw [zdb _ (by decide)];decide
 |var h=>exact ⟨_,_,zon _,by rw [zci h];rfl⟩
 |idx h _ _=>exact ⟨_,_,zol _ _,by rw [zci h];rfl⟩
 |un h _ _=>
  refine ⟨_,_,ztr _ _,?_⟩;rcases h with rfl|rfl<;>(rw [zc6 _ (by decide)];decide)
 |bin h _ _ ih1 _=>
  obtain ⟨w,vs,e,ho⟩:=zn5 ih1;exact ⟨w,_,by rw [zok,e];rfl,ho⟩
end Go.Proofs.YtniflgldgnmiaaaGreatDoor
namespace Go.Proofs.YtniflgldgnmiaaaGreatDoor
open Go Eng Tryz
abbrev Frs (n0:Nat):Nat→Prop:=fun c=>n0≤c
section
variable {A B S:Nat→Prop}{H H':Heap}{u v w:AV}{c:List AV}{n0 z:Nat}
theorem ztl {es n:Nat}{cs:List AV}(h:IsSlA A H v es n cs) (hs:∀c,A c→c<H.nx→B c):IsSlA B H v es n cs:=by
 obtain ⟨h0,h|⟨b,o,row,tl,ro,h1,h2,h3,h4⟩⟩:=h
 ·exact ⟨h0,.inl h⟩
 ·exact ⟨h0,.inr ⟨b,o,row,tl,ro,h1,h2,h3.imp id fun h=>hs b h h2.1,h4⟩⟩
theorem zcl {α:Type}{R R':Heap→List AV→α→Prop}{xs:List α}(h:IsLs A R z H v xs) (hs:∀c,A c→c<H.nx→B c) (hu:∀c,∀a∈xs,R H c a→R' H c a):IsLs B R' z H v xs:=by
 obtain ⟨els,h1,h2,h3⟩:=h;refine ⟨els,ztl h1 hs,?_,h3⟩;clear h1 h3
 induction h2 with
 |nil=>exact .nil
 |cons h _ ih=>exact .cons (hu _ _ (by simp) h) (ih fun c a ha=>hu c a (by simp [ha]))
theorem zdc {e:Exp}(h:IsE A H c e) (hs:∀c,A c→c<H.nx→B c):IsE B H c e:=by
 induction h with
 |mk hk hn hs' hl els h hz he _ ih=>exact .mk hk hn hs' hl els (ztl h hs) hz he fun i c e h1 h2=>ih i c e h1 h2
theorem zf5 {e:Stm}(h:IsS A H c e) (hs:∀c,A c→c<H.nx→B c):IsS B H c e:=by
 induction h with
 |mk hk hn hs' hp hl hb hd he xs ys h hz hx _ h' hz' hy _ ih ih'=>
  exact .mk hk hn hs' hp hl hb hd (zcl he hs fun c a _ h=>zdc h hs) xs ys (ztl h hs) hz hx (fun i c e h1 h2=>ih i c e h1 h2) (ztl h' hs) hz' hy (fun i c e h1 h2=>ih' i c e h1 h2)
theorem zqp {p:Prc}(h:IsPc A H c p) (hs:∀c,A c→c<H.nx→B c):IsPc B H c p:=by
 obtain ⟨v,w,h1,h2,h3,h4,h5,h6,h7⟩:=h;exact ⟨v,w,h1,h2,h3,h4,h5,zcl h6 hs fun _ _ _ h=>h,zcl h7 hs fun _ _ _ h=>zf5 h hs⟩
theorem zec {α:Type}{R:Heap→List AV→α→Prop}:IsLs A R z H .nils []:=⟨[],⟨by simp,.inl ⟨.inl rfl,rfl⟩⟩,.nil,by simp⟩
theorem zkc {α:Type}{R:Heap→List AV→α→Prop}{b:Nat}{a:α}{tl ro:Bool}(hr:IsRow H b c tl ro) (hA:A b) (hR:R H c a) (hz:c.length=z):IsLs A R z H (.sl b 0 1 1) [a]:=
 ⟨[c],⟨by simp [hz],.inr ⟨b,0,c,tl,ro,.inr ⟨1,rfl,Jz _⟩,hr,.inr hA,fun j _=>by rw [Nat.zero_add];simp⟩⟩,.cons hR .nil,by simpa using hz⟩
theorem zr6 {α:Type}{R:Heap→List AV→α→Prop}{b:Nat}{c':List AV}{a a':α}{tl ro:Bool}(hr:IsRow H b (c++c') tl ro) (hA:A b) (hR:R H c a) (hR':R H c' a') (hz:c.length=z) (hz':c'.length=z):IsLs A R z H (.sl b 0 2 2) [a,a']:=
 ⟨[c,c'],⟨by simp [hz,hz'];omega,.inr ⟨b,0,c++c',tl,ro,.inr ⟨2,rfl,Jz _⟩,hr,.inr hA,fun j _=>by rw [Nat.zero_add];simp⟩⟩,.cons hR (.cons hR' .nil),by simp [hz,hz']⟩
structure Law {α:Type}(R:(Nat→Prop)→Heap→List AV→α→Prop):Prop where
 to:∀{A B H c a},R A H c a→(∀c,A c→c<H.nx→B c)→R B H c a
 keep:∀{A S H H' c a},R A H c a→Keep S H H'→(∀c,A c→¬S c)→R A H' c a
theorem lawE:Law IsE:=⟨zdc,IsE.keepS⟩
theorem lawS:Law IsS:=⟨zf5,IsS.keepS⟩
theorem lawC:Law IsPc:=⟨zqp,IsPc.keepS⟩
theorem lawM:Law (fun _=>IsPm):=⟨fun h _=>h,fun h _ _=>h⟩
structure Grow {α:Type}(R:(Nat→Prop)→Heap→List AV→α→Prop) (n0 z:Nat) (H:Heap) (v:AV) (xs:List α):Prop where
 els:∃els:List (List AV),Own H v z xs.length els.flatten∧F2 (R (fun c=>n0≤c∧¬ownB v c) H) els xs∧∀c∈els,c.length=z
 low:∀c,ownB v c→n0≤c
theorem Grow.nil {α:Type}{R:(Nat→Prop)→Heap→List AV→α→Prop}:Grow R n0 z H .nils ([]:List α):=⟨⟨[],Own.nil H z,.nil,by simp⟩,fun _ h=>h.elim⟩
theorem F2.imp' {α β:Type}{R R':α→β→Prop}{l:List α}{m:List β}(h:F2 R l m) (k:∀a b,R a b→R' a b):F2 R' l m:=by
 induction h with
 |nil=>exact .nil
 |cons h _ ih=>exact .cons (k _ _ h) ih
theorem F2.snoc {α β:Type}{R:α→β→Prop}{l:List α}{m:List β}{a:α}{b:β}(h:F2 R l m) (hr:R a b):F2 R (l++[a]) (m++[b]):=by
 induction h with
 |nil=>exact .cons hr .nil
 |cons h _ ih=>exact .cons h ih
theorem Grow.keep {α:Type}{R:(Nat→Prop)→Heap→List AV→α→Prop}{xs:List α}(L:Law R) (h:Grow R n0 z H v xs) (k:Keep S H H') (hs:∀c,n0≤c→¬S c):Grow R n0 z H' v xs:=by
 obtain ⟨⟨els,h1,h2,h3⟩,h4⟩:=h;exact ⟨⟨els,h1.keep k fun c hc=>hs c (h4 c hc),F2.imp' h2 fun _ _ h=>L.keep h k fun c hc=>hs c hc.1,h3⟩,h4⟩
theorem Grow.done {α:Type}{R:(Nat→Prop)→Heap→List AV→α→Prop}{xs:List α}(L:Law R) (h:Grow R n0 z H v xs):IsLs (Frs n0) (R (Frs n0)) z H v xs:=by
 obtain ⟨⟨els,⟨h0,_,h1⟩,h2,h3⟩,h4⟩:=h;refine ⟨els,⟨h0,?_⟩,F2.imp' h2 fun _ _ h=>L.to h fun c hc _=>hc.1,h3⟩;rcases h1 with ⟨h5,h6⟩|⟨b,row,rfl,h5,h6,h7⟩
 ·exact .inl ⟨.inl h5,h6⟩
 ·exact .inr ⟨b,0,row,true,false,.inl ⟨rfl,by omega⟩,h5,.inr (h4 b rfl),fun j hj=>by rw [Nat.zero_add];exact h7 j hj⟩
theorem Grow.lt {α:Type}{R:(Nat→Prop)→Heap→List AV→α→Prop}{xs:List α}(h:Grow R n0 z H v xs) {c:Nat}(hc:ownB v c):c<H.nx:=by
 obtain ⟨⟨els,h1,_⟩,_⟩:=h;exact Own.lt h1 hc
theorem Grow.scal {α:Type}{R:(Nat→Prop)→Heap→List AV→α→Prop}{xs:List α}(h:Grow R n0 z H v xs):Eng.scal v=true:=by
 obtain ⟨⟨els,h1,_⟩,_⟩:=h;exact zoa h1
theorem zn1 {α:Type}{R:(Nat→Prop)→Heap→List AV→α→Prop}{tb:List FuncId}{gl:List (List AV)}{Q:AV→Heap→Prop}{t t' e:TypeId}{x y:Operand}{l:Fm}{cl:Call}{E:EI}{xs:List α}{a:α}{bb n1:Nat}{tl ro:Bool}(L:Law R) (hc:cl.callee=.builtin .append) (ha:cl.args.toList=[x,y]) (ht:cl.argTypes.toList=[t,t']) (hE:elemI prog t=some E) (hz:E.z=z) (hu:prog.underlying t'=some (.slice e)∨prog.underlying t'=some .string)
  (hx:evA x l=some v) (ho:Grow R n0 z H v xs) (hy:evA y l=some (.sl bb 0 1 1)) (hr:IsRow H bb c tl ro) (hlen:c.length=z) (hsc:scalL c=true) (hR:R (Frs n1) H c a) (hn1:n0≤n1) (hown:∀c,ownB v c→c<n1) (hn:xs.length+1<1000000) (hH:n0≤H.nx)
  (q:∀v' H',Grow R n0 z H' v' (xs++[a])→Keep (ownB v) H H'→Q v' H'):OA prog tb gl (.call cl) l H Q:=by
 have hs:IsSl H (.sl bb 0 1 1) z 1 c:=IsRow.sl (es:=z) (n:=1) hr (by omega) (Jz _);obtain ⟨⟨els,h1,h2,h3⟩,h4⟩:=ho;rw [←hz] at h1 hs;refine zfg hc ha ht hE hu hx h1 hy hs.elems hs.1 hsc (show xs.length+1<limit from hn) fun v' H' o k f=>q v' H' ⟨⟨els++[c],?_,?_,?_⟩,fun c hc=>(f c hc).elim (h4 c) fun h=>by omega⟩ k
 ·rw [J1,←hz];simpa using o
 ·refine F2.snoc ?_ ?_
  ·refine F2.imp' h2 fun _ _ h=>L.to (L.keep (L.to h (B:=fun c=>n0≤c∧¬ownB v c∧c<H.nx) fun c hc hl=>⟨hc.1,hc.2,hl⟩) k fun c hc=>hc.2.1) fun c hc _=>⟨hc.1,fun h=>?_⟩
   rcases f c h with h|h
   ·exact hc.2.1 h
   ·have:=hc.2.2;omega
  ·refine L.to (L.keep (L.to hR (B:=fun c=>n1≤c∧c<H.nx) fun c hc hl=>⟨hc,hl⟩) k fun c hc h=>by have:=hown c h;omega) fun c hc _=>⟨by omega,fun h=>?_⟩
   rcases f c h with h|h
   ·have:=hown c h;omega
   ·omega
 ·intro d hd;rcases List.mem_append.1 hd with h|h
  ·exact h3 d h
  ·rw [List.mem_singleton.1 h];exact hlen
end
end Go.Proofs.YtniflgldgnmiaaaGreatDoor
namespace Go.Proofs.YtniflgldgnmiaaaGreatDoor
open Go Eng Tryz
inductive RS:Stm→Prop
 |vbool {n:List UInt8}(h:nameB n=true):RS (.mk 1 n [] (-1) [] [] [])
 |vint {n:List UInt8}(h:nameB n=true):RS (.mk 1 n [] 0 [] [] [])
 |varr {n:List UInt8}{m:Nat}(h:nameB n=true) (h0:0<m) (hm:m<9223372036854775808):RS (.mk 1 n [] m [] [] [])
 |set {n:List UInt8}{x:Exp}(h:nameB n=true) (hx:RE x):RS (.mk 2 n [] 0 [x] [] [])
 |put {n:List UInt8}{i x:Exp}(h:nameB n=true) (hi:RE i) (hx:RE x):RS (.mk 3 n [] 0 [i,x] [] [])
 |ite {x:Exp}{b f:List Stm}(hx:RE x) (hb:∀s∈b,RS s) (hf:∀s∈f,RS s):RS (.mk 4 [] [] 0 [x] b f)
 |loop {x:Exp}{b:List Stm}(hx:RE x) (hb:∀s∈b,RS s):RS (.mk 5 [] [] 0 [x] b [])
 |call {n p:List UInt8}{l:List Exp}(h:n=[]∨nameB n=true) (hp:nameB p=true) (hl:∀x∈l,RE x):RS (.mk 6 n p 0 l [] [])
 |ret0:RS (.mk 7 [] [] 0 [] [] [])
 |ret1 {x:Exp}(hx:RE x):RS (.mk 7 [] [] 0 [x] [] [])
 |prt {x:Exp}(hx:RE x):RS (.mk 8 [] [] 0 [x] [] [])
 |read {n:List UInt8}(h:nameB n=true):RS (.mk 9 n [] 0 [] [] [])
 |asrt {x:Exp}(hx:RE x):RS (.mk 10 [] [] 0 [x] [] [])
section
variable {A:Nat→Prop}{H:Heap}
theorem fitsB_mk (k:Int) (n p:List UInt8) (z:Int) (e:List Exp) (b f:List Stm):fitsB (.mk k n p z e b f)=(bareN k z p b.length f.length&&formN k z n e.length):=rfl
theorem res_of {v:AV}{l:List Exp}(hL:IsLs A (IsE A) 4 H v l) (ho:okEs l=true):∀x∈l,RE x:=by
 obtain ⟨els,h1,h2,h3⟩:=hL;clear h1 h3
 induction h2 with
 |nil=>intro x hx;cases hx
 |cons h _ ih=>
  simp only [okEs,J8] at ho;intro x hx;rcases List.mem_cons.1 hx with rfl|hx
  ·exact zx3 _ (Nat.lt_succ_self _) h ho.1
  ·exact ih ho.2 x hx
theorem zyd {l:List Stm}(h:∀s∈l,okS s=true→RS s) (ho:okSs l=true):∀s∈l,RS s:=by
 induction l with
 |nil=>intro s hs;cases hs
 |cons x l ih=>
  simp only [okSs,J8] at ho;intro s hs;rcases List.mem_cons.1 hs with rfl|hs
  ·exact h _ (by simp) ho.1
  ·exact ih (fun s hs=>h s (by simp [hs])) ho.2 s hs
set_option maxHeartbeats 0 in
theorem rs_of:∀(k:Nat) {x:Stm}{c:List AV},szS x<k→IsS A H c x→okS x=true→RS x
 |0,_,_,h,_,_=>by omega
 |k+1,.mk kd n p z e b f,c,hk,hS,ho=>by
  obtain ⟨v1,v2,v3,rfl,_,hz,_,_,_,_,_,hLe,hLb,hLf⟩:=hS.out;have hz:ok64 z:=hz;unfold ok64 at hz;have hLe:IsLs A (IsE A) 4 H v1 e:=hLe;have hLb:IsLs A (IsS A) 7 H v2 b:=hLb;have hLf:IsLs A (IsS A) 7 H v3 f:=hLf;simp only [okS,fitsB_mk,J8] at ho;obtain ⟨⟨⟨⟨⟨hbare,hform⟩,hnm⟩,hoe⟩,hob⟩,hof⟩:=ho;simp only [bareN,formN,J8,Bool.or_eq_true,Qj,List.length_eq_zero_iff] at hbare hform;have hre:=res_of hLe hoe;have hsub:∀{v:AV}{l:List Stm},szSs l<k→IsLs A (IsS A) 7 H v l→okSs l=true→∀s∈l,RS s:=by
   intro v l hl hL ho;obtain ⟨els,_,h2,_⟩:=hL;refine zyd (fun s hs hos=>?_) ho;obtain ⟨i,hi⟩:=List.mem_iff_getElem?.1 hs;obtain ⟨c,_,hr⟩:=h2.get' i s hi;have:=zhb hs;exact rs_of k (by omega) hr hos
  simp only [szS] at hk;have hb:=hsub (by omega) hLb hob;have hf:=hsub (by omega) hLf hof;obtain ⟨⟨⟨b1,b2⟩,b3⟩,b4⟩:=hbare;by_cases k1:kd=1
  ·subst k1;simp at hform hnm b2 b3 b4;subst b2 b3 b4;obtain ⟨rfl,hz0⟩:=hform;by_cases z0:z=0
   ·subst z0;exact .vint hnm
   by_cases z1:z = -1
   ·subst z1;exact .vbool hnm
   obtain ⟨m,rfl⟩:=Int.eq_ofNat_of_zero_le (show 0≤z by omega);exact .varr hnm (by omega) (by omega)
  have z0:z=0:=by simpa [k1] using b1
  subst z0;by_cases k6:kd=6
  ·subst k6;simp at hnm b3 b4;subst b3 b4;exact .call hnm.1 hnm.2 hre
  have p0:p=[]:=by simpa [k6] using b2
  subst p0;by_cases k4:kd=4
  ·subst k4;simp at hform;obtain ⟨hf1,rfl⟩:=hform;obtain ⟨x,rfl⟩:=List.length_eq_one_iff.1 hf1;exact .ite (hre x (by simp)) hb hf
  have f0:f=[]:=by simpa [k4] using b4
  subst f0;by_cases k5:kd=5
  ·subst k5;simp at hform;obtain ⟨hf1,rfl⟩:=hform;obtain ⟨x,rfl⟩:=List.length_eq_one_iff.1 hf1;exact .loop (hre x (by simp)) hb
  have b0:b=[]:=by simpa [k4,k5] using b3
  subst b0;by_cases k9:kd=9
  ·subst k9;simp at hform hnm;subst hform;exact .read hnm
  by_cases k2:kd=2
  ·subst k2;simp at hform hnm;obtain ⟨x,rfl⟩:=List.length_eq_one_iff.1 hform;exact .set hnm (hre x (by simp))
  by_cases k3:kd=3
  ·subst k3;simp at hform hnm;obtain ⟨x,y,rfl⟩:∃x y,e=[x,y]:=by
    match e,hform with
    |[x,y],_=>exact ⟨x,y,rfl⟩
   exact .put hnm (hre x (by simp)) (hre y (by simp))
  by_cases k7:kd=7
  ·subst k7;simp at hform;obtain ⟨hf1,rfl⟩:=hform;rcases e with _|⟨x,_|⟨y,r⟩⟩
   ·exact .ret0
   ·exact .ret1 (hre x (by simp))
   ·simp only [Jy] at hf1;omega
  by_cases k8:kd=8
  ·subst k8;simp at hform;obtain ⟨hf1,rfl⟩:=hform;obtain ⟨x,rfl⟩:=List.length_eq_one_iff.1 hf1;exact .prt (hre x (by simp))
  by_cases k10:kd=10
  ·subst k10;simp at hform;obtain ⟨hf1,rfl⟩:=hform;obtain ⟨x,rfl⟩:=List.length_eq_one_iff.1 hf1;exact .asrt (hre x (by simp))
  ·simp [k1,k2,k3,k4,k5,k6,k7,k8,k9,k10] at hform
end
theorem zgx (n:List UInt8):wdS (.mk 1 n [] (-1) [] [] [])=[[118,97,114],[98,111,111,108],n,[59]]:=by simp [wdS,wdDecl,Stm.num,Stm.name]
theorem zi3 (n:List UInt8):wdS (.mk 1 n [] 0 [] [] [])=[[118,97,114],n,[59]]:=by simp [wdS,wdDecl,Stm.num,Stm.name]
theorem zi2 (n:List UInt8) {m:Nat}(h:0<m):wdS (.mk 1 n [] m [] [] [])=[[118,97,114],n,[91],textN m,[93],[59]]:=by
 have h1:¬(m:Int) = -1:=by omega
 have h3:¬(m:Int)<0:=by omega
 simp [wdS,wdDecl,Stm.num,Stm.name,h,h1,h3,textZ]
theorem zmc (n:List UInt8) (x:Exp):wdS (.mk 2 n [] 0 [x] [] [])=n::[61]::(wdE x++[[59]]):=by simp [wdS,wdE0]
theorem zmb (n:List UInt8) (i x:Exp):wdS (.mk 3 n [] 0 [i,x] [] [])=n::[91]::(wdE i++[93]::[61]::(wdE x++[[59]])):=by simp [wdS,wdE0,wdE1]
theorem zl9 (x:Exp) (b f:List Stm):wdS (.mk 4 [] [] 0 [x] b f)=[105,102]::[40]::(wdE x++[41]::[123]::(wdSs b++[125]::(if f.length=0 then [] else [101,108,115,101]::[123]::(wdSs f++[[125]])))):=by simp [wdS,wdE0,wordB]
theorem ziy (x:Exp) (b:List Stm):wdS (.mk 5 [] [] 0 [x] b [])=[119,104,105,108,101]::[40]::(wdE x++[41]::[123]::(wdSs b++[[125]])):=by simp [wdS,wdE0,wordB]
theorem zix (p:List UInt8) (l:List Exp):wdS (.mk 6 [] p 0 l [] [])=p::[40]::(wdAs l 0++[[41],[59]]):=by simp [wdS,wdL]
theorem zgw {n:List UInt8}(h:nameB n=true) (p:List UInt8) (l:List Exp):wdS (.mk 6 n p 0 l [] [])=n::[61]::p::[40]::(wdAs l 0++[[41],[59]]):=by
 have:n≠[]:=by rintro rfl;simp [nameB] at h
 simp [wdS,wdL,this]
theorem zi0:wdS (.mk 7 [] [] 0 [] [] [])=[[114,101,116,117,114,110],[59]]:=by simp [wdS,wdEs,wordB]
theorem zi1 (x:Exp):wdS (.mk 7 [] [] 0 [x] [] [])=[114,101,116,117,114,110]::(wdE x++[[59]]):=by simp [wdS,wdEs,wordB]
theorem zma (x:Exp):wdS (.mk 8 [] [] 0 [x] [] [])=[112,114,105,110,116]::(wdE x++[[59]]):=by simp [wdS,wdEs,wordB]
theorem ziz (n:List UInt8):wdS (.mk 9 n [] 0 [] [] [])=[[114,101,97,100],n,[59]]:=by simp [wdS]
theorem ziw (x:Exp):wdS (.mk 10 [] [] 0 [x] [] [])=[97,115,115,101,114,116]::(wdE x++[[59]]):=by simp [wdS,wdEs,wordB]
def AllW (ws:List (List UInt8)):Prop:=∀w∈ws,okW w
theorem AllW.nil:AllW []:=fun _ h=>by cases h
theorem AllW.cons {w:List UInt8}{ws:List (List UInt8)}(h:okW w) (k:AllW ws):AllW (w::ws):=fun v hv=>by
 rcases List.mem_cons.1 hv with rfl|hv
 ·exact h
 ·exact k v hv
theorem AllW.key {w:List UInt8}{ws:List (List UInt8)}(k:AllW ws) (h:w∈keysL):AllW (w::ws):=.cons (zq1 h) k
theorem AllW.sign {w:List UInt8}{ws:List (List UInt8)}(k:AllW ws) (h:w∈signsL):AllW (w::ws):=.cons (zfz h) k
theorem AllW.app {ws vs:List (List UInt8)}(h:AllW ws) (k:AllW vs):AllW (ws++vs):=fun v hv=>(List.mem_append.1 hv).elim (h v) (k v)
theorem AllW.exp {x:Exp}{ws:List (List UInt8)}(k:AllW ws) (h:RE x):AllW (wdE x++ws):=.app (zs9 h) k
theorem zmf:∀{l:List Exp}(i:Nat),(∀x∈l,RE x)→AllW (wdAs l i)
 |[],_,_=>by simp only [wdAs];exact .nil
 |x::l,i,h=>by
  simp only [wdAs];refine .app (.app ?_ (zs9 (h x (by simp)))) (zmf (i+1) fun y hy=>h y (by simp [hy]));split
  ·exact AllW.nil.sign (by decide)
  ·exact .nil
theorem ziq {l:List Stm}(h:∀s∈l,AllW (wdS s)):AllW (wdSs l):=by
 induction l with
 |nil=>simp only [wdSs];exact .nil
 |cons x l ih=>
  simp only [wdSs];exact .app (h x (by simp)) (ih fun s hs=>h s (by simp [hs]))
theorem zc0:AllW [[59]]:=AllW.nil.sign (by decide)
theorem rs_words {x:Stm}(h:RS x):AllW (wdS x):=by
 induction h with
 |vbool h=>rw [zgx];exact ((zc0.cons (zdp h)).key (by decide)).key (by decide)
 |vint h=>rw [zi3];exact (zc0.cons (zdp h)).key (by decide)
 |varr h h0 hm=>rw [zi2 _ h0];exact ((((zc0.sign (by decide)).cons (zxm hm)).sign (by decide)).cons (zdp h)).key (by decide)
 |set h hx=>rw [zmc];exact ((zc0.exp hx).sign (by decide)).cons (zdp h)
 |put h hi hx=>rw [zmb];exact (((((zc0.exp hx).sign (by decide)).sign (by decide)).exp hi).sign (by decide)).cons (zdp h)
 |ite hx _ _ ihb ihf=>
  rw [zl9];refine ((((AllW.app (ziq ihb) (AllW.sign ?_ (by decide))).sign (by decide)).sign (by decide)).exp hx).sign (by decide) |>.key (by decide)
  split
  ·exact .nil
  ·exact ((AllW.app (ziq ihf) (AllW.nil.sign (by decide))).sign (by decide)).key (by decide)
 |loop hx _ ihb=>
  rw [ziy];exact ((((AllW.app (ziq ihb) (AllW.nil.sign (by decide))).sign (by decide)).sign (by decide)).exp hx).sign (by decide) |>.key (by decide)
 |@call n p l h hp hl=>
  have ha:AllW (p::[40]::(wdAs l 0++[[41],[59]])):=((AllW.app (zmf 0 hl) (zc0.sign (by decide))).sign (by decide)).cons (zdp hp);rcases h with rfl|h
  ·rw [zix];exact ha
  ·rw [zgw h];exact (ha.sign (by decide)).cons (zdp h)
 |ret0=>rw [zi0];exact zc0.key (by decide)
 |ret1 hx=>rw [zi1];exact (zc0.exp hx).key (by decide)
 |prt hx=>rw [zma];exact (zc0.exp hx).key (by decide)
 |read h=>rw [ziz];exact (zc0.cons (zdp h)).key (by decide)
 |asrt hx=>rw [ziw];exact (zc0.exp hx).key (by decide)
theorem zx4 {x:Exp}(h:RE x):∀(e:List UInt8) (r:List (List UInt8)),e≠[40]→∃w w2 r',wdE x++e::r=w::w2::r'∧((tokW w).kind=1→w2≠[40]):=by
 induction h with
 |int n h=>intro e r he;exact ⟨_,_,_,by rw [zom];rfl,fun h=>by rw [zir] at h;cases h⟩
 |bool h=>intro e r he;exact ⟨_,_,_,by rw [zkn];rfl,fun _=>he⟩
 |var h=>intro e r he;exact ⟨_,_,_,by rw [zon];rfl,fun _=>he⟩
 |idx h _ _=>intro e r he;exact ⟨_,_,_,by rw [zol];rfl,fun _=>by decide⟩
 |@un n x h hx _=>
  intro e r he;obtain ⟨w,vs,e1,_⟩:=zn5 (ze3 hx);refine ⟨_,_,_,by rw [ztr,e1];rfl,fun hk=>?_⟩;rcases h with rfl|rfl<;>(rw [zc6 _ (by decide)] at hk;cases hk)
 |@bin n x y h hx hy ih1 _=>
  intro e r he;rw [zok,List.append_assoc];unfold wdO;split
  ·obtain ⟨w,vs,e1,_⟩:=ze3 hx;refine ⟨_,_,_,by rw [e1];rfl,fun hk=>?_⟩;rw [zc6 _ (by decide)] at hk;cases hk
  ·exact ih1 n _ (by rintro rfl;revert h;decide)
def begB (t:Tok):Bool:=decide (t.kind=1)||(isB t [118,97,114]||(isB t [105,102]||(isB t [119,104,105,108,101]||(isB t [114,101,116,117,114,110]||(isB t [112,114,105,110,116]||(isB t [114,101,97,100]||isB t [97,115,115,101,114,116]))))))
theorem zin {x:Stm}(h:RS x):∃w vs,wdS x=w::vs∧begB (tokW w)=true∧isB (tokW w) [125]=false:=by
 have hn:∀{n:List UInt8},nameB n=true→begB (tokW n)=true∧isB (tokW n) [125]=false:=fun h=>by
  rw [zci h];exact ⟨rfl,by simp [isB]⟩
 have hk:∀w∈[[118,97,114],[105,102],[119,104,105,108,101],[114,101,116,117,114,110],[112,114,105,110,116],[114,101,97,100],[97,115,115,101,114,116]],w∈keysL∧begB ⟨3,w,0⟩=true∧isB ⟨3,w,0⟩ [125]=false:=by decide
 have hk':∀w∈[[118,97,114],[105,102],[119,104,105,108,101],[114,101,116,117,114,110],[112,114,105,110,116],[114,101,97,100],[97,115,115,101,114,116]],begB (tokW w)=true∧isB (tokW w) [125]=false:=fun w hw=>by
  obtain ⟨h1,h2⟩:=hk w hw;rw [zdb w h1];exact h2
 cases h with
 |vbool h=>exact ⟨_,_,zgx _,hk' _ (by decide)⟩
 |vint h=>exact ⟨_,_,zi3 _,hk' _ (by decide)⟩
 |varr h h0 hm=>exact ⟨_,_,zi2 _ h0,hk' _ (by decide)⟩
 |set h hx=>exact ⟨_,_,zmc _ _,hn h⟩
 |put h hi hx=>exact ⟨_,_,zmb _ _ _,hn h⟩
 |ite hx hb hf=>exact ⟨_,_,zl9 _ _ _,hk' _ (by decide)⟩
 |loop hx hb=>exact ⟨_,_,ziy _ _,hk' _ (by decide)⟩
 |call h hp hl=>
  rcases h with rfl|h
  ·exact ⟨_,_,zix _ _,hn hp⟩
  ·exact ⟨_,_,zgw h _ _,hn h⟩
 |ret0=>exact ⟨_,_,zi0,hk' _ (by decide)⟩
 |ret1 hx=>exact ⟨_,_,zi1 _,hk' _ (by decide)⟩
 |prt hx=>exact ⟨_,_,zma _,hk' _ (by decide)⟩
 |read h=>exact ⟨_,_,ziz _,hk' _ (by decide)⟩
 |asrt hx=>exact ⟨_,_,ziw _,hk' _ (by decide)⟩
end Go.Proofs.YtniflgldgnmiaaaGreatDoor
