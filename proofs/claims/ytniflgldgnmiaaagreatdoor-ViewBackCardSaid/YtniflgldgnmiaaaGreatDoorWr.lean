/-
  The printer's words (syntax.writer): put, need, name, walked. Conditions: the number of words.
-/
import Derived.Test.YtniflgldgnmiaaaGreatDoorNum
namespace Go.Proofs.YtniflgldgnmiaaaGreatDoor
open Go Eng Tryz
set_option maxHeartbeats 0
instance ifp_141_0:FpF prog 141 0 ⟨0,false,1⟩:=⟨by kernel_rfl⟩
theorem pl_40:plcOf prog 40 0=some ⟨0,false,1⟩:=by kernel_rfl
instance ipl_40:PlF prog 40 ⟨0,false,1⟩:=⟨pl_40⟩
theorem sz_40:szOf prog 40=some 1:=by kernel_rfl
instance isz_40:SzF prog 40 1:=⟨sz_40⟩
instance ifp_141_1:FpF prog 141 1 ⟨1,false,1⟩:=⟨by kernel_rfl⟩
instance ipl_4:PlF prog 4 ⟨0,false,1⟩:=⟨by kernel_rfl⟩
instance isz_4:SzF prog 4 1:=⟨by kernel_rfl⟩
instance iun_4:UnF prog 4 (.bool):=⟨by kernel_rfl⟩
instance ifp_165_0:FpF prog 165 0 ⟨0,false,1⟩:=⟨by kernel_rfl⟩
theorem pl_3:plcOf prog 3 0=some ⟨0,false,1⟩:=by kernel_rfl
instance ipl_3:PlF prog 3 ⟨0,false,1⟩:=⟨pl_3⟩
instance ifp_165_2:FpF prog 165 2 ⟨2,false,1⟩:=⟨by kernel_rfl⟩
theorem pl_2:plcOf prog 2 0=some ⟨0,false,1⟩:=by kernel_rfl
instance ipl_2:PlF prog 2 ⟨0,false,1⟩:=⟨pl_2⟩
def v95:CV:=.reg [Jd 4 0,Jd 5 0,Jm 6 5,Jg 7 141 6 0,Jf 8 40 7,Jd 9 1,Jc 10 (.call ⟨.builtin .append,#[(Ja 8),(Ja 9)],#[40,40]⟩),Jm 11 4,Jg 12 141 11 0,.op none (.store 40 (Ja 12) (Ja 10))]
noncomputable def b95:Code:=f95.body.getD .skip
theorem b95_eq:f95.body=some b95:=by kernel_rfl
theorem v95_eq:viewC prog b95=some v95:=by kernel_rfl
theorem r95_eq:f95.results.toList=[]:=by kernel_rfl
def v151:CV:=.reg [Jd 4 0,Jd 5 0,Jm 6 5,Jg 7 141 6 1,Jf 8 4 7,Jd 9 8,Jp 9 false 10 1,Js 9 false 11 (.unOp .not 4 (Ja 10)),Jc 12 (.pick (Ja 9) (.const (.bool true)) (Ja 11)),Jm 13 4,Jg 14 141 13 1,.op none (.store 4 (Ja 14) (Ja 12))]
noncomputable def b151:Code:=f151.body.getD .skip
theorem b151_eq:f151.body=some b151:=by kernel_rfl
theorem v151_eq:viewC prog b151=some v151:=by kernel_rfl
theorem r151_eq:f151.results.toList=[]:=by kernel_rfl
def v96:CV:=Jt [Jd 4 0,Jd 5 1,Jn 6 152 5 9,Jo 7 151 4 6 139 4] (.reg [Jd 8 0,Jd 9 1,Jc 10 (.buildSlice 40 1 #[(0,(Ja 9))]),Jo 11 95 8 10 139 40])
noncomputable def b96:Code:=f96.body.getD .skip
theorem b96_eq:f96.body=some b96:=by kernel_rfl
theorem v96_eq:viewC prog b96=some v96:=by kernel_rfl
theorem r96_eq:f96.results.toList=[]:=by kernel_rfl
def v250c0:CV:=Jt [Jc 2 (.assign (.const (.bool false)))] (.ret)
def v250h1:CV:=Jt [Jg 3 165 1 1,Jf 4 9 3,Jc 5 (.binOp .neq 9 (Ja 4) (.const (.string ⟨⟨[]⟩⟩)) 9),Jg 6 165 1 0,Jf 7 3 6,Jc 8 (.binOp .neq 3 (Ja 7) (Jb 1) 3),Jd 9 8,Jq 9 true 10 165 1 0,Jr 9 true 11 3 10,Js 9 true 12 (.binOp .neq 3 (Ja 11) (Jb 2) 3),Jc 13 (.pick (Ja 9) (Ja 12) (.const (.bool false))),Jc 14 (.binOp .neq 4 (Ja 5) (Ja 13) 4),Jd 15 14,Jq 15 false 16 165 1 2,Jr 15 false 17 2 16,Js 15 false 18 (.binOp .neq 2 (Ja 17) (Jb 0) 2),Jp 15 false 19 18,Jq 19 true 20 165 1 0,Jr 19 true 21 3 20,Js 19 true 22 (.binOp .neq 3 (Ja 21) (Jb 1) 3),Js 15 false 23 (.pick (Ja 19) (Ja 22) (.const (.bool false))),Jp 15 false 24 23,Jq 24 true 25 165 1 0,Jr 24 true 26 3 25,Js 24 true 27 (.binOp .neq 3 (Ja 26) (Jb 2) 3),Js 15 false 28 (.pick (Ja 24) (Ja 27) (.const (.bool false))),Jc 29 (.pick (Ja 15) (.const (.bool true)) (Ja 28))] (.cond (Ja 29) v250c0 (.skip))
def v250c1:CV:=Jt [Jg 34 165 1 2,Jf 35 2 34,Jc 36 (.binOp .geq 2 (Ja 35) (Jb 0) 2),Jd 37 36,Jq 37 true 38 165 1 3,Jr 37 true 39 146 38,Js 37 true 40 (.call ⟨.builtin .len,#[(Ja 39)],#[146]⟩),Js 37 true 41 (.binOp .eql 3 (Ja 40) (Jb 0) 3),Jc 42 (.pick (Ja 37) (Ja 41) (.const (.bool false))),Jh 2 42] (.ret)
def v250c3:CV:=Jt [Jg 45 165 1 2,Jf 46 2 45,Jc 47 (.binOp .eql 2 (Ja 46) (Jb 0) 2),Jd 48 47,Jq 48 false 49 165 1 2,Jr 48 false 50 2 49,Js 48 false 51 (.binOp .eql 2 (Ja 50) (Jb 1) 2),Jc 52 (.pick (Ja 48) (.const (.bool true)) (Ja 51)),Jd 53 52,Jq 53 true 54 165 1 3,Jr 53 true 55 146 54,Js 53 true 56 (.call ⟨.builtin .len,#[(Ja 55)],#[146]⟩),Js 53 true 57 (.binOp .eql 3 (Ja 56) (Jb 0) 3),Jc 58 (.pick (Ja 53) (Ja 57) (.const (.bool false))),Jh 2 58] (.ret)
def v250c5:CV:=Jt [Jg 61 165 1 3,Jf 62 146 61,Jj 63 62 146,Jc 64 (.binOp .eql 3 (Ja 63) (Jb 0) 3),Jh 2 64] (.ret)
def v250c7:CV:=Jt [Jg 67 165 1 3,Jf 68 146 67,Jj 69 68 146,Jc 70 (.binOp .eql 3 (Ja 69) (Jb 1) 3),Jh 2 70] (.ret)
def v250c9:CV:=Jt [Jg 73 165 1 1,Jf 74 9 73,Jc 75 (.binOp .eql 9 (Ja 74) (.const (.string ⟨⟨[45]⟩⟩)) 9),Jd 76 75,Jq 76 false 77 165 1 1,Jr 76 false 78 9 77,Js 76 false 79 (.binOp .eql 9 (Ja 78) (.const (.string ⟨⟨[33]⟩⟩)) 9),Jc 80 (.pick (Ja 76) (.const (.bool true)) (Ja 79)),Jd 81 80,Jq 81 true 82 165 1 3,Jr 81 true 83 146 82,Js 81 true 84 (.call ⟨.builtin .len,#[(Ja 83)],#[146]⟩),Js 81 true 85 (.binOp .eql 3 (Ja 84) (Jb 1) 3),Jc 86 (.pick (Ja 81) (Ja 85) (.const (.bool false))),Jh 2 86] (.ret)
def v250c11:CV:=Jt [Jg 89 165 1 1,Jf 90 9 89,Jn 91 277 90 9,Jc 92 (.binOp .gtr 3 (Ja 91) (Jb 0) 3),Jd 93 92,Jq 93 true 94 165 1 3,Jr 93 true 95 146 94,Js 93 true 96 (.call ⟨.builtin .len,#[(Ja 95)],#[146]⟩),Js 93 true 97 (.binOp .eql 3 (Ja 96) (Jb 2) 3),Jc 98 (.pick (Ja 93) (Ja 97) (.const (.bool false))),Jh 2 98] (.ret)
def v250c10:CV:=Jt [Jc 88 (.binOp .eql 3 (Ja 31) (Jb 6) 3),Jh 87 88] (.cond (Ja 87) v250c11 (.skip))
def v250c8:CV:=Jt [Jc 72 (.binOp .eql 3 (Ja 31) (Jb 5) 3),Jh 71 72] (.cond (Ja 71) v250c9 v250c10)
def v250c6:CV:=Jt [Jc 66 (.binOp .eql 3 (Ja 31) (Jb 4) 3),Jh 65 66] (.cond (Ja 65) v250c7 v250c8)
def v250c4:CV:=Jt [Jc 60 (.binOp .eql 3 (Ja 31) (Jb 3) 3),Jh 59 60] (.cond (Ja 59) v250c5 v250c6)
def v250c2:CV:=Jt [Jc 44 (.binOp .eql 3 (Ja 31) (Jb 2) 3),Jh 43 44] (.cond (Ja 43) v250c3 v250c4)
def v250k0:CV:=Jt [Jc 33 (.binOp .eql 3 (Ja 31) (Jb 1) 3),Jh 32 33] (.cond (Ja 32) v250c1 v250c2)
def v250h2:CV:=Jt [Jg 30 165 1 0,Jf 31 3 30] (.block 0 v250k0)
def v250t3:CV:=Jt [Jc 2 (.assign (.const (.bool false)))] (.ret)
def v250t2:CV:=.seq v250h2 v250t3
def v250t1:CV:=.seq v250h1 v250t2
def v250:CV:=Jt [Jc 1 (.box 165 (Ja 0)),Jc 2 (.assign (.const (.bool false)))] v250t1
noncomputable def b250:Code:=f250.body.getD .skip
theorem b250_eq:f250.body=some b250:=by kernel_rfl
theorem v250_eq:viewC prog b250=some v250:=by kernel_rfl
theorem r250_eq:f250.results.toList=[.tmp 2]:=by kernel_rfl
structure WS where
 words:List (List UInt8)
 bad:Bool
 most:Nat
def WS.put (s:WS) (ws:List (List UInt8)):WS:={ s with words:=s.words++ws }
def WS.need (s:WS) (ok:Bool):WS:={ s with bad:=s.bad || !ok }
def WS.deep (s:WS) (d:Nat):WS:={ s with most:=max s.most d }
def WS.name (s:WS) (n:List UInt8):WS:=(s.need (nameB n)).put [n]
theorem zoa {H:Heap}{v:AV}{es n:Nat}{cs:List AV}(h:Own H v es n cs):Eng.scal v=true:=by
 obtain ⟨_,_,⟨rfl,_⟩|⟨b,row,rfl,_⟩⟩:=h<;>rfl
structure Wr (b:Nat) (H:Heap) (u:AV) (s:WS):Prop where
 row:IsRow H b [u,.bool s.bad,.int .i64 (s.most:Int)] false false
 own:Own H u 1 s.words.length (s.words.flatMap txC)
 ne:¬ownB u b
structure Wk (b:Nat) (H:Heap) (u:AV) (H':Heap) (u':AV):Prop where
 keep:Keep (fun c=>c=b∨ownB u c) H H'
 new:∀c,ownB u' c→ownB u c∨H.nx≤c
theorem Wk.refl (b:Nat) (H:Heap) (u:AV):Wk b H u H u:=⟨.refl _ _,fun _ h=>.inl h⟩
theorem Wk.trans {b:Nat}{H H1 H2:Heap}{u u1 u2:AV}(h:Wk b H u H1 u1) (k:Wk b H1 u1 H2 u2):Wk b H u H2 u2:=
 ⟨h.keep.trans k.keep fun c hc=>by
  rcases hc with hc|hc
  ·exact .inl (.inl hc)
  ·exact (h.new c hc).imp .inr id,fun c hc=>by
  rcases k.new c hc with hc|hc
  ·exact h.new c hc
  ·exact .inr (Nat.le_trans h.keep.nx hc)⟩
theorem Wk.of {b:Nat}{H H':Heap}{u:AV}(k:Keep Non H H'):Wk b H u H' u:=⟨k.wide fun _ h=>h.elim,fun _ h=>.inl h⟩
def Off (b:Nat) (H:Heap) (u:AV) (c:Nat):Prop:=c<H.nx∧c≠b∧¬ownB u c
theorem Wk.off {b:Nat}{H H':Heap}{u u':AV}(k:Wk b H u H' u') {c:Nat}(h:Off b H u c):Off b H' u' c:=
 ⟨Nat.lt_of_lt_of_le h.1 k.keep.nx,h.2.1,fun hc=>(k.new c hc).elim h.2.2 fun hn=>by have:=h.1;omega⟩
theorem Wk.row {b:Nat}{H H':Heap}{u u':AV}(k:Wk b H u H' u') {c:Nat}(h:Off b H u c) {cs:List AV}{tl ro:Bool}(hr:IsRow H c cs tl ro):IsRow H' c cs tl ro:=
 hr.keep k.keep (.inl fun hc=>hc.elim h.2.1 h.2.2)
theorem Wk.exp {A:Nat→Prop}{b:Nat}{H H':Heap}{u u':AV}(k:Wk b H u H' u') (h:∀c,A c→Off b H u c) {c:List AV}{e:Exp}(he:IsE A H c e):IsE A H' c e:=
 he.keepS k.keep fun c hc hs=>hs.elim (h c hc).2.1 (h c hc).2.2
theorem Wk.stm {A:Nat→Prop}{b:Nat}{H H':Heap}{u u':AV}(k:Wk b H u H' u') (h:∀c,A c→Off b H u c) {c:List AV}{e:Stm}(he:IsS A H c e):IsS A H' c e:=
 he.keepS k.keep fun c hc hs=>hs.elim (h c hc).2.1 (h c hc).2.2
theorem Wk.exps {A:Nat→Prop}{b:Nat}{H H':Heap}{u u':AV}(k:Wk b H u H' u') (h:∀c,A c→Off b H u c) {v:AV}{l:List Exp}(he:IsLs A (IsE A) 4 H v l):IsLs A (IsE A) 4 H' v l:=
 he.keepS k.keep (fun c hc hs=>hs.elim (h c hc).2.1 (h c hc).2.2) fun _ _ _ he=>k.exp h he
theorem Wk.stms {A:Nat→Prop}{b:Nat}{H H':Heap}{u u':AV}(k:Wk b H u H' u') (h:∀c,A c→Off b H u c) {v:AV}{l:List Stm}(he:IsLs A (IsS A) 7 H v l):IsLs A (IsS A) 7 H' v l:=
 he.keepS k.keep (fun c hc hs=>hs.elim (h c hc).2.1 (h c hc).2.2) fun _ _ _ he=>k.stm h he
theorem Wr.keep0 {b:Nat}{H H':Heap}{u:AV}{s:WS}(h:Wr b H u s) (k:Keep Non H H'):Wr b H' u s:=⟨h.row.keep0 k,h.own.keep0 k,h.ne⟩
theorem Wr.lt {b:Nat}{H:Heap}{u:AV}{s:WS}(h:Wr b H u s):b<H.nx:=h.row.1
theorem Wr.fresh {b:Nat}{H H':Heap}{u:AV}{s:WS}(h:Wr b H u s) (k:H.nx<H'.nx):Off b H' u H.nx:=
 ⟨k,by have:=h.lt;omega,fun hc=>by have:=h.own.lt hc;omega⟩
section
variable {tb:List FuncId}{gl:List (List AV)}{A:Nat→Prop}{H:Heap}{u v w:AV}{b:Nat}{s:WS}{Q:AV→Heap→Prop}
theorem zce {ws:List (List UInt8)}(hW:Wr b H u s) (hv:IsSl H v 1 ws.length (ws.flatMap txC)) (hl:s.words.length+ws.length<1000000)
  (hQ:∀u' H',Wk b H u H' u'→Wr b H' u' (s.put ws)→Q (.tup []) H'):WpF prog tb gl 95 [.ptr b 0,v] H Q:=by
 have hlim:limit=1000000:=rfl;refine fa func95 b95_eq v95_eq r95_eq (.inr (by simp)) ?_;refine za1 ?_;refine zad rfl ?_;(repeat ((refine zaa ?_;first|refine zar rfl ?_|refine zae FpF.h (by decide) rfl ?_|refine zah PlF.h rfl hW.row rfl ?_);refine zad rfl ?_));have hsc:scalL (ws.flatMap txC)=true:=zdq fun v hv=>by
  obtain ⟨x,_,hx⟩:=List.mem_flatMap.1 hv;rw [List.mem_singleton.1 hx];rfl
 refine zaa (zfg rfl rfl rfl ElF.h (.inl UnF.h) rfl hW.own rfl hv.elems hv.1 hsc (by omega) fun u' H1 ho hk hb=>?_);have hr1:=hW.row.keep hk (.inl hW.ne);refine zad rfl ?_;(repeat ((refine zaa ?_;first|refine zar rfl ?_|refine zae FpF.h (by decide) rfl ?_);refine zad rfl ?_));refine zaa (zbu SzF.h rfl rfl (zoa ho) hr1 (by simp) fun H2 hk2 hn2 hr2=>?_);have hne:¬ownB u' b:=fun h=>(hb b h).elim hW.ne fun h=>by have:=hW.lt;omega
 refine zab ⟨_,rfl,hQ u' H2 ⟨(hk.wide fun c hc=>Or.inr hc).trans hk2 fun c hc=>.inl (.inl hc),hb⟩ ⟨hr2,?_,hne⟩⟩;have ho2:=ho.keep hk2 fun c hc h=>hne (h▸hc);simp only [WS.put,J1,List.flatMap_append];exact ho2
theorem zhw {ok:Bool}(hW:Wr b H u s) (hQ:∀H',Wk b H u H' u→Wr b H' u (s.need ok)→Q (.tup []) H'):WpF prog tb gl 151 [.ptr b 0,.bool ok] H Q:=by
 have hlt:=hW.lt;refine fa func151 b151_eq v151_eq r151_eq (.inr (by simp)) ?_;refine za1 ?_;refine zad rfl ?_;(repeat ((refine zaa ?_;first|refine zar rfl ?_|refine zae FpF.h (by decide) rfl ?_|refine zah PlF.h rfl hW.row rfl ?_);refine zad rfl ?_));have fin:∀(l':Fm),lk 12 l'=some (.bool (s.need ok).bad)→lk 4 l'=some (.ptr b 0)→IA prog tb gl [.op (some 13) (.nilCheck (.tmp 4)),.op (some 14) (.fieldAddr 141 (.tmp 13) 1),.op none (.store 4 (.tmp 14) (.tmp 12))] l' H (fun l' H'=>leftA [] Q .normal l' H'):=by
  intro l' h12 h4;refine zaa (zar (show evA (.tmp 4) l'=some (.ptr b 0) from h4) ?_);refine zaa (zae FpF.h (by decide) rfl ?_);refine zaa (zbu SzF.h rfl (show evA (.tmp 12) (stI (some 14) _ (stI (some 13) _ l'))=some (.bool (s.need ok).bad) from h12) rfl hW.row (by simp) fun H2 hk2 hn2 hr2=>?_);refine zab ⟨_,rfl,hQ H2 ⟨hk2.wide fun c hc=>Or.inl hc,fun c hc=>.inl hc⟩ ⟨hr2,hW.own.keep hk2 fun c hc h=>hW.ne (h▸hc),hW.ne⟩⟩
 cases hbad:s.bad with
 |true=>
  refine zbh rfl (zbh rfl ?_);refine zaa (zaq rfl rfl rfl ?_);exact fin _ (by simp only [WS.need,hbad];rfl) rfl
 |false=>
  refine zav rfl (zal rfl (zav rfl (zfh rfl ?_)));refine zaa (za0 rfl rfl ?_);exact fin _ (by simp only [WS.need,hbad];rfl) rfl
theorem ze7 {n:List UInt8}(hW:Wr b H u s) (hK:KeysIn H) (hn:n.length<9223372036854775808) (hl:s.words.length+1<1000000)
  (hQ:∀u' H',Wk b H u H' u'→Wr b H' u' (s.name n)→Q (.tup []) H'):WpF prog tb gl 96 [.ptr b 0,S n] H Q:=by
 refine fa func96 b96_eq v96_eq r96_eq (.inr (by simp)) ?_;refine zac ?_;refine zad rfl ?_;refine zaa (zaf rfl rfl rfl (zu6 n hn hK ?_));refine zaa (zaf rfl rfl rfl (zhw hW fun H1 k1 W1=>?_));refine zab (za1 ?_);refine zad rfl ?_;refine zaa (zap (n:=1) ElF.h (by decide) rfl rfl fun H2 hk2 hr2=>?_);refine zaa (zaf rfl rfl rfl (zce (ws:=[n]) (W1.keep0 hk2) (IsRow.sl (es:=1) (n:=1) hr2 rfl (Jz 1)) hl fun u' H3 k3 W3=>?_));exact zab ⟨_,rfl,hQ u' H3 ((k1.trans (.of hk2)).trans k3) W3⟩
theorem lev0:callFO prog tb gl 9 277 [S [124,124]] H=.ret (.int .i64 1) H:=by kernel_rfl
theorem lev1:callFO prog tb gl 9 277 [S [38,38]] H=.ret (.int .i64 2) H:=by kernel_rfl
theorem lev2:callFO prog tb gl 9 277 [S [61,61]] H=.ret (.int .i64 3) H:=by kernel_rfl
theorem lev3:callFO prog tb gl 9 277 [S [33,61]] H=.ret (.int .i64 3) H:=by kernel_rfl
theorem lev4:callFO prog tb gl 9 277 [S [60]] H=.ret (.int .i64 3) H:=by kernel_rfl
theorem lev5:callFO prog tb gl 9 277 [S [60,61]] H=.ret (.int .i64 3) H:=by kernel_rfl
theorem lev6:callFO prog tb gl 9 277 [S [43]] H=.ret (.int .i64 4) H:=by kernel_rfl
theorem lev7:callFO prog tb gl 9 277 [S [45]] H=.ret (.int .i64 4) H:=by kernel_rfl
theorem lev8:callFO prog tb gl 9 277 [S [42]] H=.ret (.int .i64 5) H:=by kernel_rfl
theorem lev9:callFO prog tb gl 9 277 [S [47]] H=.ret (.int .i64 5) H:=by kernel_rfl
theorem lev10:callFO prog tb gl 9 277 [S [37]] H=.ret (.int .i64 5) H:=by kernel_rfl
theorem znt (n:List UInt8) (hQ:Q (.int .i64 (levB n)) H):WpF prog tb gl 277 [S n] H Q:=by
 by_cases h0:n=[124,124]
 ·subst h0;exact ⟨9,_,_,lev0,hQ⟩
 by_cases h1:n=[38,38]
 ·subst h1;exact ⟨9,_,_,lev1,hQ⟩
 by_cases h2:n=[61,61]
 ·subst h2;exact ⟨9,_,_,lev2,hQ⟩
 by_cases h3:n=[33,61]
 ·subst h3;exact ⟨9,_,_,lev3,hQ⟩
 by_cases h4:n=[60]
 ·subst h4;exact ⟨9,_,_,lev4,hQ⟩
 by_cases h5:n=[60,61]
 ·subst h5;exact ⟨9,_,_,lev5,hQ⟩
 by_cases h6:n=[43]
 ·subst h6;exact ⟨9,_,_,lev6,hQ⟩
 by_cases h7:n=[45]
 ·subst h7;exact ⟨9,_,_,lev7,hQ⟩
 by_cases h8:n=[42]
 ·subst h8;exact ⟨9,_,_,lev8,hQ⟩
 by_cases h9:n=[47]
 ·subst h9;exact ⟨9,_,_,lev9,hQ⟩
 by_cases h10:n=[37]
 ·subst h10;exact ⟨9,_,_,lev10,hQ⟩
 have hl:levB n=0:=by simp [levB,h0,h1,h2,h3,h4,h5,h6,h7,h8,h9,h10]
 rw [hl] at hQ;refine fa func277 b277_eq v277_eq r277_eq (.inr (by simp)) ?_;refine zac ?_;refine zad rfl ?_;refine zab (zaj (zac ?_));refine zad rfl ?_;refine zab (zau (zac ?_));refine zaa (zbt rfl rfl (Qf h0) ?_);refine zad rfl ?_;refine zab (zag rfl (zac ?_));refine zaa (zbt rfl rfl (Qf h1) ?_);refine zad rfl ?_;refine zab (zag rfl (zaj (zac ?_)));refine zaa (zbt rfl rfl (Qf h2) ?_);refine zad rfl ?_;refine zab (zag rfl (zac ?_));refine zaa (zbt rfl rfl (Qf h3) ?_);refine zad rfl ?_;refine zab (zag rfl (zac ?_));refine zaa (zbt rfl rfl (Qf h4) ?_);refine zad rfl ?_;refine zab (zag rfl (za1 ?_));refine zaa (zbt rfl rfl (Qf h5) ?_);refine zad rfl ?_;refine zab (zag rfl (zaj (zac ?_)));refine zaa (zbt rfl rfl (Qf h6) ?_);refine zad rfl ?_;refine zab (zag rfl (za1 ?_));refine zaa (zbt rfl rfl (Qf h7) ?_);refine zad rfl ?_;refine zab (zag rfl (zaj (zac ?_)));refine zaa (zbt rfl rfl (Qf h8) ?_);refine zad rfl ?_;refine zab (zag rfl (zac ?_));refine zaa (zbt rfl rfl (Qf h9) ?_);refine zad rfl ?_;refine zab (zag rfl (za1 ?_));refine zaa (zbt rfl rfl (Qf h10) ?_);refine zad rfl ?_;refine zab (zag rfl (zam (zac ?_)));refine zad rfl ?_;exact zab (zao ⟨_,rfl,hQ⟩)
end
def formE (x:Exp):Bool:=
 if x.kind=1 then decide (0≤x.num)&&decide (x.l.length=0) else if x.kind=2 then (decide (x.num=0)||decide (x.num=1))&&decide (x.l.length=0) else if x.kind=3 then decide (x.l.length=0) else if x.kind=4 then decide (x.l.length=1)
 else if x.kind=5 then (decide (x.name=[45])||decide (x.name=[33]))&&decide (x.l.length=1) else if x.kind=6 then decide (0<levB x.name)&&decide (x.l.length=2) else false
def bareE (x:Exp):Bool:=((!decide (x.name=[]))==(!decide (x.kind=1) && !decide (x.kind=2)))&&(decide (x.num=0)||decide (x.kind=1)||decide (x.kind=2))
def plainE (x:Exp):Bool:=bareE x&&formE x
section
variable {tb:List FuncId}{gl:List (List AV)}{A:Nat→Prop}{H:Heap}{u v w:AV}{b:Nat}{s:WS}{Q:AV→Heap→Prop}
set_option maxHeartbeats 0 in
theorem plain_ok {c : List AV} {e : Exp} (hE : IsE A H c e) (hQ : ∀ H', Keep Non H H' → Q (.bool (plainE e)) H') : WpF prog tb gl 250 [.agg c] H Q := by
  have hrB : rB = 140737488351232 := rfl
  obtain ⟨v, rfl, _, _, hs, hl, hL⟩ := hE.out
  refine fa func250 b250_eq v250_eq r250_eq (.inr (by simp)) ?_
  refine zac ?_
  refine zaa (zcy rfl fun H1 hk1 hr1 => ?_)
  obtain ⟨b, hb⟩ : ∃ b, b = H.nx := ⟨_, rfl⟩
  rw [← hb] at hr1 ⊢
  have hr1 : IsRow H1 b [.int .i64 e.kind, S e.name, .int .i64 e.num, v] false false := hr1
  obtain ⟨els, hsl, _⟩ := zbe (hL.keep hk1 fun _ _ _ h => h.keep hk1)
  have hQ := hQ H1 hk1
  unfold plainE at hQ
  obtain ⟨kd, hkd⟩ : ∃ k, k = e.kind := ⟨_, rfl⟩
  obtain ⟨nm, hnm⟩ : ∃ k, k = e.name := ⟨_, rfl⟩
  obtain ⟨nu, hnu⟩ : ∃ k, k = e.num := ⟨_, rfl⟩
  obtain ⟨le, hle⟩ : ∃ k, k = e.l.length := ⟨_, rfl⟩
  have hB : bareE e = (((!decide (nm = [])) == (!decide (kd = 1) && !decide (kd = 2))) && (decide (nu = 0) || decide (kd = 1) || decide (kd = 2))) := by rw [hkd, hnm, hnu]; rfl
  have hF : formE e = (if kd = 1 then decide (0 ≤ nu) && decide (le = 0) else if kd = 2 then (decide (nu = 0) || decide (nu = 1)) && decide (le = 0) else if kd = 3 then decide (le = 0) else if kd = 4 then decide (le = 1)
      else if kd = 5 then (decide (nm = [45]) || decide (nm = [33])) && decide (le = 1) else if kd = 6 then decide (0 < levB nm) && decide (le = 2) else false) := by rw [hkd, hnm, hnu, hle]; rfl
  rw [hB, hF] at hQ
  rw [← hle] at hsl
  rw [← hkd, ← hnm, ← hnu] at hr1
  clear hB hF hkd hnm hnu hle hL hE
  refine zad rfl ?_
  refine zab (zaj ?_)
  -- the form
  have form : (((!decide (nm = [])) == (!decide (kd = 1) && !decide (kd = 2))) && (decide (nu = 0) || decide (kd = 1) || decide (kd = 2))) = true → VA prog tb gl v250t2 [(1, .ptr b 0)] H1 (leftA [.tmp 2] Q) := by
    intro h
    rw [h, Bool.true_and] at hQ
    refine zaj (zac ?_)
    (repeat ((refine zaa ?_; first | refine zae FpF.h (by decide) rfl ?_ | refine zah PlF.h rfl hr1 rfl ?_)))
    refine zab (zau (zac ?_))
    by_cases e1 : kd = 1
    · rw [if_pos e1] at hQ
      (repeat ((refine zaa ?_; first | refine zak rfl ?_ | refine zax rfl rfl (by omega) ?_)))
      refine zab (zai rfl (zac ?_))
      by_cases h1 : 0 ≤ nu
      · by_cases h2 : le = 0
        · (repeat (((first | refine zaa ?_ | refine zav rfl ?_); first | refine zal rfl ?_ | refine zak rfl ?_ | refine zae FpF.h (by decide) rfl ?_ | refine zah PlF.h rfl hr1 rfl ?_ | refine za3 rfl rfl rfl UnF.h rfl hsl ?_ | refine zew rfl rfl (by omega) ?_ | refine zax rfl rfl (by omega) ?_ | refine zaq rfl rfl rfl ?_)))
          refine zab (zao ⟨_, rfl, ?_⟩)
          simpa [h1, h2] using hQ
        · (repeat (((first | refine zaa ?_ | refine zav rfl ?_); first | refine zal rfl ?_ | refine zak rfl ?_ | refine zae FpF.h (by decide) rfl ?_ | refine zah PlF.h rfl hr1 rfl ?_ | refine za3 rfl rfl rfl UnF.h rfl hsl ?_ | refine zew rfl rfl (by omega) ?_ | refine za2 rfl rfl (by omega) ?_ | refine zaq rfl rfl rfl ?_)))
          refine zab (zao ⟨_, rfl, ?_⟩)
          simpa [h1, h2] using hQ
      · (repeat (first | refine zbh rfl ?_ | (refine zaa ?_; first | refine zal rfl ?_ | refine zak rfl ?_ | refine zae FpF.h (by decide) rfl ?_ | refine zah PlF.h rfl hr1 rfl ?_ | refine zjg rfl rfl (by omega) ?_ | refine za0 rfl rfl ?_)))
        refine zab (zao ⟨_, rfl, ?_⟩)
        simpa [h1] using hQ
    rw [if_neg e1] at hQ
    (repeat ((refine zaa ?_; first | refine zak rfl ?_ | refine za2 rfl rfl (by omega) ?_)))
    refine zab (zag rfl (zac ?_))
    by_cases e2 : kd = 2
    · rw [if_pos e2] at hQ
      (repeat ((refine zaa ?_; first | refine zak rfl ?_ | refine zax rfl rfl (by omega) ?_)))
      refine zab (zai rfl (zac ?_))
      by_cases h1 : nu = 0
      · by_cases h2 : le = 0
        · (repeat (first | refine zbh rfl ?_ | ((first | refine zaa ?_ | refine zav rfl ?_); first | refine zal rfl ?_ | refine zak rfl ?_ | refine zae FpF.h (by decide) rfl ?_ | refine zah PlF.h rfl hr1 rfl ?_ | refine za3 rfl rfl rfl UnF.h rfl hsl ?_ | refine zax rfl rfl (by omega) ?_ | refine zaq rfl rfl rfl ?_)))
          refine zab (zao ⟨_, rfl, ?_⟩)
          simpa [h1, h2] using hQ
        · (repeat (first | refine zbh rfl ?_ | ((first | refine zaa ?_ | refine zav rfl ?_); first | refine zal rfl ?_ | refine zak rfl ?_ | refine zae FpF.h (by decide) rfl ?_ | refine zah PlF.h rfl hr1 rfl ?_ | refine za3 rfl rfl rfl UnF.h rfl hsl ?_ | refine za2 rfl rfl (by omega) ?_ | refine zax rfl rfl (by omega) ?_ | refine zaq rfl rfl rfl ?_)))
          refine zab (zao ⟨_, rfl, ?_⟩)
          simpa [h1, h2] using hQ
      · by_cases h3 : nu = 1
        · by_cases h2 : le = 0
          · (repeat (((first | refine zaa ?_ | refine zav rfl ?_); first | refine zal rfl ?_ | refine zak rfl ?_ | refine zae FpF.h (by decide) rfl ?_ | refine zah PlF.h rfl hr1 rfl ?_ | refine za3 rfl rfl rfl UnF.h rfl hsl ?_ | refine za2 rfl rfl (by omega) ?_ | refine zax rfl rfl (by omega) ?_ | refine zaq rfl rfl rfl ?_ | refine za0 rfl rfl ?_)))
            refine zab (zao ⟨_, rfl, ?_⟩)
            simpa [h3, h2] using hQ
          · (repeat (((first | refine zaa ?_ | refine zav rfl ?_); first | refine zal rfl ?_ | refine zak rfl ?_ | refine zae FpF.h (by decide) rfl ?_ | refine zah PlF.h rfl hr1 rfl ?_ | refine za3 rfl rfl rfl UnF.h rfl hsl ?_ | refine za2 rfl rfl (by omega) ?_ | refine zax rfl rfl (by omega) ?_ | refine zaq rfl rfl rfl ?_ | refine za0 rfl rfl ?_)))
            refine zab (zao ⟨_, rfl, ?_⟩)
            simpa [h3, h2] using hQ
        · (repeat (first | refine zbh rfl ?_ | ((first | refine zaa ?_ | refine zav rfl ?_); first | refine zal rfl ?_ | refine zak rfl ?_ | refine zae FpF.h (by decide) rfl ?_ | refine zah PlF.h rfl hr1 rfl ?_ | refine za2 rfl rfl (by omega) ?_ | refine za0 rfl rfl ?_)))
          refine zab (zao ⟨_, rfl, ?_⟩)
          simpa [h1, h3] using hQ
    rw [if_neg e2] at hQ
    (repeat ((refine zaa ?_; first | refine zak rfl ?_ | refine za2 rfl rfl (by omega) ?_)))
    refine zab (zag rfl (zac ?_))
    by_cases e3 : kd = 3
    · rw [if_pos e3] at hQ
      (repeat ((refine zaa ?_; first | refine zak rfl ?_ | refine zax rfl rfl (by omega) ?_)))
      refine zab (zai rfl (zac ?_))
      by_cases h2 : le = 0
      · (repeat ((refine zaa ?_; first | refine zak rfl ?_ | refine zae FpF.h (by decide) rfl ?_ | refine zah PlF.h rfl hr1 rfl ?_ | refine za3 rfl rfl rfl UnF.h rfl hsl ?_ | refine zax rfl rfl (by omega) ?_)))
        refine zab (zao ⟨_, rfl, ?_⟩)
        simpa [h2] using hQ
      · (repeat ((refine zaa ?_; first | refine zak rfl ?_ | refine zae FpF.h (by decide) rfl ?_ | refine zah PlF.h rfl hr1 rfl ?_ | refine za3 rfl rfl rfl UnF.h rfl hsl ?_ | refine za2 rfl rfl (by omega) ?_)))
        refine zab (zao ⟨_, rfl, ?_⟩)
        simpa [h2] using hQ
    rw [if_neg e3] at hQ
    (repeat ((refine zaa ?_; first | refine zak rfl ?_ | refine za2 rfl rfl (by omega) ?_)))
    refine zab (zag rfl (zac ?_))
    by_cases e4 : kd = 4
    · rw [if_pos e4] at hQ
      (repeat ((refine zaa ?_; first | refine zak rfl ?_ | refine zax rfl rfl (by omega) ?_)))
      refine zab (zai rfl (zac ?_))
      by_cases h2 : le = 1
      · (repeat ((refine zaa ?_; first | refine zak rfl ?_ | refine zae FpF.h (by decide) rfl ?_ | refine zah PlF.h rfl hr1 rfl ?_ | refine za3 rfl rfl rfl UnF.h rfl hsl ?_ | refine zax rfl rfl (by omega) ?_)))
        refine zab (zao ⟨_, rfl, ?_⟩)
        simpa [h2] using hQ
      · (repeat ((refine zaa ?_; first | refine zak rfl ?_ | refine zae FpF.h (by decide) rfl ?_ | refine zah PlF.h rfl hr1 rfl ?_ | refine za3 rfl rfl rfl UnF.h rfl hsl ?_ | refine za2 rfl rfl (by omega) ?_)))
        refine zab (zao ⟨_, rfl, ?_⟩)
        simpa [h2] using hQ
    rw [if_neg e4] at hQ
    (repeat ((refine zaa ?_; first | refine zak rfl ?_ | refine za2 rfl rfl (by omega) ?_)))
    refine zab (zag rfl (zac ?_))
    by_cases e5 : kd = 5
    · rw [if_pos e5] at hQ
      (repeat ((refine zaa ?_; first | refine zak rfl ?_ | refine zax rfl rfl (by omega) ?_)))
      refine zab (zai rfl (zac ?_))
      by_cases h1 : nm = [45]
      · by_cases h2 : le = 1
        · (repeat (first | refine zbh rfl ?_ | ((first | refine zaa ?_ | refine zav rfl ?_); first | refine zal rfl ?_ | refine zak rfl ?_ | refine zae FpF.h (by decide) rfl ?_ | refine zah PlF.h rfl hr1 rfl ?_ | refine za3 rfl rfl rfl UnF.h rfl hsl ?_ | refine zbt rfl rfl (Qg h1) ?_ | refine zax rfl rfl (by omega) ?_ | refine zaq rfl rfl rfl ?_)))
          refine zab (zao ⟨_, rfl, ?_⟩)
          simpa [h1, h2] using hQ
        · (repeat (first | refine zbh rfl ?_ | ((first | refine zaa ?_ | refine zav rfl ?_); first | refine zal rfl ?_ | refine zak rfl ?_ | refine zae FpF.h (by decide) rfl ?_ | refine zah PlF.h rfl hr1 rfl ?_ | refine za3 rfl rfl rfl UnF.h rfl hsl ?_ | refine zbt rfl rfl (Qg h1) ?_ | refine za2 rfl rfl (by omega) ?_ | refine zaq rfl rfl rfl ?_)))
          refine zab (zao ⟨_, rfl, ?_⟩)
          simpa [h1, h2] using hQ
      · by_cases h3 : nm = [33]
        · by_cases h2 : le = 1
          · (repeat (((first | refine zaa ?_ | refine zav rfl ?_); first | refine zal rfl ?_ | refine zak rfl ?_ | refine zae FpF.h (by decide) rfl ?_ | refine zah PlF.h rfl hr1 rfl ?_ | refine za3 rfl rfl rfl UnF.h rfl hsl ?_ | refine zbt rfl rfl (Qf h1) ?_ | refine zbt rfl rfl (Qg h3) ?_ | refine zax rfl rfl (by omega) ?_ | refine zaq rfl rfl rfl ?_ | refine za0 rfl rfl ?_)))
            refine zab (zao ⟨_, rfl, ?_⟩)
            simpa [h3, h2] using hQ
          · (repeat (((first | refine zaa ?_ | refine zav rfl ?_); first | refine zal rfl ?_ | refine zak rfl ?_ | refine zae FpF.h (by decide) rfl ?_ | refine zah PlF.h rfl hr1 rfl ?_ | refine za3 rfl rfl rfl UnF.h rfl hsl ?_ | refine zbt rfl rfl (Qf h1) ?_ | refine zbt rfl rfl (Qg h3) ?_ | refine za2 rfl rfl (by omega) ?_ | refine zaq rfl rfl rfl ?_ | refine za0 rfl rfl ?_)))
            refine zab (zao ⟨_, rfl, ?_⟩)
            simpa [h3, h2] using hQ
        · (repeat (first | refine zbh rfl ?_ | ((first | refine zaa ?_ | refine zav rfl ?_); first | refine zal rfl ?_ | refine zak rfl ?_ | refine zae FpF.h (by decide) rfl ?_ | refine zah PlF.h rfl hr1 rfl ?_ | refine zbt rfl rfl (Qf h1) ?_ | refine zbt rfl rfl (Qf h3) ?_ | refine za0 rfl rfl ?_)))
          refine zab (zao ⟨_, rfl, ?_⟩)
          simpa [h1, h3] using hQ
    rw [if_neg e5] at hQ
    (repeat ((refine zaa ?_; first | refine zak rfl ?_ | refine za2 rfl rfl (by omega) ?_)))
    refine zab (zag rfl (zac ?_))
    by_cases e6 : kd = 6
    · rw [if_pos e6] at hQ
      (repeat ((refine zaa ?_; first | refine zak rfl ?_ | refine zax rfl rfl (by omega) ?_)))
      refine zab (zai rfl (zac ?_))
      refine zaa (zae FpF.h (by decide) rfl ?_)
      refine zaa (zah PlF.h rfl hr1 rfl ?_)
      refine zaa (zaf rfl rfl rfl (znt nm ?_))
      by_cases h1 : 0 < levB nm
      · by_cases h2 : le = 2
        · (repeat (((first | refine zaa ?_ | refine zav rfl ?_); first | refine zal rfl ?_ | refine zak rfl ?_ | refine zae FpF.h (by decide) rfl ?_ | refine zah PlF.h rfl hr1 rfl ?_ | refine za3 rfl rfl rfl UnF.h rfl hsl ?_ | refine zcn rfl rfl (by omega) ?_ | refine zax rfl rfl (by omega) ?_ | refine zaq rfl rfl rfl ?_)))
          refine zab (zao ⟨_, rfl, ?_⟩)
          simpa [h1, h2] using hQ
        · (repeat (((first | refine zaa ?_ | refine zav rfl ?_); first | refine zal rfl ?_ | refine zak rfl ?_ | refine zae FpF.h (by decide) rfl ?_ | refine zah PlF.h rfl hr1 rfl ?_ | refine za3 rfl rfl rfl UnF.h rfl hsl ?_ | refine zcn rfl rfl (by omega) ?_ | refine za2 rfl rfl (by omega) ?_ | refine zaq rfl rfl rfl ?_)))
          refine zab (zao ⟨_, rfl, ?_⟩)
          simpa [h1, h2] using hQ
      · (repeat (first | refine zbh rfl ?_ | (refine zaa ?_; first | refine zal rfl ?_ | refine zak rfl ?_ | refine zd1 rfl rfl (by omega) ?_ | refine za0 rfl rfl ?_)))
        refine zab (zao ⟨_, rfl, ?_⟩)
        simpa [h1] using hQ
    rw [if_neg e6] at hQ
    (repeat ((refine zaa ?_; first | refine zak rfl ?_ | refine za2 rfl rfl (by omega) ?_)))
    refine zab (zag rfl (zam (zac ?_)))
    refine zad rfl ?_
    exact zab (zao ⟨_, rfl, hQ⟩)
  have no : (((!decide (nm = [])) == (!decide (kd = 1) && !decide (kd = 2))) && (decide (nu = 0) || decide (kd = 1) || decide (kd = 2))) = false → ∀ l', VA prog tb gl v250c0 l' H1 (seqA prog tb gl v250t2 (leftA [.tmp 2] Q)) := by
    intro h l'
    rw [h, Bool.false_and] at hQ
    refine zac ?_
    refine zad rfl ?_
    exact zab (zao ⟨_, rfl, hQ⟩)
  refine zac ?_
  by_cases h0 : nm = [] <;> by_cases h1 : kd = 1 <;> by_cases h2 : kd = 2 <;> by_cases h3 : nu = 0 <;> first
    | omega
    | ((repeat (first | refine zbh rfl ?_ | refine zo4 rfl ?_ | ((first | refine zaa ?_ | refine zav rfl ?_); first | refine zal rfl ?_ | refine zae FpF.h (by decide) rfl ?_ | refine zah PlF.h rfl hr1 rfl ?_ | refine zg2 (d := false) rfl rfl (by rw [Qg h0]; rfl) ?_ | refine zg2 (d := true) rfl rfl (by rw [Qf h0]; rfl) ?_ | refine oa_bneq UnF.h rfl rfl ?_ | refine zc9 rfl rfl (by omega) ?_ | refine zfy rfl rfl (by omega) ?_ | refine zaq rfl rfl rfl ?_ | refine za0 rfl rfl ?_)))
       first
         | exact zab (zai rfl (no (by simp [h0, h1, h2, h3]) _))
         | exact zab (zag rfl (zam (VA.sub (l0 := [(1, .ptr b 0)]) ⟨rfl, trivial⟩ (form (by simp [h0, h1, h2, h3])))))) 
end
instance ifp_141_2:FpF prog 141 2 ⟨2,false,1⟩:=⟨by kernel_rfl⟩
theorem sz_3:szOf prog 3=some 1:=by kernel_rfl
instance isz_3:SzF prog 3 1:=⟨sz_3⟩
def v206h3:CV:=Jt [Jd 19 0,Jm 20 19,Jg 21 141 20 1,Jf 22 4 21] (.cond (Ja 22) (.ret) (.skip))
def v206c1:CV:=Jt [Jg 35 165 4 2,Jf 36 2 35,Jc 37 (.binOp .eql 2 (Ja 36) (Jb 1) 2)] (.cond (Ja 37) (.reg [Jd 38 0,Jc 39 (.buildSlice 40 1 #[(0,(.const (.string ⟨⟨[116,114,117,101]⟩⟩)))]),Jo 40 95 38 39 139 40]) (.reg [Jd 41 0,Jc 42 (.buildSlice 40 1 #[(0,(.const (.string ⟨⟨[102,97,108,115,101]⟩⟩)))]),Jo 43 95 41 42 139 40]))
def v206c2h0:CV:=Jt [Jc 45 (.binOp .eql 3 (Ja 24) (Jb 3) 3),Jh 44 45] (.cond (Ja 44) (.skip) (.reg [Jc 46 (.binOp .eql 3 (Ja 24) (Jb 4) 3),Jh 44 46]))
def v206c4t1:CV:=Jt [Jd 57 0,Jg 58 165 4 3,Jf 59 146 58,Jc 60 (.indexAddr 146 (Ja 59) (Jb 0)),Jf 61 165 60,Jd 62 2,Jc 63 (.binOp .add 3 (Ja 62) (Jb 1) 3),Jc 64 (.call ⟨.value (.func 206),#[(Ja 57),(Ja 61),(Ja 63)],#[139,165,3]⟩)] (.reg [Jd 65 0,Jc 66 (.buildSlice 40 1 #[(0,(.const (.string ⟨⟨[93]⟩⟩)))]),Jo 67 95 65 66 139 40])
def v206c4:CV:=Jt [Jd 54 0,Jc 55 (.buildSlice 40 1 #[(0,(.const (.string ⟨⟨[91]⟩⟩)))]),Jo 56 95 54 55 139 40] v206c4t1
def v206c3t1:CV:=Jt [Jg 51 165 4 0,Jf 52 3 51,Jc 53 (.binOp .eql 3 (Ja 52) (Jb 4) 3)] (.cond (Ja 53) v206c4 (.skip))
def v206c3:CV:=Jt [Jd 47 0,Jg 48 165 4 1,Jf 49 9 48,Jo 50 96 47 49 139 9] v206c3t1
def v206c6t1:CV:=Jt [Jd 75 0,Jd 76 0,Jm 77 76,Jg 78 141 77 2,Jf 79 3 78,Jd 80 2,Jc 81 (.binOp .add 3 (Ja 80) (Jb 1) 3),Jc 82 (.call ⟨.builtin .max,#[(Ja 79),(Ja 81)],#[3,3]⟩),Jm 83 75,Jg 84 141 83 2,.op none (.store 3 (Ja 84) (Ja 82))] (.reg [Jd 85 0,Jg 86 165 4 3,Jf 87 146 86,Jc 88 (.indexAddr 146 (Ja 87) (Jb 0)),Jf 89 165 88,Jd 90 2,Jc 91 (.binOp .add 3 (Ja 90) (Jb 1) 3),Jc 92 (.call ⟨.value (.func 251),#[(Ja 85),(Ja 89),(Ja 91)],#[139,165,3]⟩)])
def v206c6:CV:=Jt [Jd 70 0,Jg 71 165 4 1,Jf 72 9 71,Jc 73 (.buildSlice 40 1 #[(0,(Ja 72))]),Jo 74 95 70 73 139 40] v206c6t1
def v206c8t1:CV:=Jt [Jd 102 0,Jg 103 165 4 1,Jf 104 9 103,Jc 105 (.buildSlice 40 1 #[(0,(Ja 104))]),Jo 106 95 102 105 139 40] (.reg [Jd 107 0,Jg 108 165 4 3,Jf 109 146 108,Jc 110 (.indexAddr 146 (Ja 109) (Jb 1)),Jf 111 165 110,Jd 112 2,Jc 113 (.call ⟨.value (.func 251),#[(Ja 107),(Ja 111),(Ja 112)],#[139,165,3]⟩)])
def v206c8:CV:=Jt [Jd 95 0,Jg 96 165 4 3,Jf 97 146 96,Jc 98 (.indexAddr 146 (Ja 97) (Jb 0)),Jf 99 165 98,Jd 100 2,Jc 101 (.call ⟨.value (.func 251),#[(Ja 95),(Ja 99),(Ja 100)],#[139,165,3]⟩)] v206c8t1
def v206c7:CV:=Jt [Jc 94 (.binOp .eql 3 (Ja 24) (Jb 6) 3),Jh 93 94] (.cond (Ja 93) v206c8 (.skip))
def v206c5:CV:=Jt [Jc 69 (.binOp .eql 3 (Ja 24) (Jb 5) 3),Jh 68 69] (.cond (Ja 68) v206c6 v206c7)
def v206c2:CV:=.seq v206c2h0 (.cond (Ja 44) v206c3 v206c5)
def v206c0:CV:=Jt [Jc 34 (.binOp .eql 3 (Ja 24) (Jb 2) 3),Jh 33 34] (.cond (Ja 33) v206c1 v206c2)
def v206k0:CV:=Jt [Jc 26 (.binOp .eql 3 (Ja 24) (Jb 1) 3),Jh 25 26] (.cond (Ja 25) (.reg [Jd 27 0,Jg 28 165 4 2,Jf 29 2 28,Jn 30 26 29 2,Jc 31 (.buildSlice 40 1 #[(0,(Ja 30))]),Jo 32 95 27 31 139 40]) v206c0)
def v206t4:CV:=Jt [Jg 23 165 4 0,Jf 24 3 23] (.block 0 v206k0)
def v206t3:CV:=.seq v206h3 v206t4
def v206t2:CV:=Jt [Jd 15 0,Jf 16 165 4,Jn 17 250 16 165,Jo 18 151 15 17 139 4] v206t3
def v206t1:CV:=Jt [Jd 6 0,Jd 7 0,Jm 8 7,Jg 9 141 8 2,Jf 10 3 9,Jd 11 2,Jc 12 (.call ⟨.builtin .max,#[(Ja 10),(Ja 11)],#[3,3]⟩),Jm 13 6,Jg 14 141 13 2,.op none (.store 3 (Ja 14) (Ja 12))] v206t2
def v206:CV:=Jt [Jc 4 (.box 165 (Ja 1))] v206t1
noncomputable def b206:Code:=f206.body.getD .skip
theorem b206_eq:f206.body=some b206:=by kernel_rfl
theorem v206_eq:viewC prog b206=some v206:=by kernel_rfl
theorem r206_eq:f206.results.toList=[]:=by kernel_rfl
def v251c0t2:CV:=Jt [Jd 17 0,Jc 18 (.buildSlice 40 1 #[(0,(.const (.string ⟨⟨[41]⟩⟩)))]),Jo 19 95 17 18 139 40] (.ret)
def v251c0t1:CV:=Jt [Jd 12 0,Jf 13 165 4,Jd 14 2,Jc 15 (.binOp .add 3 (Ja 14) (Jb 1) 3),Jc 16 (.call ⟨.value (.func 206),#[(Ja 12),(Ja 13),(Ja 15)],#[139,165,3]⟩)] v251c0t2
def v251c0:CV:=Jt [Jd 9 0,Jc 10 (.buildSlice 40 1 #[(0,(.const (.string ⟨⟨[40]⟩⟩)))]),Jo 11 95 9 10 139 40] v251c0t1
def v251h1:CV:=Jt [Jg 6 165 4 0,Jf 7 3 6,Jc 8 (.binOp .eql 3 (Ja 7) (Jb 6) 3)] (.cond (Ja 8) v251c0 (.skip))
def v251t1:CV:=.seq v251h1 (.reg [Jd 20 0,Jf 21 165 4,Jd 22 2,Jc 23 (.call ⟨.value (.func 206),#[(Ja 20),(Ja 21),(Ja 22)],#[139,165,3]⟩)])
def v251:CV:=Jt [Jc 4 (.box 165 (Ja 1))] v251t1
noncomputable def b251:Code:=f251.body.getD .skip
theorem b251_eq:f251.body=some b251:=by kernel_rfl
theorem v251_eq:viewC prog b251=some v251:=by kernel_rfl
theorem r251_eq:f251.results.toList=[]:=by kernel_rfl
def wE:Exp→Nat→WS→WS
 |.mk k n z l,d,s=>
  let s1:=(s.deep d).need (plainE (.mk k n z l))
  if s1.bad=true then s1
  else if k=1 then s1.put [textZ z]
  else if k=2 then s1.put [if z=1 then [116,114,117,101] else [102,97,108,115,101]]
  else if k=3 then s1.name n
  else if k=4 then (match l with|a::_=>(wE a (d+1) ((s1.name n).put [[91]])).put [[93]]|[]=>s1)
  else if k=5 then (match l with|a::_=>if a.kind=6 then (wE a (d+1+1) (((s1.put [n]).deep (d+1)).put [[40]])).put [[41]] else wE a (d+1) ((s1.put [n]).deep (d+1))|[]=>s1)
  else if k=6 then (match l with
   |a::c::_=>
    let s2:=if a.kind=6 then (wE a (d+1) (s1.put [[40]])).put [[41]] else wE a d s1
    if c.kind=6 then (wE c (d+1) ((s2.put [n]).put [[40]])).put [[41]] else wE c d (s2.put [n])
   |_=>s1)
  else s1
termination_by x=>szE x
decreasing_by all_goals (simp [szE,szEs];try omega)
def wOp (x:Exp) (d:Nat) (s:WS):WS:=if x.kind=6 then (wE x (d+1) (s.put [[40]])).put [[41]] else wE x d s
theorem zaw (s:WS) (ws:List (List UInt8)):(s.put ws).words.length=s.words.length+ws.length:=by simp [WS.put]
theorem zy4 (k:Int) (n:List UInt8) (z:Int) (l:List Exp) (d:Nat) (s:WS):wE (.mk k n z l) d s =
  if ((s.deep d).need (plainE (.mk k n z l))).bad=true then ((s.deep d).need (plainE (.mk k n z l)))
  else if k=1 then ((s.deep d).need (plainE (.mk k n z l))).put [textZ z]
  else if k=2 then ((s.deep d).need (plainE (.mk k n z l))).put [if z=1 then [116,114,117,101] else [102,97,108,115,101]]
  else if k=3 then ((s.deep d).need (plainE (.mk k n z l))).name n
  else if k=4 then (match l with|a::_=>(wE a (d+1) ((((s.deep d).need (plainE (.mk k n z l))).name n).put [[91]])).put [[93]]|[]=>((s.deep d).need (plainE (.mk k n z l))))
  else if k=5 then (match l with|a::_=>wOp a (d+1) ((((s.deep d).need (plainE (.mk k n z l))).put [n]).deep (d+1))|[]=>((s.deep d).need (plainE (.mk k n z l))))
  else if k=6 then (match l with|a::c::_=>wOp c d ((wOp a d ((s.deep d).need (plainE (.mk k n z l)))).put [n])|_=>((s.deep d).need (plainE (.mk k n z l))))
  else ((s.deep d).need (plainE (.mk k n z l))):=by
 conv=>lhs;unfold wE
 simp only [wOp]
theorem wE_at (x:Exp) (d:Nat) (s s1:WS) (hs:s1=(s.deep d).need (plainE x)):wE x d s =
  if s1.bad=true then s1
  else if x.kind=1 then s1.put [textZ x.num]
  else if x.kind=2 then s1.put [if x.num=1 then [116,114,117,101] else [102,97,108,115,101]]
  else if x.kind=3 then s1.name x.name
  else if x.kind=4 then (match x.l with|a::_=>(wE a (d+1) ((s1.name x.name).put [[91]])).put [[93]]|[]=>s1)
  else if x.kind=5 then (match x.l with|a::_=>wOp a (d+1) ((s1.put [x.name]).deep (d+1))|[]=>s1)
  else if x.kind=6 then (match x.l with|a::c::_=>wOp c d ((wOp a d s1).put [x.name])|_=>s1)
  else s1:=by
 subst hs;cases x;exact zy4 _ _ _ _ _ _
theorem len2 {α:Type}{l:List α}(h:l.length=2):∃a b,l=[a,b]:=by
 match l,h with
 |[a,b],_=>exact ⟨a,b,rfl⟩
theorem zcm (s:WS) (ok:Bool):(s.need ok).words.length=s.words.length:=rfl
theorem zcj (s:WS) (d:Nat):(s.deep d).words.length=s.words.length:=rfl
theorem zbi (s:WS) (n:List UInt8):(s.name n).words.length=s.words.length+1:=by simp [WS.name,WS.put,WS.need]
theorem zoi {x:Exp}(h:∀d s,(wE x d s).words.length+2≤s.words.length+5*sizE x) (d:Nat) (s:WS):(wOp x d s).words.length≤s.words.length+5*sizE x:=by
 unfold wOp;split
 ·have:=h (d+1) (s.put [[40]]);rw [zaw] at this ⊢;simp only [Qc] at this ⊢;omega
 ·have:=h d s;omega
theorem zhk:∀(k:Nat) (x:Exp),szE x<k→∀d s,(wE x d s).words.length+2≤s.words.length+5*sizE x
 |0,_,h,_,_=>by omega
 |k+1,.mk kd n z l,h,d,s=>by
  rw [zy4];obtain ⟨s1,hs1⟩:∃s1,s1=(s.deep d).need (plainE (.mk kd n z l)):=⟨_,rfl⟩
  rw [←hs1];have hl1:s1.words.length=s.words.length:=by rw [hs1];rfl
  simp only [sizE];split
  ·omega
  split
  ·rw [zaw,Qc];omega
  split
  ·rw [zaw,Qc];omega
  split
  ·rw [zbi];omega
  split
  ·split
   ·rename_i a r;have h1:=zhk k a (by simp only [szE,szEs] at h;omega) (d+1) ((s1.name n).put [[91]]);rw [zaw,zbi] at h1;rw [zaw];simp only [Qc,sizEs] at h1 ⊢;omega
   ·omega
  split
  ·split
   ·rename_i a r;have h1:=zoi (zhk k a (by simp only [szE,szEs] at h;omega)) (d+1) ((s1.put [n]).deep (d+1));rw [zcj,zaw] at h1;simp only [Qc,sizEs] at h1 ⊢;omega
   ·omega
  split
  ·split
   ·rename_i a c r;have h1:=zoi (zhk k a (by simp only [szE,szEs] at h;omega)) d s1;have h2:=zoi (zhk k c (by simp only [szE,szEs] at h;omega)) d ((wOp a d s1).put [n]);rw [zaw] at h2;simp only [Qc,sizEs] at h2 ⊢;omega
   ·omega
  ·omega
section
variable {tb:List FuncId}{gl:List (List AV)}{A:Nat→Prop}{H:Heap}{u v w:AV}{b:Nat}{s:WS}{Q:AV→Heap→Prop}
def ExprOK (tb:List FuncId) (gl:List (List AV)) (k:Nat):Prop:=∀(A:Nat→Prop) (x:Exp) (c:List AV) (d b:Nat) (H:Heap) (u:AV) (s:WS) (Q:AV→Heap→Prop),szE x<k→IsE A H c x→(∀a,A a→Off b H u a)→KeysIn H→Wr b H u s→d+szE x<1000000→s.words.length+5*sizE x<1000002→
 (∀u' H',Wk b H u H' u'→Wr b H' u' (wE x d s)→Q (.tup []) H')→WpF prog tb gl 206 [.ptr b 0,.agg c,.int .i64 (d:Int)] H Q
theorem zjh {k d:Nat}(ih:ExprOK tb gl k) {x:Exp}{c:List AV}(hk:szE x<k) (hE:IsE A H c x) (hA:∀a,A a→Off b H u a) (hK:KeysIn H) (hW:Wr b H u s) (hd:d+1+szE x<1000000) (hl:s.words.length+5*sizE x<1000000)
  (hQ:∀u' H',Wk b H u H' u'→Wr b H' u' (wOp x d s)→Q (.tup []) H'):WpF prog tb gl 251 [.ptr b 0,.agg c,.int .i64 (d:Int)] H Q:=by
 obtain ⟨v,hc,_⟩:=hE.out;have hc4:c.length=4:=by rw [hc];rfl
 have hsz:1≤sizE x:=by rw [zjm];omega
 refine fa func251 b251_eq v251_eq r251_eq (.inr (by simp)) ?_;refine zac ?_;refine zaa (zcy rfl fun H1 hk1 hr1=>?_);have hW1:=hW.keep0 hk1;obtain ⟨bx,hbx⟩:∃b,b=H.nx:=⟨_,rfl⟩
 have hoff:Off b H1 u bx:=by
  have:=hr1.1;rw [hbx];exact hW.fresh this
 rw [←hbx] at hr1 ⊢;have hr1:IsRow H1 bx c false false:=hr1;have hr1':IsRow H1 bx [.int .i64 x.kind,S x.name,.int .i64 x.num,v] false false:=hc▸hr1;have hE1:=hE.keep hk1;have hA1:∀a,A a→Off b H1 u a:=fun a ha=>(Wk.of hk1).off (hA a ha);refine zad rfl ?_;refine zab (zaj (zac ?_));unfold wOp at hQ;by_cases e6:x.kind=6
 ·rw [if_pos e6] at hQ;(repeat ((refine zaa ?_;first|refine zae FpF.h (by decide) rfl ?_|refine zah PlF.h rfl hr1' rfl ?_|refine zax rfl rfl (by omega) ?_)));refine zab (zai rfl (zac ?_));refine zad rfl ?_;refine zaa (zap (n:=1) ElF.h (by decide) rfl rfl fun H2 hk2 hr2=>?_);refine zaa (zaf rfl rfl rfl (zce (ws:=[[40]]) (hW1.keep0 hk2) (IsRow.sl (es:=1) (n:=1) hr2 rfl (Jz 1)) (by simp only [Qc];omega) fun u3 H3 k3 W3=>?_));have kk3:Wk b H1 u H3 u3:=(Wk.of hk2).trans k3;refine zab (zac ?_);refine zad rfl ?_;refine zaa (zat (k:=4) PlF.h hc4 (by decide) rfl (kk3.row hoff hr1).pts ?_);refine zad rfl ?_;refine zaa (zaz (c:=((d+1:Nat):Int)) rfl rfl Ju ?_);refine zaa (zaf rfl rfl rfl (ih A x c (d+1) b H3 u3 _ _ hk (kk3.exp hA1 hE1) (fun a ha=>kk3.off (hA1 a ha)) (hK.keep (hk1.trans0 hk2) |>.keep k3.keep) W3 (by omega) (by rw [zaw];simp only [Qc];omega) fun u4 H4 k4 W4=>?_));refine zab (zac ?_);refine zad rfl ?_;refine zaa (zap (n:=1) ElF.h (by decide) rfl rfl fun H5 hk5 hr5=>?_);have hlen:=zhk (szE x+1) x (by omega) (d+1) (s.put [[40]]);rw [zaw] at hlen;simp only [Qc] at hlen;refine zaa (zaf rfl rfl rfl (zce (ws:=[[41]]) (W4.keep0 hk5) (IsRow.sl (es:=1) (n:=1) hr5 rfl (Jz 1)) (by simp only [Qc];omega) fun u6 H6 k6 W6=>?_));refine zab (zao ⟨_,rfl,hQ u6 H6 ?_ W6⟩);exact (Wk.of hk1).trans (kk3.trans (k4.trans ((Wk.of hk5).trans k6)))
 ·rw [if_neg e6] at hQ;(repeat ((refine zaa ?_;first|refine zae FpF.h (by decide) rfl ?_|refine zah PlF.h rfl hr1' rfl ?_|refine za2 rfl rfl (by omega) ?_)));refine zab (zag rfl (zam (za1 ?_)));refine zad rfl ?_;refine zaa (zat (k:=4) PlF.h hc4 (by decide) rfl hr1.pts ?_);refine zad rfl ?_;refine zaa (zaf rfl rfl rfl (ih A x c d b H1 u _ _ hk hE1 hA1 (hK.keep hk1) hW1 (by omega) (by omega) fun u4 H4 k4 W4=>?_));exact zab ⟨_,rfl,hQ u4 H4 ((Wk.of hk1).trans k4) W4⟩
theorem zgb:∀k,ExprOK tb gl k
 |0=>fun _ _ _ _ _ _ _ _ _ h=>by omega
 |k+1=>by
  intro A x c d b H u s Q hk hE hA hK hW hd hl hQ;have ih:ExprOK tb gl k:=zgb k;have hrB:rB=140737488351232:=rfl;obtain ⟨v,hc,hkd,hnu,hnl,hll,hL⟩:=hE.out;have hc4:c.length=4:=by rw [hc];rfl
  have hsz:1≤sizE x:=by rw [zjm];omega
  refine fa func206 b206_eq v206_eq r206_eq (.inr (by simp)) ?_;refine zac ?_;refine zaa (zcy rfl fun H1 hk1 hr1=>?_);have hW1:=hW.keep0 hk1;obtain ⟨bx,hbx⟩:∃b,b=H.nx:=⟨_,rfl⟩
  have hoff:Off b H1 u bx:=by
   have:=hr1.1;rw [hbx];exact hW.fresh this
  rw [←hbx] at hr1 ⊢;have hr1:IsRow H1 bx c false false:=hr1;have hE1:=hE.keep hk1;have hA1:∀a,A a→Off b H1 u a:=fun a ha=>(Wk.of hk1).off (hA a ha);refine zab (zac ?_)
  -- how deep
  refine zad rfl ?_;(repeat ((refine zaa ?_;first|refine zar rfl ?_|refine zae FpF.h (by decide) rfl ?_|refine zah PlF.h rfl hW1.row rfl ?_);refine zad rfl ?_));refine zaa (zq0 (m:=((max s.most d:Nat):Int)) rfl rfl rfl rfl (by omega) ?_);refine zad rfl ?_;(repeat ((refine zaa ?_;first|refine zar rfl ?_|refine zae FpF.h (by decide) rfl ?_);refine zad rfl ?_));refine zaa (zbu SzF.h rfl rfl rfl hW1.row (by simp) fun H2 hk2 hn2 hr2=>?_);have k2:Wk b H1 u H2 u:=⟨hk2.wide fun c hc=>Or.inl hc,fun c hc=>.inl hc⟩
  have W2:Wr b H2 u (s.deep d):=⟨hr2,hW1.own.keep hk2 fun c hc h=>hW1.ne (h▸hc),hW1.ne⟩
  refine zab (zac ?_);refine zad rfl ?_;refine zaa (zat (k:=4) PlF.h hc4 (by decide) rfl (k2.row hoff hr1).pts ?_);refine zaa (zaf rfl rfl rfl (plain_ok (k2.exp hA1 hE1) fun H3 hk3=>?_));refine zaa (zaf rfl rfl rfl (zhw (W2.keep0 hk3) fun H4 k4 W4=>?_));have kk:Wk b H u H4 u:=(Wk.of hk1).trans (k2.trans ((Wk.of hk3).trans k4));have kk1:Wk b H1 u H4 u:=k2.trans ((Wk.of hk3).trans k4);obtain ⟨s1,hs1⟩:∃s1,s1=(s.deep d).need (plainE x):=⟨_,rfl⟩
  rw [←hs1] at W4;have hl1:s1.words.length=s.words.length:=by rw [hs1];rfl
  have hoff4:=kk1.off hoff;have hr4:IsRow H4 bx [.int .i64 x.kind,S x.name,.int .i64 x.num,v] false false:=hc▸kk1.row hoff hr1;have hE4:=kk.exp hA hE;have hA4:∀a,A a→Off b H4 u a:=fun a ha=>kk.off (hA a ha);have hK4:=hK.keep kk.keep;refine zab (zaj (zac ?_));rw [wE_at x d s s1 hs1] at hQ;have hW4r:=W4.row;cases hbad:s1.bad with
  |true=>
   rw [if_pos hbad] at hQ;rw [hbad] at hW4r;refine zad rfl ?_;(repeat ((refine zaa ?_;first|refine zar rfl ?_|refine zae FpF.h (by decide) rfl ?_|refine zah PlF.h rfl hW4r rfl ?_);refine zad rfl ?_));exact zab (zai rfl (zao ⟨_,rfl,hQ u H4 kk W4⟩))
  |false=>
  rw [if_neg (by rw [hbad];simp)] at hQ;rw [hbad] at hW4r;refine zad rfl ?_;(repeat ((refine zaa ?_;first|refine zar rfl ?_|refine zae FpF.h (by decide) rfl ?_|refine zah PlF.h rfl hW4r rfl ?_);refine zad rfl ?_));refine zab (zag rfl (zam (zac ?_)));have hform:formE x=true:=by
   have h:(s.bad || !plainE x)=false:=by rw [←hbad,hs1];rfl
   simp only [plainE,Bool.or_eq_false_iff,Bool.not_eq_false',J8] at h;exact h.2.2
  unfold formE at hform;refine zad rfl ?_;(repeat ((refine zaa ?_;first|refine zae FpF.h (by decide) rfl ?_|refine zah PlF.h rfl hr4 rfl ?_);refine zad rfl ?_));refine zab (zau (zac ?_));have put1:∀(t:List UInt8) (l':Fm) (s2:WS) (u2:AV) (H2:Heap),Wr b H2 u2 s2→s2.words.length+1<1000000→True:=fun _ _ _ _ _ _ _=>trivial;clear put1;by_cases e1:x.kind=1
  ·rw [if_pos e1] at hQ;(repeat ((refine zaa ?_;first|refine zak rfl ?_|refine zax rfl rfl (by omega) ?_)));refine zab (zai rfl (za1 ?_));refine zad rfl ?_;(repeat ((refine zaa ?_;first|refine zae FpF.h (by decide) rfl ?_|refine zah PlF.h rfl hr4 rfl ?_);refine zad rfl ?_));refine zaa (zaf rfl rfl rfl (zva x.num hnu.1 hnu.2 H4 fun H5 hk5=>?_));refine zaa (zap (n:=1) ElF.h (by decide) rfl rfl fun H6 hk6 hr6=>?_);refine zaa (zaf rfl rfl rfl (zce (ws:=[textZ x.num]) ((W4.keep0 hk5).keep0 hk6) (IsRow.sl (es:=1) (n:=1) hr6 rfl (Jz 1)) (by simp only [Qc];omega) fun u7 H7 k7 W7=>?_));exact zab ⟨_,rfl,hQ u7 H7 (kk.trans ((Wk.of (hk5.trans0 hk6)).trans k7)) W7⟩
  rw [if_neg e1] at hQ hform;(repeat ((refine zaa ?_;first|refine zak rfl ?_|refine za2 rfl rfl (by omega) ?_)));refine zab (zag rfl (zac ?_));by_cases e2:x.kind=2
  ·rw [if_pos e2] at hQ;(repeat ((refine zaa ?_;first|refine zak rfl ?_|refine zax rfl rfl (by omega) ?_)));refine zab (zai rfl (zac ?_));by_cases e3:x.num=1
   ·rw [if_pos e3] at hQ;(repeat ((refine zaa ?_;first|refine zae FpF.h (by decide) rfl ?_|refine zah PlF.h rfl hr4 rfl ?_|refine zax rfl rfl (by omega) ?_)));refine zab (zai rfl (za1 ?_));refine zad rfl ?_;refine zaa (zap (n:=1) ElF.h (by decide) rfl rfl fun H6 hk6 hr6=>?_);refine zaa (zaf rfl rfl rfl (zce (ws:=[[116,114,117,101]]) (W4.keep0 hk6) (IsRow.sl (es:=1) (n:=1) hr6 rfl (Jz 1)) (by simp only [Qc];omega) fun u7 H7 k7 W7=>?_));exact zab ⟨_,rfl,hQ u7 H7 (kk.trans ((Wk.of hk6).trans k7)) W7⟩
   ·rw [if_neg e3] at hQ;(repeat ((refine zaa ?_;first|refine zae FpF.h (by decide) rfl ?_|refine zah PlF.h rfl hr4 rfl ?_|refine za2 rfl rfl (by omega) ?_)));refine zab (zag rfl (za1 ?_));refine zad rfl ?_;refine zaa (zap (n:=1) ElF.h (by decide) rfl rfl fun H6 hk6 hr6=>?_);refine zaa (zaf rfl rfl rfl (zce (ws:=[[102,97,108,115,101]]) (W4.keep0 hk6) (IsRow.sl (es:=1) (n:=1) hr6 rfl (Jz 1)) (by simp only [Qc];omega) fun u7 H7 k7 W7=>?_));exact zab ⟨_,rfl,hQ u7 H7 (kk.trans ((Wk.of hk6).trans k7)) W7⟩
  rw [if_neg e2] at hQ hform;(repeat ((refine zaa ?_;first|refine zak rfl ?_|refine za2 rfl rfl (by omega) ?_)));refine zab (zag rfl (zaj (zac ?_)));have hnm:x.name.length<9223372036854775808:=by omega
  by_cases e3:x.kind=3
  ·rw [if_pos e3] at hQ;(repeat ((refine zaa ?_;first|refine zak rfl ?_|refine zax rfl rfl (by omega) ?_)));refine zab (zai rfl (zam (zai rfl (zac ?_))));refine zad rfl ?_;(repeat ((refine zaa ?_;first|refine zae FpF.h (by decide) rfl ?_|refine zah PlF.h rfl hr4 rfl ?_);refine zad rfl ?_));refine zaa (zaf rfl rfl rfl (ze7 (n:=x.name) W4 hK4 hnm (by omega) fun u5 H5 k5 W5=>?_));have hr5:=k5.row hoff4 hr4;refine zab (zac ?_);(repeat ((refine zaa ?_;first|refine zae FpF.h (by decide) rfl ?_|refine zah PlF.h rfl hr5 rfl ?_|refine za2 rfl rfl (by omega) ?_)));exact zab (zag rfl (zam ⟨_,rfl,hQ u5 H5 (kk.trans k5) W5⟩))
  rw [if_neg e3] at hQ hform;by_cases e4:x.kind=4
  ·rw [if_pos e4] at hQ hform;obtain ⟨a,hxa⟩:∃a,x.l=[a]:=List.length_eq_one_iff.1 (of_decide_eq_true hform);simp only [hxa] at hQ;have hsa:szE a<k∧sizE a+1≤sizE x∧szE a+2≤szE x:=by
    have h1:szE x=szEs x.l+1:=by cases x;simp only [szE];rfl
    have h2:=zjm x;rw [hxa] at h1 h2;simp only [szEs,sizEs] at h1 h2;omega
   (repeat ((refine zaa ?_;first|refine zak rfl ?_|refine za2 rfl rfl (by omega) ?_)));refine zab (zag rfl (za1 ?_));(repeat ((refine zaa ?_;first|refine zak rfl ?_|refine zax rfl rfl (by omega) ?_)));refine zab (zai rfl (zac ?_));refine zad rfl ?_;(repeat ((refine zaa ?_;first|refine zae FpF.h (by decide) rfl ?_|refine zah PlF.h rfl hr4 rfl ?_);refine zad rfl ?_));refine zaa (zaf rfl rfl rfl (ze7 (n:=x.name) W4 hK4 hnm (by omega) fun u5 H5 k5 W5=>?_));have hr5:=k5.row hoff4 hr4;refine zab (zac ?_);(repeat ((refine zaa ?_;first|refine zae FpF.h (by decide) rfl ?_|refine zah PlF.h rfl hr5 rfl ?_|refine zax rfl rfl (by omega) ?_)));refine zab (zai rfl (zac ?_));refine zad rfl ?_;refine zaa (zap (n:=1) ElF.h (by decide) rfl rfl fun H6 hk6 hr6=>?_);refine zaa (zaf rfl rfl rfl (zce (ws:=[[91]]) (W5.keep0 hk6) (IsRow.sl (es:=1) (n:=1) hr6 rfl (Jz 1)) (by rw [zbi];simp only [Qc];omega) fun u7 H7 k7 W7=>?_));have kk7:Wk b H u H7 u7:=kk.trans (k5.trans ((Wk.of hk6).trans k7));have kk47:Wk b H4 u H7 u7:=k5.trans ((Wk.of hk6).trans k7);have hr7:=kk47.row hoff4 hr4;obtain ⟨els,hsl,hel⟩:=zbe (kk7.exps hA hL);obtain ⟨ca,hca,hEa⟩:=hel 0 a (by rw [hxa];rfl);have hca4:ca.length=4:=by obtain ⟨_,h,_⟩:=hEa.out;rw [h];rfl
   refine zab (zac ?_);refine zad rfl ?_;(repeat ((refine zaa ?_;first|refine zae FpF.h (by decide) rfl ?_|refine zah PlF.h rfl hr7 rfl ?_);refine zad rfl ?_));refine zaa (za9 (j:=0) UnF.h SzF.h rfl hsl rfl rfl (by rw [hxa];simp) fun q0 hq0=>?_);rw [hca] at hq0;refine zaa (zat (k:=4) PlF.h hca4 (by decide) rfl hq0 ?_);refine zad rfl ?_;refine zaa (zaz (c:=((d+1:Nat):Int)) rfl rfl Ju ?_);refine zaa (zaf rfl rfl rfl (ih A a ca (d+1) b H7 u7 _ _ hsa.1 hEa (fun a ha=>kk7.off (hA a ha)) (hK.keep kk7.keep) W7 (by omega) (by rw [zaw,zbi];simp only [Qc];omega) fun u8 H8 k8 W8=>?_));have hlen:=zhk (szE a+1) a (by omega) (d+1) ((s1.name x.name).put [[91]]);rw [zaw,zbi] at hlen;simp only [Qc] at hlen;refine zab (za1 ?_);refine zad rfl ?_;refine zaa (zap (n:=1) ElF.h (by decide) rfl rfl fun H9 hk9 hr9=>?_);refine zaa (zaf rfl rfl rfl (zce (ws:=[[93]]) (W8.keep0 hk9) (IsRow.sl (es:=1) (n:=1) hr9 rfl (Jz 1)) (by simp only [Qc];omega) fun u10 H10 k10 W10=>?_));exact zab ⟨_,rfl,hQ u10 H10 (kk7.trans (k8.trans ((Wk.of hk9).trans k10))) W10⟩
  rw [if_neg e4] at hQ hform;(repeat ((refine zaa ?_;first|refine zak rfl ?_|refine za2 rfl rfl (by omega) ?_)));refine zab (zag rfl (za1 ?_));(repeat ((refine zaa ?_;first|refine zak rfl ?_|refine za2 rfl rfl (by omega) ?_)));refine zab (zag rfl (zac ?_));by_cases e5:x.kind=5
  ·rw [if_pos e5] at hQ hform;obtain ⟨a,hxa⟩:∃a,x.l=[a]:=List.length_eq_one_iff.1 (by simp only [J8,Qj] at hform;exact hform.2);simp only [hxa] at hQ;have hsa:szE a<k∧sizE a+1≤sizE x∧szE a+2≤szE x:=by
    have h1:szE x=szEs x.l+1:=by cases x;simp only [szE];rfl
    have h2:=zjm x;rw [hxa] at h1 h2;simp only [szEs,sizEs] at h1 h2;omega
   (repeat ((refine zaa ?_;first|refine zak rfl ?_|refine zax rfl rfl (by omega) ?_)));refine zab (zai rfl (zac ?_));refine zad rfl ?_;(repeat ((refine zaa ?_;first|refine zae FpF.h (by decide) rfl ?_|refine zah PlF.h rfl hr4 rfl ?_);refine zad rfl ?_));refine zaa (zap (n:=1) ElF.h (by decide) rfl rfl fun H6 hk6 hr6=>?_);refine zaa (zaf rfl rfl rfl (zce (ws:=[x.name]) (W4.keep0 hk6) (IsRow.sl (es:=1) (n:=1) hr6 rfl (Jz 1)) (by simp only [Qc];omega) fun u7 H7 k7 W7=>?_));have kk47:Wk b H4 u H7 u7:=(Wk.of hk6).trans k7;refine zab (zac ?_);refine zad rfl ?_;(repeat ((refine zaa ?_;first|refine zar rfl ?_|refine zae FpF.h (by decide) rfl ?_|refine zah PlF.h rfl W7.row rfl ?_);refine zad rfl ?_));refine zaa (zaz (c:=((d+1:Nat):Int)) rfl rfl Ju ?_);refine zaa (zq0 (m:=((max (s1.put [x.name]).most (d+1):Nat):Int)) rfl rfl rfl rfl (by omega) ?_);refine zad rfl ?_;(repeat ((refine zaa ?_;first|refine zar rfl ?_|refine zae FpF.h (by decide) rfl ?_);refine zad rfl ?_));refine zaa (zbu SzF.h rfl rfl rfl W7.row (by simp) fun H8 hk8 hn8 hr8=>?_);have k8:Wk b H7 u7 H8 u7:=⟨hk8.wide fun c hc=>Or.inl hc,fun c hc=>.inl hc⟩
   have W8:Wr b H8 u7 ((s1.put [x.name]).deep (d+1)):=⟨hr8,W7.own.keep hk8 fun c hc h=>W7.ne (h▸hc),W7.ne⟩
   have kk48:Wk b H4 u H8 u7:=kk47.trans k8;have kk8:Wk b H u H8 u7:=kk.trans kk48;have hr8':=kk48.row hoff4 hr4;obtain ⟨els,hsl,hel⟩:=zbe (kk8.exps hA hL);obtain ⟨ca,hca,hEa⟩:=hel 0 a (by rw [hxa];rfl);have hca4:ca.length=4:=by obtain ⟨_,h,_⟩:=hEa.out;rw [h];rfl
   refine zab (za1 ?_);refine zad rfl ?_;(repeat ((refine zaa ?_;first|refine zae FpF.h (by decide) rfl ?_|refine zah PlF.h rfl hr8' rfl ?_);refine zad rfl ?_));refine zaa (za9 (j:=0) UnF.h SzF.h rfl hsl rfl rfl (by rw [hxa];simp) fun q0 hq0=>?_);rw [hca] at hq0;refine zaa (zat (k:=4) PlF.h hca4 (by decide) rfl hq0 ?_);refine zad rfl ?_;refine zaa (zaz (c:=((d+1:Nat):Int)) rfl rfl Ju ?_);refine zaa (zaf rfl rfl rfl (zjh (k:=k) (d:=d+1) ih hsa.1 hEa (fun a ha=>kk8.off (hA a ha)) (hK.keep kk8.keep) W8 (by omega) (by rw [zcj,zaw];simp only [Qc];omega) fun u9 H9 k9 W9=>?_));exact zab ⟨_,rfl,hQ u9 H9 (kk8.trans k9) W9⟩
  rw [if_neg e5] at hQ hform;(repeat ((refine zaa ?_;first|refine zak rfl ?_|refine za2 rfl rfl (by omega) ?_)));refine zab (zag rfl (zac ?_));by_cases e6:x.kind=6
  ·rw [if_pos e6] at hQ hform;obtain ⟨a,c2,hxa⟩:∃a c2,x.l=[a,c2]:=len2 (by simp only [J8,Qj] at hform;exact hform.2);simp only [hxa] at hQ;have hsa:szE a<k∧szE c2<k∧sizE a+sizE c2+1≤sizE x∧szE a+2≤szE x∧szE c2+2≤szE x:=by
    have h1:szE x=szEs x.l+1:=by cases x;simp only [szE];rfl
    have h2:=zjm x;rw [hxa] at h1 h2;simp only [szEs,sizEs] at h1 h2;omega
   (repeat ((refine zaa ?_;first|refine zak rfl ?_|refine zax rfl rfl (by omega) ?_)));refine zab (zai rfl (zac ?_));obtain ⟨els,hsl,hel⟩:=zbe (kk.exps hA hL);obtain ⟨ca,hca,hEa⟩:=hel 0 a (by rw [hxa];rfl);have hca4:ca.length=4:=by obtain ⟨_,h,_⟩:=hEa.out;rw [h];rfl
   refine zad rfl ?_;(repeat ((refine zaa ?_;first|refine zae FpF.h (by decide) rfl ?_|refine zah PlF.h rfl hr4 rfl ?_);refine zad rfl ?_));refine zaa (za9 (j:=0) UnF.h SzF.h rfl hsl rfl rfl (by rw [hxa];simp) fun q0 hq0=>?_);rw [hca] at hq0;refine zaa (zat (k:=4) PlF.h hca4 (by decide) rfl hq0 ?_);refine zad rfl ?_;refine zaa (zaf rfl rfl rfl (zjh (k:=k) (d:=d) ih hsa.1 hEa hA4 hK4 W4 (by omega) (by omega) fun u5 H5 k5 W5=>?_));have hlen:=zoi (zhk (szE a+1) a (by omega)) d s1;have hr5:=k5.row hoff4 hr4;refine zab (zac ?_);refine zad rfl ?_;(repeat ((refine zaa ?_;first|refine zae FpF.h (by decide) rfl ?_|refine zah PlF.h rfl hr5 rfl ?_);refine zad rfl ?_));refine zaa (zap (n:=1) ElF.h (by decide) rfl rfl fun H6 hk6 hr6=>?_);refine zaa (zaf rfl rfl rfl (zce (ws:=[x.name]) (W5.keep0 hk6) (IsRow.sl (es:=1) (n:=1) hr6 rfl (Jz 1)) (by simp only [Qc];omega) fun u7 H7 k7 W7=>?_));have kk47:Wk b H4 u H7 u7:=k5.trans ((Wk.of hk6).trans k7);have kk7:Wk b H u H7 u7:=kk.trans kk47;have hr7:=kk47.row hoff4 hr4;obtain ⟨els2,hsl2,hel2⟩:=zbe (kk7.exps hA hL);obtain ⟨cc,hcc,hEc⟩:=hel2 1 c2 (by rw [hxa];rfl);have hcc4:cc.length=4:=by obtain ⟨_,h,_⟩:=hEc.out;rw [h];rfl
   refine zab (za1 ?_);refine zad rfl ?_;(repeat ((refine zaa ?_;first|refine zae FpF.h (by decide) rfl ?_|refine zah PlF.h rfl hr7 rfl ?_);refine zad rfl ?_));refine zaa (za9 (j:=1) UnF.h SzF.h rfl hsl2 rfl rfl (by rw [hxa];simp) fun q0 hq0=>?_);rw [hcc] at hq0;refine zaa (zat (k:=4) PlF.h hcc4 (by decide) rfl hq0 ?_);refine zad rfl ?_;refine zaa (zaf rfl rfl rfl (zjh (k:=k) (d:=d) ih hsa.2.1 hEc (fun a ha=>kk7.off (hA a ha)) (hK.keep kk7.keep) W7 (by omega) (by rw [zaw];simp only [Qc];omega) fun u9 H9 k9 W9=>?_));exact zab ⟨_,rfl,hQ u9 H9 (kk7.trans k9) W9⟩
  rw [if_neg e6] at hform;cases hform
end
instance ize_165:ZeF prog 165 (.agg [.int .i64 0,.str 0 0,.int .i64 0,.nils]):=⟨by kernel_rfl⟩
instance ifp_148_3:FpF prog 148 3 ⟨3,false,1⟩:=⟨by kernel_rfl⟩
def v208k0h1:CV:=Jt [Jd 18 6,Jc 19 (.binOp .gtr 3 (Ja 18) (Jb 0) 3)] (.cond (Ja 19) (.reg [Jd 20 0,Jc 21 (.buildSlice 40 1 #[(0,(.const (.string ⟨⟨[44]⟩⟩)))]),Jo 22 95 20 21 139 40]) (.skip))
def v208k0t1:CV:=.seq v208k0h1 (.reg [Jd 23 0,Jf 24 165 7,Jd 25 2,Jc 26 (.call ⟨.value (.func 206),#[(Ja 23),(Ja 24),(Ja 25)],#[139,165,3]⟩)])
def v208k0:CV:=Jt [Jd 15 13,Jk 16 146 11 13,Jf 17 165 16,Jc 7 (.alloc 165),Jh 6 15,.op none (.store 165 (Ja 7) (Ja 17))] v208k0t1
def v208l0t2:CV:=.seq (.block 1 v208k0) (.reg [Jc 27 (.binOp .add 3 (Ja 13) (Jb 1) 3),Jd 13 27])
def v208l0t1:CV:=.seq (.cond (Ja 14) (.skip) (.exit 0)) v208l0t2
def v208l0:CV:=Jt [Jc 14 (.binOp .lss 3 (Ja 13) (Ja 12) 3)] v208l0t1
def v208h1:CV:=Jt [Jd 11 1,Jj 12 11 146,Je 13 0] (.block 0 (.loop v208l0))
def v208t1:CV:=.seq v208h1 (.reg [Jd 28 0,Jc 29 (.buildSlice 40 1 #[(0,(.const (.string ⟨⟨[41]⟩⟩)))]),Jo 30 95 28 29 139 40])
def v208:CV:=Jt [Jd 8 0,Jc 9 (.buildSlice 40 1 #[(0,(.const (.string ⟨⟨[40]⟩⟩)))]),Jo 10 95 8 9 139 40] v208t1
noncomputable def b208:Code:=f208.body.getD .skip
theorem b208_eq:f208.body=some b208:=by kernel_rfl
theorem v208_eq:viewC prog b208=some v208:=by kernel_rfl
theorem r208_eq:f208.results.toList=[]:=by kernel_rfl
def v97t1:CV:=Jt [Jd 12 1,Jc 13 (.binOp .eql 3 (Ja 12) (Jb 1) 3)] (.cond (Ja 13) (.reg [Jd 14 0,Jc 15 (.buildSlice 40 1 #[(0,(.const (.string ⟨⟨[105,110,116]⟩⟩)))]),Jo 16 95 14 15 139 40]) (.reg [Jd 17 0,Jc 18 (.buildSlice 40 1 #[(0,(.const (.string ⟨⟨[98,111,111,108]⟩⟩)))]),Jo 19 95 17 18 139 40]))
def v97:CV:=Jt [Jd 4 0,Jd 5 1,Jc 6 (.binOp .eql 3 (Ja 5) (Jb 1) 3),Jd 7 6,Jp 7 false 8 1,Js 7 false 9 (.binOp .eql 3 (Ja 8) (Jb 2) 3),Jc 10 (.pick (Ja 7) (.const (.bool true)) (Ja 9)),Jo 11 151 4 10 139 4] v97t1
noncomputable def b97:Code:=f97.body.getD .skip
theorem b97_eq:f97.body=some b97:=by kernel_rfl
theorem v97_eq:viewC prog b97=some v97:=by kernel_rfl
theorem r97_eq:f97.results.toList=[]:=by kernel_rfl
def v207h2:CV:=Jt [Jg 7 148 3 3,Jf 8 2 7,Jc 9 (.binOp .eql 2 (Ja 8) (Jb (-1)) 2)] (.cond (Ja 9) (.reg [Jd 10 0,Jc 11 (.buildSlice 40 1 #[(0,(.const (.string ⟨⟨[98,111,111,108]⟩⟩)))]),Jo 12 95 10 11 139 40]) (.skip))
def v207t4:CV:=Jt [Jg 17 148 3 3,Jf 18 2 17,Jc 19 (.binOp .gtr 2 (Ja 18) (Jb 0) 2)] (.cond (Ja 19) (.reg [Jd 20 0,Jg 21 148 3 3,Jf 22 2 21,Jn 23 26 22 2,Jc 24 (.buildSlice 40 3 #[(0,(.const (.string ⟨⟨[91]⟩⟩))),(1,(Ja 23)),(2,(.const (.string ⟨⟨[93]⟩⟩)))]),Jo 25 95 20 24 139 40]) (.skip))
def v207t3:CV:=Jt [Jd 13 0,Jg 14 148 3 1,Jf 15 9 14,Jo 16 96 13 15 139 9] v207t4
def v207t2:CV:=.seq v207h2 v207t3
def v207t1:CV:=Jt [Jd 4 0,Jc 5 (.buildSlice 40 1 #[(0,(.const (.string ⟨⟨[118,97,114]⟩⟩)))]),Jo 6 95 4 5 139 40] v207t2
def v207:CV:=Jt [Jc 3 (.box 148 (Ja 1))] v207t1
noncomputable def b207:Code:=f207.body.getD .skip
theorem b207_eq:f207.body=some b207:=by kernel_rfl
theorem v207_eq:viewC prog b207=some v207:=by kernel_rfl
theorem r207_eq:f207.results.toList=[]:=by kernel_rfl
def v205c0:CV:=Jt [Jc 2 (.assign (.const (.string ⟨⟨[105,102]⟩⟩)))] (.ret)
def v205c2:CV:=Jt [Jc 2 (.assign (.const (.string ⟨⟨[119,104,105,108,101]⟩⟩)))] (.ret)
def v205c4:CV:=Jt [Jc 2 (.assign (.const (.string ⟨⟨[114,101,116,117,114,110]⟩⟩)))] (.ret)
def v205c6:CV:=Jt [Jc 2 (.assign (.const (.string ⟨⟨[112,114,105,110,116]⟩⟩)))] (.ret)
def v205c5:CV:=Jt [Jc 11 (.binOp .eql 3 (Ja 3) (Jb 8) 3),Jh 10 11] (.cond (Ja 10) v205c6 (.skip))
def v205c3:CV:=Jt [Jc 9 (.binOp .eql 3 (Ja 3) (Jb 7) 3),Jh 8 9] (.cond (Ja 8) v205c4 v205c5)
def v205c1:CV:=Jt [Jc 7 (.binOp .eql 3 (Ja 3) (Jb 5) 3),Jh 6 7] (.cond (Ja 6) v205c2 v205c3)
def v205k0:CV:=Jt [Jc 5 (.binOp .eql 3 (Ja 3) (Jb 4) 3),Jh 4 5] (.cond (Ja 4) v205c0 v205c1)
def v205h1:CV:=Jt [Jd 3 0] (.block 0 v205k0)
def v205t2:CV:=Jt [Jc 2 (.assign (.const (.string ⟨⟨[97,115,115,101,114,116]⟩⟩)))] (.ret)
def v205t1:CV:=.seq v205h1 v205t2
def v205:CV:=Jt [Jc 2 (.assign (.const (.string ⟨⟨[]⟩⟩)))] v205t1
noncomputable def b205:Code:=f205.body.getD .skip
theorem b205_eq:f205.body=some b205:=by kernel_rfl
theorem v205_eq:viewC prog b205=some v205:=by kernel_rfl
theorem r205_eq:f205.results.toList=[.tmp 2]:=by kernel_rfl
def wArg (d:Nat) (s:WS) (x:Exp) (i:Nat):WS:=wE x d (if 0<i then s.put [[44]] else s)
def wArgs (d:Nat):List Exp→Nat→WS→WS
 |[],_,s=>s
 |x::l,i,s=>wArgs d l (i+1) (wArg d s x i)
def wList (l:List Exp) (d:Nat) (s:WS):WS:=(wArgs d l 0 (s.put [[40]])).put [[41]]
theorem zmz (d:Nat) (x:Exp):∀(l:List Exp) (i:Nat) (s:WS),wArgs d (l++[x]) i s=wArg d (wArgs d l i s) x (i+l.length)
 |[],_,_=>rfl
 |y::l,i,s=>by
  simp only [List.cons_append,wArgs,zmz d x l,Jy];rw [show i+1+l.length=i+(l.length+1) by omega]
theorem wArg_len (d:Nat) (s:WS) (x:Exp) (i:Nat):(wArg d s x i).words.length+1≤s.words.length+5*sizE x:=by
 unfold wArg;split
 ·have:=zhk (szE x+1) x (by omega) d (s.put [[44]]);rw [zaw] at this;simp only [Qc] at this;omega
 ·have:=zhk (szE x+1) x (by omega) d s;omega
theorem zl1 (d:Nat):∀(l:List Exp) (i:Nat) (s:WS),(wArgs d l i s).words.length≤s.words.length+5*sizEs l
 |[],_,_=>by simp [wArgs,sizEs]
 |x::l,i,s=>by
  have h1:=wArg_len d s x i;have h2:=zl1 d l (i+1) (wArg d s x i);simp only [wArgs,sizEs];omega
def wType (t:Int) (s:WS):WS:=(s.need (decide (t=1)||decide (t=2))).put [if t=1 then [105,110,116] else [98,111,111,108]]
def wordB (k:Int):List UInt8:=if k=4 then [105,102] else if k=5 then [119,104,105,108,101] else if k=7 then [114,101,116,117,114,110] else if k=8 then [112,114,105,110,116] else [97,115,115,101,114,116]
section
variable {tb:List FuncId}{gl:List (List AV)}{A:Nat→Prop}{H:Heap}{u v w:AV}{b:Nat}{s:WS}{Q:AV→Heap→Prop}
theorem zda {c:List AV}{e:Exp}(h:IsE A H c e):scalL c=true:=by
 obtain ⟨v,rfl,_,_,_,_,els,h,_⟩:=h.out;obtain ⟨_,⟨rfl|⟨a,rfl⟩,_⟩|⟨b,o,row,tl,ro,⟨rfl,_⟩|⟨c,rfl,_⟩,_⟩⟩:=h<;>rfl
theorem zzn (k:Int) (hQ:Q (S (wordB k)) H):WpF prog tb gl 205 [.int .i64 k] H Q:=by
 unfold wordB at hQ;refine fa func205 b205_eq v205_eq r205_eq (.inr (by simp)) ?_;refine zac ?_;refine zad rfl ?_;refine zab (zaj (zac ?_));refine zad rfl ?_;refine zab (zau (zac ?_));by_cases e1:k=4
 ·rw [if_pos e1] at hQ;(repeat ((refine zaa ?_;first|refine zak rfl ?_|refine zax rfl rfl (by omega) ?_)));refine zab (zai rfl (zac ?_));refine zad rfl ?_;exact zab (zao ⟨_,rfl,hQ⟩)
 rw [if_neg e1] at hQ;(repeat ((refine zaa ?_;first|refine zak rfl ?_|refine za2 rfl rfl (by omega) ?_)));refine zab (zag rfl (zac ?_));by_cases e2:k=5
 ·rw [if_pos e2] at hQ;(repeat ((refine zaa ?_;first|refine zak rfl ?_|refine zax rfl rfl (by omega) ?_)));refine zab (zai rfl (zac ?_));refine zad rfl ?_;exact zab (zao ⟨_,rfl,hQ⟩)
 rw [if_neg e2] at hQ;(repeat ((refine zaa ?_;first|refine zak rfl ?_|refine za2 rfl rfl (by omega) ?_)));refine zab (zag rfl (zac ?_));by_cases e3:k=7
 ·rw [if_pos e3] at hQ;(repeat ((refine zaa ?_;first|refine zak rfl ?_|refine zax rfl rfl (by omega) ?_)));refine zab (zai rfl (zac ?_));refine zad rfl ?_;exact zab (zao ⟨_,rfl,hQ⟩)
 rw [if_neg e3] at hQ;(repeat ((refine zaa ?_;first|refine zak rfl ?_|refine za2 rfl rfl (by omega) ?_)));refine zab (zag rfl (zac ?_));by_cases e4:k=8
 ·rw [if_pos e4] at hQ;(repeat ((refine zaa ?_;first|refine zak rfl ?_|refine zax rfl rfl (by omega) ?_)));refine zab (zai rfl (zac ?_));refine zad rfl ?_;exact zab (zao ⟨_,rfl,hQ⟩)
 rw [if_neg e4] at hQ;(repeat ((refine zaa ?_;first|refine zak rfl ?_|refine za2 rfl rfl (by omega) ?_)));refine zab (zag rfl (zam (zac ?_)));refine zad rfl ?_;exact zab (zao ⟨_,rfl,hQ⟩)
theorem zp4 {t:Int}(hW:Wr b H u s) (hl:s.words.length+1<1000000) (hQ:∀u' H',Wk b H u H' u'→Wr b H' u' (wType t s)→Q (.tup []) H'):WpF prog tb gl 97 [.ptr b 0,.int .i64 t] H Q:=by
 unfold wType at hQ;refine fa func97 b97_eq v97_eq r97_eq (.inr (by simp)) ?_;refine zac ?_;by_cases e1:t=1
 ·rw [if_pos e1,Qg e1,Bool.true_or] at hQ;(repeat (first|refine zbh rfl ?_|(refine zaa ?_;first|refine zal rfl ?_|refine zax rfl rfl (by omega) ?_|refine zaq rfl rfl rfl ?_)));refine zaa (zaf rfl rfl rfl (zhw (ok:=true) hW fun H1 k1 W1=>?_));refine zab (zac ?_);(repeat ((refine zaa ?_;first|refine zal rfl ?_|refine zax rfl rfl (by omega) ?_)));refine zab (zai rfl (za1 ?_));refine zad rfl ?_;refine zaa (zap (n:=1) ElF.h (by decide) rfl rfl fun H2 hk2 hr2=>?_);refine zaa (zaf rfl rfl rfl (zce (ws:=[[105,110,116]]) (W1.keep0 hk2) (IsRow.sl (es:=1) (n:=1) hr2 rfl (Jz 1)) hl fun u' H3 k3 W3=>?_));exact zab ⟨_,rfl,hQ u' H3 ((k1.trans (.of hk2)).trans k3) W3⟩
 ·rw [if_neg e1,Qf e1,Bool.false_or] at hQ;have fin:∀(ok:Bool),ok=decide (t=2)→WpF prog tb gl 151 [.ptr b 0,.bool ok] H fun v H'=>IA prog tb gl [] (stI (some 11) v [(1,.int .i64 t),(0,.ptr b 0)]) H' fun l' H'=>VA prog tb gl v97t1 l' H' (leftA [] Q):=by
   intro ok hok;refine zhw (ok:=ok) hW fun H1 k1 W1=>?_;rw [←hok] at hQ;refine zab (zac ?_);(repeat ((refine zaa ?_;first|refine zal rfl ?_|refine za2 rfl rfl (by omega) ?_)));refine zab (zag rfl (za1 ?_));refine zad rfl ?_;refine zaa (zap (n:=1) ElF.h (by decide) rfl rfl fun H2 hk2 hr2=>?_);refine zaa (zaf rfl rfl rfl (zce (ws:=[[98,111,111,108]]) (W1.keep0 hk2) (IsRow.sl (es:=1) (n:=1) hr2 rfl (Jz 1)) hl fun u' H3 k3 W3=>?_));exact zab ⟨_,rfl,hQ u' H3 ((k1.trans (.of hk2)).trans k3) W3⟩
  by_cases e2:t=2
  ·(repeat (((first|refine zaa ?_|refine zav rfl ?_);first|refine zal rfl ?_|refine za2 rfl rfl (by omega) ?_|refine zax rfl rfl (by omega) ?_|refine za0 rfl rfl ?_)));refine zaa (zaf rfl rfl rfl (zhw (ok:=true) hW fun H1 k1 W1=>?_));rw [Qg e2] at hQ;refine zab (zac ?_);(repeat ((refine zaa ?_;first|refine zal rfl ?_|refine za2 rfl rfl (by omega) ?_)));refine zab (zag rfl (za1 ?_));refine zad rfl ?_;refine zaa (zap (n:=1) ElF.h (by decide) rfl rfl fun H2 hk2 hr2=>?_);refine zaa (zaf rfl rfl rfl (zce (ws:=[[98,111,111,108]]) (W1.keep0 hk2) (IsRow.sl (es:=1) (n:=1) hr2 rfl (Jz 1)) hl fun u' H3 k3 W3=>?_));exact zab ⟨_,rfl,hQ u' H3 ((k1.trans (.of hk2)).trans k3) W3⟩
  ·(repeat (((first|refine zaa ?_|refine zav rfl ?_);first|refine zal rfl ?_|refine za2 rfl rfl (by omega) ?_|refine za0 rfl rfl ?_)));refine zaa (zaf rfl rfl rfl (zhw (ok:=false) hW fun H1 k1 W1=>?_));rw [Qf e2] at hQ;refine zab (zac ?_);(repeat ((refine zaa ?_;first|refine zal rfl ?_|refine za2 rfl rfl (by omega) ?_)));refine zab (zag rfl (za1 ?_));refine zad rfl ?_;refine zaa (zap (n:=1) ElF.h (by decide) rfl rfl fun H2 hk2 hr2=>?_);refine zaa (zaf rfl rfl rfl (zce (ws:=[[98,111,111,108]]) (W1.keep0 hk2) (IsRow.sl (es:=1) (n:=1) hr2 rfl (Jz 1)) hl fun u' H3 k3 W3=>?_));exact zab ⟨_,rfl,hQ u' H3 ((k1.trans (.of hk2)).trans k3) W3⟩
theorem list_ok {l:List Exp}{d:Nat}(hL:IsLs A (IsE A) 4 H v l) (hA:∀a,A a→Off b H u a) (hK:KeysIn H) (hW:Wr b H u s) (hd:d+szEs l<1000000) (hl:s.words.length+5*sizEs l+2<1000000) (hll:l.length≤rB)
  (hQ:∀u' H',Wk b H u H' u'→Wr b H' u' (wList l d s)→Q (.tup []) H'):WpF prog tb gl 208 [.ptr b 0,v,.int .i64 (d:Int)] H Q:=by
 have hrB:rB=140737488351232:=rfl;refine fa func208 b208_eq v208_eq r208_eq (.inr (by simp)) ?_;refine zac ?_;refine zad rfl ?_;refine zaa (zap (n:=1) ElF.h (by decide) rfl rfl fun H1 hk1 hr1=>?_);refine zaa (zaf rfl rfl rfl (zce (ws:=[[40]]) (hW.keep0 hk1) (IsRow.sl (es:=1) (n:=1) hr1 rfl (Jz 1)) (by simp only [Qc];omega) fun u2 H2 k2 W2=>?_));have kk2:Wk b H u H2 u2:=(Wk.of hk1).trans k2;obtain ⟨els,hsl,_⟩:=zbe (kk2.exps hA hL);refine zab (zaj (zac ?_));refine zad rfl ?_;refine zaa (za3 rfl rfl rfl UnF.h rfl hsl ?_);refine zad rfl ?_;refine zab (zau ?_);refine zbv (fun (i:Nat)=>[(0,.ptr b 0),(2,.int .i64 (d:Int)),(11,v),(12,.int .i64 (l.length:Int)),(13,.int .i64 (i:Int))]) (fun i H'=>i≤l.length∧∃u',Wk b H u H' u'∧Wr b H' u' (wArgs d (l.take i) 0 (s.put [[40]]))) (fun i=>l.length-i) ?_ 0 _ H2 ⟨rfl,rfl,rfl,rfl,rfl,trivial⟩ ⟨Nat.zero_le _,u2,kk2,W2⟩;rintro i H3 ⟨hle,u3,kk3,W3⟩;have hlen:=zl1 d (l.take i) 0 (s.put [[40]]);have htk:=zeq l i;rw [zaw] at hlen;simp only [Qc] at hlen;refine zac ?_;by_cases hi:i<l.length;rotate_left
 ·refine zaa (zck rfl rfl (Qf (by omega)) (zab (zaj (zag rfl (zbq (za1 ?_))))));rw [Qd (by omega)] at W3 hlen;refine zad rfl ?_;refine zaa (zap (n:=1) ElF.h (by decide) rfl rfl fun H4 hk4 hr4=>?_);refine zaa (zaf rfl rfl rfl (zce (ws:=[[41]]) (W3.keep0 hk4) (IsRow.sl (es:=1) (n:=1) hr4 rfl (Jz 1)) (by simp only [Qc];omega) fun u5 H5 k5 W5=>?_));exact zab ⟨_,rfl,hQ u5 H5 (kk3.trans ((Wk.of hk4).trans k5)) W5⟩
 obtain ⟨x,hx⟩:∃x,l[i]? = some x:=⟨_,Qa hi⟩
 refine zaa (zck rfl rfl (Qg (by omega)) (zab (zaj (zai rfl (zam (zaj (zau (zac ?_))))))));obtain ⟨els3,hsl3,hel3⟩:=zbe (kk3.exps hA hL);obtain ⟨cx,hcx,hEx⟩:=hel3 i x hx;have hcx4:cx.length=4:=by obtain ⟨_,h,_⟩:=hEx.out;rw [h];rfl
 have hsx:szE x<szEs l∧sizEs (l.take i)+sizE x≤sizEs l:=by
  refine ⟨zha (Qe hx),?_⟩;have:=zeq l (i+1);rw [zbs hx,zfi] at this;exact this
 refine zad rfl ?_;refine zaa (za9 UnF.h SzF.h rfl hsl3 rfl rfl hi fun q0 hq0=>?_);rw [hcx] at hq0;refine zaa (zat (k:=4) PlF.h hcx4 (by decide) rfl hq0 ?_);refine zaa (za8 ZeF.h fun H4 hk4 hr4=>?_);refine zad rfl ?_;obtain ⟨bx,hbx⟩:∃b,b=H3.nx:=⟨_,rfl⟩
 have hoff:Off b H4 u3 bx:=by
  have:=hr4.1;rw [hbx];exact W3.fresh this
 rw [←hbx] at hr4 ⊢;refine zaa (zan (k:=4) SzF.h hcx4 rfl rfl (zda hEx) hr4 hcx4 fun H5 hk5 hn5 hr5=>?_);have hbne:bx≠b:=hoff.2.1;have hbu:¬ownB u3 bx:=hoff.2.2;have hk35:Keep Non H3 H5:=(hk4.trans hk5 fun c hc=>.inr (by rw [hc,hbx];exact Jz _)).wide fun _ h=>h;have W5:=W3.keep0 hk35;have hoff5:Off b H5 u3 bx:=⟨by rw [hn5];exact hoff.1,hbne,hbu⟩
 have kk5:Wk b H u H5 u3:=kk3.trans (.of hk35);have hE5:=hEx.keep hk35;obtain ⟨s3,hs3⟩:∃s3,s3=wArgs d (l.take i) 0 (s.put [[40]]):=⟨_,rfl⟩
 rw [←hs3] at W5 hlen;have hA5:∀a,A a→Off b H5 u3 a:=fun a ha=>kk5.off (hA a ha);refine zab (zaj ?_);refine zj1 (fun l' H'=>∃u6,Wk b H5 u3 H' u6∧Wr b H' u6 (if 0<i then s3.put [[44]] else s3)∧Sb [(0,.ptr b 0),(2,.int .i64 (d:Int)),(7,.ptr bx 0),(11,v),(12,.int .i64 (l.length:Int)),(13,.int .i64 (i:Int))] l') ?_ ?_
 ·refine zac ?_;by_cases h0:0<i
  ·rw [if_pos h0];(repeat ((refine zaa ?_;first|refine zal rfl ?_|refine zcn rfl rfl (by omega) ?_)));refine zab (zai rfl (za1 ?_));refine zad rfl ?_;refine zaa (zap (n:=1) ElF.h (by decide) rfl rfl fun H6 hk6 hr6=>?_);refine zaa (zaf rfl rfl rfl (zce (ws:=[[44]]) (W5.keep0 hk6) (IsRow.sl (es:=1) (n:=1) hr6 rfl (Jz 1)) (by simp only [Qc];omega) fun u7 H7 k7 W7=>?_));exact zab ⟨u7,(Wk.of hk6).trans k7,W7,rfl,rfl,rfl,rfl,rfl,rfl,trivial⟩
  ·rw [if_neg h0];(repeat ((refine zaa ?_;first|refine zal rfl ?_|refine zd1 rfl rfl (by omega) ?_)));exact zab (zag rfl (zam ⟨u3,.refl _ _ _,W5,rfl,rfl,rfl,rfl,rfl,rfl,trivial⟩))
 rintro l6 H6 ⟨u6,k6,W6,hs6⟩;have hl6:(if 0<i then s3.put [[44]] else s3).words.length≤s3.words.length+1:=by
  split
  ·rw [zaw];simp
  ·omega
 refine VA.sub hs6 (za1 ?_);refine zad rfl ?_;refine zaa (zat (k:=4) PlF.h hcx4 (by decide) rfl (k6.row hoff5 hr5).pts ?_);refine zad rfl ?_;refine zaa (zaf rfl rfl rfl (zgb (szE x+1) A x cx d b H6 u6 _ _ (by omega) (k6.exp hA5 hE5) (fun a ha=>k6.off (hA5 a ha)) (hK.keep kk5.keep |>.keep k6.keep) W6 (by omega) (by omega) fun u7 H7 k7 W7=>?_));refine zab (za1 ?_);refine zaa (zaz (c:=((i+1:Nat):Int)) rfl rfl Ju ?_);refine zad rfl ?_;refine zab ⟨i+1,?_,⟨rfl,rfl,rfl,rfl,rfl,trivial⟩,by omega,u7,kk5.trans (k6.trans k7),?_⟩
 ·show l.length-(i+1)<l.length-i;omega
 ·rw [zbs hx,zmz,←hs3,Qh,Nat.min_eq_left (by omega),Nat.zero_add];exact W7
end
def wDecl (x:Stm) (s:WS):WS:=
 let s2:=if x.num = -1 then (s.put [[118,97,114]]).put [[98,111,111,108]] else s.put [[118,97,114]]
 if 0<x.num then (s2.name x.name).put [[91],textZ x.num,[93]] else s2.name x.name
theorem zp5 (x:Stm) (s:WS):(wDecl x s).words.length≤s.words.length+6:=by
 unfold wDecl;split<;>split<;>simp [zaw,zbi]
section
variable {tb:List FuncId}{gl:List (List AV)}{A:Nat→Prop}{H:Heap}{u v w:AV}{b:Nat}{s:WS}{Q:AV→Heap→Prop}
theorem zqi {x:Stm}{c:List AV}(hS:IsS A H c x) (hK:KeysIn H) (hW:Wr b H u s) (hl:s.words.length+6<1000000)
  (hQ:∀u' H',Wk b H u H' u'→Wr b H' u' (wDecl x s)→Q (.tup []) H'):WpF prog tb gl 207 [.ptr b 0,.agg c] H Q:=by
 have hrB:rB=140737488351232:=rfl;unfold wDecl at hQ;obtain ⟨v1,v2,v3,rfl,hkd,hnu,hnl,_⟩:=hS.out;refine fa func207 b207_eq v207_eq r207_eq (.inr (by simp)) ?_;refine zac ?_;refine zaa (zcy rfl fun H1 hk1 hr1=>?_);have hW1:=hW.keep0 hk1;obtain ⟨bx,hbx⟩:∃b,b=H.nx:=⟨_,rfl⟩
 have hoff:Off b H1 u bx:=by
  have:=hr1.1;rw [hbx];exact hW.fresh this
 rw [←hbx] at hr1 ⊢;have hr1:IsRow H1 bx [.int .i64 x.kind,S x.name,S x.proc,.int .i64 x.num,v1,v2,v3] false false:=hr1;refine zab (zac ?_);refine zad rfl ?_;refine zaa (zap (n:=1) ElF.h (by decide) rfl rfl fun H2 hk2 hr2=>?_);refine zaa (zaf rfl rfl rfl (zce (ws:=[[118,97,114]]) (hW1.keep0 hk2) (IsRow.sl (es:=1) (n:=1) hr2 rfl (Jz 1)) (by simp only [Qc];omega) fun u3 H3 k3 W3=>?_));have kk3:Wk b H1 u H3 u3:=(Wk.of hk2).trans k3;have hoff3:=kk3.off hoff;have hr3:=kk3.row hoff hr1;obtain ⟨s1,hs1⟩:∃s1,s1=s.put [[118,97,114]]:=⟨_,rfl⟩
 rw [←hs1] at W3 hQ;have hl1:s1.words.length=s.words.length+1:=by rw [hs1,zaw];rfl
 refine zab (zaj ?_);refine zj1 (fun l' H'=>∃u6,Wk b H3 u3 H' u6∧Wr b H' u6 (if x.num = -1 then s1.put [[98,111,111,108]] else s1)∧Sb [(0,.ptr b 0),(3,.ptr bx 0)] l') ?_ ?_
 ·refine zac ?_;by_cases h0:x.num = -1
  ·rw [if_pos h0];(repeat ((refine zaa ?_;first|refine zae FpF.h (by decide) rfl ?_|refine zah PlF.h rfl hr3 rfl ?_|refine zax rfl rfl (by omega) ?_)));refine zab (zai rfl (za1 ?_));refine zad rfl ?_;refine zaa (zap (n:=1) ElF.h (by decide) rfl rfl fun H6 hk6 hr6=>?_);refine zaa (zaf rfl rfl rfl (zce (ws:=[[98,111,111,108]]) (W3.keep0 hk6) (IsRow.sl (es:=1) (n:=1) hr6 rfl (Jz 1)) (by simp only [Qc];omega) fun u7 H7 k7 W7=>?_));exact zab ⟨u7,(Wk.of hk6).trans k7,W7,rfl,rfl,trivial⟩
  ·rw [if_neg h0];(repeat ((refine zaa ?_;first|refine zae FpF.h (by decide) rfl ?_|refine zah PlF.h rfl hr3 rfl ?_|refine za2 rfl rfl (by omega) ?_)));exact zab (zag rfl (zam ⟨u3,.refl _ _ _,W3,rfl,rfl,trivial⟩))
 rintro l6 H6 ⟨u6,k6,W6,hs6⟩;obtain ⟨s2,hs2⟩:∃s2,s2=if x.num = -1 then s1.put [[98,111,111,108]] else s1:=⟨_,rfl⟩
 rw [←hs2] at W6;simp only [←hs2] at hQ;have hl2:s2.words.length≤s1.words.length+1:=by
  rw [hs2];split
  ·rw [zaw];simp
  ·omega
 have hoff6:=k6.off hoff3;have hr6:=k6.row hoff3 hr3;have kk6:Wk b H u H6 u6:=(Wk.of hk1).trans (kk3.trans k6);refine VA.sub hs6 (zac ?_);refine zad rfl ?_;(repeat ((refine zaa ?_;first|refine zae FpF.h (by decide) rfl ?_|refine zah PlF.h rfl hr6 rfl ?_);refine zad rfl ?_));refine zaa (zaf rfl rfl rfl (ze7 (n:=x.name) W6 (hK.keep kk6.keep) (by omega) (by omega) fun u7 H7 k7 W7=>?_));have hr7:=k7.row hoff6 hr6;refine zab (zac ?_);by_cases h0:0<x.num
 ·rw [if_pos h0] at hQ;(repeat ((refine zaa ?_;first|refine zae FpF.h (by decide) rfl ?_|refine zah PlF.h rfl hr7 rfl ?_|refine zcn rfl rfl (by omega) ?_)));refine zab (zai rfl (za1 ?_));refine zad rfl ?_;(repeat ((refine zaa ?_;first|refine zae FpF.h (by decide) rfl ?_|refine zah PlF.h rfl hr7 rfl ?_);refine zad rfl ?_));refine zaa (zaf rfl rfl rfl (zva x.num hnu.1 hnu.2 H7 fun H8 hk8=>?_));refine zaa (zap (n:=3) ElF.h (by decide) rfl rfl fun H9 hk9 hr9=>?_);refine zaa (zaf rfl rfl rfl (zce (ws:=[[91],textZ x.num,[93]]) ((W7.keep0 hk8).keep0 hk9) (IsRow.sl (es:=1) (n:=3) hr9 rfl (Jz 3)) (by rw [zbi];simp only [Jy,J9];omega) fun u10 H10 k10 W10=>?_));exact zab ⟨_,rfl,hQ u10 H10 (kk6.trans (k7.trans ((Wk.of (hk8.trans0 hk9)).trans k10))) W10⟩
 ·rw [if_neg h0] at hQ;(repeat ((refine zaa ?_;first|refine zae FpF.h (by decide) rfl ?_|refine zah PlF.h rfl hr7 rfl ?_|refine zd1 rfl rfl (by omega) ?_)));exact zab (zag rfl (zam ⟨_,rfl,hQ u7 H7 (kk6.trans k7) W7⟩))
end
end Go.Proofs.YtniflgldgnmiaaaGreatDoor
namespace Go.Proofs.YtniflgldgnmiaaaGreatDoor
open Go Eng Tryz
instance ifp_148_0:FpF prog 148 0 ⟨0,false,1⟩:=⟨by kernel_rfl⟩
def v204c0:CV:=Jt [Jc 2 (.assign (.const (.bool false)))] (.ret)
def v204h1:CV:=Jt [Jg 4 148 1 3,Jf 5 2 4,Jc 6 (.binOp .neq 2 (Ja 5) (Jb 0) 2),Jd 7 6,Jq 7 true 8 148 1 0,Jr 7 true 9 3 8,Js 7 true 10 (.binOp .neq 3 (Ja 9) (Jb 1) 3),Jc 11 (.pick (Ja 7) (Ja 10) (.const (.bool false))),Jd 12 11,Jq 12 false 13 148 1 2,Jr 12 false 14 9 13,Js 12 false 15 (.binOp .neq 9 (Ja 14) (.const (.string ⟨⟨[]⟩⟩)) 9),Jp 12 false 16 15,Jq 16 true 17 148 1 0,Jr 16 true 18 3 17,Js 16 true 19 (.binOp .neq 3 (Ja 18) (Jb 6) 3),Js 12 false 20 (.pick (Ja 16) (Ja 19) (.const (.bool false))),Jc 21 (.pick (Ja 12) (.const (.bool true)) (Ja 20)),Jd 22 21,Jq 22 false 23 148 1 5,Jr 22 false 24 67 23,Js 22 false 25 (.call ⟨.builtin .len,#[(Ja 24)],#[67]⟩),Js 22 false 26 (.binOp .gtr 3 (Ja 25) (Jb 0) 3),Jp 22 false 27 26,Jq 27 true 28 148 1 0,Jr 27 true 29 3 28,Js 27 true 30 (.binOp .neq 3 (Ja 29) (Jb 4) 3),Js 22 false 31 (.pick (Ja 27) (Ja 30) (.const (.bool false))),Jp 22 false 32 31,Jq 32 true 33 148 1 0,Jr 32 true 34 3 33,Js 32 true 35 (.binOp .neq 3 (Ja 34) (Jb 5) 3),Js 22 false 36 (.pick (Ja 32) (Ja 35) (.const (.bool false))),Jc 37 (.pick (Ja 22) (.const (.bool true)) (Ja 36)),Jd 38 37,Jq 38 false 39 148 1 6,Jr 38 false 40 67 39,Js 38 false 41 (.call ⟨.builtin .len,#[(Ja 40)],#[67]⟩),Js 38 false 42 (.binOp .gtr 3 (Ja 41) (Jb 0) 3),Jp 38 false 43 42,Jq 43 true 44 148 1 0,Jr 43 true 45 3 44,Js 43 true 46 (.binOp .neq 3 (Ja 45) (Jb 4) 3),Js 38 false 47 (.pick (Ja 43) (Ja 46) (.const (.bool false))),Jc 48 (.pick (Ja 38) (.const (.bool true)) (Ja 47))] (.cond (Ja 48) v204c0 (.skip))
def v204c1:CV:=Jt [Jd 56 3,Jc 57 (.binOp .eql 3 (Ja 56) (Jb 0) 3),Jd 58 57,Jq 58 true 59 148 1 3,Jr 58 true 60 2 59,Js 58 true 61 (.binOp .geq 2 (Ja 60) (Jb (-1)) 2),Jc 62 (.pick (Ja 58) (Ja 61) (.const (.bool false))),Jh 2 62] (.ret)
def v204c3:CV:=Jt [Jd 65 3,Jc 66 (.binOp .eql 3 (Ja 65) (Jb 0) 3),Jh 2 66] (.ret)
def v204c5:CV:=Jt [Jd 69 3,Jc 70 (.binOp .eql 3 (Ja 69) (Jb 1) 3),Jh 2 70] (.ret)
def v204c7:CV:=Jt [Jd 73 3,Jc 74 (.binOp .eql 3 (Ja 73) (Jb 2) 3),Jh 2 74] (.ret)
def v204c9:CV:=Jt [Jc 2 (.assign (.const (.bool true)))] (.ret)
def v204c11:CV:=Jt [Jd 79 3,Jc 80 (.binOp .leq 3 (Ja 79) (Jb 1) 3),Jd 81 80,Jq 81 true 82 148 1 1,Jr 81 true 83 9 82,Js 81 true 84 (.binOp .eql 9 (Ja 83) (.const (.string ⟨⟨[]⟩⟩)) 9),Jc 85 (.pick (Ja 81) (Ja 84) (.const (.bool false))),Jh 2 85] (.ret)
def v204c14:CV:=Jt [Jc 89 (.binOp .eql 3 (Ja 53) (Jb 8) 3),Jh 86 89] (.cond (Ja 86) (.skip) (.reg [Jc 90 (.binOp .eql 3 (Ja 53) (Jb 10) 3),Jh 86 90]))
def v204c13:CV:=Jt [Jc 88 (.binOp .eql 3 (Ja 53) (Jb 5) 3),Jh 86 88] (.cond (Ja 86) (.skip) v204c14)
def v204c12h0:CV:=Jt [Jc 87 (.binOp .eql 3 (Ja 53) (Jb 4) 3),Jh 86 87] (.cond (Ja 86) (.skip) v204c13)
def v204c15:CV:=Jt [Jd 91 3,Jc 92 (.binOp .eql 3 (Ja 91) (Jb 1) 3),Jd 93 92,Jq 93 true 94 148 1 1,Jr 93 true 95 9 94,Js 93 true 96 (.binOp .eql 9 (Ja 95) (.const (.string ⟨⟨[]⟩⟩)) 9),Jc 97 (.pick (Ja 93) (Ja 96) (.const (.bool false))),Jh 2 97] (.ret)
def v204c12:CV:=.seq v204c12h0 (.cond (Ja 86) v204c15 (.skip))
def v204c10:CV:=Jt [Jc 78 (.binOp .eql 3 (Ja 53) (Jb 7) 3),Jh 77 78] (.cond (Ja 77) v204c11 v204c12)
def v204c8:CV:=Jt [Jc 76 (.binOp .eql 3 (Ja 53) (Jb 6) 3),Jh 75 76] (.cond (Ja 75) v204c9 v204c10)
def v204c6:CV:=Jt [Jc 72 (.binOp .eql 3 (Ja 53) (Jb 3) 3),Jh 71 72] (.cond (Ja 71) v204c7 v204c8)
def v204c4:CV:=Jt [Jc 68 (.binOp .eql 3 (Ja 53) (Jb 2) 3),Jh 67 68] (.cond (Ja 67) v204c5 v204c6)
def v204c2:CV:=Jt [Jc 64 (.binOp .eql 3 (Ja 53) (Jb 9) 3),Jh 63 64] (.cond (Ja 63) v204c3 v204c4)
def v204k0:CV:=Jt [Jc 55 (.binOp .eql 3 (Ja 53) (Jb 1) 3),Jh 54 55] (.cond (Ja 54) v204c1 v204c2)
def v204h3:CV:=Jt [Jg 52 148 1 0,Jf 53 3 52] (.block 0 v204k0)
def v204t4:CV:=Jt [Jc 2 (.assign (.const (.bool false)))] (.ret)
def v204t3:CV:=.seq v204h3 v204t4
def v204t2:CV:=Jt [Jg 49 148 1 4,Jf 50 146 49,Jj 51 50 146,Jh 3 51] v204t3
def v204t1:CV:=.seq v204h1 v204t2
def v204:CV:=Jt [Jc 1 (.box 148 (Ja 0)),Jc 2 (.assign (.const (.bool false)))] v204t1
noncomputable def b204:Code:=f204.body.getD .skip
theorem b204_eq:f204.body=some b204:=by kernel_rfl
theorem v204_eq:viewC prog b204=some v204:=by kernel_rfl
theorem r204_eq:f204.results.toList=[.tmp 2]:=by kernel_rfl
def formN (kd nu:Int) (nm:List UInt8) (le:Nat):Bool:=
 if kd=1 then decide (le=0)&&decide (-1≤nu) else if kd=9 then decide (le=0) else if kd=2 then decide (le=1) else if kd=3 then decide (le=2) else if kd=6 then true
 else if kd=7 then decide (le≤1)&&decide (nm=[]) else if kd=4∨kd=5∨kd=8∨kd=10 then decide (le=1)&&decide (nm=[]) else false
def bareN (kd nu:Int) (pc:List UInt8) (lb ls:Nat):Bool:=
 (decide (nu=0)||decide (kd=1))&&(decide (pc=[])||decide (kd=6))&&(decide (lb=0)||decide (kd=4)||decide (kd=5))&&(decide (ls=0)||decide (kd=4))
def fitsB (x:Stm):Bool:=bareN x.kind x.num x.proc x.body.length x.els.length&&formN x.kind x.num x.name x.e.length
section
variable {tb:List FuncId}{gl:List (List AV)}{A:Nat→Prop}{H:Heap}{u v w:AV}{b:Nat}{s:WS}{Q:AV→Heap→Prop}
theorem fits_ok {c:List AV}{x:Stm}(hS:IsS A H c x) (hQ:∀H',Keep Non H H'→Q (.bool (fitsB x)) H'):WpF prog tb gl 204 [.agg c] H Q:=by
  have hrB:rB=140737488351232:=rfl;obtain ⟨v1,v2,v3,rfl,_,_,_,_,hl1,hl2,hl3,hL1,hL2,hL3⟩:=hS.out;refine fa func204 b204_eq v204_eq r204_eq (.inr (by simp)) ?_;refine zac ?_;refine zaa (zcy rfl fun H1 hk1 hr1=>?_);obtain ⟨b,hb⟩:∃b,b=H.nx:=⟨_,rfl⟩
  rw [←hb] at hr1 ⊢;have hr1:IsRow H1 b [.int .i64 x.kind,S x.name,S x.proc,.int .i64 x.num,v1,v2,v3] false false:=hr1;obtain ⟨ee,hse,_⟩:=zbe (hL1.keep hk1 fun _ _ _ h=>h.keep hk1);obtain ⟨eb,hsb,_⟩:=zbe (hL2.keep hk1 fun _ _ _ h=>h.keep hk1);obtain ⟨ed,hsd,_⟩:=zbe (hL3.keep hk1 fun _ _ _ h=>h.keep hk1);have hQ:=hQ H1 hk1;unfold fitsB at hQ;obtain ⟨kd,hkd⟩:∃k,k=x.kind:=⟨_,rfl⟩
  obtain ⟨nm,hnm⟩:∃k,k=x.name:=⟨_,rfl⟩
  obtain ⟨pc,hpc⟩:∃k,k=x.proc:=⟨_,rfl⟩
  obtain ⟨nu,hnu⟩:∃k,k=x.num:=⟨_,rfl⟩
  obtain ⟨le,hle⟩:∃k,k=x.e.length:=⟨_,rfl⟩
  obtain ⟨lb,hlb⟩:∃k,k=x.body.length:=⟨_,rfl⟩
  obtain ⟨ls,hls⟩:∃k,k=x.els.length:=⟨_,rfl⟩
  rw [←hkd,←hnu,←hpc,←hnm,←hle,←hlb,←hls] at hQ;rw [←hle] at hse;rw [←hlb] at hsb;rw [←hls] at hsd;rw [←hkd,←hnm,←hpc,←hnu] at hr1;clear hkd hnm hpc hnu hle hlb hls hL1 hL2 hL3 hS hl1 hl2 hl3;refine zad rfl ?_;refine zab (zaj ?_)
  -- the form
  have form:bareN kd nu pc lb ls=true→VA prog tb gl v204t2 [(1,.ptr b 0)] H1 (leftA [.tmp 2] Q):=by
    intro h;rw [h,Bool.true_and] at hQ;unfold formN at hQ;refine zac ?_;refine zad rfl ?_;(repeat ((refine zaa ?_;first|refine zae FpF.h (by decide) rfl ?_|refine zah PlF.h rfl hr1 rfl ?_|refine za3 rfl rfl rfl UnF.h rfl hse ?_);refine zad rfl ?_));refine zab (zaj (zac ?_));refine zad rfl ?_;(repeat ((refine zaa ?_;first|refine zae FpF.h (by decide) rfl ?_|refine zah PlF.h rfl hr1 rfl ?_);refine zad rfl ?_));refine zab (zau (zac ?_));by_cases e1:kd=1
    · rw [if_pos e1] at hQ
      (repeat ((refine zaa ?_;first|refine zak rfl ?_|refine zax rfl rfl (by omega) ?_)));refine zab (zai rfl (zac ?_));by_cases h1:le=0
      · by_cases h2 : -1≤nu
        · (repeat (((first|refine zaa ?_|refine zav rfl ?_);first|refine zal rfl ?_|refine zak rfl ?_|refine zae FpF.h (by decide) rfl ?_|refine zah PlF.h rfl hr1 rfl ?_|refine zew rfl rfl (by omega) ?_|refine zax rfl rfl (by omega) ?_|refine zaq rfl rfl rfl ?_)))
          refine zab (zao ⟨_,rfl,?_⟩);simpa [h1,h2] using hQ
        · (repeat (((first|refine zaa ?_|refine zav rfl ?_);first|refine zal rfl ?_|refine zak rfl ?_|refine zae FpF.h (by decide) rfl ?_|refine zah PlF.h rfl hr1 rfl ?_|refine zjg rfl rfl (by omega) ?_|refine zax rfl rfl (by omega) ?_|refine zaq rfl rfl rfl ?_)))
          refine zab (zao ⟨_,rfl,?_⟩);simpa [h1,h2] using hQ
      · (repeat (first|refine zbh rfl ?_|(refine zaa ?_;first|refine zal rfl ?_|refine zak rfl ?_|refine za2 rfl rfl (by omega) ?_|refine za0 rfl rfl ?_)))
        refine zab (zao ⟨_,rfl,?_⟩);simpa [h1] using hQ
    rw [if_neg e1] at hQ;(repeat ((refine zaa ?_;first|refine zak rfl ?_|refine za2 rfl rfl (by omega) ?_)));refine zab (zag rfl (zac ?_));by_cases e9:kd=9
    · rw [if_pos e9] at hQ
      (repeat ((refine zaa ?_;first|refine zak rfl ?_|refine zax rfl rfl (by omega) ?_)));refine zab (zai rfl (zac ?_));by_cases h2:le=0
      · (repeat ((refine zaa ?_;first|refine zal rfl ?_|refine zak rfl ?_|refine zax rfl rfl (by omega) ?_)))
        refine zab (zao ⟨_,rfl,?_⟩);simpa [h2] using hQ
      · (repeat ((refine zaa ?_;first|refine zal rfl ?_|refine zak rfl ?_|refine za2 rfl rfl (by omega) ?_)))
        refine zab (zao ⟨_,rfl,?_⟩);simpa [h2] using hQ
    rw [if_neg e9] at hQ;(repeat ((refine zaa ?_;first|refine zak rfl ?_|refine za2 rfl rfl (by omega) ?_)));refine zab (zag rfl (zac ?_));by_cases e2:kd=2
    · rw [if_pos e2] at hQ
      (repeat ((refine zaa ?_;first|refine zak rfl ?_|refine zax rfl rfl (by omega) ?_)));refine zab (zai rfl (zac ?_));by_cases h2:le=1
      · (repeat ((refine zaa ?_;first|refine zal rfl ?_|refine zak rfl ?_|refine zax rfl rfl (by omega) ?_)))
        refine zab (zao ⟨_,rfl,?_⟩);simpa [h2] using hQ
      · (repeat ((refine zaa ?_;first|refine zal rfl ?_|refine zak rfl ?_|refine za2 rfl rfl (by omega) ?_)))
        refine zab (zao ⟨_,rfl,?_⟩);simpa [h2] using hQ
    rw [if_neg e2] at hQ;(repeat ((refine zaa ?_;first|refine zak rfl ?_|refine za2 rfl rfl (by omega) ?_)));refine zab (zag rfl (zac ?_));by_cases e3:kd=3
    · rw [if_pos e3] at hQ
      (repeat ((refine zaa ?_;first|refine zak rfl ?_|refine zax rfl rfl (by omega) ?_)));refine zab (zai rfl (zac ?_));by_cases h2:le=2
      · (repeat ((refine zaa ?_;first|refine zal rfl ?_|refine zak rfl ?_|refine zax rfl rfl (by omega) ?_)))
        refine zab (zao ⟨_,rfl,?_⟩);simpa [h2] using hQ
      · (repeat ((refine zaa ?_;first|refine zal rfl ?_|refine zak rfl ?_|refine za2 rfl rfl (by omega) ?_)))
        refine zab (zao ⟨_,rfl,?_⟩);simpa [h2] using hQ
    rw [if_neg e3] at hQ;(repeat ((refine zaa ?_;first|refine zak rfl ?_|refine za2 rfl rfl (by omega) ?_)));refine zab (zag rfl (zac ?_));by_cases e6:kd=6
    · rw [if_pos e6] at hQ
      (repeat ((refine zaa ?_;first|refine zak rfl ?_|refine zax rfl rfl (by omega) ?_)));refine zab (zai rfl (zac ?_));refine zad rfl ?_;exact zab (zao ⟨_,rfl,hQ⟩)
    rw [if_neg e6] at hQ;(repeat ((refine zaa ?_;first|refine zak rfl ?_|refine za2 rfl rfl (by omega) ?_)));refine zab (zag rfl (zac ?_));by_cases e7:kd=7
    · rw [if_pos e7] at hQ
      (repeat ((refine zaa ?_;first|refine zak rfl ?_|refine zax rfl rfl (by omega) ?_)));refine zab (zai rfl (zac ?_));by_cases h1:le≤1
      · by_cases h2:nm=[]
        · (repeat (((first|refine zaa ?_|refine zav rfl ?_);first|refine zal rfl ?_|refine zak rfl ?_|refine zae FpF.h (by decide) rfl ?_|refine zah PlF.h rfl hr1 rfl ?_|refine zbt rfl rfl (Qg h2) ?_|refine zex rfl rfl (by omega) ?_|refine zaq rfl rfl rfl ?_)))
          refine zab (zao ⟨_,rfl,?_⟩);simpa [h1,h2] using hQ
        · (repeat (((first|refine zaa ?_|refine zav rfl ?_);first|refine zal rfl ?_|refine zak rfl ?_|refine zae FpF.h (by decide) rfl ?_|refine zah PlF.h rfl hr1 rfl ?_|refine zbt rfl rfl (Qf h2) ?_|refine zex rfl rfl (by omega) ?_|refine zaq rfl rfl rfl ?_)))
          refine zab (zao ⟨_,rfl,?_⟩);simpa [h1,h2] using hQ
      · (repeat (first|refine zbh rfl ?_|(refine zaa ?_;first|refine zal rfl ?_|refine zak rfl ?_|refine zfx rfl rfl (by omega) ?_|refine za0 rfl rfl ?_)))
        refine zab (zao ⟨_,rfl,?_⟩);simpa [h1] using hQ
    rw [if_neg e7] at hQ;(repeat ((refine zaa ?_;first|refine zak rfl ?_|refine za2 rfl rfl (by omega) ?_)));refine zab (zag rfl (zaj (zac ?_)));have last:kd=4∨kd=5∨kd=8∨kd=10→∀l',Sb [(1,.ptr b 0),(3,.int .i64 (le:Int))] l'→VA prog tb gl v204c15 l' H1 (exitA 0 (seqA prog tb gl v204t4 (leftA [.tmp 2] Q))):=by
      intro h l' hs';rw [if_pos h] at hQ;refine VA.sub hs' (zac ?_);by_cases h1:le=1
      · by_cases h2:nm=[]
        · (repeat (((first|refine zaa ?_|refine zav rfl ?_);first|refine zal rfl ?_|refine zak rfl ?_|refine zae FpF.h (by decide) rfl ?_|refine zah PlF.h rfl hr1 rfl ?_|refine zbt rfl rfl (Qg h2) ?_|refine zax rfl rfl (by omega) ?_|refine zaq rfl rfl rfl ?_)))
          refine zab (zao ⟨_,rfl,?_⟩);simpa [h1,h2] using hQ
        · (repeat (((first|refine zaa ?_|refine zav rfl ?_);first|refine zal rfl ?_|refine zak rfl ?_|refine zae FpF.h (by decide) rfl ?_|refine zah PlF.h rfl hr1 rfl ?_|refine zbt rfl rfl (Qf h2) ?_|refine zax rfl rfl (by omega) ?_|refine zaq rfl rfl rfl ?_)))
          refine zab (zao ⟨_,rfl,?_⟩);simpa [h1,h2] using hQ
      · (repeat (first|refine zbh rfl ?_|(refine zaa ?_;first|refine zal rfl ?_|refine zak rfl ?_|refine za2 rfl rfl (by omega) ?_|refine za0 rfl rfl ?_)))
        refine zab (zao ⟨_,rfl,?_⟩);simpa [h1] using hQ
    by_cases e4:kd=4
    · (repeat ((refine zaa ?_;first|refine zak rfl ?_|refine zax rfl rfl (by omega) ?_)))
      refine zab (zai rfl (zam (zai rfl (last (.inl e4) _ ⟨rfl,rfl,trivial⟩))))
    (repeat ((refine zaa ?_;first|refine zak rfl ?_|refine za2 rfl rfl (by omega) ?_)));refine zab (zag rfl (zac ?_));by_cases e5:kd=5
    · (repeat ((refine zaa ?_;first|refine zak rfl ?_|refine zax rfl rfl (by omega) ?_)))
      refine zab (zai rfl (zam (zai rfl (last (.inr (.inl e5)) _ ⟨rfl,rfl,trivial⟩))))
    (repeat ((refine zaa ?_;first|refine zak rfl ?_|refine za2 rfl rfl (by omega) ?_)));refine zab (zag rfl (zac ?_));by_cases e8:kd=8
    · (repeat ((refine zaa ?_;first|refine zak rfl ?_|refine zax rfl rfl (by omega) ?_)))
      refine zab (zai rfl (zam (zai rfl (last (.inr (.inr (.inl e8))) _ ⟨rfl,rfl,trivial⟩))))
    (repeat ((refine zaa ?_;first|refine zak rfl ?_|refine za2 rfl rfl (by omega) ?_)));refine zab (zag rfl (za1 ?_));by_cases e10:kd=10
    · (repeat ((refine zaa ?_;first|refine zak rfl ?_|refine zax rfl rfl (by omega) ?_)))
      refine zab (zai rfl (last (.inr (.inr (.inr e10))) _ ⟨rfl,rfl,trivial⟩))
    (repeat ((refine zaa ?_;first|refine zak rfl ?_|refine za2 rfl rfl (by omega) ?_)));rw [if_neg (by omega)] at hQ;refine zab (zag rfl (zam (zac ?_)));refine zad rfl ?_;exact zab (zao ⟨_,rfl,hQ⟩)
  have hf:bareN kd nu pc lb ls=false→∀l',resLA l' [.tmp 2]=some [.bool false]→(seqA prog tb gl v204t2 (leftA [.tmp 2] Q)) .ret l' H1:=by
    intro h l' h2;rw [h,Bool.false_and] at hQ;exact ⟨_,h2,hQ⟩
  have ht:bareN kd nu pc lb ls=true→∀l',Sb [(1,.ptr b 0)] l'→(seqA prog tb gl v204t2 (leftA [.tmp 2] Q)) .normal l' H1:=fun h l' hs=>VA.sub hs (form h);clear form hQ hse;generalize seqA prog tb gl v204t2 (leftA [.tmp 2] Q)=R at hf ht ⊢;by_cases h2:lb=0<;>by_cases h3:ls=0<;>
    ((repeat' first|(refine zad rfl ?_;first|refine zbh rfl ?_|refine zo4 rfl ?_|((first|refine zaa ?_|refine zav rfl ?_);first|refine zal rfl ?_|refine zaq rfl rfl rfl ?_|refine za0 rfl rfl ?_|refine zae FpF.h (by decide) rfl ?_|refine zah PlF.h rfl hr1 rfl ?_|refine za3 rfl rfl rfl UnF.h rfl hsb ?_|refine za3 rfl rfl rfl UnF.h rfl hsd ?_|refine zcn rfl rfl (by omega) ?_|refine zd1 rfl rfl (by omega) ?_|refine zfy rfl rfl (by omega) ?_|refine zc9 rfl rfl (by omega) ?_|refine oa_neqS rfl rfl (fun hc=>?_) (fun hc=>?_)|refine zij rfl rfl (fun hc=>?_) (fun hc=>?_))|refine zab ?_)|refine zai rfl ?_|refine zag rfl ?_|refine zac ?_|refine zam ?_)
     all_goals first
       |exact zao (hf (by simp [bareN, *]) _ rfl)
       |exact ht (by simp [bareN, *]) _ ⟨rfl,trivial⟩)
end
end Go.Proofs.YtniflgldgnmiaaaGreatDoor
