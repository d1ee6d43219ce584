/-
  The printer's statements (syntax.writer.stmt, block, proc): the plain law, and how many words they write.
-/
import Derived.Test.YtniflgldgnmiaaaGreatDoorWr
namespace Go.Proofs.YtniflgldgnmiaaaGreatDoor
open Go Eng Tryz
def wEs (d:Nat):List Exp→WS→WS
 |[],s=>s
 |x::l,s=>wEs d l (wE x d s)
mutual
def wSt:Stm→Nat→WS→WS
 |.mk k n p z e b f,d,s=>
  let s1:=(s.deep d).need (fitsB (.mk k n p z e b f))
  if s1.bad=true then s1
  else if k=4∨k=5 then
   match e with
   |x::_=>
    let s4:=(wSts b (d+1) (((wE x (d+1) (s1.put [wordB k,[40]])).put [[41]]).put [[123]])).put [[125]]
    if f.length=0 then s4 else (wSts f (d+1) ((s4.put [[101,108,115,101]]).put [[123]])).put [[125]]
   |[]=>s1
  else if k=1 then (wDecl (.mk k n p z e b f) s1).put [[59]]
  else if k=6 then (wList e (d+1) ((if n=[] then s1 else (s1.name n).put [[61]]).name p)).put [[59]]
  else if k=2 then
   match e with
   |x::_=>(wE x (d+1) ((s1.name n).put [[61]])).put [[59]]
   |[]=>s1
  else if k=3 then
   match e with
   |x::y::_=>(wE y (d+1) (((wE x (d+1) ((s1.name n).put [[91]])).put [[93]]).put [[61]])).put [[59]]
   |_=>s1
  else if k=9 then ((s1.put [[114,101,97,100]]).name n).put [[59]]
  else (wEs (d+1) e (s1.put [wordB k])).put [[59]]
def wSts:List Stm→Nat→WS→WS
 |[],_,s=>s
 |x::l,d,s=>wSts l d (wSt x d s)
end
def wBlock (l:List Stm) (d:Nat) (s:WS):WS:=(wSts l d (s.put [[123]])).put [[125]]
theorem zfn (k:Int) (n p:List UInt8) (z:Int) (e:List Exp) (b f:List Stm) (d:Nat) (s s1:WS):s1=(s.deep d).need (fitsB (.mk k n p z e b f))→wSt (.mk k n p z e b f) d s =
  if s1.bad=true then s1
  else if k=4∨k=5 then
   match e with
   |a::_=>
    let s4:=wBlock b (d+1) ((wE a (d+1) (s1.put [wordB k,[40]])).put [[41]])
    if f.length=0 then s4 else wBlock f (d+1) (s4.put [[101,108,115,101]])
   |[]=>s1
  else if k=1 then (wDecl (.mk k n p z e b f) s1).put [[59]]
  else if k=6 then (wList e (d+1) ((if n=[] then s1 else (s1.name n).put [[61]]).name p)).put [[59]]
  else if k=2 then
   match e with
   |a::_=>(wE a (d+1) ((s1.name n).put [[61]])).put [[59]]
   |[]=>s1
  else if k=3 then
   match e with
   |a::c::_=>(wE c (d+1) (((wE a (d+1) ((s1.name n).put [[91]])).put [[93]]).put [[61]])).put [[59]]
   |_=>s1
  else if k=9 then ((s1.put [[114,101,97,100]]).name n).put [[59]]
  else (wEs (d+1) e (s1.put [wordB k])).put [[59]]:=by
 intro hs;subst hs;simp only [wSt,wBlock]
theorem wSt_at (x:Stm) (d:Nat) (s s1:WS) (hs:s1=(s.deep d).need (fitsB x)):wSt x d s =
  if s1.bad=true then s1
  else if x.kind=4∨x.kind=5 then
   match x.e with
   |a::_=>
    let s4:=wBlock x.body (d+1) ((wE a (d+1) (s1.put [wordB x.kind,[40]])).put [[41]])
    if x.els.length=0 then s4 else wBlock x.els (d+1) (s4.put [[101,108,115,101]])
   |[]=>s1
  else if x.kind=1 then (wDecl x s1).put [[59]]
  else if x.kind=6 then (wList x.e (d+1) ((if x.name=[] then s1 else (s1.name x.name).put [[61]]).name x.proc)).put [[59]]
  else if x.kind=2 then
   match x.e with
   |a::_=>(wE a (d+1) ((s1.name x.name).put [[61]])).put [[59]]
   |[]=>s1
  else if x.kind=3 then
   match x.e with
   |a::c::_=>(wE c (d+1) (((wE a (d+1) ((s1.name x.name).put [[91]])).put [[93]]).put [[61]])).put [[59]]
   |_=>s1
  else if x.kind=9 then ((s1.put [[114,101,97,100]]).name x.name).put [[59]]
  else (wEs (d+1) x.e (s1.put [wordB x.kind])).put [[59]]:=by
 cases x;exact zfn _ _ _ _ _ _ _ _ _ _ hs
theorem zp7 (d:Nat) (x:Stm):∀(l:List Stm) (s:WS),wSts (l++[x]) d s=wSt x d (wSts l d s)
 |[],_=>by simp [wSts]
 |y::l,s=>by simp only [List.cons_append,wSts,zp7 d x l]
theorem ztq (d:Nat) (x:Exp):∀(l:List Exp) (s:WS),wEs d (l++[x]) s=wE x d (wEs d l s)
 |[],_=>by simp [wEs]
 |y::l,s=>by simp only [List.cons_append,wEs,ztq d x l]
theorem wE_len' (x:Exp) (d:Nat) (s:WS):(wE x d s).words.length+2≤s.words.length+5*sizE x:=zhk (szE x+1) x (by omega) d s
theorem zre (d:Nat):∀(l:List Exp) (s:WS),(wEs d l s).words.length≤s.words.length+5*sizEs l
 |[],_=>by simp [wEs,sizEs]
 |x::l,s=>by
  have h1:=wE_len' x d s;have h2:=zre d l (wE x d s);simp only [wEs,sizEs];omega
theorem zp6 (l:List Exp) (d:Nat) (s:WS):(wList l d s).words.length≤s.words.length+5*sizEs l+2:=by
 unfold wList;have:=zl1 d l 0 (s.put [[40]]);rw [zaw] at this;rw [zaw];simp only [Qc] at this ⊢;omega
mutual
theorem zrh:∀(x:Stm) (d:Nat) (s:WS),(wSt x d s).words.length≤s.words.length+12*sizS x
 |.mk k n p z e b f,d,s=>by
  have hb:=fun (s:WS)=>ziu b (d+1) s;have hf:=fun (s:WS)=>ziu f (d+1) s;rw [zfn _ _ _ _ _ _ _ _ _ _ rfl];obtain ⟨s1,hs1⟩:∃s1,s1=(s.deep d).need (fitsB (.mk k n p z e b f)):=⟨_,rfl⟩
  rw [←hs1];have hl1:s1.words.length=s.words.length:=by rw [hs1];rfl
  simp only [sizS];by_cases hbd:s1.bad=true
  ·rw [if_pos hbd];omega
  rw [if_neg hbd];by_cases e45:k=4∨k=5
  ·rw [if_pos e45];cases e with
   |cons a r=>
    have h1:=wE_len' a (d+1) (s1.put [wordB k,[40]]);rw [zaw] at h1;simp only [Jy,J9] at h1;have h2:=hb (((wE a (d+1) (s1.put [wordB k,[40]])).put [[41]]).put [[123]]);rw [zaw,zaw] at h2;simp only [Jy,J9] at h2;simp only [sizEs,wBlock];by_cases hf0:f.length=0
    ·rw [if_pos hf0,zaw];simp only [Jy,J9];omega
    ·rw [if_neg hf0];have h3:=hf ((((wSts b (d+1) (((wE a (d+1) (s1.put [wordB k,[40]])).put [[41]]).put [[123]])).put [[125]]).put [[101,108,115,101]]).put [[123]]);rw [zaw,zaw,zaw] at h3;rw [zaw];simp only [Jy,J9] at h3 ⊢;omega
   |nil=>simp only;omega
  rw [if_neg e45];by_cases e1:k=1
  ·rw [if_pos e1];have:=zp5 (.mk k n p z e b f) s1;rw [zaw];simp only [Jy,J9];omega
  rw [if_neg e1];by_cases e6:k=6
  ·rw [if_pos e6];have:=zp6 e (d+1) ((if n=[] then s1 else (s1.name n).put [[61]]).name p);rw [zbi] at this;rw [zaw];have hn:(if n=[] then s1 else (s1.name n).put [[61]]).words.length≤s1.words.length+2:=by
    by_cases hn:n=[]
    ·rw [if_pos hn];omega
    ·rw [if_neg hn,zaw,zbi];simp only [Jy,J9];omega
   simp only [Jy,J9] at this ⊢;omega
  rw [if_neg e6];by_cases e2:k=2
  ·rw [if_pos e2];cases e with
   |cons a r=>
    have h1:=wE_len' a (d+1) ((s1.name n).put [[61]]);rw [zaw,zbi] at h1;simp only;rw [zaw];simp only [Jy,J9,sizEs] at h1 ⊢;omega
   |nil=>simp only;omega
  rw [if_neg e2];by_cases e3:k=3
  ·rw [if_pos e3];cases e with
   |nil=>simp only;omega
   |cons a r=>
   cases r with
   |nil=>simp only;omega
   |cons c r=>
    have h1:=wE_len' a (d+1) ((s1.name n).put [[91]]);rw [zaw,zbi] at h1;have h2:=wE_len' c (d+1) (((wE a (d+1) ((s1.name n).put [[91]])).put [[93]]).put [[61]]);rw [zaw,zaw] at h2;simp only;rw [zaw];simp only [Jy,J9,sizEs] at h1 h2 ⊢;omega
  rw [if_neg e3];by_cases e9:k=9
  ·rw [if_pos e9,zaw,zbi,zaw];simp only [Jy,J9];omega
  ·rw [if_neg e9];have:=zre (d+1) e (s1.put [wordB k]);rw [zaw] at this;rw [zaw];simp only [Jy,J9] at this ⊢;omega
theorem ziu:∀(l:List Stm) (d:Nat) (s:WS),(wSts l d s).words.length≤s.words.length+12*sizSs l
 |[],_,_=>by simp [wSts,sizSs]
 |x::l,d,s=>by
  have h1:=zrh x d s;have h2:=ziu l d (wSt x d s);simp only [wSts,sizSs];omega
end
theorem zm0 (l:List Stm) (d:Nat) (s:WS):(wBlock l d s).words.length≤s.words.length+12*sizSs l+2:=by
 have:=ziu l d (s.put [[123]]);unfold wBlock;rw [zaw] at this ⊢;simp only [Jy,J9] at this ⊢;omega
theorem zfb {x:Stm}(h:fitsB x=true):(x.kind=4∨x.kind=5→∃a,x.e=[a])∧(x.kind=2→∃a,x.e=[a])∧(x.kind=3→∃a c,x.e=[a,c])∧(x.kind=1∨x.kind=9→x.e=[])∧(x.kind≠4→x.els=[])∧(x.kind≠4∧x.kind≠5→x.body=[])∧
  (x.kind=1∨x.kind=2∨x.kind=3∨x.kind=4∨x.kind=5∨x.kind=6∨x.kind=7∨x.kind=8∨x.kind=9∨x.kind=10)∧(x.kind=7→x.e.length≤1)∧(x.kind=8∨x.kind=10→∃a,x.e=[a])∧(x.kind=4∨x.kind=5∨x.kind=7∨x.kind=8∨x.kind=10→x.name=[])∧(x.kind≠6→x.proc=[])∧(x.kind≠1→x.num=0)∧(x.kind=1→-1≤x.num):=by
 simp only [fitsB,bareN,formN,J8,Bool.or_eq_true,Qj] at h;obtain ⟨⟨⟨⟨h1,h2⟩,h3⟩,h4⟩,h5⟩:=h;refine ⟨fun hk=>?_,fun hk=>?_,fun hk=>?_,fun hk=>?_,fun hk=>?_,fun hk=>?_,?_,fun hk=>?_,fun hk=>?_,fun hk=>?_,fun hk=>?_,fun hk=>?_,fun hk=>?_⟩
 ·rcases hk with hk|hk<;>simp [hk] at h5<;>exact List.length_eq_one_iff.1 h5.1
 ·simp [hk] at h5;exact List.length_eq_one_iff.1 h5
 ·simp [hk] at h5;exact len2 h5
 ·rcases hk with hk|hk<;>simp [hk] at h5
  ·exact h5.1
  ·exact h5
 ·rcases h4 with h4|h4
  ·exact List.length_eq_zero_iff.1 h4
  ·exact absurd h4 hk
 ·rcases h3 with (h3|h3)|h3
  ·exact List.length_eq_zero_iff.1 h3
  ·exact absurd h3 hk.1
  ·exact absurd h3 hk.2
 ·by_cases a1:x.kind=1
  ·omega
  by_cases a9:x.kind=9
  ·omega
  by_cases a2:x.kind=2
  ·omega
  by_cases a3:x.kind=3
  ·omega
  by_cases a6:x.kind=6
  ·omega
  by_cases a7:x.kind=7
  ·omega
  by_cases a4:x.kind=4∨x.kind=5∨x.kind=8∨x.kind=10
  ·omega
  ·simp [a1,a9,a2,a3,a6,a7,a4] at h5
 ·simp [hk] at h5;exact h5.1
 ·rcases hk with hk|hk<;>simp [hk] at h5<;>exact List.length_eq_one_iff.1 h5.1
 ·rcases hk with hk|hk|hk|hk|hk<;>simp [hk] at h5<;>exact h5.2
 ·rcases h2 with h2|h2
  ·exact h2
  ·exact absurd h2 hk
 ·rcases h1 with h1|h1
  ·exact h1
  ·exact absurd h1 hk
 ·simp [hk] at h5;exact h5.2
def wPrm (s:WS) (x:Prm) (i:Nat):WS:=(wType x.type (if 0<i then s.put [[44]] else s)).name x.name
def wPrms:List Prm→Nat→WS→WS
 |[],_,s=>s
 |x::l,i,s=>wPrms l (i+1) (wPrm s x i)
def wHead (p:Prc) (s:WS):WS:=
 let s2:=(wPrms p.params 0 (((s.put [[112,114,111,99]]).name p.name).put [[40]])).put [[41]]
 if p.type=0 then s2 else wType p.type s2
def wProc (p:Prc) (s:WS):WS:=wBlock p.body 1 (wHead p s)
def wProcs:List Prc→WS→WS
 |[],s=>s
 |x::l,s=>wProcs l (wProc x s)
theorem zm1 (x:Prm):∀(l:List Prm) (i:Nat) (s:WS),wPrms (l++[x]) i s=wPrm (wPrms l i s) x (i+l.length)
 |[],_,_=>rfl
 |y::l,i,s=>by
  simp only [List.cons_append,wPrms,zm1 x l,Jy];rw [show i+1+l.length=i+(l.length+1) by omega]
theorem zl6 (x:Prc):∀(l:List Prc) (s:WS),wProcs (l++[x]) s=wProc x (wProcs l s)
 |[],_=>rfl
 |y::l,s=>by simp only [List.cons_append,wProcs,zl6 x l]
theorem ziv (t:Int) (s:WS):(wType t s).words.length=s.words.length+1:=by simp [wType,zaw,zcm]
theorem wPrm_len (s:WS) (x:Prm) (i:Nat):(wPrm s x i).words.length≤s.words.length+3:=by
 unfold wPrm;rw [zbi,ziv];split
 ·rw [zaw];simp
 ·omega
theorem zl5:∀(l:List Prm) (i:Nat) (s:WS),(wPrms l i s).words.length≤s.words.length+3*l.length
 |[],_,_=>by simp [wPrms]
 |x::l,i,s=>by
  have h1:=wPrm_len s x i;have h2:=zl5 l (i+1) (wPrm s x i);simp only [wPrms,Jy];omega
theorem zl3 (p:Prc) (s:WS):(wHead p s).words.length≤s.words.length+3*p.params.length+5:=by
 have h:=zl5 p.params 0 (((s.put [[112,114,111,99]]).name p.name).put [[40]]);rw [zaw,zbi,zaw] at h;unfold wHead;simp only [Jy,J9] at h;split
 ·rw [zaw];simp only [Jy,J9];omega
 ·rw [ziv,zaw];simp only [Jy,J9];omega
theorem zy8 (p:Prc) (s:WS):(wProc p s).words.length≤s.words.length+12*sizP p:=by
 have h1:=zl3 p s;have h2:=zm0 p.body 1 (wHead p s);unfold wProc sizP;omega
theorem zjr:∀(l:List Prc) (s:WS),(wProcs l s).words.length≤s.words.length+12*sizPs l
 |[],_=>by simp [wProcs,sizPs]
 |x::l,s=>by
  have h1:=zy8 x s;have h2:=zjr l (wProc x s);simp only [wProcs,sizPs];omega
abbrev Ws:=List (List UInt8)
structure Eff (f:WS→WS) (ok:Bool) (ws:Ws) (d:Nat):Prop where
 bad:∀s,s.bad=true→(f s).bad=true
 yes:∀s,s.bad=false→ok=true→f s=⟨s.words++ws,false,max s.most d⟩
 no:∀s,s.bad=false→ok=false→(f s).bad=true
theorem Eff.put (ws:Ws):Eff (fun s=>s.put ws) true ws 0:=⟨fun _ h=>h,fun s h _=>by simp only [WS.put,h,Nat.max_zero],fun _ _ h=>by cases h⟩
theorem Eff.need (ok:Bool):Eff (fun s=>s.need ok) ok [] 0:=⟨fun s h=>by simp [WS.need,h],fun s h e=>by simp [WS.need,h,e],fun s h e=>by simp [WS.need,h,e]⟩
theorem Eff.deep (d:Nat):Eff (fun s=>s.deep d) true [] d:=⟨fun _ h=>h,fun s h _=>by simp [WS.deep,h],fun _ _ h=>by cases h⟩
theorem Eff.id:Eff (fun s=>s) true [] 0:=⟨fun _ h=>h,fun s h _=>by cases s;simp at h;simp [h],fun _ _ h=>by cases h⟩
theorem Eff.seq {f g:WS→WS}{a b:Bool}{v w:Ws}{d e:Nat}(h:Eff f a v d) (k:Eff g b w e):Eff (fun s=>g (f s)) (a&&b) (v++w) (max d e):=by
 refine ⟨fun s hs=>k.bad _ (h.bad s hs),fun s hs hk=>?_,fun s hs hk=>?_⟩
 ·simp only [J8] at hk;have h1:=h.yes s hs hk.1;have h2:=k.yes (f s) (by rw [h1]) hk.2;rw [h2,h1];simp [Nat.max_assoc]
 ·cases ha:a with
  |false=>exact k.bad _ (h.no s hs ha)
  |true=>rw [ha,Bool.true_and] at hk;exact k.no _ (by rw [h.yes s hs ha]) hk
theorem Eff.guard {f g:WS→WS}{a b:Bool}{v w:Ws}{d e:Nat}(h:Eff f a v d) (k:Eff g b w e):Eff (fun s=>if (f s).bad=true then f s else g (f s)) (a&&b) (v++w) (max d e):=by
 refine ⟨fun s hs=>?_,fun s hs hk=>?_,fun s hs hk=>?_⟩
 ·rw [if_pos (h.bad s hs)];exact h.bad s hs
 ·have ha:a=true:=by simp only [J8] at hk;exact hk.1
  have h1:=h.yes s hs ha;rw [if_neg (by rw [h1];simp)];exact (h.seq k).yes s hs hk
 ·by_cases hb:(f s).bad=true
  ·rw [if_pos hb];exact hb
  ·rw [if_neg hb];exact (h.seq k).no s hs hk
theorem Eff.of {f g:WS→WS}{a b:Bool}{v w:Ws}{d e:Nat}(h:Eff f a v d) (hf:∀s,f s=g s) (ha:a=b) (hv:v=w) (hd:d=e):Eff g b w e:=by
 have:f=g:=funext hf;subst this ha hv hd;exact h
theorem Eff.name (n:List UInt8):Eff (fun s=>s.name n) (nameB n) [n] 0:=by
 exact Eff.of ((Eff.need (nameB n)).seq (Eff.put [n])) (fun _=>rfl) (by simp) (by simp) (by simp)
mutual
def okE:Exp→Bool
 |.mk k n z l=>plainE (.mk k n z l)&&(if k=3∨k=4 then nameB n else true)&&(if k=4∨k=5∨k=6 then okEs l else true)
def okEs:List Exp→Bool
 |[]=>true
 |x::l=>okE x&&okEs l
end
mutual
def wdE:Exp→Ws
 |.mk k n z l=>if k=1 then [textZ z] else if k=2 then [if z=1 then [116,114,117,101] else [102,97,108,115,101]] else if k=3 then [n] else if k=4 then [n,[91]]++wdE0 l++[[93]] else if k=5 then n::wdO0 l else if k=6 then wdO0 l++n::wdO1 l else []
def wdE0:List Exp→Ws
 |[]=>[]
 |x::_=>wdE x
def wdO0:List Exp→Ws
 |[]=>[]
 |x::_=>if x.kind=6 then [[40]]++wdE x++[[41]] else wdE x
def wdO1:List Exp→Ws
 |[]=>[]
 |_::l=>wdO0 l
end
def wdO (x:Exp):Ws:=if x.kind=6 then [[40]]++wdE x++[[41]] else wdE x
mutual
def dpE:Exp→Nat→Nat
 |.mk k _ _ l,d=>if k=4 then max d (dpE0 l (d+1)) else if k=5 then max d (max (d+1) (dpO0 l (d+1))) else if k=6 then max d (max (dpO0 l d) (dpO1 l d)) else d
def dpE0:List Exp→Nat→Nat
 |[],_=>0
 |x::_,d=>dpE x d
def dpO0:List Exp→Nat→Nat
 |[],_=>0
 |x::_,d=>if x.kind=6 then dpE x (d+1) else dpE x d
def dpO1:List Exp→Nat→Nat
 |[],_=>0
 |_::l,d=>dpO0 l d
end
def dpO (x:Exp) (d:Nat):Nat:=if x.kind=6 then dpE x (d+1) else dpE x d
theorem zrf {x:Exp}(h:∀d,Eff (wE x d) (okE x) (wdE x) (dpE x d)) (d:Nat):Eff (wOp x d) (okE x) (wdO x) (dpO x d):=by
 unfold wOp wdO dpO;by_cases e:x.kind=6
 ·simp only [if_pos e];exact (((Eff.put [[40]]).seq (h (d+1))).seq (Eff.put [[41]])).of (fun _=>rfl) (by simp) (by simp) (by simp)
 ·simp only [if_neg e];exact h d
theorem zj8 (k:Int) (n:List UInt8) (z:Int) (l:List Exp):formE (.mk k n z l)=(if k=1 then decide (0≤z)&&decide (l.length=0) else if k=2 then (decide (z=0)||decide (z=1))&&decide (l.length=0) else if k=3 then decide (l.length=0) else if k=4 then decide (l.length=1)
 else if k=5 then (decide (n=[45])||decide (n=[33]))&&decide (l.length=1) else if k=6 then decide (0<levB n)&&decide (l.length=2) else false):=rfl
def wE1 (kd:Int) (n:List UInt8) (z:Int) (l:List Exp) (d:Nat) (s:WS):WS:=
 if kd=1 then s.put [textZ z]
 else if kd=2 then s.put [if z=1 then [116,114,117,101] else [102,97,108,115,101]] else if kd=3 then s.name n
 else if kd=4 then (match l with|a::_=>(wE a (d+1) ((s.name n).put [[91]])).put [[93]]|[]=>s)
 else if kd=5 then (match l with|a::_=>wOp a (d+1) ((s.put [n]).deep (d+1))|[]=>s)
 else if kd=6 then (match l with|a::c::_=>wOp c d ((wOp a d s).put [n])|_=>s) else s
theorem wE_eq1 (k:Int) (n:List UInt8) (z:Int) (l:List Exp) (d:Nat) (s:WS):wE (.mk k n z l) d s=if ((s.deep d).need (plainE (.mk k n z l))).bad=true then (s.deep d).need (plainE (.mk k n z l)) else wE1 k n z l d ((s.deep d).need (plainE (.mk k n z l))):=zy4 k n z l d s
theorem wE_eff:∀(k:Nat) (x:Exp),szE x<k→∀d,Eff (wE x d) (okE x) (wdE x) (dpE x d)
 |0,_,h,_=>by omega
 |k+1,.mk kd n z l,h,d=>by
  have ih:=fun (a:Exp) (ha:a∈l)=>wE_eff k a (by have:=zha ha;simp only [szE] at h;omega);have hf:∀(b:Bool) (w:Ws) (e:Nat),Eff (wE1 kd n z l d) b w e→
   okE (.mk kd n z l)=(plainE (.mk kd n z l)&&b)→wdE (.mk kd n z l)=w→dpE (.mk kd n z l) d=max d e→Eff (wE (.mk kd n z l) d) (okE (.mk kd n z l)) (wdE (.mk kd n z l)) (dpE (.mk kd n z l) d):=by
   intro b w e hE h1 h2 h3;have h0:=((Eff.deep d).seq (Eff.need (plainE (.mk kd n z l)))).guard hE;exact h0.of (fun s=>(wE_eq1 kd n z l d s).symm) (by rw [h1];simp) (by rw [h2];simp) (by rw [h3];simp)
  by_cases hpl:plainE (.mk kd n z l)=true;rotate_left
  ·have hpl:plainE (.mk kd n z l)=false:=by simpa using hpl
   have hok:okE (.mk kd n z l)=false:=by simp [okE,hpl]
   have hb:∀s:WS,((s.deep d).need (plainE (.mk kd n z l))).bad=true:=fun s=>by simp [WS.need,hpl]
   rw [hok];exact ⟨fun s _=>by rw [zy4,if_pos (hb s)];exact hb s,fun _ _ h=>(by cases h),fun s _ _=>by rw [zy4,if_pos (hb s)];exact hb s⟩
  have hform:formE (.mk kd n z l)=true:=by simp only [plainE,J8] at hpl;exact hpl.2
  rw [zj8] at hform;by_cases e1:kd=1
  ·subst e1;exact hf true [textZ z] 0 ((Eff.put [textZ z]).of (fun s=>rfl) rfl rfl rfl) (by simp [okE]) (by simp [wdE]) (by simp [dpE])
  rw [if_neg e1] at hform;by_cases e2:kd=2
  ·subst e2;exact hf true _ 0 ((Eff.put [if z=1 then [116,114,117,101] else [102,97,108,115,101]]).of (fun s=>rfl) rfl rfl rfl) (by simp [okE]) (by simp [wdE]) (by simp [dpE])
  rw [if_neg e2] at hform;by_cases e3:kd=3
  ·subst e3;exact hf (nameB n) _ 0 ((Eff.name n).of (fun s=>rfl) rfl rfl rfl) (by simp [okE]) (by simp [wdE]) (by simp [dpE])
  rw [if_neg e3] at hform;by_cases e4:kd=4
  ·subst e4;obtain ⟨a,rfl⟩:∃a,l=[a]:=List.length_eq_one_iff.1 (of_decide_eq_true hform);exact hf _ _ _ (((((Eff.name n).seq (Eff.put [[91]])).seq (ih a (by simp) (d+1))).seq (Eff.put [[93]])).of (fun s=>rfl) rfl rfl rfl) (by simp [okE,okEs,Bool.and_assoc]) (by simp [wdE,wdE0]) (by simp [dpE,dpE0])
  rw [if_neg e4] at hform;by_cases e5:kd=5
  ·subst e5;obtain ⟨a,rfl⟩:∃a,l=[a]:=List.length_eq_one_iff.1 (by simp only [if_true,J8,Qj] at hform;exact hform.2);exact hf _ _ _ ((((Eff.put [n]).seq (Eff.deep (d+1))).seq (zrf (fun d=>ih a (by simp) d) (d+1))).of (fun s=>rfl) rfl rfl rfl) (by simp [okE,okEs]) (by simp [wdE,wdO0,wdO]) (by simp [dpE,dpO0,dpO])
  rw [if_neg e5] at hform;by_cases e6:kd=6
  ·subst e6;obtain ⟨a,c,rfl⟩:=len2 (l:=l) (by simp only [if_true,J8,Qj] at hform;exact hform.2);exact hf _ _ _ ((((zrf (fun d=>ih a (by simp) d) d).seq (Eff.put [n])).seq (zrf (fun d=>ih c (by simp) d) d)).of (fun s=>rfl) rfl rfl rfl) (by simp [okE,okEs]) (by simp [wdE,wdO0,wdO1,wdO]) (by simp [dpE,dpO0,dpO1,dpO])
  rw [if_neg e6] at hform;cases hform
theorem wE_eff' (x:Exp) (d:Nat):Eff (wE x d) (okE x) (wdE x) (dpE x d):=wE_eff (szE x+1) x (by omega) d
def wdEs:List Exp→Ws
 |[]=>[]
 |x::l=>wdE x++wdEs l
def dpEs (d:Nat):List Exp→Nat
 |[]=>0
 |x::l=>max (dpE x d) (dpEs d l)
theorem zy5 (d:Nat):∀l:List Exp,Eff (wEs d l) (okEs l) (wdEs l) (dpEs d l)
 |[]=>Eff.id.of (fun _=>rfl) (by simp [okEs]) rfl rfl
 |x::l=>((wE_eff' x d).seq (zy5 d l)).of (fun _=>rfl) (by simp [okEs]) rfl rfl
def wdAs:List Exp→Nat→Ws
 |[],_=>[]
 |x::l,i=>(if 0<i then [[44]] else [])++wdE x++wdAs l (i+1)
theorem zl0 (d:Nat):∀(l:List Exp) (i:Nat),Eff (wArgs d l i) (okEs l) (wdAs l i) (dpEs d l)
 |[],_=>Eff.id.of (fun _=>rfl) (by simp [okEs]) rfl rfl
 |x::l,i=>by
  by_cases h:0<i
  ·exact (((Eff.put [[44]]).seq (wE_eff' x d)).seq (zl0 d l (i+1))).of (fun s=>by simp [wArgs,wArg,h]) (by simp [okEs]) (by simp [wdAs,h]) (by simp [dpEs])
  ·exact ((wE_eff' x d).seq (zl0 d l (i+1))).of (fun s=>by simp [wArgs,wArg,h]) (by simp [okEs]) (by simp [wdAs,h]) (by simp [dpEs])
def wdL (l:List Exp):Ws:=[[40]]++wdAs l 0++[[41]]
theorem zy6 (l:List Exp) (d:Nat):Eff (wList l d) (okEs l) (wdL l) (dpEs d l):=
 (((Eff.put [[40]]).seq (zl0 d l 0)).seq (Eff.put [[41]])).of (fun _=>rfl) (by simp) rfl (by simp)
def wdDecl (x:Stm):Ws:=[118,97,114]::((if x.num = -1 then [[98,111,111,108]] else [])++x.name::(if 0<x.num then [[91],textZ x.num,[93]] else []))
theorem zy3 (x:Stm):Eff (wDecl x) (nameB x.name) (wdDecl x) 0:=by
 have h1:=Eff.put [[118,97,114]];have h2:=h1.seq (Eff.put [[98,111,111,108]]);have n:=Eff.name x.name;have h3:=Eff.put [[91],textZ x.num,[93]];unfold wDecl wdDecl;by_cases a:x.num = -1<;>by_cases b:0<x.num
 ·omega
 ·exact (h2.seq n).of (fun s=>by simp [a]) (by simp) (by simp [a]) (by simp)
 ·exact ((h1.seq n).seq h3).of (fun s=>by simp [a,b]) (by simp) (by simp [a,b]) (by simp)
 ·exact (h1.seq n).of (fun s=>by simp [a,b]) (by simp) (by simp [a,b]) (by simp)
mutual
def okS:Stm→Bool
 |.mk k n p z e b f=>fitsB (.mk k n p z e b f)&&(if k=1∨k=2∨k=3∨k=9 then nameB n else if k=6 then (decide (n=[])||nameB n)&&nameB p else true)&&okEs e&&okSs b&&okSs f
def okSs:List Stm→Bool
 |[]=>true
 |x::l=>okS x&&okSs l
end
def wdE1:List Exp→Ws
 |[]=>[]
 |_::l=>wdE0 l
mutual
def wdS:Stm→Ws
 |.mk k n p z e b f=>
  if k=4∨k=5 then [wordB k,[40]]++wdE0 e++[[41],[123]]++wdSs b++[[125]]++(if f.length=0 then [] else [[101,108,115,101],[123]]++wdSs f++[[125]])
  else if k=1 then wdDecl (.mk k n p z e b f)++[[59]]
  else if k=6 then (if n=[] then [] else [n,[61]])++[p]++wdL e++[[59]]
  else if k=2 then [n,[61]]++wdE0 e++[[59]]
  else if k=3 then [n,[91]]++wdE0 e++[[93],[61]]++wdE1 e++[[59]]
  else if k=9 then [[114,101,97,100],n,[59]]
  else [wordB k]++wdEs e++[[59]]
def wdSs:List Stm→Ws
 |[]=>[]
 |x::l=>wdS x++wdSs l
end
mutual
def dpS:Stm→Nat→Nat
 |.mk _ _ _ _ e b f,d=>max d (max (dpEs (d+1) e) (max (dpSs b (d+1)) (dpSs f (d+1))))
def dpSs:List Stm→Nat→Nat
 |[],_=>0
 |x::l,d=>max (dpS x d) (dpSs l d)
end
theorem zjp {l:List Stm}{d:Nat}(h:Eff (wSts l d) (okSs l) (wdSs l) (dpSs l d)):Eff (wBlock l d) (okSs l) ([[123]]++wdSs l++[[125]]) (dpSs l d):=
 (((Eff.put [[123]]).seq h).seq (Eff.put [[125]])).of (fun _=>rfl) (by simp) (by simp) (by simp)
mutual
theorem zrg:∀(x:Stm) (d:Nat),Eff (wSt x d) (okS x) (wdS x) (dpS x d)
 |.mk k n p z e b f,d=>by
  have hb:=zjp (zkm b (d+1));have hf:=zjp (zkm f (d+1));by_cases hfit:fitsB (.mk k n p z e b f)=true;rotate_left
  ·have hpl:fitsB (.mk k n p z e b f)=false:=by simpa using hfit
   have hok:okS (.mk k n p z e b f)=false:=by simp [okS,hpl]
   have hb:∀s:WS,((s.deep d).need (fitsB (.mk k n p z e b f))).bad=true:=fun s=>by simp [WS.need,hpl]
   rw [hok];exact ⟨fun s _=>by rw [zfn _ _ _ _ _ _ _ _ _ _ rfl,if_pos (hb s)];exact hb s,fun _ _ h=>(by cases h),fun s _ _=>by rw [zfn _ _ _ _ _ _ _ _ _ _ rfl,if_pos (hb s)];exact hb s⟩
  obtain ⟨f1,f2,f3,f4,f5,f6,f7,_⟩:=zfb hfit;simp only [Stm.kind,Stm.e,Stm.els,Stm.body] at f1 f2 f3 f4 f5 f6 f7;have hG:∀(g:WS→WS) (ok:Bool) (w:Ws) (m:Nat),(∀s,(if ((s.deep d).need (fitsB (.mk k n p z e b f))).bad=true then ((s.deep d).need (fitsB (.mk k n p z e b f))) else g ((s.deep d).need (fitsB (.mk k n p z e b f))))=wSt (.mk k n p z e b f) d s)→Eff g ok w m→
   okS (.mk k n p z e b f)=ok→wdS (.mk k n p z e b f)=w→dpS (.mk k n p z e b f) d=max d m→Eff (wSt (.mk k n p z e b f) d) (okS (.mk k n p z e b f)) (wdS (.mk k n p z e b f)) (dpS (.mk k n p z e b f) d):=by
   intro g ok w m hg hE h1 h2 h3;have h0:=((Eff.deep d).seq (Eff.need (fitsB (.mk k n p z e b f)))).guard hE;exact h0.of hg (by rw [h1,hfit];simp) (by rw [h2];simp) (by rw [h3];simp)
  by_cases k45:k=4∨k=5
  ·obtain ⟨a,rfl⟩:=f1 k45;have ha:=wE_eff' a (d+1);have hk1:¬(k=1∨k=2∨k=3∨k=9):=by omega
   have hk6:k≠6:=by omega
   by_cases hl:f.length=0
   ·have hl':f=[]:=List.length_eq_zero_iff.1 hl;subst hl';refine hG _ _ _ _ (fun s=>?_) ((((Eff.put [wordB k,[40]]).seq ha).seq (Eff.put [[41]])).seq hb) ?_ ?_ ?_
    ·rw [zfn _ _ _ _ _ _ _ _ _ _ rfl];simp [k45]
    ·simp [okS,hfit,hk1,hk6,okEs,okSs]
    ·simp [wdS,k45,wdE0]
    ·simp [dpS,dpEs,dpSs]
   ·refine hG _ _ _ _ (fun s=>?_) ((((((Eff.put [wordB k,[40]]).seq ha).seq (Eff.put [[41]])).seq hb).seq (Eff.put [[101,108,115,101]])).seq hf) ?_ ?_ ?_
    ·rw [zfn _ _ _ _ _ _ _ _ _ _ rfl];simp [k45,hl]
    ·simp [okS,hfit,hk1,hk6,okEs]
    ·simp [wdS,k45,wdE0,hl]
    ·simp [dpS,dpEs,Nat.max_assoc]
  have hb0:b=[]:=f6 (by omega);have hf0:f=[]:=f5 (by omega);subst hb0 hf0;by_cases k1:k=1
  ·subst k1;have he:e=[]:=f4 (.inl rfl);subst he;refine hG _ _ _ _ (fun s=>?_) ((zy3 (.mk 1 n p z [] [] [])).seq (Eff.put [[59]])) ?_ ?_ ?_
   ·rw [zfn _ _ _ _ _ _ _ _ _ _ rfl];simp
   ·simp [okS,hfit,okEs,okSs,Stm.name]
   ·simp [wdS]
   ·simp [dpS,dpEs,dpSs]
  by_cases k6:k=6
  ·subst k6;have hl:=zy6 e (d+1);by_cases hn:n=[]
   ·subst hn;refine hG _ _ _ _ (fun s=>?_) (((Eff.name p).seq hl).seq (Eff.put [[59]])) ?_ ?_ ?_
    ·rw [zfn _ _ _ _ _ _ _ _ _ _ rfl];simp
    ·simp [okS,hfit,okSs]
    ·simp [wdS]
    ·simp [dpS,dpSs]
   ·refine hG _ _ _ _ (fun s=>?_) (((((Eff.name n).seq (Eff.put [[61]])).seq (Eff.name p)).seq hl).seq (Eff.put [[59]])) ?_ ?_ ?_
    ·rw [zfn _ _ _ _ _ _ _ _ _ _ rfl];simp [hn]
    ·simp [okS,hfit,okSs,hn]
    ·simp [wdS,hn]
    ·simp [dpS,dpSs]
  by_cases k2:k=2
  ·subst k2;obtain ⟨a,rfl⟩:=f2 rfl;refine hG _ _ _ _ (fun s=>?_) ((((Eff.name n).seq (Eff.put [[61]])).seq (wE_eff' a (d+1))).seq (Eff.put [[59]])) ?_ ?_ ?_
   ·rw [zfn _ _ _ _ _ _ _ _ _ _ rfl];simp
   ·simp [okS,hfit,okEs,okSs]
   ·simp [wdS,wdE0]
   ·simp [dpS,dpEs,dpSs]
  by_cases k3:k=3
  ·subst k3;obtain ⟨a,c,rfl⟩:=f3 rfl;refine hG _ _ _ _ (fun s=>?_) (((((((Eff.name n).seq (Eff.put [[91]])).seq (wE_eff' a (d+1))).seq (Eff.put [[93]])).seq (Eff.put [[61]])).seq (wE_eff' c (d+1))).seq (Eff.put [[59]])) ?_ ?_ ?_
   ·rw [zfn _ _ _ _ _ _ _ _ _ _ rfl];simp
   ·simp [okS,hfit,okEs,okSs,Bool.and_assoc]
   ·simp [wdS,wdE0,wdE1]
   ·simp [dpS,dpEs,dpSs]
  by_cases k9:k=9
  ·subst k9;have he:e=[]:=f4 (.inr rfl);subst he;refine hG _ _ _ _ (fun s=>?_) (((Eff.put [[114,101,97,100]]).seq (Eff.name n)).seq (Eff.put [[59]])) ?_ ?_ ?_
   ·rw [zfn _ _ _ _ _ _ _ _ _ _ rfl];simp
   ·simp [okS,hfit,okEs,okSs]
   ·simp [wdS]
   ·simp [dpS,dpEs,dpSs]
  have hk1:¬(k=1∨k=2∨k=3∨k=9):=by omega
  refine hG _ _ _ _ (fun s=>?_) (((Eff.put [wordB k]).seq (zy5 (d+1) e)).seq (Eff.put [[59]])) ?_ ?_ ?_
  ·rw [zfn _ _ _ _ _ _ _ _ _ _ rfl];simp [k45,k1,k6,k2,k3,k9]
  ·simp [okS,hfit,okSs,k1,k6,k2,k3,k9]
  ·simp [wdS,k45,k1,k6,k2,k3,k9]
  ·simp [dpS,dpSs]
theorem zkm:∀(l:List Stm) (d:Nat),Eff (wSts l d) (okSs l) (wdSs l) (dpSs l d)
 |[],_=>Eff.id.of (fun _=>by simp [wSts]) (by simp [okSs]) (by simp [wdSs]) (by simp [dpSs])
 |x::l,d=>((zrg x d).seq (zkm l d)).of (fun _=>by simp [wSts]) (by simp [okSs]) (by simp [wdSs]) (by simp [dpSs])
end
def okT (t:Int):Bool:=decide (t=1)||decide (t=2)
def wdT (t:Int):List UInt8:=if t=1 then [105,110,116] else [98,111,111,108]
theorem zl7 (t:Int):Eff (wType t) (okT t) [wdT t] 0:=((Eff.need (okT t)).seq (Eff.put [wdT t])).of (fun _=>rfl) (by simp) (by simp) (by simp)
def okMs:List Prm→Bool
 |[]=>true
 |x::l=>okT x.type&&nameB x.name&&okMs l
def wdMs:List Prm→Nat→Ws
 |[],_=>[]
 |x::l,i=>(if 0<i then [[44]] else [])++[wdT x.type,x.name]++wdMs l (i+1)
theorem zl4:∀(l:List Prm) (i:Nat),Eff (wPrms l i) (okMs l) (wdMs l i) 0
 |[],_=>Eff.id.of (fun _=>rfl) rfl rfl rfl
 |x::l,i=>by
  have h1:=((zl7 x.type).seq (Eff.name x.name)).seq (zl4 l (i+1));by_cases h:0<i
  ·exact (((Eff.put [[44]]).seq ((zl7 x.type).seq (Eff.name x.name))).seq (zl4 l (i+1))).of (fun s=>by simp [wPrms,wPrm,h]) (by simp [okMs]) (by simp [wdMs,h]) (by simp)
  ·exact h1.of (fun s=>by simp [wPrms,wPrm,h]) (by simp [okMs]) (by simp [wdMs,h]) (by simp)
def okH (p:Prc):Bool:=nameB p.name&&okMs p.params&&(decide (p.type=0)||okT p.type)
def wdH (p:Prc):Ws:=[[112,114,111,99],p.name,[40]]++wdMs p.params 0++[[41]]++(if p.type=0 then [] else [wdT p.type])
theorem zl2 (p:Prc):Eff (wHead p) (okH p) (wdH p) 0:=by
 have h:=((((Eff.put [[112,114,111,99]]).seq (Eff.name p.name)).seq (Eff.put [[40]])).seq (zl4 p.params 0)).seq (Eff.put [[41]]);unfold wHead okH wdH;by_cases a:p.type=0
 ·exact h.of (fun s=>by simp [a]) (by simp [a]) (by simp [a]) (by simp)
 ·exact (h.seq (zl7 p.type)).of (fun s=>by simp [a]) (by simp [a]) (by simp [a]) (by simp)
def okP (p:Prc):Bool:=okH p&&okSs p.body
def wdP (p:Prc):Ws:=wdH p++[[123]]++wdSs p.body++[[125]]
theorem zy7 (p:Prc):Eff (wProc p) (okP p) (wdP p) (dpSs p.body 1):=
 ((zl2 p).seq (zjp (zkm p.body 1))).of (fun _=>rfl) rfl (by simp [wdP]) (by simp)
def okPs:List Prc→Bool
 |[]=>true
 |x::l=>okP x&&okPs l
def wdPs:List Prc→Ws
 |[]=>[]
 |x::l=>wdP x++wdPs l
def dpPs:List Prc→Nat
 |[]=>0
 |x::l=>max (dpSs x.body 1) (dpPs l)
theorem zjq:∀l:List Prc,Eff (wProcs l) (okPs l) (wdPs l) (dpPs l)
 |[]=>Eff.id.of (fun _=>rfl) rfl rfl rfl
 |x::l=>((zy7 x).seq (zjq l)).of (fun _=>rfl) rfl rfl rfl
set_option maxHeartbeats 0
instance ipl_148:PlF prog 148 ⟨0,true,7⟩:=⟨by kernel_rfl⟩
instance ize_148:ZeF prog 148 (.agg [.int .i64 0,.str 0 0,.str 0 0,.int .i64 0,.nils,.nils,.nils]):=⟨by kernel_rfl⟩
def v153h3:CV:=Jt [Jd 21 0,Jm 22 21,Jg 23 141 22 1,Jf 24 4 23] (.cond (Ja 24) (.ret) (.skip))
def v153k0h0:CV:=Jt [Jc 47 (.binOp .eql 3 (Ja 26) (Jb 4) 3),Jh 46 47] (.cond (Ja 46) (.skip) (.reg [Jc 48 (.binOp .eql 3 (Ja 26) (Jb 5) 3),Jh 46 48]))
def v153c1:CV:=Jt [Jd 76 0,Jc 77 (.buildSlice 40 1 #[(0,(.const (.string ⟨⟨[101,108,115,101]⟩⟩)))]),Jo 78 95 76 77 139 40] (.reg [Jd 79 0,Jg 80 148 4 6,Jf 81 67 80,Jd 82 2,Jc 83 (.binOp .add 3 (Ja 82) (Jb 1) 3),Jc 84 (.call ⟨.value (.func 98),#[(Ja 79),(Ja 81),(Ja 83)],#[139,67,3]⟩)])
def v153c0h4:CV:=Jt [Jg 72 148 4 6,Jf 73 67 72,Jj 74 73 67,Jc 75 (.binOp .gtr 3 (Ja 74) (Jb 0) 3)] (.cond (Ja 75) v153c1 (.skip))
def v153c0t4:CV:=.seq v153c0h4 (.ret)
def v153c0t3:CV:=Jt [Jd 66 0,Jg 67 148 4 5,Jf 68 67 67,Jd 69 2,Jc 70 (.binOp .add 3 (Ja 69) (Jb 1) 3),Jc 71 (.call ⟨.value (.func 98),#[(Ja 66),(Ja 68),(Ja 70)],#[139,67,3]⟩)] v153c0t4
def v153c0t2:CV:=Jt [Jd 63 0,Jc 64 (.buildSlice 40 1 #[(0,(.const (.string ⟨⟨[41]⟩⟩)))]),Jo 65 95 63 64 139 40] v153c0t3
def v153c0t1:CV:=Jt [Jd 55 0,Jg 56 148 4 4,Jf 57 146 56,Jc 58 (.indexAddr 146 (Ja 57) (Jb 0)),Jf 59 165 58,Jd 60 2,Jc 61 (.binOp .add 3 (Ja 60) (Jb 1) 3),Jc 62 (.call ⟨.value (.func 206),#[(Ja 55),(Ja 59),(Ja 61)],#[139,165,3]⟩)] v153c0t2
def v153c0:CV:=Jt [Jd 49 0,Jg 50 148 4 0,Jf 51 3 50,Jn 52 205 51 3,Jc 53 (.buildSlice 40 2 #[(0,(Ja 52)),(1,(.const (.string ⟨⟨[40]⟩⟩)))]),Jo 54 95 49 53 139 40] v153c0t1
def v153c5:CV:=Jt [Jd 95 0,Jg 96 148 4 1,Jf 97 9 96,Jo 98 96 95 97 139 9] (.reg [Jd 99 0,Jc 100 (.buildSlice 40 1 #[(0,(.const (.string ⟨⟨[61]⟩⟩)))]),Jo 101 95 99 100 139 40])
def v153c4h0:CV:=Jt [Jg 92 148 4 1,Jf 93 9 92,Jc 94 (.binOp .neq 9 (Ja 93) (.const (.string ⟨⟨[]⟩⟩)) 9)] (.cond (Ja 94) v153c5 (.skip))
def v153c4t1:CV:=Jt [Jd 102 0,Jg 103 148 4 2,Jf 104 9 103,Jo 105 96 102 104 139 9] (.reg [Jd 106 0,Jg 107 148 4 4,Jf 108 146 107,Jd 109 2,Jc 110 (.binOp .add 3 (Ja 109) (Jb 1) 3),Jc 111 (.call ⟨.value (.func 208),#[(Ja 106),(Ja 108),(Ja 110)],#[139,146,3]⟩)])
def v153c4:CV:=.seq v153c4h0 v153c4t1
def v153c6h0:CV:=Jt [Jc 113 (.binOp .eql 3 (Ja 26) (Jb 2) 3),Jh 112 113] (.cond (Ja 112) (.skip) (.reg [Jc 114 (.binOp .eql 3 (Ja 26) (Jb 3) 3),Jh 112 114]))
def v153c8t1:CV:=Jt [Jd 125 0,Jg 126 148 4 4,Jf 127 146 126,Jc 128 (.indexAddr 146 (Ja 127) (Jb 0)),Jf 129 165 128,Jd 130 2,Jc 131 (.binOp .add 3 (Ja 130) (Jb 1) 3),Jc 132 (.call ⟨.value (.func 206),#[(Ja 125),(Ja 129),(Ja 131)],#[139,165,3]⟩)] (.reg [Jd 133 0,Jc 134 (.buildSlice 40 1 #[(0,(.const (.string ⟨⟨[93]⟩⟩)))]),Jo 135 95 133 134 139 40])
def v153c8:CV:=Jt [Jd 122 0,Jc 123 (.buildSlice 40 1 #[(0,(.const (.string ⟨⟨[91]⟩⟩)))]),Jo 124 95 122 123 139 40] v153c8t1
def v153c7h1:CV:=Jt [Jg 119 148 4 0,Jf 120 3 119,Jc 121 (.binOp .eql 3 (Ja 120) (Jb 3) 3)] (.cond (Ja 121) v153c8 (.skip))
def v153c7t2:CV:=Jt [Jd 136 0,Jc 137 (.buildSlice 40 1 #[(0,(.const (.string ⟨⟨[61]⟩⟩)))]),Jo 138 95 136 137 139 40] (.reg [Jd 139 0,Jg 140 148 4 4,Jf 141 146 140,Jg 142 148 4 4,Jf 143 146 142,Jj 144 143 146,Jc 145 (.binOp .sub 3 (Ja 144) (Jb 1) 3),Jk 146 146 141 145,Jf 147 165 146,Jd 148 2,Jc 149 (.binOp .add 3 (Ja 148) (Jb 1) 3),Jc 150 (.call ⟨.value (.func 206),#[(Ja 139),(Ja 147),(Ja 149)],#[139,165,3]⟩)])
def v153c7t1:CV:=.seq v153c7h1 v153c7t2
def v153c7:CV:=Jt [Jd 115 0,Jg 116 148 4 1,Jf 117 9 116,Jo 118 96 115 117 139 9] v153c7t1
def v153c10:CV:=Jt [Jd 153 0,Jc 154 (.buildSlice 40 1 #[(0,(.const (.string ⟨⟨[114,101,97,100]⟩⟩)))]),Jo 155 95 153 154 139 40] (.reg [Jd 156 0,Jg 157 148 4 1,Jf 158 9 157,Jo 159 96 156 158 139 9])
def v153k1:CV:=Jt [Jk 38 146 34 36,Jf 39 165 38,Jc 7 (.alloc 165),.op none (.store 165 (Ja 7) (Ja 39))] (.reg [Jd 40 0,Jf 41 165 7,Jd 42 2,Jc 43 (.binOp .add 3 (Ja 42) (Jb 1) 3),Jc 44 (.call ⟨.value (.func 206),#[(Ja 40),(Ja 41),(Ja 43)],#[139,165,3]⟩)])
def v153l12t2:CV:=.seq (.block 2 v153k1) (.reg [Jc 45 (.binOp .add 3 (Ja 36) (Jb 1) 3),Jd 36 45])
def v153l12t1:CV:=.seq (.cond (Ja 37) (.skip) (.exit 1)) v153l12t2
def v153l12:CV:=Jt [Jc 37 (.binOp .lss 3 (Ja 36) (Ja 35) 3)] v153l12t1
def v153c11t1:CV:=Jt [Jg 33 148 4 4,Jf 34 146 33,Jj 35 34 146,Je 36 0] (.block 1 (.loop v153l12))
def v153c11:CV:=Jt [Jd 27 0,Jg 28 148 4 0,Jf 29 3 28,Jn 30 205 29 3,Jc 31 (.buildSlice 40 1 #[(0,(Ja 30))]),Jo 32 95 27 31 139 40] v153c11t1
def v153c9:CV:=Jt [Jc 152 (.binOp .eql 3 (Ja 26) (Jb 9) 3),Jh 151 152] (.cond (Ja 151) v153c10 v153c11)
def v153c6:CV:=.seq v153c6h0 (.cond (Ja 112) v153c7 v153c9)
def v153c3:CV:=Jt [Jc 91 (.binOp .eql 3 (Ja 26) (Jb 6) 3),Jh 90 91] (.cond (Ja 90) v153c4 v153c6)
def v153c2:CV:=Jt [Jc 86 (.binOp .eql 3 (Ja 26) (Jb 1) 3),Jh 85 86] (.cond (Ja 85) (.reg [Jd 87 0,Jf 88 148 4,Jo 89 207 87 88 139 148]) v153c3)
def v153k0:CV:=.seq v153k0h0 (.cond (Ja 46) v153c0 v153c2)
def v153h4:CV:=Jt [Jg 25 148 4 0,Jf 26 3 25] (.block 0 v153k0)
def v153t4:CV:=.seq v153h4 (.reg [Jd 160 0,Jc 161 (.buildSlice 40 1 #[(0,(.const (.string ⟨⟨[59]⟩⟩)))]),Jo 162 95 160 161 139 40])
def v153t3:CV:=.seq v153h3 v153t4
def v153t2:CV:=Jt [Jd 17 0,Jf 18 148 4,Jn 19 204 18 148,Jo 20 151 17 19 139 4] v153t3
def v153t1:CV:=Jt [Jd 8 0,Jd 9 0,Jm 10 9,Jg 11 141 10 2,Jf 12 3 11,Jd 13 2,Jc 14 (.call ⟨.builtin .max,#[(Ja 12),(Ja 13)],#[3,3]⟩),Jm 15 8,Jg 16 141 15 2,.op none (.store 3 (Ja 16) (Ja 14))] v153t2
def v153:CV:=Jt [Jc 4 (.box 148 (Ja 1))] v153t1
noncomputable def b153:Code:=f153.body.getD .skip
theorem b153_eq:f153.body=some b153:=by kernel_rfl
theorem v153_eq:viewC prog b153=some v153:=by kernel_rfl
theorem r153_eq:f153.results.toList=[]:=by kernel_rfl
def v98k0:CV:=Jt [Jk 15 67 11 13,Jf 16 148 15,Jc 7 (.alloc 148),.op none (.store 148 (Ja 7) (Ja 16))] (.reg [Jd 17 0,Jf 18 148 7,Jd 19 2,Jc 20 (.call ⟨.value (.func 153),#[(Ja 17),(Ja 18),(Ja 19)],#[139,148,3]⟩)])
def v98l0t2:CV:=.seq (.block 1 v98k0) (.reg [Jc 21 (.binOp .add 3 (Ja 13) (Jb 1) 3),Jd 13 21])
def v98l0t1:CV:=.seq (.cond (Ja 14) (.skip) (.exit 0)) v98l0t2
def v98l0:CV:=Jt [Jc 14 (.binOp .lss 3 (Ja 13) (Ja 12) 3)] v98l0t1
def v98h1:CV:=Jt [Jd 11 1,Jj 12 11 67,Je 13 0] (.block 0 (.loop v98l0))
def v98t1:CV:=.seq v98h1 (.reg [Jd 22 0,Jc 23 (.buildSlice 40 1 #[(0,(.const (.string ⟨⟨[125]⟩⟩)))]),Jo 24 95 22 23 139 40])
def v98:CV:=Jt [Jd 8 0,Jc 9 (.buildSlice 40 1 #[(0,(.const (.string ⟨⟨[123]⟩⟩)))]),Jo 10 95 8 9 139 40] v98t1
noncomputable def b98:Code:=f98.body.getD .skip
theorem b98_eq:f98.body=some b98:=by kernel_rfl
theorem v98_eq:viewC prog b98=some v98:=by kernel_rfl
theorem r98_eq:f98.results.toList=[]:=by kernel_rfl
mutual
theorem zlu:∀x:Exp,szE x+1≤2*sizE x
 |.mk k n z l=>by have:=zrb l;simp only [szE,sizE];omega
theorem zrb:∀l:List Exp,szEs l≤2*sizEs l
 |[]=>by simp [szEs]
 |x::l=>by have:=zlu x;have:=zrb l;simp only [szEs,sizEs];omega
end
section
variable {tb:List FuncId}{gl:List (List AV)}{A:Nat→Prop}{H:Heap}{u v w:AV}{b:Nat}{s:WS}{Q:AV→Heap→Prop}
theorem zb2 {α:Type}{A:Nat→Prop}{R:Heap→List AV→α→Prop}{z:Nat}{H:Heap}{v:AV}{xs:List α}(h:IsLs A R z H v xs):Eng.scal v=true:=by
 obtain ⟨els,⟨_,⟨rfl|⟨a,rfl⟩,_⟩|⟨b,o,row,tl,ro,⟨rfl,_⟩|⟨c,rfl,_⟩,_⟩⟩,_⟩:=h<;>rfl
theorem zg0 {c:List AV}{e:Stm}(h:IsS A H c e):scalL c=true:=by
 obtain ⟨v1,v2,v3,rfl,_,_,_,_,_,_,_,h1,h2,h3⟩:=h.out;have a1:=zb2 h1;have a2:=zb2 h2;have a3:=zb2 h3;refine zdq fun v hv=>?_;simp only [List.mem_cons,List.not_mem_nil,or_false] at hv;rcases hv with rfl|rfl|rfl|rfl|rfl|rfl|rfl<;>first|assumption|rfl
def StmtOK (tb:List FuncId) (gl:List (List AV)) (k:Nat):Prop:=∀(A:Nat→Prop) (x:Stm) (c:List AV) (d b:Nat) (H:Heap) (u:AV) (s:WS) (Q:AV→Heap→Prop),szS x<k→IsS A H c x→(∀a,A a→Off b H u a)→KeysIn H→Wr b H u s→d+2*sizS x<1000000→s.words.length+12*sizS x<1000000→
 (∀u' H',Wk b H u H' u'→Wr b H' u' (wSt x d s)→Q (.tup []) H')→WpF prog tb gl 153 [.ptr b 0,.agg c,.int .i64 (d:Int)] H Q
theorem zm9 {k d:Nat}(ih:StmtOK tb gl k) {l:List Stm}(hk:szSs l≤k) (hL:IsLs A (IsS A) 7 H v l) (hA:∀a,A a→Off b H u a) (hK:KeysIn H) (hW:Wr b H u s) (hd:d+2*sizSs l<1000000) (hl:s.words.length+12*sizSs l+2<1000000) (hll:l.length≤rB)
  (hQ:∀u' H',Wk b H u H' u'→Wr b H' u' (wBlock l d s)→Q (.tup []) H'):WpF prog tb gl 98 [.ptr b 0,v,.int .i64 (d:Int)] H Q:=by
 have hrB:rB=140737488351232:=rfl;refine fa func98 b98_eq v98_eq r98_eq (.inr (by simp)) ?_;refine zac ?_;refine zad rfl ?_;refine zaa (zap (n:=1) ElF.h (by decide) rfl rfl fun Hp2 hp2 rp2=>?_);refine zaa (zaf rfl rfl rfl (zce (ws:=[[123]]) (hW.keep0 hp2) (IsRow.sl (es:=1) (n:=1) rp2 rfl (Jz 1)) (by simp only [Jy,J9];omega) fun u2 H2 k2 W2=>?_));replace k2:=(Wk.of hp2).trans k2;obtain ⟨els,hsl,_⟩:=zbe (k2.stms hA hL);refine zab (zaj (zac ?_));refine zad rfl ?_;refine zaa (za3 rfl rfl rfl UnF.h rfl hsl ?_);refine zad rfl ?_;refine zab (zau ?_);refine zbv (fun (i:Nat)=>[(0,.ptr b 0),(2,.int .i64 (d:Int)),(11,v),(12,.int .i64 (l.length:Int)),(13,.int .i64 (i:Int))]) (fun i H'=>i≤l.length∧∃u',Wk b H u H' u'∧Wr b H' u' (wSts (l.take i) d (s.put [[123]]))) (fun i=>l.length-i) ?_ 0 _ H2 ⟨rfl,rfl,rfl,rfl,rfl,trivial⟩ ⟨Nat.zero_le _,u2,k2,by simpa [wSts] using W2⟩;rintro i H3 ⟨hle,u3,kk3,W3⟩;have hlen:=ziu (l.take i) d (s.put [[123]]);have htk:=zfk l i;rw [zaw] at hlen;simp only [Qc] at hlen;refine zac ?_;by_cases hi:i<l.length;rotate_left
 ·refine zaa (zck rfl rfl (Qf (by omega)) (zab (zaj (zag rfl (zbq (za1 ?_))))));rw [Qd (by omega)] at W3 hlen;refine zad rfl ?_;refine zaa (zap (n:=1) ElF.h (by decide) rfl rfl fun Hp5 hp5 rp5=>?_);refine zaa (zaf rfl rfl rfl (zce (ws:=[[125]]) (W3.keep0 hp5) (IsRow.sl (es:=1) (n:=1) rp5 rfl (Jz 1)) (by simp only [Jy,J9];omega) fun u5 H5 k5 W5=>?_));replace k5:=(Wk.of hp5).trans k5;exact zab ⟨_,rfl,hQ u5 H5 (kk3.trans k5) W5⟩
 obtain ⟨x,hx⟩:∃x,l[i]? = some x:=⟨_,Qa hi⟩
 refine zaa (zck rfl rfl (Qg (by omega)) (zab (zaj (zai rfl (zam (zaj (zau (zac ?_))))))));obtain ⟨els3,hsl3,hel3⟩:=zbe (kk3.stms hA hL);obtain ⟨cx,hcx,hEx⟩:=hel3 i x hx;have hcx7:cx.length=7:=by obtain ⟨_,_,_,h,_⟩:=hEx.out;rw [h];rfl
 have hsx:szS x<szSs l∧sizSs (l.take i)+sizS x≤sizSs l:=by
  refine ⟨zhb (Qe hx),?_⟩;have:=zfk l (i+1);rw [zbs hx,zg8] at this;exact this
 refine zad rfl ?_;refine zaa (za9 UnF.h SzF.h rfl hsl3 rfl rfl hi fun q0 hq0=>?_);rw [hcx] at hq0;refine zaa (zat (k:=7) PlF.h hcx7 (by decide) rfl hq0 ?_);refine zaa (za8 ZeF.h fun H4 hk4 hr4=>?_);refine zad rfl ?_;obtain ⟨bx,hbx⟩:∃b,b=H3.nx:=⟨_,rfl⟩
 have hoff:Off b H4 u3 bx:=by
  have:=hr4.1;rw [hbx];exact W3.fresh this
 rw [←hbx] at hr4 ⊢;refine zaa (zan (k:=7) SzF.h hcx7 rfl rfl (zg0 hEx) hr4 hcx7 fun H5 hk5 hn5 hr5=>?_);have hk35:Keep Non H3 H5:=(hk4.trans hk5 fun c hc=>.inr (by rw [hc,hbx];exact Jz _)).wide fun _ h=>h;have W5:=W3.keep0 hk35;have kk5:Wk b H u H5 u3:=kk3.trans (.of hk35);have hE5:=hEx.keep hk35;refine zab (za1 ?_);refine zad rfl ?_;refine zaa (zat (k:=7) PlF.h hcx7 (by decide) rfl hr5.pts ?_);refine zad rfl ?_;refine zaa (zaf rfl rfl rfl (ih A x cx d b H5 u3 _ _ (by omega) hE5 (fun a ha=>kk5.off (hA a ha)) (hK.keep kk5.keep) W5 (by omega) (by omega) fun u7 H7 k7 W7=>?_));refine zab (za1 ?_);refine zaa (zaz (c:=((i+1:Nat):Int)) rfl rfl Ju ?_);refine zad rfl ?_;refine zab ⟨i+1,?_,⟨rfl,rfl,rfl,rfl,rfl,trivial⟩,by omega,u7,kk5.trans k7,?_⟩
 ·show l.length-(i+1)<l.length-i;omega
 ·rw [zbs hx,zp7];exact W7
theorem zyp:∀k,StmtOK tb gl k
 |0=>fun _ _ _ _ _ _ _ _ _ h=>by omega
 |k+1=>by
  intro A x c d b H u s Q hk hE hA hK hW hd hl hQ;have ih:StmtOK tb gl k:=zyp k;have hrB:rB=140737488351232:=rfl;obtain ⟨ve,vb,vf,hc,hkd,hnu,hnl,hpl,hll,hbl,hfl,hLe,hLb,hLf⟩:=hE.out;have hc7:c.length=7:=by rw [hc];rfl
  have hsz:=zq9 x;have hszS:szS x=szSs x.body+szSs x.els+1:=by cases x;simp only [szS];rfl
  refine fa func153 b153_eq v153_eq r153_eq (.inr (by simp)) ?_;refine zac ?_;refine zaa (zcy rfl fun H1 hk1 hr1=>?_);have hW1:=hW.keep0 hk1;obtain ⟨bx,hbx⟩:∃b,b=H.nx:=⟨_,rfl⟩
  have hoff:Off b H1 u bx:=by
   have:=hr1.1;rw [hbx];exact hW.fresh this
  rw [←hbx] at hr1 ⊢;have hr1:IsRow H1 bx c false false:=hr1;have hE1:=hE.keep hk1;have hA1:∀a,A a→Off b H1 u a:=fun a ha=>(Wk.of hk1).off (hA a ha);refine zab (zac ?_)
  -- how deep
  refine zad rfl ?_;(repeat ((refine zaa ?_;first|refine zar rfl ?_|refine zae FpF.h (by decide) rfl ?_|refine zah PlF.h rfl hW1.row rfl ?_);refine zad rfl ?_));refine zaa (zq0 (m:=((max s.most d:Nat):Int)) rfl rfl rfl rfl (by omega) ?_);refine zad rfl ?_;(repeat ((refine zaa ?_;first|refine zar rfl ?_|refine zae FpF.h (by decide) rfl ?_);refine zad rfl ?_));refine zaa (zbu SzF.h rfl rfl rfl hW1.row (by simp) fun H2 hk2 hn2 hr2=>?_);have k2:Wk b H1 u H2 u:=⟨hk2.wide fun c hc=>Or.inl hc,fun c hc=>.inl hc⟩
  have W2:Wr b H2 u (s.deep d):=⟨hr2,hW1.own.keep hk2 fun c hc h=>hW1.ne (h▸hc),hW1.ne⟩
  refine zab (zac ?_);refine zad rfl ?_;refine zaa (zat (k:=7) PlF.h hc7 (by decide) rfl (k2.row hoff hr1).pts ?_);refine zaa (zaf rfl rfl rfl (fits_ok (k2.stm hA1 hE1) fun H3 hk3=>?_));refine zaa (zaf rfl rfl rfl (zhw (W2.keep0 hk3) fun H4 k4 W4=>?_));have kk:Wk b H u H4 u:=(Wk.of hk1).trans (k2.trans ((Wk.of hk3).trans k4));have kk1:Wk b H1 u H4 u:=k2.trans ((Wk.of hk3).trans k4);obtain ⟨s1,hs1⟩:∃s1,s1=(s.deep d).need (fitsB x):=⟨_,rfl⟩
  rw [←hs1] at W4;have hl1:s1.words.length=s.words.length:=by rw [hs1];rfl
  have hoff4:=kk1.off hoff;have hrc:=kk1.row hoff hr1;have hr4:IsRow H4 bx [.int .i64 x.kind,S x.name,S x.proc,.int .i64 x.num,ve,vb,vf] false false:=hc▸hrc;have hE4:=kk.stm hA hE;have hA4:∀a,A a→Off b H4 u a:=fun a ha=>kk.off (hA a ha);have hK4:=hK.keep kk.keep;refine zab (zaj (zac ?_));rw [wSt_at x d s s1 hs1] at hQ;have hW4r:=W4.row;cases hbad:s1.bad with
  |true=>
   rw [if_pos hbad] at hQ;rw [hbad] at hW4r;refine zad rfl ?_;(repeat ((refine zaa ?_;first|refine zar rfl ?_|refine zae FpF.h (by decide) rfl ?_|refine zah PlF.h rfl hW4r rfl ?_);refine zad rfl ?_));exact zab (zai rfl (zao ⟨_,rfl,hQ u H4 kk W4⟩))
  |false=>
  rw [if_neg (by rw [hbad];simp)] at hQ;rw [hbad] at hW4r;refine zad rfl ?_;(repeat ((refine zaa ?_;first|refine zar rfl ?_|refine zae FpF.h (by decide) rfl ?_|refine zah PlF.h rfl hW4r rfl ?_);refine zad rfl ?_));refine zab (zag rfl (zam (zaj (zac ?_))));have hfit:fitsB x=true:=by
   have h:(s.bad || !fitsB x)=false:=by rw [←hbad,hs1];rfl
   simp only [Bool.or_eq_false_iff,Bool.not_eq_false'] at h;exact h.2
  obtain ⟨f45,f2,f3,_⟩:=zfb hfit;refine zad rfl ?_;(repeat ((refine zaa ?_;first|refine zae FpF.h (by decide) rfl ?_|refine zah PlF.h rfl hr4 rfl ?_);refine zad rfl ?_));refine zab (zau (zaj (zac ?_)))
  -- the end
  have fin:∀(l':Fm) (H':Heap) (u':AV) (s':WS),lk 0 l'=some (.ptr b 0)→Wk b H4 u H' u'→Wr b H' u' s'→s'.words.length+1<1000000→(∀u'' H'',Wk b H u H'' u''→Wr b H'' u'' (s'.put [[59]])→Q (.tup []) H'')→
    VA prog tb gl (.reg [.op (some 160) (.move (.tmp 0)),.op (some 161) (.buildSlice 40 1 #[(0,(.const (.string ⟨⟨[59]⟩⟩)))]),.op (some 162) (.call ⟨.value (.func 95),#[(.tmp 160),(.tmp 161)],#[139,40]⟩)]) l' H' (leftA [] Q):=by
   intro l' H' u' s' h0 hk' hW' hn hq;refine VA.sub (l0:=[(0,.ptr b 0)]) ⟨h0,trivial⟩ (za1 ?_);refine zad rfl ?_;refine zaa (zap (n:=1) ElF.h (by decide) rfl rfl fun Hp7 hp7 rp7=>?_);refine zaa (zaf rfl rfl rfl (zce (ws:=[[59]]) (hW'.keep0 hp7) (IsRow.sl (es:=1) (n:=1) rp7 rfl (Jz 1)) (by simp only [Jy,J9];omega) fun u7 H7 k7 W7=>?_));replace k7:=(Wk.of hp7).trans k7;exact zab ⟨_,rfl,hq u7 H7 (kk.trans (hk'.trans k7)) W7⟩
  by_cases e45:x.kind=4∨x.kind=5
  ·rw [if_pos e45] at hQ;obtain ⟨a,hxa⟩:=f45 e45;simp only [hxa] at hQ;have hsa:sizE a+sizSs x.body+sizSs x.els+1≤sizS x:=by
    rw [hxa] at hsz;simp only [sizEs] at hsz;omega
   have hsa2:=zlu a;have branch:∀l',lk 0 l'=some (.ptr b 0)→lk 2 l'=some (.int .i64 (d:Int))→lk 4 l'=some (.ptr bx 0)→∀Q',Q' Ex.ret=leftA [] Q Ex.ret→VA prog tb gl v153c0 l' H4 Q':=by
    intro l' g0 g2 g4 Q' hQ';refine VA.sub (l0:=[(0,.ptr b 0),(2,.int .i64 (d:Int)),(4,.ptr bx 0)]) ⟨g0,g2,g4,trivial⟩ (zac ?_);refine zad rfl ?_;(repeat ((refine zaa ?_;first|refine zae FpF.h (by decide) rfl ?_|refine zah PlF.h rfl hr4 rfl ?_);refine zad rfl ?_));refine zaa (zaf rfl rfl rfl (zzn x.kind ?_));refine zad rfl ?_;refine zaa (zap (n:=2) ElF.h (by decide) rfl rfl fun Hp5 hp5 rp5=>?_);refine zaa (zaf rfl rfl rfl (zce (ws:=[wordB x.kind,[40]]) (W4.keep0 hp5) (IsRow.sl (es:=1) (n:=2) rp5 rfl (Jz 2)) (by simp only [Jy,J9];omega) fun u5 H5 k5 W5=>?_));replace k5:=(Wk.of hp5).trans k5;have hr5:=k5.row hoff4 hr4;obtain ⟨els,hsl,hel⟩:=zbe ((kk.trans k5).exps hA hLe);obtain ⟨ca,hca,hEa⟩:=hel 0 a (by rw [hxa];rfl);have hca4:ca.length=4:=by obtain ⟨_,h,_⟩:=hEa.out;rw [h];rfl
    refine zab (zac ?_);refine zad rfl ?_;(repeat ((refine zaa ?_;first|refine zae FpF.h (by decide) rfl ?_|refine zah PlF.h rfl hr5 rfl ?_);refine zad rfl ?_));refine zaa (za9 (j:=0) UnF.h SzF.h rfl hsl rfl rfl (by rw [hxa];simp) fun q0 hq0=>?_);rw [hca] at hq0;refine zaa (zat (k:=4) PlF.h hca4 (by decide) rfl hq0 ?_);refine zad rfl ?_;refine zaa (zaz (c:=((d+1:Nat):Int)) rfl rfl Ju ?_);refine zaa (zaf rfl rfl rfl (zgb (szE a+1) A a ca (d+1) b H5 u5 _ _ (by omega) hEa (fun a ha=>(kk.trans k5).off (hA a ha)) (hK4.keep k5.keep) W5 (by omega) (by rw [zaw];simp only [Jy,J9];omega) fun u6 H6 k6 W6=>?_));have hlen6:=wE_len' a (d+1) (s1.put [wordB x.kind,[40]]);rw [zaw] at hlen6;simp only [Jy,J9] at hlen6;refine zab (zac ?_);refine zad rfl ?_;refine zaa (zap (n:=1) ElF.h (by decide) rfl rfl fun Hp7 hp7 rp7=>?_);refine zaa (zaf rfl rfl rfl (zce (ws:=[[41]]) (W6.keep0 hp7) (IsRow.sl (es:=1) (n:=1) rp7 rfl (Jz 1)) (by simp only [Jy,J9];omega) fun u7 H7 k7 W7=>?_));replace k7:=(Wk.of hp7).trans k7;have k47:=k5.trans (k6.trans k7);have hr7:=k47.row hoff4 hr4;refine zab (zac ?_);refine zad rfl ?_;(repeat ((refine zaa ?_;first|refine zae FpF.h (by decide) rfl ?_|refine zah PlF.h rfl hr7 rfl ?_);refine zad rfl ?_));refine zaa (zaz (c:=((d+1:Nat):Int)) rfl rfl Ju ?_);refine zaa (zaf rfl rfl rfl (zm9 (d:=d+1) ih (by omega) ((kk.trans k47).stms hA hLb) (fun a ha=>(kk.trans k47).off (hA a ha)) (hK4.keep k47.keep) W7 (by omega) (by rw [zaw];simp only [Jy,J9];omega) hbl fun u8 H8 k8 W8=>?_));have k48:=k47.trans k8;have hr8:=k48.row hoff4 hr4;obtain ⟨els8,hsl8,_⟩:=zbe ((kk.trans k48).stms hA hLf);have hlen8:=zm0 x.body (d+1) ((wE a (d+1) (s1.put [wordB x.kind,[40]])).put [[41]]);rw [zaw] at hlen8;simp only [Jy,J9] at hlen8;refine zab (zaj (zac ?_));refine zad rfl ?_;(repeat ((refine zaa ?_;first|refine zae FpF.h (by decide) rfl ?_|refine zah PlF.h rfl hr8 rfl ?_|refine za3 rfl rfl rfl UnF.h rfl hsl8 ?_);refine zad rfl ?_));by_cases e0:x.els.length=0
    ·rw [if_pos e0] at hQ;refine zaa (zd1 rfl rfl (by omega) (zab (zag rfl (zam (zao ?_)))));rw [hQ'];exact ⟨_,rfl,hQ u8 H8 (kk.trans k48) W8⟩
    ·rw [if_neg e0] at hQ;refine zaa (zcn rfl rfl (by omega) (zab (zai rfl (zac ?_))));refine zad rfl ?_;refine zaa (zap (n:=1) ElF.h (by decide) rfl rfl fun Hp9 hp9 rp9=>?_);refine zaa (zaf rfl rfl rfl (zce (ws:=[[101,108,115,101]]) (W8.keep0 hp9) (IsRow.sl (es:=1) (n:=1) rp9 rfl (Jz 1)) (by simp only [Jy,J9];omega) fun u9 H9 k9 W9=>?_));replace k9:=(Wk.of hp9).trans k9;have k49:=k48.trans k9;have hr9:=k49.row hoff4 hr4;refine zab (za1 ?_);refine zad rfl ?_;(repeat ((refine zaa ?_;first|refine zae FpF.h (by decide) rfl ?_|refine zah PlF.h rfl hr9 rfl ?_);refine zad rfl ?_));refine zaa (zaz (c:=((d+1:Nat):Int)) rfl rfl Ju ?_);refine zaa (zaf rfl rfl rfl (zm9 (d:=d+1) ih (by omega) ((kk.trans k49).stms hA hLf) (fun a ha=>(kk.trans k49).off (hA a ha)) (hK4.keep k49.keep) W9 (by omega) (by rw [zaw];simp only [Jy,J9];omega) hfl fun u10 H10 k10 W10=>?_));refine zab (zao ?_);rw [hQ'];exact ⟨_,rfl,hQ u10 H10 (kk.trans (k49.trans k10)) W10⟩
   by_cases e4:x.kind=4
   ·(repeat ((refine zaa ?_;first|refine zak rfl ?_|refine zax rfl rfl (by omega) ?_)));exact zab (zai rfl (zam (zai rfl (branch _ rfl rfl rfl _ rfl))))
   ·(repeat ((refine zaa ?_;first|refine zak rfl ?_|refine za2 rfl rfl (by omega) ?_)));refine zab (zag rfl (za1 ?_));(repeat ((refine zaa ?_;first|refine zak rfl ?_|refine zax rfl rfl (by omega) ?_)));exact zab (zai rfl (branch _ rfl rfl rfl _ rfl))
  rw [if_neg e45] at hQ;(repeat ((refine zaa ?_;first|refine zak rfl ?_|refine za2 rfl rfl (by omega) ?_)));refine zab (zag rfl (za1 ?_));(repeat ((refine zaa ?_;first|refine zak rfl ?_|refine za2 rfl rfl (by omega) ?_)));refine zab (zag rfl (zac ?_));by_cases e1:x.kind=1
  ·rw [if_pos e1] at hQ;(repeat ((refine zaa ?_;first|refine zak rfl ?_|refine zax rfl rfl (by omega) ?_)));refine zab (zai rfl (za1 ?_));refine zad rfl ?_;refine zaa (zat (k:=7) PlF.h hc7 (by decide) rfl hrc.pts ?_);refine zaa (zaf rfl rfl rfl (zqi hE4 hK4 W4 (by omega) fun u5 H5 k5 W5=>?_));have:=zp5 x s1;exact zab (fin _ H5 u5 _ rfl k5 W5 (by omega) hQ)
  rw [if_neg e1] at hQ;(repeat ((refine zaa ?_;first|refine zak rfl ?_|refine za2 rfl rfl (by omega) ?_)));refine zab (zag rfl (zac ?_));by_cases e6:x.kind=6
  ·rw [if_pos e6] at hQ;(repeat ((refine zaa ?_;first|refine zak rfl ?_|refine zax rfl rfl (by omega) ?_)));refine zab (zai rfl (zaj ?_));refine zj1 (fun l' H'=>∃u6,Wk b H4 u H' u6∧Wr b H' u6 (if x.name=[] then s1 else (s1.name x.name).put [[61]])∧Sb [(0,.ptr b 0),(2,.int .i64 (d:Int)),(4,.ptr bx 0)] l') ?_ ?_
   ·refine zac ?_;refine zad rfl ?_;(repeat ((refine zaa ?_;first|refine zae FpF.h (by decide) rfl ?_|refine zah PlF.h rfl hr4 rfl ?_);refine zad rfl ?_));by_cases en:x.name=[]
    ·rw [if_pos en];refine zaa (zg2 (d:=false) rfl rfl (by rw [Qg en];rfl) ?_);exact zab (zag rfl (zam ⟨u,.refl _ _ _,W4,rfl,rfl,rfl,trivial⟩))
    ·rw [if_neg en];refine zaa (zg2 (d:=true) rfl rfl (by rw [Qf en];rfl) ?_);refine zab (zai rfl (zac ?_));refine zad rfl ?_;(repeat ((refine zaa ?_;first|refine zae FpF.h (by decide) rfl ?_|refine zah PlF.h rfl hr4 rfl ?_);refine zad rfl ?_));refine zaa (zaf rfl rfl rfl (ze7 (n:=x.name) W4 hK4 (by omega) (by omega) fun u5 H5 k5 W5=>?_));refine zab (za1 ?_);refine zad rfl ?_;refine zaa (zap (n:=1) ElF.h (by decide) rfl rfl fun Hp6 hp6 rp6=>?_);refine zaa (zaf rfl rfl rfl (zce (ws:=[[61]]) (W5.keep0 hp6) (IsRow.sl (es:=1) (n:=1) rp6 rfl (Jz 1)) (by simp only [zbi,Jy,J9];omega) fun u6 H6 k6 W6=>?_));replace k6:=(Wk.of hp6).trans k6;exact zab ⟨u6,k5.trans k6,W6,rfl,rfl,rfl,trivial⟩
   rintro l6 H6 ⟨u6,k6,W6,hs6⟩;obtain ⟨s2,hs2⟩:∃s2,s2=if x.name=[] then s1 else (s1.name x.name).put [[61]]:=⟨_,rfl⟩
   rw [←hs2] at W6;simp only [←hs2] at hQ;have hl2:s2.words.length≤s1.words.length+2:=by
    rw [hs2];split
    ·omega
    ·rw [zaw,zbi];simp only [Jy,J9];omega
   have hr6:=k6.row hoff4 hr4;have hse:=zrb x.e;refine VA.sub hs6 (zac ?_);refine zad rfl ?_;(repeat ((refine zaa ?_;first|refine zae FpF.h (by decide) rfl ?_|refine zah PlF.h rfl hr6 rfl ?_);refine zad rfl ?_));refine zaa (zaf rfl rfl rfl (ze7 (n:=x.proc) W6 (hK4.keep k6.keep) (by omega) (by omega) fun u7 H7 k7 W7=>?_));have k47:=k6.trans k7;have hr7:=k47.row hoff4 hr4;refine zab (za1 ?_);refine zad rfl ?_;(repeat ((refine zaa ?_;first|refine zae FpF.h (by decide) rfl ?_|refine zah PlF.h rfl hr7 rfl ?_);refine zad rfl ?_));refine zaa (zaz (c:=((d+1:Nat):Int)) rfl rfl Ju ?_);refine zaa (zaf rfl rfl rfl (list_ok (d:=d+1) ((kk.trans k47).exps hA hLe) (fun a ha=>(kk.trans k47).off (hA a ha)) (hK4.keep k47.keep) W7 (by omega) (by rw [zbi];omega) hll fun u8 H8 k8 W8=>?_));have:=zp6 x.e (d+1) (s2.name x.proc);rw [zbi] at this;exact zab (fin _ H8 u8 _ rfl (k47.trans k8) W8 (by omega) hQ)
  rw [if_neg e6] at hQ;(repeat ((refine zaa ?_;first|refine zak rfl ?_|refine za2 rfl rfl (by omega) ?_)));refine zab (zag rfl (zaj (zac ?_)));by_cases e2:x.kind=2
  ·rw [if_pos e2] at hQ;obtain ⟨a,hxa⟩:=f2 e2;simp only [hxa] at hQ;have hsa:sizE a+1≤sizS x:=by
    rw [hxa] at hsz;simp only [sizEs] at hsz;omega
   have hsa2:=zlu a;(repeat ((refine zaa ?_;first|refine zak rfl ?_|refine zax rfl rfl (by omega) ?_)));refine zab (zai rfl (zam (zai rfl (zac ?_))));refine zad rfl ?_;(repeat ((refine zaa ?_;first|refine zae FpF.h (by decide) rfl ?_|refine zah PlF.h rfl hr4 rfl ?_);refine zad rfl ?_));refine zaa (zaf rfl rfl rfl (ze7 (n:=x.name) W4 hK4 (by omega) (by omega) fun u5 H5 k5 W5=>?_));have hr5:=k5.row hoff4 hr4;refine zab (zaj (zac ?_));refine zad rfl ?_;(repeat ((refine zaa ?_;first|refine zae FpF.h (by decide) rfl ?_|refine zah PlF.h rfl hr5 rfl ?_);refine zad rfl ?_));refine zaa (za2 rfl rfl (by omega) (zab (zag rfl (zam (zac ?_)))));refine zad rfl ?_;refine zaa (zap (n:=1) ElF.h (by decide) rfl rfl fun Hp6 hp6 rp6=>?_);refine zaa (zaf rfl rfl rfl (zce (ws:=[[61]]) (W5.keep0 hp6) (IsRow.sl (es:=1) (n:=1) rp6 rfl (Jz 1)) (by simp only [zbi,Jy,J9];omega) fun u6 H6 k6 W6=>?_));replace k6:=(Wk.of hp6).trans k6;have k46:=k5.trans k6;have hr6:=k46.row hoff4 hr4;obtain ⟨els,hsl,hel⟩:=zbe ((kk.trans k46).exps hA hLe);obtain ⟨ca,hca,hEa⟩:=hel 0 a (by rw [hxa];rfl);have hca4:ca.length=4:=by obtain ⟨_,h,_⟩:=hEa.out;rw [h];rfl
   have hlen1:x.e.length=1:=by rw [hxa];rfl
   refine zab (za1 ?_);refine zad rfl ?_;(repeat ((refine zaa ?_;first|refine zae FpF.h (by decide) rfl ?_|refine zah PlF.h rfl hr6 rfl ?_|refine za3 rfl rfl rfl UnF.h rfl hsl ?_);refine zad rfl ?_));refine zaa (zc4 (c:=0) rfl rfl (by rw [hlen1];rfl) ?_);refine zaa (za9 (j:=0) UnF.h SzF.h rfl hsl rfl rfl (by rw [hxa];simp) fun q0 hq0=>?_);rw [hca] at hq0;refine zaa (zat (k:=4) PlF.h hca4 (by decide) rfl hq0 ?_);refine zad rfl ?_;refine zaa (zaz (c:=((d+1:Nat):Int)) rfl rfl Ju ?_);refine zaa (zaf rfl rfl rfl (zgb (szE a+1) A a ca (d+1) b H6 u6 _ _ (by omega) hEa (fun a ha=>(kk.trans k46).off (hA a ha)) (hK4.keep k46.keep) W6 (by omega) (by rw [zaw,zbi];simp only [Jy,J9];omega) fun u7 H7 k7 W7=>?_));have hlen6:=wE_len' a (d+1) ((s1.name x.name).put [[61]]);rw [zaw,zbi] at hlen6;simp only [Jy,J9] at hlen6;exact zab (fin _ H7 u7 _ rfl (k46.trans k7) W7 (by omega) hQ)
  rw [if_neg e2] at hQ;by_cases e3:x.kind=3
  ·rw [if_pos e3] at hQ;obtain ⟨a,a2,hxa⟩:=f3 e3;simp only [hxa] at hQ;have hsa:sizE a+sizE a2+1≤sizS x:=by
    rw [hxa] at hsz;simp only [sizEs] at hsz;omega
   have hsa2:=zlu a;have hsa3:=zlu a2;(repeat ((refine zaa ?_;first|refine zak rfl ?_|refine za2 rfl rfl (by omega) ?_)));refine zab (zag rfl (za1 ?_));(repeat ((refine zaa ?_;first|refine zak rfl ?_|refine zax rfl rfl (by omega) ?_)));refine zab (zai rfl (zac ?_));refine zad rfl ?_;(repeat ((refine zaa ?_;first|refine zae FpF.h (by decide) rfl ?_|refine zah PlF.h rfl hr4 rfl ?_);refine zad rfl ?_));refine zaa (zaf rfl rfl rfl (ze7 (n:=x.name) W4 hK4 (by omega) (by omega) fun u5 H5 k5 W5=>?_));have hr5:=k5.row hoff4 hr4;refine zab (zaj (zac ?_));refine zad rfl ?_;(repeat ((refine zaa ?_;first|refine zae FpF.h (by decide) rfl ?_|refine zah PlF.h rfl hr5 rfl ?_);refine zad rfl ?_));refine zaa (zax rfl rfl (by omega) (zab (zai rfl (zac ?_))));refine zad rfl ?_;refine zaa (zap (n:=1) ElF.h (by decide) rfl rfl fun Hp6 hp6 rp6=>?_);refine zaa (zaf rfl rfl rfl (zce (ws:=[[91]]) (W5.keep0 hp6) (IsRow.sl (es:=1) (n:=1) rp6 rfl (Jz 1)) (by simp only [zbi,Jy,J9];omega) fun u6 H6 k6 W6=>?_));replace k6:=(Wk.of hp6).trans k6;have k46:=k5.trans k6;have hr6:=k46.row hoff4 hr4;obtain ⟨els,hsl,hel⟩:=zbe ((kk.trans k46).exps hA hLe);obtain ⟨ca,hca,hEa⟩:=hel 0 a (by rw [hxa];rfl);have hca4:ca.length=4:=by obtain ⟨_,h,_⟩:=hEa.out;rw [h];rfl
   refine zab (zac ?_);refine zad rfl ?_;(repeat ((refine zaa ?_;first|refine zae FpF.h (by decide) rfl ?_|refine zah PlF.h rfl hr6 rfl ?_);refine zad rfl ?_));refine zaa (za9 (j:=0) UnF.h SzF.h rfl hsl rfl rfl (by rw [hxa];simp) fun q0 hq0=>?_);rw [hca] at hq0;refine zaa (zat (k:=4) PlF.h hca4 (by decide) rfl hq0 ?_);refine zad rfl ?_;refine zaa (zaz (c:=((d+1:Nat):Int)) rfl rfl Ju ?_);refine zaa (zaf rfl rfl rfl (zgb (szE a+1) A a ca (d+1) b H6 u6 _ _ (by omega) hEa (fun a ha=>(kk.trans k46).off (hA a ha)) (hK4.keep k46.keep) W6 (by omega) (by rw [zaw,zbi];simp only [Jy,J9];omega) fun u7 H7 k7 W7=>?_));have hlen6:=wE_len' a (d+1) ((s1.name x.name).put [[91]]);rw [zaw,zbi] at hlen6;simp only [Jy,J9] at hlen6;refine zab (za1 ?_);refine zad rfl ?_;refine zaa (zap (n:=1) ElF.h (by decide) rfl rfl fun Hp8 hp8 rp8=>?_);refine zaa (zaf rfl rfl rfl (zce (ws:=[[93]]) (W7.keep0 hp8) (IsRow.sl (es:=1) (n:=1) rp8 rfl (Jz 1)) (by simp only [Jy,J9];omega) fun u8 H8 k8 W8=>?_));replace k8:=(Wk.of hp8).trans k8;refine zab (zac ?_);refine zad rfl ?_;refine zaa (zap (n:=1) ElF.h (by decide) rfl rfl fun Hp9 hp9 rp9=>?_);refine zaa (zaf rfl rfl rfl (zce (ws:=[[61]]) (W8.keep0 hp9) (IsRow.sl (es:=1) (n:=1) rp9 rfl (Jz 1)) (by simp only [zaw,Jy,J9];omega) fun u9 H9 k9 W9=>?_));replace k9:=(Wk.of hp9).trans k9;have k49:=k46.trans (k7.trans (k8.trans k9));have hr9:=k49.row hoff4 hr4;obtain ⟨els2,hsl2,hel2⟩:=zbe ((kk.trans k49).exps hA hLe);obtain ⟨cc,hcc,hEc⟩:=hel2 1 a2 (by rw [hxa];rfl);have hcc4:cc.length=4:=by obtain ⟨_,h,_⟩:=hEc.out;rw [h];rfl
   have hlen2:x.e.length=2:=by rw [hxa];rfl
   refine zab (za1 ?_);refine zad rfl ?_;(repeat ((refine zaa ?_;first|refine zae FpF.h (by decide) rfl ?_|refine zah PlF.h rfl hr9 rfl ?_|refine za3 rfl rfl rfl UnF.h rfl hsl2 ?_);refine zad rfl ?_));refine zaa (zc4 (c:=1) rfl rfl (by rw [hlen2];rfl) ?_);refine zaa (za9 (j:=1) UnF.h SzF.h rfl hsl2 rfl rfl (by rw [hxa];simp) fun q0 hq0=>?_);rw [hcc] at hq0;refine zaa (zat (k:=4) PlF.h hcc4 (by decide) rfl hq0 ?_);refine zad rfl ?_;refine zaa (zaz (c:=((d+1:Nat):Int)) rfl rfl Ju ?_);refine zaa (zaf rfl rfl rfl (zgb (szE a2+1) A a2 cc (d+1) b H9 u9 _ _ (by omega) hEc (fun a ha=>(kk.trans k49).off (hA a ha)) (hK4.keep k49.keep) W9 (by omega) (by rw [zaw,zaw];simp only [Jy,J9];omega) fun u10 H10 k10 W10=>?_));have hlen9:=wE_len' a2 (d+1) (((wE a (d+1) ((s1.name x.name).put [[91]])).put [[93]]).put [[61]]);rw [zaw,zaw] at hlen9;simp only [Jy,J9] at hlen9;exact zab (fin _ H10 u10 _ rfl (k49.trans k10) W10 (by omega) hQ)
  rw [if_neg e3] at hQ;(repeat ((refine zaa ?_;first|refine zak rfl ?_|refine za2 rfl rfl (by omega) ?_)));refine zab (zag rfl (za1 ?_));(repeat ((refine zaa ?_;first|refine zak rfl ?_|refine za2 rfl rfl (by omega) ?_)));refine zab (zag rfl (zac ?_));by_cases e9:x.kind=9
  ·rw [if_pos e9] at hQ;(repeat ((refine zaa ?_;first|refine zak rfl ?_|refine zax rfl rfl (by omega) ?_)));refine zab (zai rfl (zac ?_));refine zad rfl ?_;refine zaa (zap (n:=1) ElF.h (by decide) rfl rfl fun Hp5 hp5 rp5=>?_);refine zaa (zaf rfl rfl rfl (zce (ws:=[[114,101,97,100]]) (W4.keep0 hp5) (IsRow.sl (es:=1) (n:=1) rp5 rfl (Jz 1)) (by simp only [Jy,J9];omega) fun u5 H5 k5 W5=>?_));replace k5:=(Wk.of hp5).trans k5;have hr5:=k5.row hoff4 hr4;refine zab (za1 ?_);refine zad rfl ?_;(repeat ((refine zaa ?_;first|refine zae FpF.h (by decide) rfl ?_|refine zah PlF.h rfl hr5 rfl ?_);refine zad rfl ?_));refine zaa (zaf rfl rfl rfl (ze7 (n:=x.name) W5 (hK4.keep k5.keep) (by omega) (by rw [zaw];simp only [Jy,J9];omega) fun u6 H6 k6 W6=>?_));exact zab (fin _ H6 u6 _ rfl (k5.trans k6) W6 (by rw [zbi,zaw];simp only [Jy,J9];omega) hQ)
  rw [if_neg e9] at hQ;(repeat ((refine zaa ?_;first|refine zak rfl ?_|refine za2 rfl rfl (by omega) ?_)));refine zab (zag rfl (zac ?_));refine zad rfl ?_;(repeat ((refine zaa ?_;first|refine zae FpF.h (by decide) rfl ?_|refine zah PlF.h rfl hr4 rfl ?_);refine zad rfl ?_));refine zaa (zaf rfl rfl rfl (zzn x.kind ?_));refine zad rfl ?_;refine zaa (zap (n:=1) ElF.h (by decide) rfl rfl fun Hp5 hp5 rp5=>?_);refine zaa (zaf rfl rfl rfl (zce (ws:=[wordB x.kind]) (W4.keep0 hp5) (IsRow.sl (es:=1) (n:=1) rp5 rfl (Jz 1)) (by simp only [Jy,J9];omega) fun u5 H5 k5 W5=>?_));replace k5:=(Wk.of hp5).trans k5;have hr5:=k5.row hoff4 hr4;obtain ⟨els,hsl,_⟩:=zbe ((kk.trans k5).exps hA hLe);refine zab (zac ?_);refine zad rfl ?_;(repeat ((refine zaa ?_;first|refine zae FpF.h (by decide) rfl ?_|refine zah PlF.h rfl hr5 rfl ?_|refine za3 rfl rfl rfl UnF.h rfl hsl ?_);refine zad rfl ?_));refine zab (zau ?_);refine zbv (fun (i:Nat)=>[(0,.ptr b 0),(2,.int .i64 (d:Int)),(34,ve),(35,.int .i64 (x.e.length:Int)),(36,.int .i64 (i:Int))]) (fun i H'=>i≤x.e.length∧∃u',Wk b H4 u H' u'∧Wr b H' u' (wEs (d+1) (x.e.take i) (s1.put [wordB x.kind]))) (fun i=>x.e.length-i) ?_ 0 _ H5 ⟨rfl,rfl,rfl,rfl,rfl,trivial⟩ ⟨Nat.zero_le _,u5,k5,by simpa [wEs] using W5⟩;rintro i H6 ⟨hle,u6,k46,W6⟩;have hlen:=zre (d+1) (x.e.take i) (s1.put [wordB x.kind]);have htk:=zeq x.e i;rw [zaw] at hlen;simp only [Qc] at hlen;refine zac ?_;by_cases hi:i<x.e.length;rotate_left
  ·refine zaa (zck rfl rfl (Qf (by omega)) (zab (zaj (zag rfl (zbq ?_)))));rw [Qd (by omega)] at W6 hlen;exact fin _ H6 u6 _ rfl k46 W6 (by omega) hQ
  obtain ⟨y,hy⟩:∃y,x.e[i]? = some y:=⟨_,Qa hi⟩
  refine zaa (zck rfl rfl (Qg (by omega)) (zab (zaj (zai rfl (zam (zaj (zau (zac ?_))))))));obtain ⟨els3,hsl3,hel3⟩:=zbe ((kk.trans k46).exps hA hLe);obtain ⟨cy,hcy,hEy⟩:=hel3 i y hy;have hcy4:cy.length=4:=by obtain ⟨_,h,_⟩:=hEy.out;rw [h];rfl
  have hsy:sizEs (x.e.take i)+sizE y≤sizEs x.e:=by
   have:=zeq x.e (i+1);rw [zbs hy,zfi] at this;exact this
  have hsy2:=zlu y;refine zad rfl ?_;refine zaa (za9 UnF.h SzF.h rfl hsl3 rfl rfl hi fun q0 hq0=>?_);rw [hcy] at hq0;refine zaa (zat (k:=4) PlF.h hcy4 (by decide) rfl hq0 ?_);refine zaa (za8 ZeF.h fun H7 hk7 hr7=>?_);refine zad rfl ?_;obtain ⟨by_,hby⟩:∃b,b=H6.nx:=⟨_,rfl⟩
  have hoff7:Off b H7 u6 by_:=by
   have:=hr7.1;rw [hby];exact W6.fresh this
  rw [←hby] at hr7 ⊢;refine zaa (zan (k:=4) SzF.h hcy4 rfl rfl (zda hEy) hr7 hcy4 fun H8 hk8 hn8 hr8=>?_);have hk68:Keep Non H6 H8:=(hk7.trans hk8 fun c hc=>.inr (by rw [hc,hby];exact Jz _)).wide fun _ h=>h;have W8:=W6.keep0 hk68;have k48:Wk b H4 u H8 u6:=k46.trans (.of hk68);have hE8:=hEy.keep hk68;refine zab (za1 ?_);refine zad rfl ?_;refine zaa (zat (k:=4) PlF.h hcy4 (by decide) rfl hr8.pts ?_);refine zad rfl ?_;refine zaa (zaz (c:=((d+1:Nat):Int)) rfl rfl Ju ?_);refine zaa (zaf rfl rfl rfl (zgb (szE y+1) A y cy (d+1) b H8 u6 _ _ (by omega) hE8 (fun a ha=>(kk.trans k48).off (hA a ha)) (hK4.keep k48.keep) W8 (by omega) (by omega) fun u9 H9 k9 W9=>?_));refine zab (za1 ?_);refine zaa (zaz (c:=((i+1:Nat):Int)) rfl rfl Ju ?_);refine zad rfl ?_;refine zab ⟨i+1,?_,⟨rfl,rfl,rfl,rfl,rfl,trivial⟩,by omega,u9,k48.trans k9,?_⟩
  ·show x.e.length-(i+1)<x.e.length-i;omega
  ·rw [zbs hy,ztq];exact W9
end
instance ipl_82:PlF prog 82 ⟨0,true,2⟩:=⟨by kernel_rfl⟩
instance ize_82:ZeF prog 82 (.agg [.str 0 0,.int .i64 0]):=⟨by kernel_rfl⟩
instance ifp_82_1:FpF prog 82 1 ⟨1,false,1⟩:=⟨by kernel_rfl⟩
instance ifp_69_2:FpF prog 69 2 ⟨2,false,1⟩:=⟨by kernel_rfl⟩
instance ize_141:ZeF prog 141 (.agg [.nils,.bool false,.int .i64 0]):=⟨by kernel_rfl⟩
instance ibs_141:BsF prog 141:=⟨by kernel_rfl⟩
instance ipl_69:PlF prog 69 ⟨0,true,4⟩:=⟨by kernel_rfl⟩
instance ize_69:ZeF prog 69 (.agg [.str 0 0,.nils,.int .i64 0,.nils]):=⟨by kernel_rfl⟩
def v51k0h1:CV:=Jt [Jd 24 4,Jc 25 (.binOp .gtr 3 (Ja 24) (Jb 0) 3)] (.cond (Ja 25) (.reg [Jd 26 0,Jc 27 (.buildSlice 40 1 #[(0,(.const (.string ⟨⟨[44]⟩⟩)))]),Jo 28 95 26 27 139 40]) (.skip))
def v51k0t2:CV:=Jt [Jd 29 0,Jg 30 82 5 1,Jf 31 3 30,Jo 32 97 29 31 139 3] (.reg [Jd 33 0,Jg 34 82 5 0,Jf 35 9 34,Jo 36 96 33 35 139 9])
def v51k0t1:CV:=.seq v51k0h1 v51k0t2
def v51k0:CV:=Jt [Jd 21 19,Jk 22 66 17 19,Jf 23 82 22,Jc 5 (.alloc 82),Jh 4 21,.op none (.store 82 (Ja 5) (Ja 23))] v51k0t1
def v51l0t2:CV:=.seq (.block 1 v51k0) (.reg [Jc 37 (.binOp .add 3 (Ja 19) (Jb 1) 3),Jd 19 37])
def v51l0t1:CV:=.seq (.cond (Ja 20) (.skip) (.exit 0)) v51l0t2
def v51l0:CV:=Jt [Jc 20 (.binOp .lss 3 (Ja 19) (Ja 18) 3)] v51l0t1
def v51h4:CV:=Jt [Jg 16 69 3 1,Jf 17 66 16,Jj 18 17 66,Je 19 0] (.block 0 (.loop v51l0))
def v51h6:CV:=Jt [Jg 41 69 3 2,Jf 42 3 41,Jc 43 (.binOp .neq 3 (Ja 42) (Jb 0) 3)] (.cond (Ja 43) (.reg [Jd 44 0,Jg 45 69 3 2,Jf 46 3 45,Jo 47 97 44 46 139 3]) (.skip))
def v51t6:CV:=.seq v51h6 (.reg [Jd 48 0,Jg 49 69 3 3,Jf 50 67 49,Jc 51 (.call ⟨.value (.func 98),#[(Ja 48),(Ja 50),(Jb 1)],#[139,67,3]⟩)])
def v51t5:CV:=Jt [Jd 38 0,Jc 39 (.buildSlice 40 1 #[(0,(.const (.string ⟨⟨[41]⟩⟩)))]),Jo 40 95 38 39 139 40] v51t6
def v51t4:CV:=.seq v51h4 v51t5
def v51t3:CV:=Jt [Jd 13 0,Jc 14 (.buildSlice 40 1 #[(0,(.const (.string ⟨⟨[40]⟩⟩)))]),Jo 15 95 13 14 139 40] v51t4
def v51t2:CV:=Jt [Jd 9 0,Jg 10 69 3 0,Jf 11 9 10,Jo 12 96 9 11 139 9] v51t3
def v51t1:CV:=Jt [Jd 6 0,Jc 7 (.buildSlice 40 1 #[(0,(.const (.string ⟨⟨[112,114,111,99]⟩⟩)))]),Jo 8 95 6 7 139 40] v51t2
def v51:CV:=Jt [Jc 3 (.box 69 (Ja 1))] v51t1
noncomputable def b51:Code:=f51.body.getD .skip
theorem b51_eq:f51.body=some b51:=by kernel_rfl
theorem v51_eq:viewC prog b51=some v51:=by kernel_rfl
theorem r51_eq:f51.results.toList=[]:=by kernel_rfl
def v52c0:CV:=Jt [Jc 2 (.assign (.const (.string ⟨⟨[]⟩⟩))),Ji 3 32] (.ret)
def v52c2:CV:=Jt [Jc 2 (.assign (.const (.string ⟨⟨[]⟩⟩))),Ji 3 31] (.ret)
def v52c1:CV:=Jt [Jd 10 0,Jm 11 10,Jg 12 141 11 2,Jf 13 3 12,Jc 14 (.binOp .gtr 3 (Ja 13) (Jb 60) 3),Jh 9 14] (.cond (Ja 9) v52c2 (.skip))
def v52k0:CV:=Jt [Jd 5 0,Jm 6 5,Jg 7 141 6 1,Jf 8 4 7,Jh 4 8] (.cond (Ja 4) v52c0 v52c1)
def v52t2:CV:=Jt [Jd 15 0,Jm 16 15,Jg 17 141 16 0,Jf 18 40 17,Jn 19 27 18 40,Jh 2 19,Ji 3 0] (.ret)
def v52t1:CV:=.seq (.block 0 v52k0) v52t2
def v52:CV:=Jt [Jc 2 (.assign (.const (.string ⟨⟨[]⟩⟩))),Ji 3 0] v52t1
noncomputable def b52:Code:=f52.body.getD .skip
theorem b52_eq:f52.body=some b52:=by kernel_rfl
theorem v52_eq:viewC prog b52=some v52:=by kernel_rfl
theorem r52_eq:f52.results.toList=[.tmp 2,.tmp 3]:=by kernel_rfl
def v16k0:CV:=Jt [Jk 14 22 10 12,Jf 15 69 14,Jc 6 (.alloc 69),.op none (.store 69 (Ja 6) (Ja 15))] (.reg [Jd 16 4,Jf 17 69 6,Jo 18 51 16 17 139 69])
def v16l0t2:CV:=.seq (.block 1 v16k0) (.reg [Jc 19 (.binOp .add 3 (Ja 12) (Jb 1) 3),Jd 12 19])
def v16l0t1:CV:=.seq (.cond (Ja 13) (.skip) (.exit 0)) v16l0t2
def v16l0:CV:=Jt [Jc 13 (.binOp .lss 3 (Ja 12) (Ja 11) 3)] v16l0t1
def v16h2:CV:=Jt [Jg 9 24 1 0,Jf 10 22 9,Jj 11 10 22,Je 12 0] (.block 0 (.loop v16l0))
def v16t3:CV:=Jt [Jd 20 4,Jn 21 52 20 139,Jl 22 21 0,Jl 23 21 1,Jh 2 22,Jh 3 23] (.ret)
def v16t2:CV:=.seq v16h2 v16t3
def v16t1:CV:=Jt [Jc 7 (.build 141 #[]),Jc 8 (.box 141 (Ja 7)),Jh 4 8] v16t2
def v16:CV:=Jt [Jc 1 (.box 24 (Ja 0)),Jc 2 (.assign (.const (.string ⟨⟨[]⟩⟩))),Ji 3 0] v16t1
noncomputable def b16:Code:=f16.body.getD .skip
theorem b16_eq:f16.body=some b16:=by kernel_rfl
theorem v16_eq:viewC prog b16=some v16:=by kernel_rfl
theorem r16_eq:f16.results.toList=[.tmp 2,.tmp 3]:=by kernel_rfl
def v160t3:CV:=Jt [Jd 10 4,Jn 11 52 10 139,Jl 12 11 0,Jl 13 11 1,Jh 2 12,Jh 3 13] (.ret)
def v160t2:CV:=Jt [Jd 7 4,Jf 8 165 1,Jc 9 (.call ⟨.value (.func 206),#[(Ja 7),(Ja 8),(Jb 1)],#[139,165,3]⟩)] v160t3
def v160t1:CV:=Jt [Jc 5 (.build 141 #[]),Jc 6 (.box 141 (Ja 5)),Jh 4 6] v160t2
def v160:CV:=Jt [Jc 1 (.box 165 (Ja 0)),Jc 2 (.assign (.const (.string ⟨⟨[]⟩⟩))),Ji 3 0] v160t1
noncomputable def b160:Code:=f160.body.getD .skip
theorem b160_eq:f160.body=some b160:=by kernel_rfl
theorem v160_eq:viewC prog b160=some v160:=by kernel_rfl
theorem r160_eq:f160.results.toList=[.tmp 2,.tmp 3]:=by kernel_rfl
theorem zdj {n:List UInt8}(h:nameB n=true):n.length≤40:=by
 simp only [nameB,J8,Qj] at h;exact h.1.1.2
theorem zp2 {n:Int}(h:ok64 n):(textZ n).length≤21:=by
 unfold ok64 at h;have:(textN n.natAbs).length≤20:=zeh 20 _ (by omega) (by decide);unfold textZ;split
 ·rw [Jy];omega
 ·omega
inductive NumsE:Exp→Prop
 |mk {k z:Int}{n:List UInt8}{l:List Exp}:ok64 z→(∀x∈l,NumsE x)→NumsE (.mk k n z l)
theorem zno {A:Nat→Prop}{H:Heap}{c:List AV}{e:Exp}(h:IsE A H c e):NumsE e:=by
 induction h with
 |mk hk hn hs hl els h hz he ha ih=>
  refine .mk hn fun x hx=>?_;obtain ⟨i,hi⟩:=List.getElem?_of_mem hx;have hlt:=(Qb.1 hi).1;exact ih i _ x (Qa (by omega)) hi
abbrev Sh (ws:Ws):Prop:=∀w∈ws,w.length≤40
theorem Sh.app {a b:Ws}(h:Sh a) (k:Sh b):Sh (a++b):=fun w hw=>(List.mem_append.1 hw).elim (h w) (k w)
theorem Sh.cons {a:List UInt8}{b:Ws}(h:a.length≤40) (k:Sh b):Sh (a::b):=fun w hw=>(List.mem_cons.1 hw).elim (fun e=>e▸h) (k w)
theorem Sh.nil:Sh []:=fun _ h=>by cases h
theorem zsh {n:List UInt8}(h:0<levB n):n.length≤2:=by
 unfold levB at h;split at h
 ·rename_i e;subst e;decide
 split at h
 ·rename_i e;subst e;decide
 split at h
 ·rename_i e;rcases e with e|e|e|e<;>subst e<;>decide
 split at h
 ·rename_i e;rcases e with e|e<;>subst e<;>decide
 split at h
 ·rename_i e;rcases e with e|e|e<;>subst e<;>decide
 ·omega
theorem zzg {x:Exp}(h:Sh (wdE x)):Sh (wdO x):=by
 unfold wdO;split
 ·exact ((Sh.cons (by decide) Sh.nil).app h).app (Sh.cons (by decide) Sh.nil)
 ·exact h
theorem wdE_sh:∀(k:Nat) (x:Exp),szE x<k→okE x=true→NumsE x→Sh (wdE x)
 |0,_,h,_,_=>by omega
 |k+1,.mk kd n z l,h,hok,hn=>by
  cases hn with
  |mk hz hl=>
  have ih:=fun (a:Exp) (ha:a∈l) (ho:okE a=true)=>wdE_sh k a (by have:=zha ha;simp only [szE] at h;omega) ho (hl a ha);simp only [okE,J8] at hok;obtain ⟨⟨hpl,hnm⟩,hc⟩:=hok;have hform:formE (.mk kd n z l)=true:=by simp only [plainE,J8] at hpl;exact hpl.2
  rw [zj8] at hform;unfold wdE;by_cases e1:kd=1
  ·rw [if_pos e1];exact .cons (by have:=zp2 hz;omega) .nil
  rw [if_neg e1] at hform ⊢;by_cases e2:kd=2
  ·rw [if_pos e2];exact .cons (by split<;>decide) .nil
  rw [if_neg e2] at hform ⊢;by_cases e3:kd=3
  ·rw [if_pos e3];rw [if_pos (.inl e3)] at hnm;exact .cons (zdj hnm) .nil
  rw [if_neg e3] at hform ⊢;by_cases e4:kd=4
  ·rw [if_pos e4] at hform ⊢;rw [if_pos (.inr e4)] at hnm;rw [if_pos (.inl e4)] at hc;obtain ⟨a,rfl⟩:∃a,l=[a]:=List.length_eq_one_iff.1 (of_decide_eq_true hform);simp only [okEs,Bool.and_true] at hc;simp only [wdE0];exact ((Sh.cons (zdj hnm) (Sh.cons (by decide) Sh.nil)).app (ih a (by simp) hc)).app (.cons (by decide) .nil)
  rw [if_neg e4] at hform ⊢;by_cases e5:kd=5
  ·rw [if_pos e5] at hform ⊢;rw [if_pos (.inr (.inl e5))] at hc;simp only [J8,Bool.or_eq_true,Qj] at hform;obtain ⟨a,rfl⟩:∃a,l=[a]:=List.length_eq_one_iff.1 hform.2;simp only [okEs,Bool.and_true] at hc;simp only [wdO0];exact .cons (by rcases hform.1 with e|e<;>subst e<;>decide) (zzg (ih a (by simp) hc))
  rw [if_neg e5] at hform ⊢;by_cases e6:kd=6
  ·rw [if_pos e6] at hform ⊢;rw [if_pos (.inr (.inr e6))] at hc;simp only [J8,Qj] at hform;obtain ⟨a,c,rfl⟩:=len2 hform.2;simp only [okEs,Bool.and_true,J8] at hc;simp only [wdO0,wdO1];exact (zzg (ih a (by simp) hc.1)).app (.cons (by have:=zsh hform.1;omega) (zzg (ih c (by simp) hc.2)))
  ·rw [if_neg e6];exact .nil
theorem wdE_sh' {x:Exp}(h:okE x=true) (hn:NumsE x):Sh (wdE x):=wdE_sh (szE x+1) x (by omega) h hn
theorem zzb:∀{l:List Exp},okEs l=true→(∀x∈l,NumsE x)→Sh (wdEs l)
 |[],_,_=>.nil
 |x::l,h,hn=>by
  simp only [okEs,J8] at h;exact (wdE_sh' h.1 (hn x (by simp))).app (zzb h.2 fun y hy=>hn y (by simp [hy]))
theorem zza:∀{l:List Exp}(i:Nat),okEs l=true→(∀x∈l,NumsE x)→Sh (wdAs l i)
 |[],_,_,_=>.nil
 |x::l,i,h,hn=>by
  simp only [okEs,J8] at h;refine (Sh.app ?_ (wdE_sh' h.1 (hn x (by simp)))).app (zza (i+1) h.2 fun y hy=>hn y (by simp [hy]));split
  ·exact .cons (by decide) .nil
  ·exact .nil
inductive NumsS:Stm→Prop
 |mk {k z:Int}{n p:List UInt8}{e:List Exp}{b f:List Stm}:ok64 z→(∀x∈e,NumsE x)→(∀x∈b,NumsS x)→(∀x∈f,NumsS x)→NumsS (.mk k n p z e b f)
theorem f2_mem {α β:Type}{R:α→β→Prop}{l:List α}{m:List β}(h:F2 R l m) {b:β}(hb:b∈m):∃a∈l,R a b:=by
 obtain ⟨i,hi⟩:=List.getElem?_of_mem hb;obtain ⟨a,ha,hr⟩:=h.get' i b hi;exact ⟨a,Qe ha,hr⟩
theorem zkb {α:Type}{A:Nat→Prop}{R:Heap→List AV→α→Prop}{z:Nat}{H:Heap}{v:AV}{xs:List α}(h:IsLs A R z H v xs) {a:α}(ha:a∈xs):∃c,R H c a:=by
 obtain ⟨els,_,h2,_⟩:=h;obtain ⟨c,_,hr⟩:=f2_mem h2 ha;exact ⟨c,hr⟩
theorem znp {A:Nat→Prop}{H:Heap}{c:List AV}{e:Stm}(h:IsS A H c e):NumsS e:=by
 induction h with
 |mk hk hn hs hp hl hb hd he xs ys h hz hx ha h' hz' hy ha' ih ih'=>
  refine .mk hn (fun x hx=>?_) (fun x hx'=>?_) (fun x hx'=>?_)
  ·obtain ⟨c,hc⟩:=zkb he hx;exact zno hc
  ·obtain ⟨i,hi⟩:=List.getElem?_of_mem hx';have hlt:=(Qb.1 hi).1;exact ih i _ x (Qa (by omega)) hi
  ·obtain ⟨i,hi⟩:=List.getElem?_of_mem hx';have hlt:=(Qb.1 hi).1;exact ih' i _ x (Qa (by omega)) hi
theorem zp8 (k:Int):(wordB k).length≤40:=by unfold wordB;repeat (first|(split;decide)|decide)
theorem wdL_sh {l:List Exp}(h:okEs l=true) (hn:∀x∈l,NumsE x):Sh (wdL l):=((Sh.cons (by decide) Sh.nil).app (zza 0 h hn)).app (.cons (by decide) .nil)
mutual
theorem zzl:∀{x:Stm},okS x=true→NumsS x→Sh (wdS x)
 |.mk k n p z e b f,hok,hn=>by
  cases hn with
  |mk hz he hb hf=>
  have hB:=fun (h:okSs b=true)=>zop h hb;have hF:=fun (h:okSs f=true)=>zop h hf;simp only [okS,J8] at hok;obtain ⟨⟨⟨⟨hfit,hnm⟩,hoe⟩,hob⟩,hof⟩:=hok;have h0:Sh (wdE0 e):=by
   cases e with
   |nil=>exact .nil
   |cons a r=>simp only [okEs,J8] at hoe;simp only [wdE0];exact wdE_sh' hoe.1 (he a (by simp))
  have h1:Sh (wdE1 e):=by
   cases e with
   |nil=>exact .nil
   |cons a r=>
    cases r with
    |nil=>simp only [wdE1,wdE0];exact .nil
    |cons c r=>simp only [okEs,J8] at hoe;simp only [wdE1,wdE0];exact wdE_sh' hoe.2.1 (he c (by simp))
  have d1:([125]:List UInt8).length≤40:=by decide
  have d2:([41]:List UInt8).length≤40:=by decide
  unfold wdS;by_cases e45:k=4∨k=5
  ·rw [if_pos e45];refine ((((((Sh.cons (zp8 k) (Sh.cons (by decide) Sh.nil)).app h0).app (Sh.cons d2 (Sh.cons (by decide) Sh.nil))).app (hB hob)).app (Sh.cons d1 Sh.nil)).app ?_);split
   ·exact .nil
   ·exact ((Sh.cons (by decide) (Sh.cons (by decide) Sh.nil)).app (hF hof)).app (Sh.cons d1 Sh.nil)
  rw [if_neg e45];by_cases e1:k=1
  ·rw [if_pos e1];rw [if_pos (.inl e1)] at hnm;refine Sh.app ?_ (Sh.cons (by decide) Sh.nil);unfold wdDecl;refine Sh.cons (by decide) (Sh.app ?_ (Sh.cons (zdj hnm) ?_))
   ·split
    ·exact .cons (by decide) .nil
    ·exact .nil
   ·split
    ·exact .cons (by decide) (.cons (by have:=zp2 hz;simp only [Stm.num];omega) (.cons (by decide) .nil))
    ·exact .nil
  rw [if_neg e1];by_cases e6:k=6
  ·rw [if_pos e6];rw [if_neg (by omega),if_pos e6] at hnm;simp only [J8,Bool.or_eq_true,Qj] at hnm;refine (Sh.app (Sh.app ?_ (Sh.cons (zdj hnm.2) Sh.nil)) (wdL_sh hoe he)).app (Sh.cons (by decide) Sh.nil);split
   ·exact .nil
   ·rename_i en;exact .cons (zdj (hnm.1.resolve_left en)) (.cons (by decide) .nil)
  rw [if_neg e6];by_cases e2:k=2
  ·rw [if_pos e2];rw [if_pos (.inr (.inl e2))] at hnm;exact ((Sh.cons (zdj hnm) (Sh.cons (by decide) Sh.nil)).app h0).app (Sh.cons (by decide) Sh.nil)
  rw [if_neg e2];by_cases e3:k=3
  ·rw [if_pos e3];rw [if_pos (.inr (.inr (.inl e3)))] at hnm;exact ((((Sh.cons (zdj hnm) (Sh.cons (by decide) Sh.nil)).app h0).app (Sh.cons (by decide) (Sh.cons (by decide) Sh.nil))).app h1).app (Sh.cons (by decide) Sh.nil)
  rw [if_neg e3];by_cases e9:k=9
  ·rw [if_pos e9];rw [if_pos (.inr (.inr (.inr e9)))] at hnm;exact .cons (by decide) (.cons (zdj hnm) (.cons (by decide) .nil))
  rw [if_neg e9];exact ((Sh.cons (zp8 k) Sh.nil).app (zzb hoe he)).app (Sh.cons (by decide) Sh.nil)
theorem zop:∀{l:List Stm},okSs l=true→(∀x∈l,NumsS x)→Sh (wdSs l)
 |[],_,_=>by simp only [wdSs];exact .nil
 |x::l,h,hn=>by
  simp only [okSs,J8] at h;simp only [wdSs];exact (zzl h.1 (hn x (by simp))).app (zop h.2 fun y hy=>hn y (by simp [hy]))
end
theorem zxk (t:Int):(wdT t).length≤40:=by unfold wdT;split<;>decide
theorem zze:∀{l:List Prm}(i:Nat),okMs l=true→Sh (wdMs l i)
 |[],_,_=>.nil
 |x::l,i,h=>by
  simp only [okMs,J8] at h;refine (Sh.app ?_ (Sh.cons (zxk _) (Sh.cons (zdj h.1.2) Sh.nil))).app (zze (i+1) h.2);split
  ·exact .cons (by decide) .nil
  ·exact .nil
theorem zzc {p:Prc}(h:okH p=true):Sh (wdH p):=by
 simp only [okH,J8] at h;refine (((Sh.cons (by decide) (Sh.cons (zdj h.1.1) (Sh.cons (by decide) Sh.nil))).app (zze 0 h.1.2)).app (Sh.cons (by decide) Sh.nil)).app ?_;split
 ·exact .nil
 ·exact .cons (zxk _) .nil
theorem wdP_sh {p:Prc}(h:okP p=true) (hn:∀x∈p.body,NumsS x):Sh (wdP p):=by
 simp only [okP,J8] at h;exact (((zzc h.1).app (Sh.cons (by decide) Sh.nil)).app (zop h.2 hn)).app (Sh.cons (by decide) Sh.nil)
theorem zzj:∀{l:List Prc},okPs l=true→(∀p∈l,∀x∈p.body,NumsS x)→Sh (wdPs l)
 |[],_,_=>.nil
 |x::l,h,hn=>by
  simp only [okPs,J8] at h;exact (wdP_sh h.1 (hn x (by simp))).app (zzj h.2 fun y hy=>hn y (by simp [hy]))
theorem znj:∀{ws:Ws},Sh ws→(ws.flatMap (32 :: ·)).length≤41*ws.length
 |[],_=>by simp
 |w::ws,h=>by
  have h1:=h w (by simp);have h2:=znj (ws:=ws) fun x hx=>h x (by simp [hx]);simp only [List.flatMap_cons,J1,Jy] at h2 ⊢;omega
def outT (ok:Bool) (ws:Ws) (d:Nat):AV:=if ok=false then .tup [S [],.int .i64 32] else if 60<d then .tup [S [],.int .i64 31] else .tup [S (joinW ws),.int .i64 0]
section
variable {tb:List FuncId}{gl:List (List AV)}{A:Nat→Prop}{H:Heap}{u v w:AV}{b:Nat}{s:WS}{Q:AV→Heap→Prop}
theorem zvz (hW:Wr b H u s) (hn:s.words.length<500000) (hl:s.bad=false→(s.words.flatMap (32 :: ·)).length<500000) (hQ:∀H',Keep Non H H'→Q (outT (!s.bad) s.words s.most) H'):WpF prog tb gl 52 [.ptr b 0] H Q:=by
 unfold outT at hQ;refine fa func52 b52_eq v52_eq r52_eq (.inr (by simp)) ?_;refine zac ?_;refine zad rfl ?_;refine zab (zaj (zau (zac ?_)));have hr:=hW.row;cases hbad:s.bad with
 |true=>
  rw [hbad] at hr;simp only [hbad,Bool.not_true,if_true] at hQ;refine zad rfl ?_;(repeat ((refine zaa ?_;first|refine zar rfl ?_|refine zae FpF.h (by decide) rfl ?_|refine zah PlF.h rfl hr rfl ?_);refine zad rfl ?_));refine zab (zai rfl (zac ?_));refine zad rfl ?_;exact zab (zao ⟨_,rfl,hQ H (.refl _ _)⟩)
 |false=>
  rw [hbad] at hr;simp only [hbad,Bool.not_false,Bool.true_eq_false,if_false] at hQ;refine zad rfl ?_;(repeat ((refine zaa ?_;first|refine zar rfl ?_|refine zae FpF.h (by decide) rfl ?_|refine zah PlF.h rfl hr rfl ?_);refine zad rfl ?_));refine zab (zag rfl (zac ?_));refine zad rfl ?_;(repeat ((refine zaa ?_;first|refine zar rfl ?_|refine zae FpF.h (by decide) rfl ?_|refine zah PlF.h rfl hr rfl ?_);refine zad rfl ?_));by_cases hd:60<s.most
  ·rw [if_pos hd] at hQ;refine zaa (zcn rfl rfl (by omega) ?_);refine zad rfl ?_;refine zab (zai rfl (zac ?_));refine zad rfl ?_;exact zab (zao ⟨_,rfl,hQ H (.refl _ _)⟩)
  ·rw [if_neg hd] at hQ;refine zaa (zd1 rfl rfl (by omega) ?_);refine zad rfl ?_;refine zab (zag rfl (zam (zac ?_)));refine zad rfl ?_;(repeat ((refine zaa ?_;first|refine zar rfl ?_|refine zae FpF.h (by decide) rfl ?_|refine zah PlF.h rfl hr rfl ?_);refine zad rfl ?_));refine zaa (zaf rfl rfl rfl (Join_ok hW.own.sl (hl hbad) hn fun H1 hk1=>?_));refine zad rfl ?_;exact zab (zao ⟨_,rfl,hQ H1 hk1⟩)
theorem wr_new (hr:IsRow H b [.nils,.bool false,.int .i64 0] false false):Wr b H .nils ⟨[],false,0⟩:=⟨hr,Own.nil _ _,id⟩
theorem zos {x:Exp}{c:List AV}(hE:IsE A H c x) (hA:∀a,A a→a<H.nx) (hK:KeysIn H) (hd:sizE x<1000) (hQ:∀H',Keep Non H H'→Q (outT (okE x) (wdE x) (dpE x 1)) H'):WpF prog tb gl 160 [.agg c] H Q:=by
 have hsz:=zlu x;obtain ⟨v,hc,_⟩:=hE.out;have hc4:c.length=4:=by rw [hc];rfl
 refine fa func160 b160_eq v160_eq r160_eq (.inr (by simp)) ?_;refine zac ?_;refine zaa (zcy rfl fun H1 hk1 hr1=>?_);obtain ⟨bx,hbx⟩:∃b,b=H.nx:=⟨_,rfl⟩
 rw [←hbx] at hr1 ⊢;have hr1:IsRow H1 bx c false false:=hr1;refine zad rfl ?_;refine zab (zac ?_);refine zaa (zba BsF.h ZeF.h (pl:=[]) rfl rfl ?_);refine zaa (zcy rfl fun H2 hk2 hr2=>?_);obtain ⟨bw,hbw⟩:∃b,b=H1.nx:=⟨_,rfl⟩
 rw [←hbw] at hr2 ⊢;have W2:=wr_new hr2;have hbl:bx<bw:=by rw [hbw];exact hr1.1
 have hnx1:=hk1.nx;refine zad rfl ?_;refine zab (zac ?_);refine zad rfl ?_;refine zaa (zat (k:=4) PlF.h hc4 (by decide) rfl (hr1.keep0 hk2).pts ?_);have hk02:=hk1.trans0 hk2;refine zaa (zaf rfl rfl rfl (zgb (d:=1) (szE x+1) A x c bw H2 .nils _ _ (by omega) (hE.keep hk02) (fun a ha=>⟨Nat.lt_of_lt_of_le (hA a ha) hk02.nx,by have:=hA a ha;omega,id⟩) (hK.keep hk02) W2 (by omega) (by simp only [J9];omega) fun u3 H3 k3 W3=>?_));have hlen:=wE_len' x 1 ⟨[],false,0⟩;simp only [J9] at hlen;have heff:=wE_eff' x 1;have hk23:Keep Non H1 H3:=hk2.trans k3.keep fun c hc=>.inr (hc.elim (fun hc=>by rw [hc,hbw];exact Jz _) fun hc=>hc.elim);refine zab (zac ?_);refine zad rfl ?_;have hsh:(wE x 1 ⟨[],false,0⟩).bad=false→((wE x 1 ⟨[],false,0⟩).words.flatMap (32 :: ·)).length<500000:=by
  intro hb;have hok:okE x=true:=by
   cases h:okE x with
   |true=>rfl
   |false=>have:=heff.no ⟨[],false,0⟩ rfl h;rw [hb] at this;cases this
  have h1:=heff.yes ⟨[],false,0⟩ rfl hok;have h2:=znj (wdE_sh' hok (zno hE));rw [h1] at hlen ⊢;simp only [List.nil_append] at hlen ⊢;omega
 refine zaa (zaf rfl rfl rfl (zvz W3 (by omega) hsh fun H4 hk4=>?_));have hout:outT (!(wE x 1 ⟨[],false,0⟩).bad) (wE x 1 ⟨[],false,0⟩).words (wE x 1 ⟨[],false,0⟩).most=outT (okE x) (wdE x) (dpE x 1):=by
  cases h:okE x with
  |true=>rw [heff.yes ⟨[],false,0⟩ rfl h];simp
  |false=>rw [heff.no ⟨[],false,0⟩ rfl h];simp [outT]
 rw [hout];have hfin:=hQ H4 (hk1.trans0 (hk23.trans0 hk4));obtain ⟨t,e,ht⟩:∃t e,outT (okE x) (wdE x) (dpE x 1)=.tup [t,e]:=by
  unfold outT;split
  ·exact ⟨_,_,rfl⟩
  ·split<;>exact ⟨_,_,rfl⟩
 rw [ht] at hfin ⊢;refine zad rfl ?_;exact zab (zao ⟨_,rfl,hfin⟩)
theorem proc_ok {p:Prc}{c:List AV}(hP:IsPc A H c p) (hA:∀a,A a→Off b H u a) (hK:KeysIn H) (hW:Wr b H u s) (hd:sizP p<10000) (hl:s.words.length+12*sizP p<1000000)
  (hQ:∀u' H',Wk b H u H' u'→Wr b H' u' (wProc p s)→Q (.tup []) H'):WpF prog tb gl 51 [.ptr b 0,.agg c] H Q:=by
 have hrB:rB=140737488351232:=rfl;obtain ⟨vm,vb,rfl,hnm,_,hpl,hbl,hLm,hLb⟩:=hP;have hsp:sizP p=1+p.name.length / 8+p.params.length+sizM p.params+sizSs p.body:=rfl;refine fa func51 b51_eq v51_eq r51_eq (.inr (by simp)) ?_;refine zac ?_;refine zaa (zcy rfl fun H1 hk1 hr1=>?_);have hW1:=hW.keep0 hk1;obtain ⟨bx,hbx⟩:∃b,b=H.nx:=⟨_,rfl⟩
 have hoff:Off b H1 u bx:=by
  have:=hr1.1;rw [hbx];exact hW.fresh this
 rw [←hbx] at hr1 ⊢;have hr1:IsRow H1 bx [S p.name,vm,.int .i64 p.type,vb] false false:=hr1;refine zab (zac ?_);refine zad rfl ?_;refine zaa (zap (n:=1) ElF.h (by decide) rfl rfl fun Hp2 hp2 rp2=>?_);refine zaa (zaf rfl rfl rfl (zce (ws:=[[112,114,111,99]]) (hW1.keep0 hp2) (IsRow.sl (es:=1) (n:=1) rp2 rfl (Jz 1)) (by simp only [Jy,J9];omega) fun u2 H2 k2 W2=>?_));replace k2:=(Wk.of hp2).trans k2;have hr2:=k2.row hoff hr1;have kk2:Wk b H u H2 u2:=(Wk.of hk1).trans k2;refine zab (zac ?_);refine zad rfl ?_;(repeat ((refine zaa ?_;first|refine zae FpF.h (by decide) rfl ?_|refine zah PlF.h rfl hr2 rfl ?_);refine zad rfl ?_));refine zaa (zaf rfl rfl rfl (ze7 (n:=p.name) W2 (hK.keep kk2.keep) (by omega) (by rw [zaw];simp only [Jy,J9];omega) fun u3 H3 k3 W3=>?_));refine zab (zac ?_);refine zad rfl ?_;refine zaa (zap (n:=1) ElF.h (by decide) rfl rfl fun Hp4 hp4 rp4=>?_);refine zaa (zaf rfl rfl rfl (zce (ws:=[[40]]) (W3.keep0 hp4) (IsRow.sl (es:=1) (n:=1) rp4 rfl (Jz 1)) (by simp only [zaw,zbi,Jy,J9];omega) fun u4 H4 k4 W4=>?_));replace k4:=(Wk.of hp4).trans k4;have k14:=k2.trans (k3.trans k4);have hr4:=k14.row hoff hr1;have hoff4:=k14.off hoff;have kk4:Wk b H u H4 u4:=(Wk.of hk1).trans k14;have keepM:∀H' u',Wk b H u H' u'→IsLs A IsPm 2 H' vm p.params:=fun H' u' k=>hLm.keepS k.keep (fun c hc hs=>hs.elim (hA c hc).2.1 (hA c hc).2.2) fun _ _ _ h=>h;obtain ⟨s4,hs4⟩:∃s4,s4=((s.put [[112,114,111,99]]).name p.name).put [[40]]:=⟨_,rfl⟩
 rw [←hs4] at W4;have hl4:s4.words.length=s.words.length+3:=by rw [hs4,zaw,zbi,zaw];rfl
 obtain ⟨els,hsl,_⟩:=zbe (keepM H4 u4 kk4);refine zab (zaj (zac ?_));refine zad rfl ?_;(repeat ((refine zaa ?_;first|refine zae FpF.h (by decide) rfl ?_|refine zah PlF.h rfl hr4 rfl ?_|refine za3 rfl rfl rfl UnF.h rfl hsl ?_);refine zad rfl ?_));refine zab (zau ?_);refine zbv (fun (i:Nat)=>[(0,.ptr b 0),(3,.ptr bx 0),(17,vm),(18,.int .i64 (p.params.length:Int)),(19,.int .i64 (i:Int))]) (fun i H'=>i≤p.params.length∧∃u',Wk b H4 u4 H' u'∧Wr b H' u' (wPrms (p.params.take i) 0 s4)) (fun i=>p.params.length-i) ?_ 0 _ H4 ⟨rfl,rfl,rfl,rfl,rfl,trivial⟩ ⟨Nat.zero_le _,u4,.refl _ _ _,W4⟩;rintro i H5 ⟨hle,u5,k45,W5⟩;have hlen:=zl5 (p.params.take i) 0 s4;rw [Qh,Nat.min_eq_left hle] at hlen;refine zac ?_;by_cases hi:i<p.params.length;rotate_left
 ·refine zaa (zck rfl rfl (Qf (by omega)) (zab (zaj (zag rfl (zbq (zac ?_))))));rw [Qd (by omega)] at W5 hlen;refine zad rfl ?_;refine zaa (zap (n:=1) ElF.h (by decide) rfl rfl fun Hp6 hp6 rp6=>?_);refine zaa (zaf rfl rfl rfl (zce (ws:=[[41]]) (W5.keep0 hp6) (IsRow.sl (es:=1) (n:=1) rp6 rfl (Jz 1)) (by simp only [Jy,J9];omega) fun u6 H6 k6 W6=>?_));replace k6:=(Wk.of hp6).trans k6;have k46:=k45.trans k6;have hr6:=k46.row hoff4 hr4;refine zab (zaj ?_);unfold wProc wHead at hQ;obtain ⟨s6,hs6⟩:∃s6,s6=(wPrms p.params 0 s4).put [[41]]:=⟨_,rfl⟩
  rw [←hs4] at hQ;rw [←hs6] at W6 hQ;have hl6:s6.words.length≤s4.words.length+3*p.params.length+1:=by rw [hs6,zaw];simp only [Jy,J9];omega
  refine zj1 (fun l' H'=>∃u7,Wk b H6 u6 H' u7∧Wr b H' u7 (if p.type=0 then s6 else wType p.type s6)∧Sb [(0,.ptr b 0),(3,.ptr bx 0)] l') ?_ ?_
  ·refine zac ?_;by_cases h0:p.type=0
   ·rw [if_pos h0];(repeat ((refine zaa ?_;first|refine zae FpF.h (by decide) rfl ?_|refine zah PlF.h rfl hr6 rfl ?_|refine zc9 rfl rfl (by omega) ?_)));exact zab (zag rfl (zam ⟨u6,.refl _ _ _,W6,rfl,rfl,trivial⟩))
   ·rw [if_neg h0];(repeat ((refine zaa ?_;first|refine zae FpF.h (by decide) rfl ?_|refine zah PlF.h rfl hr6 rfl ?_|refine zfy rfl rfl (by omega) ?_)));refine zab (zai rfl (za1 ?_));refine zad rfl ?_;(repeat ((refine zaa ?_;first|refine zae FpF.h (by decide) rfl ?_|refine zah PlF.h rfl hr6 rfl ?_);refine zad rfl ?_));refine zaa (zaf rfl rfl rfl (zp4 W6 (by omega) fun u7 H7 k7 W7=>?_));exact zab ⟨u7,k7,W7,rfl,rfl,trivial⟩
  rintro l7 H7 ⟨u7,k7,W7,hs7⟩;have k47:=k46.trans k7;have hr7:=k47.row hoff4 hr4;have kk7:=kk4.trans k47;have hl7:(if p.type=0 then s6 else wType p.type s6).words.length≤s6.words.length+1:=by
   split
   ·omega
   ·rw [ziv];omega
  refine VA.sub hs7 (za1 ?_);refine zad rfl ?_;(repeat ((refine zaa ?_;first|refine zae FpF.h (by decide) rfl ?_|refine zah PlF.h rfl hr7 rfl ?_);refine zad rfl ?_));refine zaa (zaf rfl rfl rfl (zm9 (d:=1) (k:=szSs p.body) (zyp _) (Jz _) (kk7.stms hA hLb) (fun a ha=>kk7.off (hA a ha)) (hK.keep kk7.keep) W7 (by omega) (by omega) hbl fun u8 H8 k8 W8=>?_));exact zab ⟨_,rfl,hQ u8 H8 (kk7.trans k8) W8⟩
 obtain ⟨x,hx⟩:∃x,p.params[i]? = some x:=⟨_,Qa hi⟩
 refine zaa (zck rfl rfl (Qg (by omega)) (zab (zaj (zai rfl (zam (zaj (zau (zac ?_))))))));obtain ⟨els5,hsl5,hel5⟩:=zbe (keepM H5 u5 (kk4.trans k45));obtain ⟨cx,hcx,rfl,hxn,_⟩:=hel5 i x hx;refine zad rfl ?_;refine zaa (za9 UnF.h SzF.h rfl hsl5 rfl rfl hi fun q0 hq0=>?_);rw [hcx] at hq0;refine zaa (zat (k:=2) PlF.h rfl (by decide) rfl hq0 ?_);refine zaa (za8 ZeF.h fun H6 hk6 hr6=>?_);refine zad rfl ?_;obtain ⟨by_,hby⟩:∃b,b=H5.nx:=⟨_,rfl⟩
 have hoff6:Off b H6 u5 by_:=by
  have:=hr6.1;rw [hby];exact W5.fresh this
 rw [←hby] at hr6 ⊢;refine zaa (zan (k:=2) SzF.h rfl rfl rfl rfl hr6 rfl fun H7 hk7 hn7 hr7=>?_);have hk57:Keep Non H5 H7:=(hk6.trans hk7 fun c hc=>.inr (by rw [hc,hby];exact Jz _)).wide fun _ h=>h;have W7:=W5.keep0 hk57;have k47:Wk b H4 u4 H7 u5:=k45.trans (.of hk57);have hoff7:Off b H7 u5 by_:=⟨by rw [hn7];exact hoff6.1,hoff6.2.1,hoff6.2.2⟩
 obtain ⟨s5,hs5⟩:∃s5,s5=wPrms (p.params.take i) 0 s4:=⟨_,rfl⟩
 rw [←hs5] at W7 hlen;refine zab (zaj ?_);refine zj1 (fun l' H'=>∃u8,Wk b H7 u5 H' u8∧Wr b H' u8 (if 0<i then s5.put [[44]] else s5)∧Sb [(0,.ptr b 0),(3,.ptr bx 0),(5,.ptr by_ 0),(17,vm),(18,.int .i64 (p.params.length:Int)),(19,.int .i64 (i:Int))] l') ?_ ?_
 ·refine zac ?_;by_cases h0:0<i
  ·rw [if_pos h0];(repeat ((refine zaa ?_;first|refine zal rfl ?_|refine zcn rfl rfl (by omega) ?_)));refine zab (zai rfl (za1 ?_));refine zad rfl ?_;refine zaa (zap (n:=1) ElF.h (by decide) rfl rfl fun Hp8 hp8 rp8=>?_);refine zaa (zaf rfl rfl rfl (zce (ws:=[[44]]) (W7.keep0 hp8) (IsRow.sl (es:=1) (n:=1) rp8 rfl (Jz 1)) (by simp only [Jy,J9];omega) fun u8 H8 k8 W8=>?_));replace k8:=(Wk.of hp8).trans k8;exact zab ⟨u8,k8,W8,rfl,rfl,rfl,rfl,rfl,rfl,trivial⟩
  ·rw [if_neg h0];(repeat ((refine zaa ?_;first|refine zal rfl ?_|refine zd1 rfl rfl (by omega) ?_)));exact zab (zag rfl (zam ⟨u5,.refl _ _ _,W7,rfl,rfl,rfl,rfl,rfl,rfl,trivial⟩))
 rintro l8 H8 ⟨u8,k8,W8,hs8⟩;have hl8:(if 0<i then s5.put [[44]] else s5).words.length≤s5.words.length+1:=by
  split
  ·rw [zaw];simp
  ·omega
 have hr8:=k8.row hoff7 hr7;have hoff8:=k8.off hoff7;refine VA.sub hs8 (zac ?_);refine zad rfl ?_;(repeat ((refine zaa ?_;first|refine zae FpF.h (by decide) rfl ?_|refine zah PlF.h rfl hr8 rfl ?_);refine zad rfl ?_));refine zaa (zaf rfl rfl rfl (zp4 W8 (by omega) fun u9 H9 k9 W9=>?_));have hr9:=k9.row hoff8 hr8;refine zab (za1 ?_);refine zad rfl ?_;(repeat ((refine zaa ?_;first|refine zae FpF.h (by decide) rfl ?_|refine zah PlF.h rfl hr9 rfl ?_);refine zad rfl ?_));have k49:=k47.trans (k8.trans k9);refine zaa (zaf rfl rfl rfl (ze7 (n:=x.name) W9 (hK.keep (kk4.trans k49).keep) (by omega) (by rw [ziv];omega) fun u10 H10 k10 W10=>?_));refine zab (za1 ?_);refine zaa (zaz (c:=((i+1:Nat):Int)) rfl rfl Ju ?_);refine zad rfl ?_;refine zab ⟨i+1,?_,⟨rfl,rfl,rfl,rfl,rfl,trivial⟩,by omega,u10,k49.trans k10,?_⟩
 ·show p.params.length-(i+1)<p.params.length-i;omega
 ·rw [zbs hx,zm1,←hs5,Qh,Nat.min_eq_left (by omega),Nat.zero_add];exact W10
theorem zgg {p:Prc}{c:List AV}(h:IsPc A H c p):scalL c=true:=by
 obtain ⟨v,w,rfl,_,_,_,_,h1,h2⟩:=h;have a1:=zb2 h1;have a2:=zb2 h2;refine zdq fun v hv=>?_;simp only [List.mem_cons,List.not_mem_nil,or_false] at hv;rcases hv with rfl|rfl|rfl|rfl<;>first|assumption|rfl
theorem zm5 {p:List Prc}(hp:IsPg A H v p) (hA:∀a,A a→a<H.nx) (hK:KeysIn H) (hd:sizPs p<1000) (hQ:∀H',Keep Non H H'→Q (outT (okPs p) (wdPs p) (dpPs p)) H'):WpF prog tb gl 16 [v] H Q:=by
 have hrB:rB=140737488351232:=rfl;obtain ⟨hpl,vp,rfl,hLp⟩:=hp;refine fa func16 b16_eq v16_eq r16_eq (.inr (by simp)) ?_;refine zac ?_;refine zaa (zcy rfl fun H1 hk1 hr1=>?_);obtain ⟨bx,hbx⟩:∃b,b=H.nx:=⟨_,rfl⟩
 rw [←hbx] at hr1 ⊢;have hr1:IsRow H1 bx [vp] false false:=hr1;refine zad rfl ?_;refine zab (zac ?_);refine zaa (zba BsF.h ZeF.h (pl:=[]) rfl rfl ?_);refine zaa (zcy rfl fun H2 hk2 hr2=>?_);obtain ⟨bw,hbw⟩:∃b,b=H1.nx:=⟨_,rfl⟩
 rw [←hbw] at hr2 ⊢;have W2:=wr_new hr2;have hbl:bx<bw:=by rw [hbw];exact hr1.1
 have hnx1:=hk1.nx;have hk02:=hk1.trans0 hk2;have hA2:∀a,A a→Off bw H2 .nils a:=fun a ha=>⟨Nat.lt_of_lt_of_le (hA a ha) hk02.nx,by have:=hA a ha;omega,id⟩
 have hLp2:IsLs A (IsPc A) 4 H2 vp p:=hLp.keep hk02 fun _ _ _ h=>h.keep hk02;have keepP:∀H' u',Wk bw H2 .nils H' u'→IsLs A (IsPc A) 4 H' vp p:=fun H' u' k=>hLp2.keepS k.keep (fun c hc hs=>hs.elim (hA2 c hc).2.1 (hA2 c hc).2.2) fun _ _ _ h=>h.keepS k.keep fun c hc hs=>hs.elim (hA2 c hc).2.1 (hA2 c hc).2.2;obtain ⟨els,hsl,_⟩:=zbe hLp2;refine zad rfl ?_;refine zab (zaj (zac ?_));have hr12:=hr1.keep0 hk2;refine zad rfl ?_;(repeat ((refine zaa ?_;first|refine zae FpF.h (by decide) rfl ?_|refine zah PlF.h rfl hr12 rfl ?_|refine za3 rfl rfl rfl UnF.h rfl hsl ?_);refine zad rfl ?_));refine zab (zau ?_);refine zbv (fun (i:Nat)=>[(4,.ptr bw 0),(10,vp),(11,.int .i64 (p.length:Int)),(12,.int .i64 (i:Int))]) (fun i H'=>i≤p.length∧∃u',Wk bw H2 .nils H' u'∧Wr bw H' u' (wProcs (p.take i) ⟨[],false,0⟩)) (fun i=>p.length-i) ?_ 0 _ H2 ⟨rfl,rfl,rfl,rfl,trivial⟩ ⟨Nat.zero_le _,.nils,.refl _ _ _,W2⟩;rintro i H3 ⟨hle,u3,k23,W3⟩;have hlen:=zjr (p.take i) ⟨[],false,0⟩;simp only [J9] at hlen;have htk:=zfj p i;refine zac ?_;by_cases hi:i<p.length;rotate_left
 ·refine zaa (zck rfl rfl (Qf (by omega)) (zab (zaj (zag rfl (zbq (zac ?_))))));rw [Qd (by omega)] at W3 hlen;have heff:=zjq p;have hk23:Keep Non H1 H3:=hk2.trans k23.keep fun c hc=>.inr (hc.elim (fun hc=>by rw [hc,hbw];exact Jz _) fun hc=>hc.elim);refine zad rfl ?_;have hsh:(wProcs p ⟨[],false,0⟩).bad=false→((wProcs p ⟨[],false,0⟩).words.flatMap (32 :: ·)).length<500000:=by
   intro hb;have hok:okPs p=true:=by
    cases h:okPs p with
    |true=>rfl
    |false=>have:=heff.no ⟨[],false,0⟩ rfl h;rw [hb] at this;cases this
   have h1:=heff.yes ⟨[],false,0⟩ rfl hok;have h2:=znj (zzj hok fun q hq x hx=>by
    obtain ⟨c,v1,w1,_,_,_,_,_,_,hb⟩:=zkb hLp hq;obtain ⟨c,hc⟩:=zkb hb hx;exact znp hc)
   rw [h1] at hlen ⊢;simp only [List.nil_append] at hlen ⊢;omega
  refine zaa (zaf rfl rfl rfl (zvz W3 (by omega) hsh fun H4 hk4=>?_));have hout:outT (!(wProcs p ⟨[],false,0⟩).bad) (wProcs p ⟨[],false,0⟩).words (wProcs p ⟨[],false,0⟩).most=outT (okPs p) (wdPs p) (dpPs p):=by
   cases h:okPs p with
   |true=>rw [heff.yes ⟨[],false,0⟩ rfl h];simp
   |false=>rw [heff.no ⟨[],false,0⟩ rfl h];simp [outT]
  rw [hout];have hfin:=hQ H4 (hk1.trans0 (hk23.trans0 hk4));obtain ⟨t,e,ht⟩:∃t e,outT (okPs p) (wdPs p) (dpPs p)=.tup [t,e]:=by
   unfold outT;split
   ·exact ⟨_,_,rfl⟩
   ·split<;>exact ⟨_,_,rfl⟩
  rw [ht] at hfin ⊢;refine zad rfl ?_;exact zab (zao ⟨_,rfl,hfin⟩)
 obtain ⟨x,hx⟩:∃x,p[i]? = some x:=⟨_,Qa hi⟩
 refine zaa (zck rfl rfl (Qg (by omega)) (zab (zaj (zai rfl (zam (zaj (zau (zac ?_))))))));obtain ⟨els3,hsl3,hel3⟩:=zbe (keepP H3 u3 k23);obtain ⟨cx,hcx,hEx⟩:=hel3 i x hx;have hcx4:cx.length=4:=by obtain ⟨_,_,h,_⟩:=hEx;rw [h];rfl
 have hsx:sizPs (p.take i)+sizP x≤sizPs p:=by
  have:=zfj p (i+1);rw [zbs hx,zg7] at this;exact this
 refine zad rfl ?_;refine zaa (za9 UnF.h SzF.h rfl hsl3 rfl rfl hi fun q0 hq0=>?_);rw [hcx] at hq0;refine zaa (zat (k:=4) PlF.h hcx4 (by decide) rfl hq0 ?_);refine zaa (za8 ZeF.h fun H4 hk4 hr4=>?_);refine zad rfl ?_;obtain ⟨by_,hby⟩:∃b,b=H3.nx:=⟨_,rfl⟩
 rw [←hby] at hr4 ⊢;refine zaa (zan (k:=4) SzF.h hcx4 rfl rfl (zgg hEx) hr4 hcx4 fun H5 hk5 hn5 hr5=>?_);have hk35:Keep Non H3 H5:=(hk4.trans hk5 fun c hc=>.inr (by rw [hc,hby];exact Jz _)).wide fun _ h=>h;have W5:=W3.keep0 hk35;have k25:Wk bw H2 .nils H5 u3:=k23.trans (.of hk35);have hE5:=hEx.keep hk35;refine zab (za1 ?_);refine zad rfl ?_;refine zaa (zat (k:=4) PlF.h hcx4 (by decide) rfl hr5.pts ?_);refine zaa (zaf rfl rfl rfl (proc_ok (p:=x) hE5 (fun a ha=>k25.off (hA2 a ha)) (hK.keep hk02 |>.keep k25.keep) W5 (by omega) (by omega) fun u7 H7 k7 W7=>?_));refine zab (za1 ?_);refine zaa (zaz (c:=((i+1:Nat):Int)) rfl rfl Ju ?_);refine zad rfl ?_;refine zab ⟨i+1,?_,⟨rfl,rfl,rfl,rfl,trivial⟩,by omega,u7,k25.trans k7,?_⟩
 ·show p.length-(i+1)<p.length-i;omega
 ·rw [zbs hx,zl6];exact W7
end
end Go.Proofs.YtniflgldgnmiaaaGreatDoor
