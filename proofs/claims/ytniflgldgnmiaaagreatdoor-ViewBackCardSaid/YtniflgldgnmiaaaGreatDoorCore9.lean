/-
  THE ENGINE, part WK: nested arguments: slices of structs that hold texts and slices, laid as blocks that nobody writes.
-/
import Derived.Test.YtniflgldgnmiaaaGreatDoorCore8
namespace Go.Proofs.YtniflgldgnmiaaaGreatDoor
namespace Eng
open Go
section
variable {P:Program}{W:World}{α β γ:Type}
def Lays (W:World) (R:Heap→List AV→α→Prop) (cs:List Value) (a:α):Prop:=
 ∀ρ H,HR ρ H W→AllRo H→Frees ρ H→∃ρ' H' c,HR ρ' H' W∧AllRo H'∧Frees ρ' H'∧Sub ρ ρ'∧Keep Non H H'∧DL ρ' c cs∧R H' c a
theorem zjc {R:Heap→List AV→α→Prop}{cs:List Value}{c:List AV}{a:α}(h:∀ρ,DL ρ c cs) (hr:∀H,R H c a):Lays W R cs a:=
 fun ρ H h1 h2 h3=>⟨ρ,H,c,h1,h2,h3,.refl ρ,.refl _ _,h ρ,hr H⟩
theorem Lays.append {R:Heap→List AV→α→Prop}{S:Heap→List AV→β→Prop}{T:Heap→List AV→γ→Prop}{cs ds:List Value}{a:α}{b:β}{g:γ}(h:Lays W R cs a) (k:Lays W S ds b)
  (hu:∀H H' c,R H c a→Keep Non H H'→R H' c a) (hT:∀H c d,R H c a→S H d b→T H (c++d) g):Lays W T (cs++ds) g:=by
 intro ρ H h1 h2 h3;obtain ⟨ρ1,H1,c,g1,g2,g3,g4,g5,g6,g7⟩:=h ρ H h1 h2 h3;obtain ⟨ρ2,H2,d,e1,e2,e3,e4,e5,e6,e7⟩:=k ρ1 H1 g1 g2 g3;exact ⟨ρ2,H2,c++d,e1,e2,e3,g4.trans e4,g5.trans0 e5,(g6.mono e4).append e6,hT _ _ _ (hu _ _ _ g7 e5) e7⟩
theorem Lays.imp {R:Heap→List AV→α→Prop}{S:Heap→List AV→β→Prop}{cs:List Value}{a:α}{b:β}(h:Lays W R cs a) (hT:∀H c,R H c a→S H c b):Lays W S cs b:=by
 intro ρ H h1 h2 h3;obtain ⟨ρ1,H1,c,g1,g2,g3,g4,g5,g6,g7⟩:=h ρ H h1 h2 h3;exact ⟨ρ1,H1,c,g1,g2,g3,g4,g5,g6,hT _ _ g7⟩
inductive F2 {α β:Type}(R:α→β→Prop):List α→List β→Prop
 |nil:F2 R [] []
 |cons {a:α}{b:β}{l:List α}{m:List β}:R a b→F2 R l m→F2 R (a::l) (b::m)
theorem F2.length {R:α→β→Prop}{l:List α}{m:List β}(h:F2 R l m):l.length=m.length:=by
 induction h with
 |nil=>rfl
 |cons _ _ ih=>simp [ih]
theorem F2.snoc {R:α→β→Prop}{l:List α}{m:List β}{a:α}{b:β}(h:F2 R l m) (k:R a b):F2 R (l++[a]) (m++[b]):=by
 induction h with
 |nil=>exact .cons k .nil
 |cons h _ ih=>exact .cons h ih
theorem F2.imp {R S:α→β→Prop}{l:List α}{m:List β}(h:F2 R l m) (k:∀a b,R a b→S a b):F2 S l m:=by
 induction h with
 |nil=>exact .nil
 |cons h _ ih=>exact .cons (k _ _ h) ih
theorem F2.get {R:α→β→Prop}{l:List α}{m:List β}(h:F2 R l m):∀(i:Nat) (a:α),l[i]? = some a→∃b,m[i]? = some b∧R a b:=by
 induction h with
 |nil=>intro i a h;simp at h
 |cons h _ ih=>
  intro i a hi;cases i with
  |zero=>simp only [List.getElem?_cons_zero,Option.some.injEq] at hi;subst hi;exact ⟨_,rfl,h⟩
  |succ i=>simpa using ih i a (by simpa using hi)
theorem F2.get' {R:α→β→Prop}{l:List α}{m:List β}(h:F2 R l m):∀(i:Nat) (b:β),m[i]? = some b→∃a,l[i]? = some a∧R a b:=by
 induction h with
 |nil=>intro i a h;simp at h
 |cons h _ ih=>
  intro i a hi;cases i with
  |zero=>simp only [List.getElem?_cons_zero,Option.some.injEq] at hi;subst hi;exact ⟨_,rfl,h⟩
  |succ i=>simpa using ih i a (by simpa using hi)
theorem F2.flat {ρ:Rho}{l:List (List AV)}{m:List (List Value)}(h:F2 (DL ρ) l m):DL ρ l.flatten m.flatten:=by
 induction h with
 |nil=>exact .nil
 |cons h _ ih=>rw [List.flatten_cons,List.flatten_cons];exact h.append ih
def IsSlA (A:Nat→Prop) (H:Heap) (v:AV) (es n:Nat) (cs:List AV):Prop:=cs.length=n*es∧(((v=.nils∨∃a,v=.sz a)∧n=0)∨
 ∃b o row tl ro,((v=.so b o n es∧o+n*es≤row.length)∨∃c,v=.sl b o n c∧n≤c)∧IsRow H b row tl ro∧(ro=true∨A b)∧∀j,j<cs.length→row[o+j]? = cs[j]?)
theorem IsSlA.keepS {A S:Nat→Prop}{H H':Heap}{v:AV}{es n:Nat}{cs:List AV}(h:IsSlA A H v es n cs) (k:Keep S H H') (hs:∀c,A c→¬S c):IsSlA A H' v es n cs:=by
 obtain ⟨h0,h⟩:=h;refine ⟨h0,h.imp id ?_⟩;rintro ⟨b,o,row,tl,ro,h1,h2,h3,h4⟩;exact ⟨b,o,row,tl,ro,h1,h2.keep k (h3.elim .inr fun h=>.inl (hs b h)),h3,h4⟩
theorem IsSlA.sl {A:Nat→Prop}{H:Heap}{v:AV}{es n:Nat}{cs:List AV}(h:IsSlA A H v es n cs):IsSl H v es n cs:=by
 obtain ⟨h0,⟨h|⟨a,h⟩,hn⟩|⟨b,o,row,tl,ro,h1,h2,_,h3⟩⟩:=h
 ·exact ⟨h0,.inl ⟨h,hn⟩⟩
 ·exact ⟨h0,.inr (.inl ⟨.inr ⟨a,h⟩,hn⟩)⟩
 ·exact ⟨h0,.inr (.inr ⟨b,o,row,tl,ro,h1,h2,h3⟩)⟩
theorem IsSlR.a {A:Nat→Prop}{H:Heap}{v:AV}{es n:Nat}{cs:List AV}(h:IsSlR H v es n cs):IsSlA A H v es n cs:=by
 obtain ⟨h0,h|⟨b,o,row,tl,h1,h2,h3⟩⟩:=h
 ·exact ⟨h0,.inl h⟩
 ·exact ⟨h0,.inr ⟨b,o,row,tl,true,.inr h1,h2,.inl rfl,h3⟩⟩
theorem IsSlA.wide {A B:Nat→Prop}{H:Heap}{v:AV}{es n:Nat}{cs:List AV}(h:IsSlA A H v es n cs) (hs:∀c,A c→B c):IsSlA B H v es n cs:=by
 obtain ⟨h0,h|⟨b,o,row,tl,ro,h1,h2,h3,h4⟩⟩:=h
 ·exact ⟨h0,.inl h⟩
 ·exact ⟨h0,.inr ⟨b,o,row,tl,ro,h1,h2,h3.imp id (hs b),h4⟩⟩
def IsLs (A:Nat→Prop) (R:Heap→List AV→α→Prop) (z:Nat) (H:Heap) (v:AV) (as:List α):Prop:=∃els:List (List AV),IsSlA A H v z as.length els.flatten∧F2 (R H) els as∧∀c∈els,c.length=z
theorem IsLs.keepS {A S:Nat→Prop}{R:Heap→List AV→α→Prop}{z:Nat}{H H':Heap}{v:AV}{as:List α}(h:IsLs A R z H v as) (k:Keep S H H') (hs:∀c,A c→¬S c) (hu:∀c,∀a∈as,R H c a→R H' c a):IsLs A R z H' v as:=by
 obtain ⟨els,h1,h2,h3⟩:=h;refine ⟨els,h1.keepS k hs,?_,h3⟩;clear h1 h3
 induction h2 with
 |nil=>exact .nil
 |cons h _ ih=>exact .cons (hu _ _ (by simp) h) (ih fun c a ha=>hu c a (by simp [ha]))
theorem IsLs.keep {A:Nat→Prop}{R:Heap→List AV→α→Prop}{z:Nat}{H H':Heap}{v:AV}{as:List α}(h:IsLs A R z H v as) (k:Keep Non H H') (hu:∀c,∀a∈as,R H c a→R H' c a):IsLs A R z H' v as:=h.keepS k (fun _ _=>id) hu
theorem zwu {R:Heap→List AV→α→Prop}(hu:∀H H' c a,R H c a→Keep Non H H'→R H' c a) {vs:List (List Value)}{as:List α}(h:F2 (Lays W R) vs as):
  ∀ρ H,HR ρ H W→AllRo H→Frees ρ H→∃ρ' H' cs,HR ρ' H' W∧AllRo H'∧Frees ρ' H'∧Sub ρ ρ'∧Keep Non H H'∧F2 (DL ρ') cs vs∧F2 (R H') cs as:=by
 induction h with
 |nil=>exact fun ρ H h1 h2 h3=>⟨ρ,H,[],h1,h2,h3,.refl ρ,.refl _ _,.nil,.nil⟩
 |cons h _ ih=>
  intro ρ H h1 h2 h3;obtain ⟨ρ1,H1,c,g1,g2,g3,g4,g5,g6,g7⟩:=h ρ H h1 h2 h3;obtain ⟨ρ2,H2,d,e1,e2,e3,e4,e5,e6,e7⟩:=ih ρ1 H1 g1 g2 g3;exact ⟨ρ2,H2,c::d,e1,e2,e3,g4.trans e4,g5.trans0 e5,.cons (g6.mono e4) e6,.cons (hu _ _ _ _ g7 e5) e7⟩
theorem zo1 {c:Array Value}{z:Nat}:∀(us:List (List Value)) (off:Nat),(∀(i:Nat) ds,us[i]? = some ds→ds.length=z∧∀j,j<z→c[off+(i*z+j)]? = ds[j]?)→us.flatten.length=us.length*z∧∀(k:Nat) y,us.flatten[k]? = some y→c[off+k]? = some y
 |[],_,_=>⟨by simp,fun k y h=>by simp at h⟩
 |d::us,off,h=>by
  obtain ⟨h1,h2⟩:=h 0 d rfl;obtain ⟨h3,h4⟩:=zo1 us (off+z) fun i ds hi=>by
   obtain ⟨g1,g2⟩:=h (i+1) ds (by simpa using hi);refine ⟨g1,fun j hj=>?_⟩;have:=g2 j hj;rw [Nat.add_mul,Nat.one_mul] at this;rw [show off+z+(i*z+j)=off+(i*z+z+j) by omega];exact this
  refine ⟨by rw [List.flatten_cons,J1,h3,h1,Jy,Nat.add_mul];omega,fun k y hy=>?_⟩;rw [List.flatten_cons,List.getElem?_append] at hy;by_cases hk:k<d.length
  ·rw [if_pos hk] at hy;have:=h2 k (by omega);rw [Nat.zero_mul,Nat.zero_add] at this;rw [this];exact hy
  ·rw [if_neg hk] at hy;have:=h4 _ y hy;rw [show off+z+(k-d.length)=off+k by omega] at this;exact this
theorem zvq {w:World}{a:Addr}{v:Value}(h:w.cell? a=some v):a.spot=none∧∃c e fz,w.heap[a.block]? = some (.cells c e fz)∧c[a.off]? = some v:=by
 unfold World.cell? at h;split at h
 ·rename_i h1 h2;split at h
  ·cases h
  ·rename_i hs;exact ⟨by cases ha:a.spot<;>simp_all,_,_,_,h2,h⟩
 ·cases h
theorem zd6 {H0:Type}{enc:TypeId×Value→H0}{base:Nat}{held:Bool}{fuel:Nat}{t e:TypeId}{z B:Nat}{cs:List Value}{x:DataW H0×List MemPlace}{R:Heap→List AV→α→Prop}{Q:α→Prop}
  (hup:∀H H' c a,R H c a→Keep Non H H'→R H' c a) (hu:P.underlying t=some (.slice e)) (hz:P.cellsOf e=z) (hz0:0<z) (hby:0<P.bytesOf e)
  (h:DataW.trod enc P W base (fun _=>true) held fuel t cs=some x) (hB:∀k∈x.1.weights P t,k≤B)
  (hel:∀n ds y,fuel=n+1→DataW.trod enc P W base (fun _=>true) held n e ds=some y→(∀k∈y.1.weights P e,k≤B)→∃a,Q a∧Lays W R ds a):
  ∃as:List α,(∀a∈as,Q a)∧as.length≤B∧Lays W (fun H c as=>∃v,c=[v]∧IsLs Non R z H v as) cs as:=by
 rcases DataW.trod_slice hu h with ⟨rfl,_⟩|⟨a,len,cap,elems,rest,n,hn,rfl,rfl,_,hlc,hcm,hlen,hget,hsp,_⟩
 ·exact ⟨[],fun _ h=>(by cases h),Nat.zero_le _,zjc (c:=[.nils]) (fun ρ=>.cons rfl .nil) fun H=>⟨_,rfl,[],⟨by simp,.inl ⟨.inl rfl,rfl⟩⟩,.nil,fun _ h=>(by cases h)⟩⟩
 ·obtain ⟨hrl,hrest⟩:=hsp rfl;simp only [DataW.weights,hu] at hB;have hBl:len≤B:=by
   have h1:=hB _ (List.mem_cons_self ..);rw [List.length_map,List.length_map,hlen,hrl] at h1;have h2:(len+(cap-len))*1≤(len+(cap-len))*P.bytesOf e:=Nat.mul_le_mul_left _ hby;omega
  -- a cell that is there
  have hblk:∀k,∀ds,W.cells? base (a.add (k*z)) z=some ds→(k*z=0→a.spot=none)∧∃c ce fz,W.heap[a.block]? = some (.cells c ce fz)∧ds.length=z∧∀j,j<z→c[a.off+(k*z+j)]? = ds[j]?:=by
   intro k ds hds;obtain ⟨h1,h2⟩:=zov hds;have h3:=h2 0 hz0;rw [Qa (by omega)] at h3;have h3':W.cell? (a.add (k*z))=some (ds[0]'(by omega)):=h3;obtain ⟨hs,c,ce,fz,hc,_⟩:=zvq h3';have hbl:(a.add (k*z)).block=a.block:=by unfold Addr.add;split<;>rfl
   rw [hbl] at hc;refine ⟨fun h0=>by rw [h0] at hs;exact hs,c,ce,fz,hc,h1,fun j hj=>?_⟩;have h4:=h2 j hj;rw [Qa (by omega)] at h4 ⊢;obtain ⟨_,c',ce',fz',hc',h5⟩:=zvq h4;have hbl':((a.add (k*z)).add j).block=a.block:=by unfold Addr.add;split<;>split<;>rfl
   have hof':((a.add (k*z)).add j).off=a.off+(k*z+j):=by
    unfold Addr.add;by_cases h0:k*z=0
    ·by_cases hj0:j=0
     ·simp [h0,hj0]
     ·simp [h0,hj0]
    ·by_cases hj0:j=0
     ·simp [h0,hj0]
     ·simp [h0,hj0,Nat.add_assoc]
   rw [hbl',hc] at hc';injection hc' with hc'
   injection hc' with hc' _ _
   subst hc';rw [hof'] at h5;exact h5
  -- all elements
  have hlist:∀k,k≤len→∃(vs:List (List Value)) (as:List α),vs.length=k∧F2 (Lays W R) vs as∧(∀a∈as,Q a)∧∀(i:Nat) ds,vs[i]? = some ds→W.cells? base (a.add (i*z)) z=some ds:=by
   intro k
   induction k with
   |zero=>exact fun _=>⟨[],[],rfl,.nil,fun _ h=>(by cases h),fun i cs h=>(by simp at h)⟩
   |succ k ih=>
    intro hk;obtain ⟨vs,as,h1,h2,h3,h4⟩:=ih (by omega);have h5:=hget k (by omega);rw [Qa (by omega),Option.bind_eq_some_iff,hz] at h5;obtain ⟨ds,h6,h7⟩:=h5;obtain ⟨b,hq,hl⟩:=hel n ds _ hn h7 fun w hw=>hB w (List.mem_cons_of_mem _ (List.mem_append.2 (.inl (zhh (List.mem_map.2 ⟨elems[k],List.getElem_mem (by omega),rfl⟩) hw))));refine ⟨vs++[ds],as++[b],by simp [h1],h2.snoc hl,fun c hc=>?_,fun i d hd=>?_⟩
    ·rcases List.mem_append.1 hc with hc|hc
     ·exact h3 c hc
     ·rw [List.mem_singleton.1 hc];exact hq
    ·rw [List.getElem?_append] at hd;by_cases hi:i<vs.length
     ·rw [if_pos hi] at hd;exact h4 i d hd
     ·rw [if_neg hi] at hd;have hi':i=k:=by
       have:=(Qb.1 hd).1;simp at this;omega
      subst hi';rw [h1,Nat.sub_self] at hd;simp only [List.getElem?_cons_zero,Option.some.injEq] at hd;subst hd;exact h6
  obtain ⟨vs,as,hvl,hF,hQ,hvc⟩:=hlist len (Jz _);have hal:as.length=len:=by rw [←hF.length,hvl]
  refine ⟨as,hQ,by omega,fun ρ H h1 h2 h3=>?_⟩;obtain ⟨ρ1,H1,els,g1,g2,g3,g4,g5,g6,g7⟩:=zwu hup hF ρ H h1 h2 h3;by_cases hc0:cap=0
  ·have hl0:len=0:=by omega
   subst hc0;subst hl0;have hvs:vs=[]:=List.length_eq_zero_iff.1 hvl;have has:as=[]:=List.length_eq_zero_iff.1 hal;subst hvs;subst has;cases g6;exact ⟨ρ1,H1,[.sz a],g1,g2,g3,g4,g5,.cons rfl .nil,_,rfl,[],IsSlR.a ⟨by simp,.inl ⟨.inr ⟨a,rfl⟩,rfl⟩⟩,g7,fun _ h=>(by cases h)⟩
  ·-- the block is there
   obtain ⟨hspot,c,ce,fz,hc⟩:a.spot=none∧∃c ce fz,W.heap[a.block]? = some (.cells c ce fz):=by
    by_cases hl0:len=0
    ·have h5:=hrest 0 (by omega);rw [Qa (by omega),Option.bind_eq_some_iff,hz] at h5;obtain ⟨ds,h6,_⟩:=h5;have h6:W.cells? base (a.add (0*z)) z=some ds:=by simpa [hl0] using h6
     obtain ⟨e1,c,ce,fz,e2,_⟩:=hblk 0 ds h6;exact ⟨e1 (by simp),c,ce,fz,e2⟩
    ·have h5:=hget 0 (by omega);rw [Qa (by omega),Option.bind_eq_some_iff,hz] at h5;obtain ⟨ds,h6,_⟩:=h5;obtain ⟨e1,c,ce,fz,e2,_⟩:=hblk 0 ds h6;exact ⟨e1 (by simp),c,ce,fz,e2⟩
   obtain ⟨hfl,hfg⟩:=zo1 (c:=c) (z:=z) vs a.off fun i ds hi=>by
    obtain ⟨_,c',ce',fz',hc',e1,e2⟩:=hblk i ds (hvc i ds hi);rw [hc] at hc';injection hc' with hc'
    injection hc' with hc' _ _
    subst hc';exact ⟨e1,e2⟩
   have hDL:=g6.flat;have hlenA:els.flatten.length=len*z:=by rw [hDL.length,hfl,hvl]
   have helz:∀d∈els,d.length=z:=fun d hd=>by
    obtain ⟨i,hi⟩:=List.getElem?_of_mem hd;obtain ⟨v,hv,hdl⟩:=g6.get i d hi;obtain ⟨_,_,_,_,_,e1,_⟩:=hblk i v (hvc i v hv);rw [hdl.length,e1]
   by_cases hl0:len=0
   ·have hnil:els.flatten=[]:=List.length_eq_zero_iff.1 (by rw [hlenA,hl0];simp);have hB:CellsOK (upd ρ1 H1.nx ⟨a.block,0,0⟩) W ⟨a.block,0,0⟩ (layT .lf 0 ([]:List AV)) 0 true:=⟨c,ce,fz,hc,Jz _,Nat.zero_le _,fun h=>(by cases h),fun i u hu=>by
     rw [zcu,if_neg (by simp),Tr.get_lf] at hu;cases hu⟩
    obtain ⟨e1,e2,e3,e4,e5⟩:=g1.push_ro g2 g3 hB;refine ⟨_,_,[.sl H1.nx a.off len cap],e1,e2,e3,g4.trans e4,g5.trans0 e5,.cons ?_ .nil,_,rfl,els,IsSlR.a ⟨by rw [hlenA,hal],.inr ⟨H1.nx,a.off,[],false,⟨cap,by rw [hal],by omega⟩,zg5 _ _ _ _ _ (.lay _),fun j hj=>by rw [hnil] at hj;cases hj⟩⟩,g7.imp fun c a h=>hup _ _ _ _ h e5,helz⟩;simp only [den,zcx,Nat.zero_add];obtain ⟨ab,ao,as⟩:=a;simp only at hspot;subst hspot;rfl
   ·have hpos:0<len*z:=Nat.mul_pos (by omega) hz0;have hB:CellsOK (upd ρ1 H1.nx ⟨a.block,a.off,len*z⟩) W ⟨a.block,a.off,len*z⟩ (layT .lf 0 els.flatten) els.flatten.length true:=by
     refine ⟨c,ce,fz,hc,Nat.le_of_eq hlenA,?_,fun h=>(by cases h),fun i u hu=>?_⟩
     ·have hy:vs.flatten[len*z-1]? = some (vs.flatten[len*z-1]'(by rw [hfl,hvl];omega)):=Qa _;have:=hfg _ _ hy;have:=(Array.getElem?_eq_some_iff.1 this).1;show a.off+len*z≤c.size;omega
     ·rw [zcu,Tr.get_lf] at hu;by_cases hi:0≤i∧i<0+els.flatten.length
      ·rw [if_pos hi,Nat.sub_zero] at hu;obtain ⟨y,hy,hd⟩:=hDL.get hu;exact ⟨by omega,y,zc3 (.upd (g3 _ (Jz _))) _ _ hd,hfg _ _ hy⟩
      ·rw [if_neg hi] at hu;cases hu
    obtain ⟨e1,e2,e3,e4,e5⟩:=g1.push_ro g2 g3 hB;refine ⟨_,_,[.sl H1.nx 0 len cap],e1,e2,e3,g4.trans e4,g5.trans0 e5,.cons ?_ .nil,_,rfl,els,IsSlR.a ⟨by rw [hlenA,hal],.inr ⟨H1.nx,0,_,false,⟨cap,by rw [hal],by omega⟩,zg5 _ _ _ _ _ (.lay _),fun j hj=>by rw [Nat.zero_add]⟩⟩,g7.imp fun c a h=>hup _ _ _ _ h e5,helz⟩;simp only [den,zcx,Nat.add_zero];obtain ⟨ab,ao,as⟩:=a;simp only at hspot;subst hspot;rfl
def rB:Nat:=140737488351232
def ok64 (n:Int):Prop:=-9223372036854775808≤n∧n<9223372036854775808
inductive Exp where
 |mk (kind:Int) (name:List UInt8) (num:Int) (l:List Exp)
inductive Stm where
 |mk (kind:Int) (name proc:List UInt8) (num:Int) (e:List Exp) (body els:List Stm)
structure Prm where
 name:List UInt8
 type:Int
structure Prc where
 name:List UInt8
 params:List Prm
 type:Int
 body:List Stm
def Exp.kind:Exp→Int|.mk k _ _ _=>k
def Exp.name:Exp→List UInt8|.mk _ s _ _=>s
def Exp.num:Exp→Int|.mk _ _ n _=>n
def Exp.l:Exp→List Exp|.mk _ _ _ l=>l
def Stm.kind:Stm→Int|.mk k _ _ _ _ _ _=>k
def Stm.name:Stm→List UInt8|.mk _ s _ _ _ _ _=>s
def Stm.proc:Stm→List UInt8|.mk _ _ s _ _ _ _=>s
def Stm.num:Stm→Int|.mk _ _ _ n _ _ _=>n
def Stm.e:Stm→List Exp|.mk _ _ _ _ e _ _=>e
def Stm.body:Stm→List Stm|.mk _ _ _ _ _ b _=>b
def Stm.els:Stm→List Stm|.mk _ _ _ _ _ _ b=>b
mutual
def szE:Exp→Nat
 |.mk _ _ _ l=>szEs l+1
def szEs:List Exp→Nat
 |[]=>0
 |e::l=>szE e+szEs l+1
end
mutual
def szS:Stm→Nat
 |.mk _ _ _ _ _ b d=>szSs b+szSs d+1
def szSs:List Stm→Nat
 |[]=>0
 |e::l=>szS e+szSs l+1
end
theorem zha {e:Exp}:∀{l:List Exp},e∈l→szE e<szEs l
 |[],h=>by cases h
 |x::l,h=>by
  simp only [szEs];rcases List.mem_cons.1 h with rfl|h
  ·omega
  ·have:=zha h;omega
theorem zhb {e:Stm}:∀{l:List Stm},e∈l→szS e<szSs l
 |[],h=>by cases h
 |x::l,h=>by
  simp only [szSs];rcases List.mem_cons.1 h with rfl|h
  ·omega
  ·have:=zhb h;omega
inductive IsE (A:Nat→Prop):Heap→List AV→Exp→Prop
 |mk {H:Heap}{k n:Int}{s:List UInt8}{l:List Exp}{v:AV}(hk:ok64 k) (hn:ok64 n) (hs:s.length≤rB) (hl:l.length≤rB) (els:List (List AV)) (h:IsSlA A H v 4 l.length els.flatten) (hz:∀c∈els,c.length=4)
   (he:els.length=l.length) (ha:∀(i:Nat) c e,els[i]? = some c→l[i]? = some e→IsE A H c e):IsE A H [.int .i64 k,S s,.int .i64 n,v] (.mk k s n l)
theorem F2.of {R:α→β→Prop}:∀{l:List α}{m:List β},l.length=m.length→(∀(i:Nat) a b,l[i]? = some a→m[i]? = some b→R a b)→F2 R l m
 |[],[],_,_=>.nil
 |_::_,[],h,_=>by cases h
 |[],_::_,h,_=>by cases h
 |_::_,_::_,h,k=>.cons (k 0 _ _ rfl rfl) (F2.of (by simpa using h) fun i a b h1 h2=>k (i+1) a b (by simpa using h1) (by simpa using h2))
theorem IsE.keepS {A S:Nat→Prop}{H H':Heap}{c:List AV}{e:Exp}(h:IsE A H c e) (k:Keep S H H') (hs:∀c,A c→¬S c):IsE A H' c e:=by
 induction h with
 |mk hk hn hs' hl els h hz he _ ih=>exact .mk hk hn hs' hl els (h.keepS k hs) hz he fun i c e h1 h2=>ih i c e h1 h2
theorem IsE.keep {A:Nat→Prop}{H H':Heap}{c:List AV}{e:Exp}(h:IsE A H c e) (k:Keep Non H H'):IsE A H' c e:=h.keepS k fun _ _=>id
theorem IsE.out {A:Nat→Prop}{H:Heap}{c:List AV}{e:Exp}(h:IsE A H c e):∃v,c=[.int .i64 e.kind,S e.name,.int .i64 e.num,v]∧ok64 e.kind∧ok64 e.num∧e.name.length≤rB∧e.l.length≤rB∧IsLs A (IsE A) 4 H v e.l:=by
 cases h with
 |mk hk hn hs hl els h hz he ha=>exact ⟨_,rfl,hk,hn,hs,hl,els,h,.of he ha,hz⟩
theorem IsE.of {A:Nat→Prop}{H:Heap}{k n:Int}{s:List UInt8}{l:List Exp}{v:AV}(hk:ok64 k) (hn:ok64 n) (hs:s.length≤rB) (hl:l.length≤rB) (h:IsLs A (IsE A) 4 H v l):IsE A H [.int .i64 k,S s,.int .i64 n,v] (.mk k s n l):=by
 obtain ⟨els,h1,h2,h3⟩:=h;refine .mk hk hn hs hl els h1 h3 h2.length fun i c e hc he=>?_;obtain ⟨e',h4,h5⟩:=h2.get i c hc;rw [he] at h4;injection h4 with h4
 subst h4;exact h5
inductive IsS (A:Nat→Prop):Heap→List AV→Stm→Prop
 |mk {H:Heap}{k n:Int}{s p:List UInt8}{l:List Exp}{b d:List Stm}{v w u:AV}(hk:ok64 k) (hn:ok64 n) (hs:s.length≤rB) (hp:p.length≤rB) (hl:l.length≤rB) (hb:b.length≤rB) (hd:d.length≤rB) (he:IsLs A (IsE A) 4 H v l)
   (xs ys:List (List AV)) (h:IsSlA A H w 7 b.length xs.flatten) (hz:∀c∈xs,c.length=7) (hx:xs.length=b.length) (ha:∀(i:Nat) c e,xs[i]? = some c→b[i]? = some e→IsS A H c e)
   (h':IsSlA A H u 7 d.length ys.flatten) (hz':∀c∈ys,c.length=7) (hy:ys.length=d.length) (ha':∀(i:Nat) c e,ys[i]? = some c→d[i]? = some e→IsS A H c e):
   IsS A H [.int .i64 k,S s,S p,.int .i64 n,v,w,u] (.mk k s p n l b d)
theorem IsS.keepS {A S:Nat→Prop}{H H':Heap}{c:List AV}{e:Stm}(h:IsS A H c e) (k:Keep S H H') (hs:∀c,A c→¬S c):IsS A H' c e:=by
 induction h with
 |mk hk hn hs' hp hl hb hd he xs ys h hz hx _ h' hz' hy _ ih ih'=>
  exact .mk hk hn hs' hp hl hb hd (he.keepS k hs fun c a _ h=>h.keepS k hs) xs ys (h.keepS k hs) hz hx (fun i c e h1 h2=>ih i c e h1 h2) (h'.keepS k hs) hz' hy (fun i c e h1 h2=>ih' i c e h1 h2)
theorem IsS.keep {A:Nat→Prop}{H H':Heap}{c:List AV}{e:Stm}(h:IsS A H c e) (k:Keep Non H H'):IsS A H' c e:=h.keepS k fun _ _=>id
theorem IsS.out {A:Nat→Prop}{H:Heap}{c:List AV}{e:Stm}(h:IsS A H c e):∃v w u,c=[.int .i64 e.kind,S e.name,S e.proc,.int .i64 e.num,v,w,u]∧ok64 e.kind∧ok64 e.num∧e.name.length≤rB∧e.proc.length≤rB∧e.e.length≤rB∧e.body.length≤rB∧e.els.length≤rB∧
  IsLs A (IsE A) 4 H v e.e∧IsLs A (IsS A) 7 H w e.body∧IsLs A (IsS A) 7 H u e.els:=by
 cases h with
 |mk hk hn hs hp hl hb hd he xs ys h hz hx ha h' hz' hy ha'=>exact ⟨_,_,_,rfl,hk,hn,hs,hp,hl,hb,hd,he,⟨xs,h,.of hx ha,hz⟩,⟨ys,h',.of hy ha',hz'⟩⟩
theorem IsS.of {A:Nat→Prop}{H:Heap}{k n:Int}{s p:List UInt8}{l:List Exp}{b d:List Stm}{v w u:AV}(hk:ok64 k) (hn:ok64 n) (hs:s.length≤rB) (hp:p.length≤rB) (hl:l.length≤rB) (hb:b.length≤rB) (hd:d.length≤rB) (he:IsLs A (IsE A) 4 H v l)
  (h:IsLs A (IsS A) 7 H w b) (h':IsLs A (IsS A) 7 H u d):IsS A H [.int .i64 k,S s,S p,.int .i64 n,v,w,u] (.mk k s p n l b d):=by
 obtain ⟨xs,h1,h2,h3⟩:=h;obtain ⟨ys,g1,g2,g3⟩:=h';refine .mk hk hn hs hp hl hb hd he xs ys h1 h3 h2.length (fun i c e hc he=>?_) g1 g3 g2.length (fun i c e hc he=>?_)
 ·obtain ⟨e',h4,h5⟩:=h2.get i c hc;rw [he] at h4;injection h4 with h4
  subst h4;exact h5
 ·obtain ⟨e',h4,h5⟩:=g2.get i c hc;rw [he] at h4;injection h4 with h4
  subst h4;exact h5
def IsPm (_:Heap) (c:List AV) (p:Prm):Prop:=c=[S p.name,.int .i64 p.type]∧p.name.length≤rB∧ok64 p.type
def IsPc (A:Nat→Prop) (H:Heap) (c:List AV) (p:Prc):Prop:=∃v w,c=[S p.name,v,.int .i64 p.type,w]∧p.name.length≤rB∧ok64 p.type∧p.params.length≤rB∧p.body.length≤rB∧IsLs A IsPm 2 H v p.params∧IsLs A (IsS A) 7 H w p.body
theorem IsPc.keepS {A S:Nat→Prop}{H H':Heap}{c:List AV}{p:Prc}(h:IsPc A H c p) (k:Keep S H H') (hs:∀c,A c→¬S c):IsPc A H' c p:=by
 obtain ⟨v,w,h1,h2,h3,h4,h5,h6,h7⟩:=h;exact ⟨v,w,h1,h2,h3,h4,h5,h6.keepS k hs fun _ _ _ h=>h,h7.keepS k hs fun _ _ _ h=>h.keepS k hs⟩
theorem IsPc.keep {A:Nat→Prop}{H H':Heap}{c:List AV}{p:Prc}(h:IsPc A H c p) (k:Keep Non H H'):IsPc A H' c p:=h.keepS k fun _ _=>id
def IsPg (A:Nat→Prop) (H:Heap) (v:AV) (p:List Prc):Prop:=p.length≤rB∧∃u,v=.agg [u]∧IsLs A (IsPc A) 4 H u p
theorem IsPg.keepS {A S:Nat→Prop}{H H':Heap}{v:AV}{p:List Prc}(h:IsPg A H v p) (k:Keep S H H') (hs:∀c,A c→¬S c):IsPg A H' v p:=by
 obtain ⟨h0,u,h1,h2⟩:=h;exact ⟨h0,u,h1,h2.keepS k hs fun _ _ _ h=>h.keepS k hs⟩
theorem IsPg.keep {A:Nat→Prop}{H H':Heap}{v:AV}{p:List Prc}(h:IsPg A H v p) (k:Keep Non H H'):IsPg A H' v p:=h.keepS k fun _ _=>id
theorem IsLs.len {A:Nat→Prop}{R:Heap→List AV→α→Prop}{z:Nat}{H:Heap}{v:AV}{as:List α}(h:IsLs A R z H v as):∃els:List (List AV),IsSl H v z as.length els.flatten∧F2 (R H) els as∧∀c∈els,c.length=z:=by
 obtain ⟨els,h1,h2,h3⟩:=h;exact ⟨els,h1.sl,h2,h3⟩
theorem zk8 {z:Nat}:∀{els:List (List AV)},(∀c∈els,c.length=z)→∀(i:Nat) c,els[i]? = some c→(els.flatten.drop (i*z)).take z=c
 |[],_,i,c,h=>by simp at h
 |d::els,hz,0,c,h=>by
  simp only [List.getElem?_cons_zero,Option.some.injEq] at h;subst h;have:=hz d (by simp);simp [←this]
 |d::els,hz,i+1,c,h=>by
  have hd:=hz d (by simp);have:=zk8 (fun c hc=>hz c (List.mem_cons_of_mem _ hc)) i c (by simpa using h);rw [List.flatten_cons,show (i+1)*z=d.length+i*z by rw [hd,Nat.add_mul];omega,List.drop_length_add_append];exact this
def structAs (P:Program) (t:TypeId) (l:List (TypeId×Nat×Nat)) (n:Nat):Bool:=Nat.beq (P.cellsOf t) n&&match P.underlying t with|some (.struct fs)=>decide (fs.toList.map (fun f=>(f.type,f.offset,P.cellsOf f.type))=l)|_=>false
theorem zd5 {H0:Type}{enc:TypeId×Value→H0}{base fuel n:Nat}{held:Bool}{sp:Nat→Bool}{t:TypeId}{cs:List Value}{x:DataW H0×List MemPlace}{l:List (TypeId×Nat×Nat)}(h:structAs P t l n=true) (ht:DataW.trod enc P W base sp held fuel t cs=some x):
  ∃(xs:List (DataW H0×List MemPlace)) (m:Nat),fuel=m+1∧cs.length=n∧xs.length=l.length∧∀(i:Nat) ty off c,l[i]? = some (ty,off,c)→
   DataW.trod enc P W base sp held m ty ((cs.drop off).take c)=xs[i]?∧∀y,xs[i]? = some y→∀k∈y.1.weights P ty,k∈x.1.weights P t:=by
 simp only [structAs,J8] at h;obtain ⟨h0,h⟩:=h;split at h
 ·rename_i fs hu;have h:=of_decide_eq_true h;subst h;obtain ⟨xs,m,rfl,rfl,hlen,hfs,hel⟩:=DataW.trod_struct hu ht;refine ⟨xs,m,rfl,by rw [hlen];exact zb5.1 h0,by simpa using hfs,fun i ty off c hi=>?_⟩;rw [List.getElem?_map] at hi;cases hf:fs.toList[i]? with
  |none=>rw [hf] at hi;cases hi
  |some f=>
   rw [hf] at hi;simp only [Option.map_some,Option.some.injEq,Prod.mk.injEq] at hi;obtain ⟨rfl,rfl,rfl⟩:=hi;refine ⟨hel i f (by simpa using hf),fun y hy k hk=>?_⟩;simp only [DataW.weights,hu];exact zeu (i:=i) (by rw [List.getElem?_map,hf];rfl) (by rw [List.getElem?_map,hy];rfl) hk
 ·cases h
theorem agg_of {b:Nat}{t:TypeId}{l:List (TypeId×Nat×Nat)}{n:Nat}{v:Value}(h:structAs P t l n=true) (hok:Value.okWide P W .any b t v):∃cs:Array Value,v=.agg cs:=by
 simp only [structAs,J8] at h;obtain ⟨h0,h⟩:=h;split at h
 ·rename_i fs hu;simp only [Value.okWide,hu] at hok;obtain ⟨cs,h,_⟩:=hok;exact ⟨cs,h⟩
 ·cases h
theorem ok64_of {n:Int}(h:(Lit.int .i64 n).wf=true):ok64 n:=by
 simp [Lit.wf,IntKind.min,IntKind.max,IntKind.signed,IntKind.bits] at h;unfold ok64;omega
theorem zhc {H0:Type}{enc:TypeId×Value→H0}{base fuel:Nat}{held:Bool}{sp:Nat→Bool}{t:TypeId}{c:Value}{x:DataW H0×List MemPlace}(hu:P.underlying t=some (.int .i64)) (ht:DataW.trod enc P W base sp held fuel t [c]=some x):∃n,ok64 n∧c=.int .i64 n:=by
 obtain ⟨n,h,_,hw⟩:=DataW.trod_int hu ht;injection h with h _
 exact ⟨n,ok64_of hw,h⟩
theorem zit {H0:Type}{enc:TypeId×Value→H0}{base fuel B:Nat}{held:Bool}{sp:Nat→Bool}{t:TypeId}{c:Value}{x:DataW H0×List MemPlace}(hu:P.underlying t=some .string) (ht:DataW.trod enc P W base sp held fuel t [c]=some x) (hB:∀k∈x.1.weights P t,k≤B):
  ∃s:List UInt8,s.length≤B∧∀ρ,den ρ (S s)=some c:=by
 obtain ⟨s,h,rfl,hs⟩:=DataW.trod_string hu ht;injection h with h _
 subst h;exact ⟨s.data.toList,hB _ (by simp [DataW.weights]),fun ρ=>(isKind.av (d:=.string) (v:=.string s) ⟨s,rfl,hs⟩ ρ).1⟩
structure PgT (P:Program) (tE tEs tS tSs tM tMs tC tCs tG ti tn ts:TypeId):Prop where
 e:structAs P tE [(ti,0,1),(ts,1,1),(tn,2,1),(tEs,3,1)] 4=true
 s:structAs P tS [(ti,0,1),(ts,1,1),(ts,2,1),(tn,3,1),(tEs,4,1),(tSs,5,1),(tSs,6,1)] 7=true
 m:structAs P tM [(ts,0,1),(ti,1,1)] 2=true
 c:structAs P tC [(ts,0,1),(tMs,1,1),(ti,2,1),(tSs,3,1)] 4=true
 g:structAs P tG [(tCs,0,1)] 1=true
 i:P.underlying ti=some (.int .i64)
 n:P.underlying tn=some (.int .i64)
 str:P.underlying ts=some .string
 es:P.underlying tEs=some (.slice tE)
 ss:P.underlying tSs=some (.slice tS)
 ms:P.underlying tMs=some (.slice tM)
 cs:P.underlying tCs=some (.slice tC)
 by_:Nat.blt 0 (P.bytesOf tE)&&Nat.blt 0 (P.bytesOf tS)&&Nat.blt 0 (P.bytesOf tM)&&Nat.blt 0 (P.bytesOf tC)=true
theorem zfq {t:TypeId}{l:List (TypeId×Nat×Nat)}{n:Nat}(h:structAs P t l n=true):P.cellsOf t=n:=by
 simp only [structAs,J8] at h;exact zb5.1 h.1
section
variable {tE tEs tS tSs tM tMs tC tCs tG ti tn ts:TypeId}{H0:Type}{enc:TypeId×Value→H0}{base:Nat}{held:Bool}
theorem PgT.by4 (T:PgT P tE tEs tS tSs tM tMs tC tCs tG ti tn ts):0<P.bytesOf tE∧0<P.bytesOf tS∧0<P.bytesOf tM∧0<P.bytesOf tC:=by
 have:=T.by_;simp only [J8,zbx,Qj] at this;exact ⟨this.1.1.1,this.1.1.2,this.1.2,this.2⟩
theorem lay_exp (T:PgT P tE tEs tS tSs tM tMs tC tCs tG ti tn ts):∀(fuel:Nat) (cs:List Value) (x:DataW H0×List MemPlace),DataW.trod enc P W base (fun _=>true) held fuel tE cs=some x→(∀k∈x.1.weights P tE,k≤rB)→∃e,Lays W (IsE Non) cs e:=by
 intro fuel
 induction fuel using Nat.strongRecOn with
 |ind fuel ih=>
  intro cs x h hB;obtain ⟨xs,m,rfl,hlen,hxl,hel⟩:=zd5 T.e h
  match cs,hlen,xs,hxl with
  |[c0,c1,c2,c3],_,[x0,x1,x2,x3],_=>
   obtain ⟨f0,_⟩:=hel 0 _ _ _ rfl;obtain ⟨f1,w1⟩:=hel 1 _ _ _ rfl;obtain ⟨f2,_⟩:=hel 2 _ _ _ rfl;obtain ⟨f3,w3⟩:=hel 3 _ _ _ rfl;obtain ⟨k,hk,rfl⟩:=zhc T.i (show DataW.trod enc P W base (fun _=>true) held m ti [c0]=some x0 from f0);obtain ⟨s,hs,hd⟩:=zit T.str (show DataW.trod enc P W base (fun _=>true) held m ts [c1]=some x1 from f1) fun k hk=>hB k (w1 x1 rfl k hk);obtain ⟨n,hn,rfl⟩:=zhc T.n (show DataW.trod enc P W base (fun _=>true) held m tn [c2]=some x2 from f2);obtain ⟨l,_,hl,hL⟩:=zd6 (R:=IsE Non) (Q:=fun _=>True) (fun _ _ _ _ h k=>h.keep k) T.es (zfq T.e) (by decide) T.by4.1 (show DataW.trod enc P W base (fun _=>true) held m tEs [c3]=some x3 from f3) (fun k hk=>hB k (w3 x3 rfl k hk))
    fun n ds y hn hy hw=>(ih n (by omega) ds y hy hw).imp fun a h=>⟨trivial,h⟩
   exact ⟨.mk k s n l,Lays.append (R:=fun _ c (_:Unit)=>c=[.int .i64 k,S s,.int .i64 n]) (a:=()) (cs:=[.int .i64 k,c1,.int .i64 n]) (ds:=[c3]) (zjc (fun ρ=>DL.cons rfl (.cons (hd ρ) (.cons rfl .nil))) fun _=>rfl) hL (fun _ _ _ h _=>h)
    fun H c d h1 ⟨v,h2,h3⟩=>by subst h1 h2;exact .of hk hn hs hl h3⟩
theorem lay_exps (T:PgT P tE tEs tS tSs tM tMs tC tCs tG ti tn ts) {fuel:Nat}{cs:List Value}{x:DataW H0×List MemPlace}(h:DataW.trod enc P W base (fun _=>true) held fuel tEs cs=some x) (hB:∀k∈x.1.weights P tEs,k≤rB):
  ∃l:List Exp,l.length≤rB∧Lays W (fun H c l=>∃v,c=[v]∧IsLs Non (IsE Non) 4 H v l) cs l:=by
 obtain ⟨l,_,h⟩:=zd6 (R:=IsE Non) (Q:=fun _=>True) (fun _ _ _ _ h k=>h.keep k) T.es (zfq T.e) (by decide) T.by4.1 h hB fun n ds y _ hy hw=>(lay_exp T n ds y hy hw).imp fun a h=>⟨trivial,h⟩
 exact ⟨l,h⟩
theorem lay_stm (T:PgT P tE tEs tS tSs tM tMs tC tCs tG ti tn ts):∀(fuel:Nat) (cs:List Value) (x:DataW H0×List MemPlace),DataW.trod enc P W base (fun _=>true) held fuel tS cs=some x→(∀k∈x.1.weights P tS,k≤rB)→∃e,Lays W (IsS Non) cs e:=by
 intro fuel
 induction fuel using Nat.strongRecOn with
 |ind fuel ih=>
  intro cs x h hB;obtain ⟨xs,m,rfl,hlen,hxl,hel⟩:=zd5 T.s h
  match cs,hlen,xs,hxl with
  |[c0,c1,c2,c3,c4,c5,c6],_,[x0,x1,x2,x3,x4,x5,x6],_=>
   obtain ⟨f0,_⟩:=hel 0 _ _ _ rfl;obtain ⟨f1,w1⟩:=hel 1 _ _ _ rfl;obtain ⟨f2,w2⟩:=hel 2 _ _ _ rfl;obtain ⟨f3,_⟩:=hel 3 _ _ _ rfl;obtain ⟨f4,w4⟩:=hel 4 _ _ _ rfl;obtain ⟨f5,w5⟩:=hel 5 _ _ _ rfl;obtain ⟨f6,w6⟩:=hel 6 _ _ _ rfl;obtain ⟨k,hk,rfl⟩:=zhc T.i (show DataW.trod enc P W base (fun _=>true) held m ti [c0]=some x0 from f0);obtain ⟨s,hs,hd⟩:=zit T.str (show DataW.trod enc P W base (fun _=>true) held m ts [c1]=some x1 from f1) fun k hk=>hB k (w1 x1 rfl k hk);obtain ⟨p,hp,hdp⟩:=zit T.str (show DataW.trod enc P W base (fun _=>true) held m ts [c2]=some x2 from f2) fun k hk=>hB k (w2 x2 rfl k hk);obtain ⟨n,hn,rfl⟩:=zhc T.n (show DataW.trod enc P W base (fun _=>true) held m tn [c3]=some x3 from f3);obtain ⟨l,hl,hL⟩:=lay_exps T (show DataW.trod enc P W base (fun _=>true) held m tEs [c4]=some x4 from f4) fun k hk=>hB k (w4 x4 rfl k hk);obtain ⟨b,_,hb,hM⟩:=zd6 (R:=IsS Non) (Q:=fun _=>True) (fun _ _ _ _ h k=>h.keep k) T.ss (zfq T.s) (by decide) T.by4.2.1 (show DataW.trod enc P W base (fun _=>true) held m tSs [c5]=some x5 from f5) (fun k hk=>hB k (w5 x5 rfl k hk))
    fun n ds y hn hy hw=>(ih n (by omega) ds y hy hw).imp fun a h=>⟨trivial,h⟩
   obtain ⟨d,_,hdl,hN⟩:=zd6 (R:=IsS Non) (Q:=fun _=>True) (fun _ _ _ _ h k=>h.keep k) T.ss (zfq T.s) (by decide) T.by4.2.1 (show DataW.trod enc P W base (fun _=>true) held m tSs [c6]=some x6 from f6) (fun k hk=>hB k (w6 x6 rfl k hk))
    fun n ds y hn hy hw=>(ih n (by omega) ds y hy hw).imp fun a h=>⟨trivial,h⟩
   have h56:Lays W (fun H c (_:Unit)=>∃w u,c=[w,u]∧IsLs Non (IsS Non) 7 H w b∧IsLs Non (IsS Non) 7 H u d) ([c5]++[c6]) ():=hM.append hN (fun _ _ _ ⟨v,h,h1⟩ k=>⟨v,h,h1.keep k fun _ _ _ h=>h.keep k⟩) fun H c e ⟨v,h1,h2⟩ ⟨u,h3,h4⟩=>by subst h1 h3;exact ⟨v,u,rfl,h2,h4⟩
   have h456:Lays W (fun H c (_:Unit)=>∃v w u,c=[v,w,u]∧IsLs Non (IsE Non) 4 H v l∧IsLs Non (IsS Non) 7 H w b∧IsLs Non (IsS Non) 7 H u d) ([c4]++([c5]++[c6])) ():=hL.append h56 (fun _ _ _ ⟨v,h,h1⟩ k=>⟨v,h,h1.keep k fun _ _ _ h=>h.keep k⟩) fun H c e ⟨v,h1,h2⟩ ⟨w,u,h3,h4⟩=>by subst h1 h3;exact ⟨v,w,u,rfl,h2,h4⟩
   exact ⟨.mk k s p n l b d,Lays.append (R:=fun _ c (_:Unit)=>c=[.int .i64 k,S s,S p,.int .i64 n]) (a:=()) (cs:=[.int .i64 k,c1,c2,.int .i64 n]) (ds:=[c4]++([c5]++[c6]))
    (zjc (fun ρ=>DL.cons rfl (.cons (hd ρ) (.cons (hdp ρ) (.cons rfl .nil)))) fun _=>rfl) h456 (fun _ _ _ h _=>h) fun H c e h1 ⟨v,w,u,h2,h3,h4,h5⟩=>by subst h1 h2;exact .of hk hn hs hp hl hb hdl h3 h4 h5⟩
theorem lay_stms (T:PgT P tE tEs tS tSs tM tMs tC tCs tG ti tn ts) {fuel:Nat}{cs:List Value}{x:DataW H0×List MemPlace}(h:DataW.trod enc P W base (fun _=>true) held fuel tSs cs=some x) (hB:∀k∈x.1.weights P tSs,k≤rB):
  ∃l:List Stm,l.length≤rB∧Lays W (fun H c l=>∃v,c=[v]∧IsLs Non (IsS Non) 7 H v l) cs l:=by
 obtain ⟨l,_,h⟩:=zd6 (R:=IsS Non) (Q:=fun _=>True) (fun _ _ _ _ h k=>h.keep k) T.ss (zfq T.s) (by decide) T.by4.2.1 h hB fun n ds y _ hy hw=>(lay_stm T n ds y hy hw).imp fun a h=>⟨trivial,h⟩
 exact ⟨l,h⟩
theorem lay_prms (T:PgT P tE tEs tS tSs tM tMs tC tCs tG ti tn ts) {fuel:Nat}{cs:List Value}{x:DataW H0×List MemPlace}(h:DataW.trod enc P W base (fun _=>true) held fuel tMs cs=some x) (hB:∀k∈x.1.weights P tMs,k≤rB):
  ∃l:List Prm,l.length≤rB∧Lays W (fun H c l=>∃v,c=[v]∧IsLs Non IsPm 2 H v l) cs l:=by
 obtain ⟨l,_,h⟩:=zd6 (R:=IsPm) (Q:=fun _=>True) (fun _ _ _ _ h _=>h) T.ms (zfq T.m) (by decide) T.by4.2.2.1 h hB fun n ds y _ hy hw=>by
  obtain ⟨xs,m,rfl,hlen,hxl,hel⟩:=zd5 T.m hy
  match ds,hlen,xs,hxl with
  |[c0,c1],_,[x0,x1],_=>
   obtain ⟨f0,w0⟩:=hel 0 _ _ _ rfl;obtain ⟨f1,_⟩:=hel 1 _ _ _ rfl;obtain ⟨s,hs,hd⟩:=zit T.str (show DataW.trod enc P W base (fun _=>true) held m ts [c0]=some x0 from f0) fun k hk=>hw k (w0 x0 rfl k hk);obtain ⟨k,hk,rfl⟩:=zhc T.i (show DataW.trod enc P W base (fun _=>true) held m ti [c1]=some x1 from f1);exact ⟨⟨s,k⟩,trivial,zjc (c:=[S s,.int .i64 k]) (fun ρ=>DL.cons (hd ρ) (.cons rfl .nil)) fun _=>⟨rfl,hs,hk⟩⟩
 exact ⟨l,h⟩
theorem lay_prc (T:PgT P tE tEs tS tSs tM tMs tC tCs tG ti tn ts) {fuel:Nat}{cs:List Value}{x:DataW H0×List MemPlace}(h:DataW.trod enc P W base (fun _=>true) held fuel tC cs=some x) (hB:∀k∈x.1.weights P tC,k≤rB):∃p,Lays W (IsPc Non) cs p:=by
 obtain ⟨xs,m,rfl,hlen,hxl,hel⟩:=zd5 T.c h
 match cs,hlen,xs,hxl with
 |[c0,c1,c2,c3],_,[x0,x1,x2,x3],_=>
  obtain ⟨f0,w0⟩:=hel 0 _ _ _ rfl;obtain ⟨f1,w1⟩:=hel 1 _ _ _ rfl;obtain ⟨f2,_⟩:=hel 2 _ _ _ rfl;obtain ⟨f3,w3⟩:=hel 3 _ _ _ rfl;obtain ⟨s,hs,hd⟩:=zit T.str (show DataW.trod enc P W base (fun _=>true) held m ts [c0]=some x0 from f0) fun k hk=>hB k (w0 x0 rfl k hk);obtain ⟨l,hl,hL⟩:=lay_prms T (show DataW.trod enc P W base (fun _=>true) held m tMs [c1]=some x1 from f1) fun k hk=>hB k (w1 x1 rfl k hk);obtain ⟨k,hk,rfl⟩:=zhc T.i (show DataW.trod enc P W base (fun _=>true) held m ti [c2]=some x2 from f2);obtain ⟨b,hb,hM⟩:=lay_stms T (show DataW.trod enc P W base (fun _=>true) held m tSs [c3]=some x3 from f3) fun k hk=>hB k (w3 x3 rfl k hk);have h23:Lays W (fun H c (_:Unit)=>∃w,c=[.int .i64 k,w]∧IsLs Non (IsS Non) 7 H w b) ([.int .i64 k]++[c3]) ():=Lays.append (R:=fun _ c (_:Unit)=>c=[.int .i64 k]) (a:=()) (zjc (fun ρ=>DL.cons rfl .nil) fun _=>rfl) hM (fun _ _ _ h _=>h) fun H c e h1 ⟨v,h2,h3⟩=>by subst h1 h2;exact ⟨v,rfl,h3⟩
  have h123:Lays W (fun H c (_:Unit)=>∃v w,c=[v,.int .i64 k,w]∧IsLs Non IsPm 2 H v l∧IsLs Non (IsS Non) 7 H w b) ([c1]++([.int .i64 k]++[c3])) ():=hL.append h23 (fun _ _ _ ⟨v,h,h1⟩ k=>⟨v,h,h1.keep k fun _ _ _ h=>h⟩) fun H c e ⟨v,h1,h2⟩ ⟨w,h3,h4⟩=>by subst h1 h3;exact ⟨v,w,rfl,h2,h4⟩
  exact ⟨⟨s,l,k,b⟩,Lays.append (R:=fun _ c (_:Unit)=>c=[S s]) (a:=()) (cs:=[c0]) (ds:=[c1]++([.int .i64 k]++[c3])) (zjc (fun ρ=>DL.cons (hd ρ) .nil) fun _=>rfl) h123 (fun _ _ _ h _=>h) fun H c e h1 ⟨v,w,h2,h3,h4⟩=>by subst h1 h2;exact ⟨v,w,rfl,hs,hk,hl,hb,h3,h4⟩⟩
theorem lay_prog (T:PgT P tE tEs tS tSs tM tMs tC tCs tG ti tn ts) {fuel b:Nat}{v:Value}{x:DataW H0×List MemPlace}(h:DataW.trod enc P W base (fun _=>true) held fuel tG v.cells.toList=some x) (hok:Value.okWide P W .any b tG v) (hB:∀k∈x.1.weights P tG,k≤rB):
  ∃p:List Prc,∀ρ H,HR ρ H W→AllRo H→Frees ρ H→∃ρ' H' u,HR ρ' H' W∧AllRo H'∧Frees ρ' H'∧Sub ρ ρ'∧Keep Non H H'∧den ρ' u=some v∧IsPg Non H' u p:=by
 obtain ⟨cs,rfl⟩:=agg_of T.g hok;obtain ⟨xs,m,rfl,hlen,hxl,hel⟩:=zd5 T.g h;obtain ⟨cs⟩:=cs
 match cs,hlen,xs,hxl with
 |[c0],_,[x0],_=>
  obtain ⟨f0,w0⟩:=hel 0 _ _ _ rfl;obtain ⟨p,_,hp,hL⟩:=zd6 (R:=IsPc Non) (Q:=fun _=>True) (fun _ _ _ _ h k=>h.keep k) T.cs (zfq T.c) (by decide) T.by4.2.2.2 (show DataW.trod enc P W base (fun _=>true) held m tCs [c0]=some x0 from f0) (fun k hk=>hB k (w0 x0 rfl k hk))
   fun n ds y _ hy hw=>(lay_prc T hy hw).imp fun a h=>⟨trivial,h⟩
  refine ⟨p,fun ρ H h1 h2 h3=>?_⟩;obtain ⟨ρ1,H1,c,g1,g2,g3,g4,g5,g6,v,rfl,g7⟩:=hL ρ H h1 h2 h3;refine ⟨ρ1,H1,.agg [v],g1,g2,g3,g4,g5,?_,hp,v,rfl,g7⟩;simp only [den,show denL ρ1 [v]=some [c0] from g6]
end
end
end Eng
end Go.Proofs.YtniflgldgnmiaaaGreatDoor
namespace Go.Proofs.YtniflgldgnmiaaaGreatDoor
namespace Eng
open Go
section
variable {P:Program}{tb:List FuncId}{gl:List (List AV)}{t e r:TypeId}{x y i:Operand}{l:Fm}{H:Heap}{Q:AV→Heap→Prop}{v w:AV}{k:IntKind}{a b:Int}
theorem zxe (hx:evA x l=some (.int k a)) (hy:evA y l=some (.int k b)) (h1:a≤b→Q (.bool true) H) (h2:¬a≤b→Q (.bool false) H):OA P tb gl (.binOp .leq t x y r) l H Q:=by
 by_cases h:a≤b
 ·exact zex hx hy h (h1 h)
 ·exact zfx hx hy h (h2 h)
theorem oa_gtrS (hx:evA x l=some (.int k a)) (hy:evA y l=some (.int k b)) (h1:b<a→Q (.bool true) H) (h2:¬b<a→Q (.bool false) H):OA P tb gl (.binOp .gtr t x y r) l H Q:=by
 by_cases h:b<a
 ·exact zcn hx hy h (h1 h)
 ·exact zd1 hx hy h (h2 h)
theorem zqz (hx:evA x l=some (.int k a)) (hy:evA y l=some (.int k b)) (h1:b≤a→Q (.bool true) H) (h2:¬b≤a→Q (.bool false) H):OA P tb gl (.binOp .geq t x y r) l H Q:=by
 by_cases h:b≤a
 ·exact zew hx hy h (h1 h)
 ·exact zjg hx hy h (h2 h)
theorem zn0 (hx:evA x l=some (.int k a)) (hy:evA y l=some (.int k b)) (h1:a=b→Q (.bool true) H) (h2:¬a=b→Q (.bool false) H):OA P tb gl (.binOp .eql t x y r) l H Q:=by
 by_cases h:a=b
 ·exact zax hx hy h (h1 h)
 ·exact za2 hx hy h (h2 h)
theorem oa_neqS (hx:evA x l=some (.int k a)) (hy:evA y l=some (.int k b)) (h1:a=b→Q (.bool false) H) (h2:¬a=b→Q (.bool true) H):OA P tb gl (.binOp .neq t x y r) l H Q:=by
 by_cases h:a=b
 ·exact zc9 hx hy (fun g=>g h) (h1 h)
 ·exact zfy hx hy h (h2 h)
section
variable {p q:List UInt8}
theorem zkh (hx:evA x l=some (S p)) (hy:evA y l=some (S q)) (h:p=q) (k:Q (.bool true) H):OA P tb gl (.binOp .eql t x y r) l H Q:=zbt hx hy (Qg h) k
theorem zsn (hx:evA x l=some (S p)) (hy:evA y l=some (S q)) (h:¬p=q) (k:Q (.bool false) H):OA P tb gl (.binOp .eql t x y r) l H Q:=zbt hx hy (Qf h) k
theorem oa_sneqT (hx:evA x l=some (S p)) (hy:evA y l=some (S q)) (h:¬p=q) (k:Q (.bool true) H):OA P tb gl (.binOp .neq t x y r) l H Q:=zg2 hx hy (by rw [Qf h];rfl) k
theorem oa_sneqF (hx:evA x l=some (S p)) (hy:evA y l=some (S q)) (h:p=q) (k:Q (.bool false) H):OA P tb gl (.binOp .neq t x y r) l H Q:=zg2 hx hy (by rw [Qg h];rfl) k
theorem zn3 (hx:evA x l=some (S p)) (hy:evA y l=some (S q)) (h1:p=q→Q (.bool true) H) (h2:¬p=q→Q (.bool false) H):OA P tb gl (.binOp .eql t x y r) l H Q:=by
 by_cases h:p=q
 ·exact zkh hx hy h (h1 h)
 ·exact zsn hx hy h (h2 h)
theorem zij (hx:evA x l=some (S p)) (hy:evA y l=some (S q)) (h1:p=q→Q (.bool false) H) (h2:¬p=q→Q (.bool true) H):OA P tb gl (.binOp .neq t x y r) l H Q:=by
 by_cases h:p=q
 ·exact oa_sneqF hx hy h (h1 h)
 ·exact oa_sneqT hx hy h (h2 h)
end
theorem zwi {k:Tmp}{its:List It}{Q:Fm→Heap→Prop}{o z:Nat}{p:AV}{cs:List AV}(hp:plcOf P t 0=some ⟨o,true,z⟩) (hk:cs.length=z) (hne:0<z) (hx:evA x l=some p) (hr:PtsTo H p cs) (ht:lk k l=some (.agg cs)) (h:IA P tb gl its l H Q):IA P tb gl (.ck k (.load t x)::its) l H Q:=by
 obtain ⟨b,i,row,tl,ro,rfl,hrow,hle,hcs⟩:=hr.row (by intro h;rw [h] at hk;simp at hk;omega);refine ia_ck (v:=.agg cs) (fun T hT=>⟨H,?_⟩) ht (AV.eq_self _) h;obtain ⟨_,tr,hB,hT'⟩:=hrow;have ht2:takeC tr i z=some cs:=by
  refine zd9 _ _ _ hk fun j hj=>?_;rw [hT' _ (by omega),←hcs,List.getElem?_take,if_pos (by omega),List.getElem?_drop]
 simp only [oper,oLoad,zbd hT hx,hp,loadR,hB,cond_true,ht2]
theorem zdv {α:Type}{A:Nat→Prop}{R:Heap→List AV→α→Prop}{z j:Nat}{xs:List α}{u:α}{k0:IntKind}{z0:Int}(hu:P.underlying t=some (.slice e)) (hz:szOf P e=some z) (hx:evA x l=some v) (hs:IsLs A R z H v xs) (hi:evA i l=some (.int k0 z0)) (hz0:z0=(j:Int)) (hj:xs[j]? = some u)
  (q:∀p c,R H c u→c.length=z→PtsTo H p c→Q p H):OA P tb gl (.indexAddr t x i) l H Q:=by
 obtain ⟨els,h1,h2,h3⟩:=hs.len;obtain ⟨c,hc,hr⟩:=h2.get' j u hj;refine za9 hu hz hx h1 hi hz0 (Qb.1 hj).1 fun p hp=>?_;rw [zk8 h3 j c hc] at hp;exact q p c hr (h3 c (Qe hc)) hp
theorem zcv {α:Type}{A:Nat→Prop}{R:Heap→List AV→α→Prop}{z:Nat}{xs:List α}{c:Call}(hc:c.callee=.builtin .len) (ha:c.args.toList=[x]) (ht:c.argTypes.toList=[t]) (hu:P.underlying t=some (.slice e)) (hx:evA x l=some v) (hs:IsLs A R z H v xs) (q:Q (.int .i64 (xs.length:Int)) H):OA P tb gl (.call c) l H Q:=by
 obtain ⟨els,h1,_⟩:=hs.len;exact za3 hc ha ht hu hx h1 q
theorem zbz {α:Type}{f:α→List AV}{z j:Nat}{xs:List α}{u:α}{k0:IntKind}{z0:Int}(hf:∀a,(f a).length=z) (hu:P.underlying t=some (.slice e)) (hz:szOf P e=some z) (hx:evA x l=some v) (hs:IsSl H v z xs.length (xs.flatMap f)) (hi:evA i l=some (.int k0 z0)) (hz0:z0=(j:Int)) (hj:xs[j]? = some u)
  (q:∀p,PtsTo H p (f u)→Q p H):OA P tb gl (.indexAddr t x i) l H Q:=by
 refine za9 hu hz hx hs hi hz0 (Qb.1 hj).1 fun p hp=>?_;rw [zja hf xs j u hj] at hp;exact q p hp
theorem left_n {rs:List ResultVar}{vs:List AV}{Q:AV→Heap→Prop}:resLA l rs=some vs→Q (match vs with|[v]=>v|vs=>.tup vs) H→leftA rs Q .normal l H:=fun h k=>⟨vs,h,k⟩
theorem zbr {rs:List ResultVar}{vs:List AV}{Q:AV→Heap→Prop}:resLA l rs=some vs→Q (match vs with|[v]=>v|vs=>.tup vs) H→leftA rs Q .ret l H:=fun h k=>⟨vs,h,k⟩
end
section
variable {P:Program}{W:World}{α β γ:Type}
end
end Eng
end Go.Proofs.YtniflgldgnmiaaaGreatDoor
namespace Go.Proofs.YtniflgldgnmiaaaGreatDoor
open Go
namespace Eng
section
variable {P:Program}{tb:List FuncId}{gl:List (List AV)}{H:Heap}{l:Fm}
def leftC (P:Program) (rs:List ResultVar) (Q:AV→Heap→Prop):Ex→Fm→Heap→Prop
 |.normal,l,H=>∃vs,(∀T,FR l T→resL P T H rs=some vs)∧Q (match vs with|[v]=>v|vs=>.tup vs) H
 |.ret,l,H=>∃vs,(∀T,FR l T→resL P T H rs=some vs)∧Q (match vs with|[v]=>v|vs=>.tup vs) H
 |_,_,_=>False
theorem faC {f:FuncId}{fn:Func}{c:Code}{v:CV}{rs:List ResultVar}{xs:List AV}{H:Heap}{Q:AV→Heap→Prop}(hf:P.funcs[f]? = some fn) (hb:fn.body=some c) (hv:viewC P c=some v) (hr:fn.results.toList=rs) (hk:memF f tb=false∨xs≠[])
  (h:VA P tb gl v (argsA 0 xs) H (leftC P rs Q)):WpF P tb gl f xs H Q:=by
 subst hr;refine wpf hf hb hv hk ((h.run _ (zro xs)).mono fun e T' H' ⟨l',h1,h2⟩=>?_);cases e with
 |normal=>
  obtain ⟨vs,h3,h4⟩:=h2;exact ⟨vs,h3 _ h1,h4⟩
 |ret=>
  obtain ⟨vs,h3,h4⟩:=h2;exact ⟨vs,h3 _ h1,h4⟩
 |exit _=>exact h2.elim
 |panic _=>exact h2.elim
theorem zii {b o z:Nat}{t:TypeId}{s u:Tmp}{cs:List AV}{tl ro:Bool}{w:AV}{Q:AV→Heap→Prop}(hp:plcOf P t 0=some ⟨o,true,z⟩) (hx:lk s l=some (.ptr b 0)) (hr:IsRow H b cs tl ro) (hz:cs.length=z) (hu:lk u l=some w) (q:Q (.tup [.agg cs,w]) H):
  leftC P [.cell s t,.tmp u] Q .ret l H:=by
 refine ⟨[.agg cs,w],fun T hT=>?_,q⟩;obtain ⟨_,tr,hB,hT'⟩:=hr;have ht:takeC tr 0 z=some cs:=zd9 _ _ _ hz fun j hj=>by
  rw [hT' _ (by omega),Nat.zero_add]
 simp only [resL,resV,hT s _ hx,hp,loadR,hB,cond_true,ht,hT u _ hu]
theorem zbg {b o z:Nat}{t:TypeId}{s:Tmp}{cs:List AV}{tl ro:Bool}{Q:AV→Heap→Prop}(hp:plcOf P t 0=some ⟨o,true,z⟩) (hx:lk s l=some (.ptr b 0)) (hr:IsRow H b cs tl ro) (hz:cs.length=z) (q:Q (.agg cs) H):
  leftC P [.cell s t] Q .ret l H:=by
 refine ⟨[.agg cs],fun T hT=>?_,q⟩;obtain ⟨_,tr,hB,hT'⟩:=hr;have ht:takeC tr 0 z=some cs:=zd9 _ _ _ hz fun j hj=>by
  rw [hT' _ (by omega),Nat.zero_add]
 simp only [resL,resV,hT s _ hx,hp,loadR,hB,cond_true,ht]
end
end Eng
end Go.Proofs.YtniflgldgnmiaaaGreatDoor
