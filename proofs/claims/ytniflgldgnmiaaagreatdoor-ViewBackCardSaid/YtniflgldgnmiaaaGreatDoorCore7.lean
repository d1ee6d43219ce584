/-
  THE ENGINE, part TA: from a run of the engine to what the model's call does; the variables that are laid.
-/
import Derived.Test.YtniflgldgnmiaaaGreatDoorCore6
import Derived.OpenShut
import Derived.FnData
import GoSem.ClaimJoined
namespace Go.Proofs.YtniflgldgnmiaaaGreatDoor
namespace Eng
open Go
variable {P:Program}
def catA (f:DataW Unit→Option (List AV)) (z:Nat):List (DataW Unit)→Option (List AV)
 |[]=>some []
 |d::ds=>match f d,catA f z ds with
  |some l,some r=>if l.length=z then some (l++r) else none
  |_,_=>none
def catS (P:Program) (f:TypeId→DataW Unit→Option (List AV)):Nat→List Field→List (DataW Unit)→Option (List AV)
 |_,[],[]=>some []
 |off,x::fs,d::ds=>match f x.type d,catS P f (off+P.cellsOf x.type) fs ds with
  |some l,some r=>if x.offset=off∧l.length=P.cellsOf x.type then some (l++r) else none
  |_,_=>none
 |_,_,_=>none
def flatD (P:Program):Nat→TypeId→DataW Unit→Option (List AV)
 |0,_,_=>none
 |n+1,t,d=>match P.underlying t,d with
  |some .bool,.lit (.bool b)=>some [.bool b]
  |some (.int k),.lit (.int _ z)=>some [.int k z]
  |some .string,.lit (.string bs)=>some [.str bs.length (packL bs)]
  |some (.array m e),.agg ds=>if P.cellsOf t=m*P.cellsOf e then catA (flatD P n e) (P.cellsOf e) ds else none
  |some (.struct fs),.agg ds=>match catS P (flatD P n) 0 fs.toList ds with
   |some l=>if l.length=P.cellsOf t then some l else none
   |none=>none
  |_,_=>none
theorem zmd {α:Type}(cs:List α) (i z:Nat):(cs.drop ((i+1)*z)).take z=((cs.drop z).drop (i*z)).take z:=by
 rw [List.drop_drop]
 congr 2
 rw [Nat.add_mul,Nat.one_mul,Nat.add_comm]
theorem zvo {ρ:Rho}{f:DataW Unit→Option (List AV)}{z:Nat}:∀(ds:List (DataW Unit)) (l:List AV) (cs:List Value),catA f z ds=some l→cs.length=ds.length*z→
  (∀(i:Nat) d l,ds[i]? = some d→f d=some l→DL ρ l ((cs.drop (i*z)).take z))→DL ρ l cs
 |[],l,cs,h,hl,_=>by
  injection h with h
  subst h;have:cs=[]:=List.length_eq_zero_iff.1 (by simpa using hl);subst this;exact .nil
 |d::ds,l,cs,h,hl,hd=>by
  simp only [catA] at h;split at h
  ·rename_i l0 r h0 hr;split at h
   ·rename_i hz;injection h with h
    subst h;have h1:=hd 0 d l0 rfl h0;simp only [Nat.zero_mul,List.drop_zero] at h1;have h2:=zvo ds r (cs.drop z) hr (by rw [List.length_drop,hl,Jy,Nat.add_mul];omega) (fun i d l hi hf=>by
     rw [←zmd];exact hd (i+1) d l (by simpa using hi) hf)
    have:=h1.append h2
    rwa [List.take_append_drop] at this
   ·cases h
  ·cases h
theorem zvp {ρ:Rho}{f:TypeId→DataW Unit→Option (List AV)}{cs:List Value}:∀(fs:List Field) (ds:List (DataW Unit)) (off:Nat) (l:List AV),catS P f off fs ds=some l→cs.length=off+l.length→
  (∀(i:Nat) (x:Field) d l,fs[i]? = some x→ds[i]? = some d→f x.type d=some l→DL ρ l ((cs.drop x.offset).take (P.cellsOf x.type)))→DL ρ l (cs.drop off)
 |[],[],off,l,h,hl,_=>by
  injection h with h
  subst h;rw [List.drop_eq_nil_of_le (by simp at hl;omega)];exact .nil
 |[],_::_,_,_,h,_,_=>by cases h
 |_::_,[],_,_,h,_,_=>by cases h
 |x::fs,d::ds,off,l,h,hl,hd=>by
  simp only [catS] at h;split at h
  ·rename_i l0 r h0 hr;split at h
   ·rename_i hz;injection h with h
    subst h;have h1:=hd 0 x d l0 rfl rfl h0;rw [hz.1] at h1;rw [J1] at hl;have h2:=zvp fs ds _ r hr (by omega) (fun i x d l hi hj hf=>hd (i+1) x d l (by simpa using hi) (by simpa using hj) hf);have:=h1.append h2;rw [←List.drop_drop,List.take_append_drop] at this;exact this
   ·cases h
  ·cases h
theorem zni {ρ:Rho}{w:World}{base:Nat}{sp:Nat→Bool}{held:Bool}:∀(n:Nat) (t:TypeId) (d:DataW Unit) (l:List AV),flatD P n t d=some l→
  ∀(fuel:Nat) (cs:List Value) (ps:List MemPlace),DataW.trod (fun _=>()) P w base sp held fuel t cs=some (d,ps)→DL ρ l cs
 |0,_,_,_,h,_,_,_,_=>by cases h
 |n+1,t,d,l,h,fuel,cs,ps,ht=>by
  simp only [flatD] at h;split at h
  ·rename_i b hu;obtain ⟨c,rfl,hx⟩:=DataW.trod_bool hu ht;injection hx with hx _
   injection h with h
   cases hx;subst h;exact .cons rfl .nil
  ·rename_i k j z hu;obtain ⟨c,rfl,hx,_⟩:=DataW.trod_int hu ht;injection hx with hx _
   injection h with h
   cases hx;subst h;exact .cons rfl .nil
  ·rename_i bs hu;obtain ⟨c,rfl,hx,_⟩:=DataW.trod_string hu ht;injection hx with hx _
   injection h with h
   cases hx;subst h;have:unpack c.data.toList.length (packL c.data.toList)=c:=by
    have h:=zh0 c;have e:c.size=c.data.toList.length:=Array.length_toList.symm;rw [e] at h;exact h
   exact .cons (show den ρ (.str c.data.toList.length (packL c.data.toList))=some (.string c) by rw [den,this]) .nil
  ·rename_i m e ds hu;split at h
   ·rename_i hz;obtain ⟨xs,k,rfl,hx,hlen,hm,hel⟩:=DataW.trod_array hu ht;injection hx with hx _
    injection hx with hx
    subst hx;refine zvo _ _ _ h (by rw [hlen,hz,List.length_map,hm]) (fun i d l hi hf=>?_);rw [List.getElem?_map] at hi;cases hxi:xs[i]? with
    |none=>rw [hxi] at hi;cases hi
    |some y=>
     rw [hxi] at hi;simp only [Option.map_some,Option.some.injEq] at hi;have him:i<m:=by rw [←hm];exact (Qb.1 hxi).1
     have:=hel i him;rw [hxi] at this;obtain ⟨y1,y2⟩:=y;simp only at hi;subst hi;exact zni n e _ l hf _ _ _ this
   ·cases h
  ·rename_i fs ds hu;split at h
   ·rename_i l0 h0;split at h
    ·rename_i hz;injection h with h
     subst h;obtain ⟨xs,k,rfl,hx,hlen,hm,hel⟩:=DataW.trod_struct hu ht;injection hx with hx _
     injection hx with hx
     subst hx;refine zvp (P:=P) fs.toList _ 0 _ h0 (by rw [hlen];omega) (fun i x d l hi hj hf=>?_);rw [List.getElem?_map] at hj;cases hxi:xs[i]? with
     |none=>rw [hxi] at hj;cases hj
     |some y=>
      rw [hxi] at hj;simp only [Option.map_some,Option.some.injEq] at hj;have:=hel i x (by simpa using hi);rw [hxi] at this;obtain ⟨y1,y2⟩:=y;simp only at hj;subst hj;exact zni n _ _ l hf _ _ _ this
    ·cases h
   ·cases h
  ·cases h
def laidG:List (List AV)→Nat→Heap→Heap
 |[],_,H=>H
 |[]::r,i,H=>laidG r (Nat.succ i) H
 |(v::l)::r,i,H=>laidG r (Nat.succ i) (layC .lf 0 (v::l) fun t=>setB H i (some (.cells t (len' (v::l)) false true)) fun H=>H)
theorem zfc:∀(gl:List (List AV)) (i:Nat) (H:Heap) (b:Nat),getB (laidG gl i H) b=if i≤b then (match gl[b-i]? with|some (v::l)=>some (.cells (layT .lf 0 (v::l)) (v::l).length false true)|_=>getB H b) else getB H b
 |[],i,H,b=>by simp [laidG]
 |[]::r,i,H,b=>by
  simp only [laidG];rw [zfc r];by_cases h1:i+1≤b
  ·rw [if_pos (show Nat.succ i≤b from h1),if_pos (by omega:i≤b)];have:b-i=(b-(i+1))+1:=by omega
   rw [this,List.getElem?_cons_succ]
  ·rw [if_neg (show ¬Nat.succ i≤b from h1)];by_cases h2:i=b
   ·subst h2;simp
   ·rw [if_neg (by omega)]
 |(v::l)::r,i,H,b=>by
  simp only [laidG,zcg,zcb];rw [zfc r];rw [zei,len'_eq];by_cases h1:i+1≤b
  ·rw [if_pos (show Nat.succ i≤b from h1),if_pos (by omega:i≤b)];have:b-i=(b-(i+1))+1:=by omega
   rw [this,List.getElem?_cons_succ,if_neg (by omega)]
  ·rw [if_neg (show ¬Nat.succ i≤b from h1)];by_cases h2:i=b
   ·subst h2;simp
   ·rw [if_neg h2,if_neg (by omega)]
theorem zfw:∀(gl:List (List AV)) (i:Nat) (H:Heap),(laidG gl i H).nx=H.nx
 |[],_,_=>rfl
 |[]::r,i,H=>by simp only [laidG];rw [zfw r]
 |(v::l)::r,i,H=>by simp only [laidG,zcg,zcb];rw [zfw r]
def H0 (gl:List (List AV)) (m:Nat):Heap:=laidG gl 0 ⟨.lf,m⟩
theorem zk9 {gl:List (List AV)}{m b:Nat}{B:Blk}(h:getB (H0 gl m) b=some B):∃l,gl[b]? = some l∧B=.cells (layT .lf 0 l) l.length false true∧l≠[]:=by
 have:getB (⟨.lf,m⟩:Heap) b=none:=by simp [getB,Tr.get_lf]
 simp only [H0,zfc,this] at h;simp only [Nat.zero_le,if_true,Nat.sub_zero] at h;cases hl:gl[b]? with
 |none=>rw [hl] at h;cases h
 |some l=>
  rw [hl] at h;cases l with
  |nil=>cases h
  |cons v l=>injection h with h;exact ⟨_,rfl,h.symm,by simp⟩
def rho0 (W:World) (m:Nat):Rho:=fun b=>if b<m then some ⟨b,0,match W.heap[b]? with|some (.cells c _ _)=>c.size|_=>0⟩ else none
theorem H0_ro {gl:List (List AV)}{m b:Nat}{B:Blk}(h:getB (H0 gl m) b=some B):¬wr B:=by
 obtain ⟨l,_,rfl,_⟩:=zk9 h;simp [wr]
theorem rho0_G {W:World}{m:Nat}(h:P.globals.size≤m):GOK P (rho0 W m):=fun g hg=>⟨_,by simp only [rho0];rw [if_pos (Nat.lt_of_lt_of_le hg h)]⟩
theorem ztd {W:World}{gl:List (List AV)}{m b:Nat}(h:(H0 gl m).nx≤b):rho0 W m b=none:=by
 rw [H0,zfw] at h;simp only [rho0];rw [if_neg (by simpa using h)]
end Eng
end Go.Proofs.YtniflgldgnmiaaaGreatDoor
namespace Go.Proofs.YtniflgldgnmiaaaGreatDoor
namespace Eng
open Go
variable {P:Program}
theorem Rep.sub {F:Fr}{T T':Tm}(h:Rep F T) (s:∀t v,T.get (bits t)=some v→T'.get (bits t)=some v):Rep F T':=by
 obtain ⟨p,hF,hp⟩:=h;exact ⟨p,hF,fun t v ht hv=>s t v (hp t v ht hv)⟩
noncomputable def isTT (v:AV):Ans:=boolK v fun b=>ifK b .yes .no
theorem isTT_yes {v:AV}(h:isTT v=.yes):v=.bool true:=by
 simp only [isTT,ze8] at h;obtain ⟨b,rfl,h⟩:=h;cases b
 ·cases h
 ·rfl
def view (l:List Oper):List (Option Tmp×Op):=l.map fun o=>(o.dst,o.op)
theorem zse {w:World}:∀{laid:List (String×DataW Unit)}{ps:List MemPlace},DataW.LaidVars P w laid ps→∀x∈laid,
  ∃g t cs fuel p,P.globalNamed x.1=some g∧(P.globals[g]?).map (·.type)=some t∧w.var? P x.1=some cs∧DataW.trod (fun _=>()) P w 0 (fun _=>true) false fuel t cs.toList=some (x.2,p)
 |[],_,_,x,hx=>by cases hx
 |(n,d)::r,ps,h,x,hx=>by
  obtain ⟨g,t,cs,fuel,p,q,h1,h2,h3,h4,h5,_⟩:=h;rcases List.mem_cons.1 hx with rfl|hx
  ·exact ⟨g,t,cs,fuel,p,h1,h2,h3,h4⟩
  ·exact zse h5 x hx
theorem laid_one {w:World}{laid:List (String×DataW Unit)}{ps:List MemPlace}(h:DataW.LaidVars P w laid ps) {x:String×DataW Unit}(hx:x∈laid) {g t:Nat}{l:List AV}
  (hg:P.globalNamed x.1=some g) (ht:(P.globals[g]?).map (·.type)=some t) (hl:flatD P 8 t x.2=some l) (ρ:Rho):∃c e fz,w.heap[g]? = some (.cells c e fz)∧DL ρ l c.toList:=by
 obtain ⟨g',t',cs,fuel,p,h1,h2,h3,h4⟩:=zse h x hx;rw [hg] at h1;injection h1 with h1
 subst h1;rw [ht] at h2;injection h2 with h2
 subst h2;simp only [World.var?,hg,Option.bind_some] at h3;split at h3
 ·rename_i c e fz hc;injection h3 with h3
  subst h3;exact ⟨_,_,_,hc,zni 8 t x.2 l hl _ _ _ h4⟩
 ·cases h3
end Eng
end Go.Proofs.YtniflgldgnmiaaaGreatDoor
namespace Go.Proofs.YtniflgldgnmiaaaGreatDoor
namespace Eng
open Go
variable {P:Program}
structure Same (W W':World):Prop where
 size:W.heap.size≤W'.heap.size
 keep:∀c,c<W.heap.size→W'.heap[c]? = W.heap[c]?
 os:W'.os=W.os
 tape:W'.tape=W.tape
 output:W'.output=W.output
theorem Same.keptBut {W W':World}(h:Same W W'):W.keptBut W' (fun _=>False):=by
 refine ⟨h.os,h.output,fun i hi=>?_⟩;rw [h.keep i hi];cases hc:W.heap[i]? with
 |none=>rfl
 |some o=>
  cases o with
  |cells c t fr=>exact ⟨rfl,rfl,rfl,fun _ _=>rfl⟩
  |map es k=>exact .inr ⟨rfl,rfl⟩
  |_=>rfl
def groundV (v:AV):Bool:=match v with|.int _ _=>true|.str _ _=>true|.bool _=>true|_=>false
theorem zla {v:AV}(h:groundV v=true):∃x,∀ρ,den ρ v=some x:=by
 cases v<;>first|(cases h;done)|exact ⟨_,fun ρ=>rfl⟩
theorem ieq_true {a b:Int}(h:ieq a b=true):a=b:=by rw [zfd] at h;simpa using h
theorem zv8 {u v:AV}(hv:groundV v=true) (h:AV.eq u v=true):u=v:=by
 cases v<;>first|(cases hv;done)|skip
 ·cases u<;>simp only [AV.eq] at h<;>first|(cases h;done)|skip
  rw [beq_iff_eq] at h;rw [h]
 ·cases u<;>simp only [AV.eq] at h<;>first|(cases h;done)|skip
  rw [J8,Qj] at h;rw [h.1,ieq_true h.2]
 ·cases u<;>simp only [AV.eq] at h<;>first|(cases h;done)|skip
  rw [J8,zb5,zb5] at h;rw [h.1,h.2]
def groundG (gl:List (List AV)):Bool:=gl.all fun l=>l.all groundV
def LaidW (gl:List (List AV)) (W:World):Prop:=∀(b:Nat) l,gl[b]? = some l→l≠[]→∃c e fz,W.heap[b]? = some (.cells c e fz)∧l.length≤c.size∧∀(i:Nat) v,l[i]? = some v→∃x,(∀ρ,den ρ v=some x)∧c[i]? = some x
theorem H0_HR' {gl:List (List AV)}{m:Nat}{W:World}(hm:gl.length≤m) (h:LaidW gl W):HR (rho0 W m) (H0 gl m) W where
 blk b B hB:=by
  obtain ⟨l,hl,rfl,hne⟩:=zk9 hB;obtain ⟨c,t,fz,hc,hn,hd⟩:=h b l hl hne;have hb:b<m:=Nat.lt_of_lt_of_le (Qb.1 hl).1 hm;refine ⟨⟨b,0,c.size⟩,by simp [rho0,hb,hc],c,t,fz,hc,hn,by simp,fun h=>by simp at h,fun i v hv=>?_⟩;rw [zcu] at hv;have hv:(if i<l.length then l[i]? else none)=some v:=by simpa [Tr.get_lf] using hv
  by_cases hi:i<l.length
  ·rw [if_pos hi] at hv;obtain ⟨x,hxd,hx⟩:=hd i v hv;exact ⟨hi,x,hxd _,by simpa using hx⟩
  ·rw [if_neg hi] at hv;cases hv
 apart b b' B B' p p' k i hne hB hB' hp hp' _ hc:=by
  obtain ⟨l,hl,rfl,_⟩:=zk9 hB;obtain ⟨l',hl',rfl,_⟩:=zk9 hB';simp only [rho0] at hp hp';split at hp
  ·injection hp with hp
   split at hp'
   ·injection hp' with hp'
    subst hp hp';rintro ⟨h1,_⟩;have h2:=hc.1;simp only at h1 h2;exact hne (h2.trans h1.symm)
   ·cases hp'
  ·cases hp
 lt b B hB:=by
  obtain ⟨l,hl,rfl,_⟩:=zk9 hB;rw [H0,zfw];exact Nat.lt_of_lt_of_le (Qb.1 hl).1 hm
theorem laidW_of {gl:List (List AV)}(hg:groundG gl=true) {W:World}(h:∀(b:Nat) l,gl[b]? = some l→l≠[]→∃c e fz,W.heap[b]? = some (.cells c e fz)∧∃ρ,DL ρ l c.toList):LaidW gl W:=by
 intro b l hl hne;obtain ⟨c,e,fz,hc,ρ,hd⟩:=h b l hl hne;refine ⟨c,e,fz,hc,?_,fun i v hv=>?_⟩
 ·have:=hd.length;simp at this;omega
 ·have hgv:groundV v=true:=by
   have h1:=List.all_eq_true.1 hg l (Qe hl);exact List.all_eq_true.1 h1 v (Qe hv)
  obtain ⟨x,hx⟩:=zla hgv;obtain ⟨y,hy,hyd⟩:=hd.get hv;rw [hx ρ] at hyd;injection hyd with hyd
  subst hyd;exact ⟨x,hx,by simpa using hy⟩
theorem LaidW.same {gl:List (List AV)}{W W':World}(h:LaidW gl W) (s:Same W W'):LaidW gl W':=by
 intro b l hl hne;obtain ⟨c,e,fz,hc,hr⟩:=h b l hl hne;exact ⟨c,e,fz,by rw [s.keep b (Array.getElem?_eq_some_iff.1 hc).1];exact hc,hr⟩
def cellsIn (t:Tr AV):List AV→Nat→Bool
 |[],_=>true
 |v::l,i=>(match t.get (bits i) with|some u=>AV.eq u v|none=>false)&&cellsIn t l (Nat.succ i)
def laidIn:List (List AV)→Nat→Heap→Bool
 |[],_,_=>true
 |[]::r,b,H=>laidIn r (Nat.succ b) H
 |(v::l)::r,b,H=>(match getB H b with|some (.cells t _ _ _)=>cellsIn t (v::l) 0|_=>false)&&laidIn r (Nat.succ b) H
theorem zkw {t:Tr AV}:∀(l:List AV) (i:Nat),l.all groundV=true→cellsIn t l i=true→∀(j:Nat) v,l[j]? = some v→t.get (bits (i+j))=some v
 |[],_,_,_,j,v,hv=>by simp at hv
 |u::l,i,hg,h,j,v,hv=>by
  simp only [cellsIn,J8] at h;simp only [List.all_cons,J8] at hg;cases j with
  |zero=>
   simp only [List.getElem?_cons_zero,Option.some.injEq] at hv;subst hv;cases ht:t.get (bits i) with
   |none=>rw [ht] at h;cases h.1
   |some w=>rw [ht] at h;rw [zv8 hg.1 h.1]
  |succ j=>
   have:=zkw l (i+1) hg.2 h.2 j v (by simpa using hv);rw [show i+(j+1)=i+1+j by omega];exact this
theorem zjb {H:Heap}:∀(gl:List (List AV)) (b:Nat),groundG gl=true→laidIn gl b H=true→∀(j:Nat) l,gl[j]? = some l→l≠[]→∃t n tl ro,getB H (b+j)=some (.cells t n tl ro)∧∀(i:Nat) v,l[i]? = some v→t.get (bits i)=some v
 |[],_,_,_,j,l,hl,_=>by simp at hl
 |[]::gl,b,hg,h,j,l,hl,hne=>by
  simp only [laidIn] at h;simp only [groundG,List.all_cons,J8] at hg;cases j with
  |zero=>
   simp only [List.getElem?_cons_zero,Option.some.injEq] at hl;exact absurd hl.symm hne
  |succ j=>
   have:=zjb gl (b+1) hg.2 h j l (by simpa using hl) hne;rw [show b+(j+1)=b+1+j by omega];exact this
 |(w::u)::gl,b,hg,h,j,l,hl,hne=>by
  simp only [laidIn,J8] at h;simp only [groundG,List.all_cons,J8] at hg;cases j with
  |zero=>
   simp only [List.getElem?_cons_zero,Option.some.injEq] at hl;subst hl;have h1:=h.1;split at h1
   ·rename_i t n tl ro hB;exact ⟨t,n,tl,ro,by rw [Nat.add_zero];exact hB,fun i v hv=>by have:=zkw (w::u) 0 (by simp only [List.all_cons,J8];exact hg.1) h1 i v hv;rwa [Nat.zero_add] at this⟩
   ·cases h1
  |succ j=>
   have:=zjb gl (b+1) hg.2 h.2 j l (by simpa using hl) hne;rw [show b+(j+1)=b+1+j by omega];exact this
theorem laidIn_W {gl:List (List AV)}(hg:groundG gl=true) (hsz:gl.length≤P.globals.size) {ρ:Rho}{H:Heap}{W:World}(hH:HR ρ H W) (hG:GOK P ρ) (h:laidIn gl 0 H=true):LaidW gl W:=by
 intro b l hl hne;obtain ⟨t,n,tl,ro,hB,hc⟩:=zjb gl 0 hg h b l hl hne;rw [Nat.zero_add] at hB;obtain ⟨p,hp,c,e,fz,hw,hn,hlim,_,hv⟩:=hH.blk b _ hB;have hb:b<gl.length:=(Qb.1 hl).1;obtain ⟨m,hm⟩:=hG b (by omega);rw [hm] at hp;injection hp with hp
 subst hp;simp only at hw hn hlim hv;refine ⟨c,e,fz,hw,?_,fun i v hi=>?_⟩
 ·rcases Nat.lt_or_ge 0 l.length with hpos|h0
  ·have hlast:l[l.length-1]? = some l[l.length-1]:=Qa (by omega);have:=(hv _ _ (hc _ _ hlast)).1;omega
  ·omega
 ·have hgv:groundV v=true:=by
   have h1:=List.all_eq_true.1 hg l (Qe hl);exact List.all_eq_true.1 h1 v (Qe hi)
  obtain ⟨x,hx⟩:=zla hgv;obtain ⟨_,y,hy,hyc⟩:=hv i v (hc i v hi);rw [hx ρ] at hy;injection hy with hy
  subst hy;exact ⟨x,hx,by simpa using hyc⟩
def memF (f:FuncId) (tb:List FuncId):Bool:=tb.any fun g=>Nat.beq f g
def callO (tb:List FuncId) (gl:List (List AV)) (c:CallF):CallF:=fun f xs H=>match xs with
 |[]=>bif memF f tb then (bif laidIn gl 0 H then .ret (.bool true) H else .bad) else c f [] H
 |x::l=>c f (x::l) H
def levelO (P:Program) (tb:List FuncId) (gl:List (List AV)):Nat→ExF×CallF
 |0=>(fun _ _=>.bad,fun _ _ _=>.bad)
 |n+1=>(stepC P (callO tb gl (callB P (levelO P tb gl n).2 (levelO P tb gl n).1)) (levelO P tb gl n).1,callO tb gl (callB P (levelO P tb gl n).2 (levelO P tb gl n).1))
def execO (P:Program) (tb:List FuncId) (gl:List (List AV)) (n:Nat):ExF:=(levelO P tb gl n).1
def callFO (P:Program) (tb:List FuncId) (gl:List (List AV)) (n:Nat):CallF:=(levelO P tb gl n).2
def KnownOK (P:Program) (gl:List (List AV)) (f:FuncId):Prop:=(∃fn c,P.funcs[f]? = some fn∧fn.body=some c)∧
 ∀W,LaidW gl W→Calls P f #[] W fun e W'=>e=.returned (.bool true)∧Same W W'
theorem ztx {tb:List FuncId}{gl:List (List AV)}{c:CallF}(h:MC c):MC (callO tb gl c):=by
 intro f xs H;cases xs with
 |cons x l=>exact h f (x::l) H
 |nil=>
  simp only [callO];cases memF f tb
  ·exact h f [] H
  ·cases laidIn gl 0 H
   ·trivial
   ·exact Jz _
theorem callO_ok (hP:progOK P=true) {tb:List FuncId}{gl:List (List AV)}(hg:groundG gl=true) (hsz:gl.length≤P.globals.size) (hK:∀f∈tb,KnownOK P gl f) {c:CallF}(h:CallOK P c):CallOK P (callO tb gl c):=by
 intro f xs H hne;cases xs with
 |cons x l=>exact h f (x::l) H hne
 |nil=>
  simp only [callO] at hne ⊢;cases hm:memF f tb with
  |false=>rw [hm] at hne;exact h f [] H hne
  |true=>
   rw [hm] at hne;simp only [cond_true] at hne ⊢;cases hl:laidIn gl 0 H with
   |false=>rw [hl] at hne;exact absurd rfl hne
   |true=>
    simp only [cond_true];have hf:f∈tb:=by
     simp only [memF,List.any_eq_true] at hm;obtain ⟨g,hg,e⟩:=hm;rw [zb5.1 e];exact hg
    obtain ⟨⟨fn,b,hfn,hb⟩,hC⟩:=hK f hf;refine ⟨fun args w=>zf7 hP hfn hb args w,fun ρ w args hd hH hG _=>?_⟩;have ha:args = #[]:=by
     have:=hd.eq_nil;exact Array.toList_eq_nil_iff.1 this
    subst ha;refine (hC w (laidIn_W hg hsz hH hG hl)).mono fun e w' ⟨he,hs⟩=>?_;subst he;refine ⟨_,_,ρ,rfl,rfl,⟨fun b B hB=>?_,hH.apart,hH.lt⟩,⟨.refl ρ,fun _ _=>rfl,Jz _,hs.size,fun c hc _=>hs.keep c hc,fun _ h=>.inl h,fun _ _ h _=>h,hs.os,hs.tape,hs.output⟩⟩;obtain ⟨p,hp,hk⟩:=hH.blk b B hB;refine ⟨p,hp,?_⟩;cases B with
    |cells t n tl ro=>
     obtain ⟨c,e,fz,h1,h2⟩:=hk;exact ⟨c,e,fz,by rw [hs.keep _ (Array.getElem?_eq_some_iff.1 h1).1];exact h1,h2⟩
    |mp es=>
     obtain ⟨es',k,h1,h2⟩:=hk;exact ⟨es',k,by rw [hs.keep _ (Array.getElem?_eq_some_iff.1 h1).1];exact h1,h2⟩
theorem zlf (hP:progOK P=true) (hfol:P.follows .mixedOrders=true) {tb:List FuncId}{gl:List (List AV)}(hg:groundG gl=true) (hsz:gl.length≤P.globals.size) (hK:∀f∈tb,KnownOK P gl f):
  ∀n,CallOK P (callFO P tb gl n)∧MC (callFO P tb gl n)∧MX (execO P tb gl n)∧∀nt c,codeOK P nt c=true→SoundC P nt (execO P tb gl n) c
 |0=>by
  refine ⟨fun f xs H h=>absurd rfl h,fun f xs H=>trivial,fun c S e S' h=>?_,fun nt c _ S e S' ρ a w Q h=>?_⟩
  ·cases h
  ·cases h
 |n+1=>by
  obtain ⟨h1,h2,h3,h4⟩:=zlf hP hfol hg hsz hK n;have g1:=callO_ok hP hg hsz hK (zru hP h1 h2 h3 h4);have g2:=ztx (tb:=tb) (gl:=gl) (zmi (P:=P) h2 h3);exact ⟨g1,g2,zjn g2 h3,fun nt c hc=>ztm g1 g2 (zv5 g1 g2) hfol h3 (h4 nt) c hc⟩
theorem contractO (hP:progOK P=true) (hfol:P.follows .mixedOrders=true) {tb:List FuncId}{gl:List (List AV)}(hg:groundG gl=true) (hsz:gl.length≤P.globals.size) (hK:∀f∈tb,KnownOK P gl f)
  {n m:Nat}{f:FuncId}{xs:List AV}{H':Heap}{v:AV}(hm:P.globals.size≤m) (hrun:callFO P tb gl n f xs (H0 gl m)=.ret v H') {W:World}{args:Array Value}(hd:∀ρ,DL ρ xs args.toList) (hL:LaidW gl W)
  {x:Value}(hx:∀ρ',den ρ' v=some x):Calls P f args W fun e W'=>e=.returned x∧Same W W':=by
 have hbad:callFO P tb gl n f xs (H0 gl m)≠.bad:=by rw [hrun];intro h;cases h
 have:=((zlf hP hfol hg hsz hK n).1 f xs (H0 gl m) hbad).2 (rho0 W m) W args (hd _) (H0_HR' (by omega) hL) (rho0_G hm) (fun v H' _ b hb _=>ztd hb);refine this.mono fun e W' hp=>?_;rw [hrun] at hp;cases e with
 |returned y=>
  obtain ⟨v',H2,ρ',hr,hd,hHR,hE⟩:=hp;injection hr with h1 h2
  subst h1 h2;rw [hx ρ'] at hd;injection hd with hd
  subst hd;exact ⟨rfl,hE.size,fun c hc=>hE.keep c hc (fun ⟨b,B,p,hB,hp,_,hw⟩=>H0_ro hB hw),hE.os,hE.tape,hE.output⟩
 |panicked ch=>
  obtain ⟨v',H2,ρ',hr,_⟩:=hp;cases hr
 |outgrown=>exact hp.elim
noncomputable def cellsK2 (l:List AV):Tr AV→Nat→Ans→Ans:=List.rec (motive:=fun _=>Tr AV→Nat→Ans→Ans) (fun _ _ x=>x) (fun v _ ih t i x=>getK (path i) t fun u=>eqK u v (fN' (Nat.succ i) fun i=>ih t i x)) l
noncomputable def laidK (gl:List (List AV)):Nat→Bl→Ans→Ans:=List.rec (motive:=fun _=>Nat→Bl→Ans→Ans) (fun _ _ x=>x) (fun l _ ih b B x=>List.rec (motive:=fun _=>Ans) (fN' (Nat.succ b) fun b=>ih b B x) (fun v r _=>blkK B b fun K=>cellsK K fun t _ _ _=>cellsK2 (v::r) t 0 (fN' (Nat.succ b) fun b=>ih b B x)) l) gl
noncomputable def callKO (tb:List FuncId) (gl:List (List AV)) (cK:CallK):CallK:=fun f xs B n k p=>List.rec (motive:=fun _=>Ans) (ifK (memF f tb) (laidK gl 0 B (k (.bool true) B n)) (cK f [] B n k p)) (fun x l _=>cK f (x::l) B n k p) xs
theorem zmk {t:Tr AV}:∀(l:List AV) (i:Nat) {x:Ans},cellsK2 l t i x=.yes→cellsIn t l i=true∧x=.yes
 |[],_,_,h=>⟨rfl,h⟩
 |v::l,i,x,h=>by
  have h:getK (path i) t (fun u=>eqK u v (fN' (Nat.succ i) fun i=>cellsK2 l t i x))=.yes:=h;simp only [path_eq,getK_eq,zed,fN'_eq] at h;obtain ⟨u,hu,h⟩:=h;obtain ⟨h1,h⟩:=eqK_ok h;obtain ⟨h2,h⟩:=zmk l _ h;exact ⟨by simp only [cellsIn,hu,h1,h2,Bool.and_self],h⟩
theorem zns {B:Bl}{n:Nat}:∀(gl:List (List AV)) (b:Nat) {x:Ans},laidK gl b B x=.yes→laidIn gl b ⟨B,n⟩=true∧x=.yes
 |[],_,_,h=>⟨rfl,h⟩
 |[]::gl,b,x,h=>by
  have h:fN' (Nat.succ b) (fun b=>laidK gl b B x)=.yes:=h;simp only [fN'_eq] at h;exact zns (n:=n) gl _ h
 |(v::l)::gl,b,x,h=>by
  have h:blkK B b (fun K=>cellsK K fun t _ _ _=>cellsK2 (v::l) t 0 (fN' (Nat.succ b) fun b=>laidK gl b B x))=.yes:=h;obtain ⟨K,hK,h⟩:=zct h;simp only [zco,fN'_eq] at h;obtain ⟨t,s,tl,ro,rfl,h⟩:=h;obtain ⟨h1,h⟩:=zmk (v::l) 0 h;obtain ⟨h2,h⟩:=zns (n:=n) gl _ h;exact ⟨by simp only [laidIn,hK n,h1,h2,Bool.and_self],h⟩
theorem zvn {tb:List FuncId}{gl:List (List AV)}{cK:CallK}{c:CallF}(h:RC cK c):RC (callKO tb gl cK) (callO tb gl c):=by
 intro f xs B n k p hy;cases xs with
 |cons x l=>exact h _ _ _ _ _ _ hy
 |nil=>
  have hy:ifK (memF f tb) (laidK gl 0 B (k (.bool true) B n)) (cK f [] B n k p)=.yes:=hy;simp only [callO];cases hm:memF f tb with
  |false=>rw [hm] at hy;exact h _ _ _ _ _ _ hy
  |true=>
   rw [hm] at hy;obtain ⟨h1,hy⟩:=zns (n:=n) gl 0 hy;exact .inl ⟨.bool true,⟨B,n⟩,by simp only [cond_true,h1],hy⟩
noncomputable def lvFO (P:Program) (pt:List PlT) (tb:List FuncId) (gl:List (List AV)) (n:Nat):(b:Bool)→Sel b:=Nat.rec (motive:=fun _=>(b:Bool)→Sel b)
 (fun b=>Bool.rec (motive:=Sel) (fun _ _ _ _ _ _=>.no:CallK) (fun _ _ _ _ _ _ _=>.no:ExK) b)
 (fun _ ih b=>Bool.rec (motive:=Sel) (callKO tb gl (callK P pt (ih true) (ih false))) (fun c pl T B x D k=>runB (codeC c P pl) (ih true) (callKO tb gl (callK P pt (ih true) (ih false))) T B x D k:ExK) b) n
noncomputable def exFO (P:Program) (pt:List PlT) (tb:List FuncId) (gl:List (List AV)) (n:Nat):ExK:=lvFO P pt tb gl n true
noncomputable def callNO (P:Program) (pt:List PlT) (tb:List FuncId) (gl:List (List AV)) (n:Nat):CallK:=lvFO P pt tb gl n false
theorem zwz {pt:List PlT}(hpt:PtOK P pt) {tb:List FuncId}{gl:List (List AV)}:∀n,RX P (exFO P pt tb gl n) (execO P tb gl n)∧RC (callNO P pt tb gl n) (callFO P tb gl n)
 |0=>⟨fun c pl F T B n D k _ _ h=>(by cases h),fun f xs B n k p h=>(by cases h)⟩
 |n+1=>by
  obtain ⟨h1,h2⟩:=zwz hpt n;have hc:RC (callNO P pt tb gl (n+1)) (callFO P tb gl (n+1)):=zvn (zrv hpt h1 h2);exact ⟨fun c pl F T B m D k hpl hR h=>zrw h1 hc c hpl hR h,hc⟩
theorem runO_ok {pt:List PlT}(hpt:PtOK P pt) (tb:List FuncId) (gl:List (List AV)) (n:Nat):RC (callNO P pt tb gl n) (callFO P tb gl n):=(zwz hpt n).2
noncomputable def wholeK (P:Program) (pt:List PlT) (tb:List FuncId) (gl:List (List AV)) (N:Nat) (f:FuncId) (xs:List AV) (B:Bl) (n:Nat):Ans:=callNO P pt tb gl (Nat.succ N) f xs B n (fun v _ _=>isTT v) fun _ _ _=>.no
theorem zzm {pt:List PlT}(hpt:PtOK P pt) {tb:List FuncId}{gl:List (List AV)}{N:Nat}{f:FuncId}{xs:List AV}{H:Heap}(h:wholeK P pt tb gl N f xs H.bl H.nx=.yes):∃H',callFO P tb gl (N+1) f xs H=.ret (.bool true) H':=by
 rcases runO_ok hpt tb gl (N+1) f xs H.bl H.nx _ _ h with ⟨v,H',h1,h2⟩|⟨v,H',_,h2⟩
 ·rw [isTT_yes h2] at h1;exact ⟨H',h1⟩
 ·cases h2
theorem zo9 (hP:progOK P=true) (hfol:P.follows .mixedOrders=true) {tb:List FuncId}{gl:List (List AV)}(hg:groundG gl=true) (hsz:gl.length≤P.globals.size) (hK:∀f∈tb,KnownOK P gl f)
  {pt:List PlT}(hpt:PtOK P pt) {N m:Nat}{f:FuncId}(hm:P.globals.size=m) {fn:Func}{c:Code}(hf:P.funcs[f]? = some fn) (hb:fn.body=some c) (h:wholeK P pt tb gl N f [] (H0 gl m).bl m=.yes):KnownOK P gl f:=by
 have e:(H0 gl m).nx=m:=zfw _ _ _;have h:wholeK P pt tb gl N f [] (H0 gl m).bl (H0 gl m).nx=.yes:=by rw [e];exact h
 obtain ⟨H',hr⟩:=zzm hpt h;exact ⟨⟨fn,c,hf,hb⟩,fun W hL=>contractO hP hfol hg hsz hK (Nat.le_of_eq hm) hr (fun ρ=>DL.nil) hL (fun _=>rfl)⟩
end Eng
end Go.Proofs.YtniflgldgnmiaaaGreatDoor
