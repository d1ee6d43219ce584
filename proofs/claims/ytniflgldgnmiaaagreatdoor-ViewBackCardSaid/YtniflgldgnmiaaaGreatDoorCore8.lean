/-
  THE ENGINE, part WA: more depth changes nothing that is there.
-/
import Derived.Test.YtniflgldgnmiaaaGreatDoorCore7
import Derived.ChangeArms
namespace Go.Proofs.YtniflgldgnmiaaaGreatDoor
namespace Eng
open Go
section
variable {P:Program}
def LeC (c d:CallF):Prop:=∀f xs H,c f xs H≠.bad→d f xs H=c f xs H
def LeX (c d:ExF):Prop:=∀k S,c k S≠.bad→d k S=c k S
theorem zlj {c d:CallF}(h:LeC c d) (o:Op) (T:Tm) (H:Heap) (hne:oper P c o T H≠.bad):oper P d o T H=oper P c o T H:=by
 cases o with
 |call k=>
  have hne:oCall P c k T H≠.bad:=hne;show oCall P d k T H=oCall P c k T H;unfold oCall at hne ⊢;cases he:evL k.args.toList T with
  |none=>rfl
  |some xs=>
   simp only [he] at hne ⊢;cases hk:k.callee with
   |builtin b=>rfl
   |invoke _ _=>rfl
   |value f=>
    simp only [hk] at hne ⊢;cases hv:ev f T with
    |none=>rfl
    |some v=>
     cases v with
     |fn g l=>
      simp only [hv] at hne ⊢;rw [h g (xs++l) H (fun e=>hne (by rw [e];rfl))]
     |_=>rfl
 |_=>rfl
theorem zn7 {c d:CallF}(h:LeC c d) (ops:Array Oper):∀(l:List Oper) (S:St),opsR P c ops l S≠.bad→opsR P d ops l S=opsR P c ops l S
 |[],S,_=>rfl
 |o::l,S,hne=>by
  simp only [opsR,oneOp] at hne ⊢;cases hw:want ops o.guard S.T with
  |none=>rfl
  |some b=>
   cases b with
   |false=>
    simp only [hw,zd3] at hne ⊢;exact zn7 h ops l _ hne
   |true=>
    simp only [hw] at hne ⊢;have hb:oper P c o.op S.T S.H≠.bad:=fun e=>hne (by rw [e];rfl);rw [zlj h o.op S.T S.H hb];cases hr:oper P c o.op S.T S.H with
    |val v H=>simp only [hr,after,zd3] at hne ⊢;exact zn7 h ops l _ hne
    |dfr f xs=>simp only [hr,after,zd3] at hne ⊢;exact zn7 h ops l _ hne
    |pan v H=>rfl
    |bad=>exact absurd hr hb
    |rcv=>rfl
theorem zh9 {c d:CallF}(h:LeC c d) (ops:Array Oper):∀(l:List Mv) (S:St),drawR P c ops l S≠.bad→drawR P d ops l S=drawR P c ops l S
 |[],S,_=>rfl
 |.ck i::l,S,hne=>by
  simp only [drawR] at hne ⊢;cases ho:ops[i]? with
  |none=>rfl
  |some o=>
   simp only [ho] at hne ⊢;cases hk:ckOp P ops o S with
   |false=>rfl
   |true=>simp only [hk,cond_true] at hne ⊢;exact zh9 h ops l S hne
 |.ex i fin::l,S,hne=>by
  simp only [drawR] at hne ⊢;cases ho:ops[i]? with
  |none=>rfl
  |some o=>
   simp only [ho] at hne ⊢;cases hw:want ops o.guard S.T with
   |none=>rfl
   |some b=>
    cases b with
    |false=>simp only [hw,zd3] at hne ⊢;exact zh9 h ops l _ hne
    |true=>
     simp only [hw] at hne ⊢;have hb:oper P c o.op S.T S.H≠.bad:=fun e=>hne (by rw [e]);rw [zlj h o.op S.T S.H hb];cases hr:oper P c o.op S.T S.H with
     |val v H=>simp only [hr,zd3] at hne ⊢;exact zh9 h ops l _ hne
     |dfr f xs=>simp only [hr,zd3] at hne ⊢;exact zh9 h ops l _ hne
     |pan v H=>rfl
     |bad=>exact absurd hr hb
     |rcv=>rfl
theorem zum {c d:CallF}(h:LeC c d) (ops:Array Oper) (dr:Bool) (S:St) (hne:regionR P c ops dr S≠.bad):regionR P d ops dr S=regionR P c ops dr S:=by
 cases dr with
 |false=>exact zn7 h ops _ S hne
 |true=>
  simp only [regionR] at hne ⊢;cases hp:planOf P ops with
  |none=>rfl
  |some l=>simp only [hp] at hne ⊢;exact zh9 h ops l S hne
theorem zyg {f g:St→Res}{r s:Res}(hr:r≠.bad→s=r) (hf:∀S,f S≠.bad→g S=f S) (hne:seqK f r≠.bad):seqK g s=seqK f r:=by
 have hb:r≠.bad:=fun e=>hne (by rw [e];rfl);rw [hr hb];cases r with
 |bad=>rfl
 |ok e S=>
  cases e with
  |normal=>exact hf S hne
  |_=>rfl
theorem stepC_le {c d:CallF}(h:LeC c d) {i j:ExF}(hx:LeX i j):LeX (stepC P c i) (stepC P d j):=by
 intro k
 induction k with
 |region id ops dr=>intro S hne;exact zum h ops dr S hne
 |seq a b iha ihb=>intro S hne;exact zyg (iha S) ihb hne
 |cond x a b iha ihb=>
  intro S hne;simp only [stepC,condK] at hne ⊢;cases hv:ev x S.T with
  |none=>rfl
  |some v=>
   cases v with
   |bool w=>cases w<;>simp only [hv] at hne ⊢<;>first|exact iha S hne|exact ihb S hne
   |_=>rfl
 |block id b ihb=>
  intro S hne;simp only [stepC] at hne ⊢;have hb:stepC P c i b S≠.bad:=fun e=>hne (by rw [e];rfl);rw [ihb S hb]
 |loop b ihb=>intro S hne;exact zyg (ihb S) (hx (.loop b)) hne
 |scope b ihb=>intro S hne;exact ihb S hne
 |_=>intro S _;rfl
theorem zn6 {c d:CallF}(h:LeC c d) (ops:Array Oper):∀(l:List Oper) (S:St) (u:Up),opsD P c ops l S u≠.bad→opsD P d ops l S u=opsD P c ops l S u
 |[],S,u,_=>rfl
 |o::l,S,u,hne=>by
  simp only [opsD] at hne ⊢;cases hw:want ops o.guard S.T with
  |none=>rfl
  |some b=>
   cases b with
   |false=>simp only [hw,zd3] at hne ⊢;exact zn6 h ops l _ _ hne
   |true=>
    simp only [hw] at hne ⊢;have hb:oper P c o.op S.T S.H≠.bad:=fun e=>hne (by rw [e]);rw [zlj h o.op S.T S.H hb];cases hr:oper P c o.op S.T S.H with
    |val v H=>simp only [hr,zd3] at hne ⊢;exact zn6 h ops l _ _ hne
    |rcv=>simp only [hr,zd3] at hne ⊢;exact zn6 h ops l _ _ hne
    |_=>rfl
theorem execD_le {c d:CallF}(h:LeC c d) {i j:ExF}(hx:LeX i j):∀(k:Code) (S:St) (u:Up),execD P c i k S u≠.bad→execD P d j k S u=execD P c i k S u:=by
 have lift:∀(k:Code) (S:St) (u:Up),liftD u (i k S)≠.bad→liftD u (j k S)=liftD u (i k S):=by
  intro k S u hne;have hb:i k S≠.bad:=fun e=>hne (by rw [e];rfl);rw [hx k S hb]
 intro k
 induction k with
 |seq a b iha ihb=>
  intro S u hne;simp only [execD] at hne ⊢;have hb:execD P c i a S u≠.bad:=fun e=>hne (by rw [e]);rw [iha S u hb];cases hr:execD P c i a S u with
  |bad=>rfl
  |ok e S' u'=>
   cases e with
   |normal=>simp only [hr] at hne ⊢;exact ihb _ _ hne
   |_=>rfl
 |cond x a b iha ihb=>
  intro S u hne;simp only [execD] at hne ⊢;cases hv:ev x S.T with
  |none=>rfl
  |some v=>
   cases v with
   |bool w=>cases w<;>simp only [hv] at hne ⊢<;>first|exact iha S u hne|exact ihb S u hne
   |_=>rfl
 |region id ops dr=>
  intro S u hne;cases dr with
  |false=>exact zn6 h ops _ S u hne
  |true=>exact lift _ S u hne
 |_=>intro S u hne;exact lift _ S u hne
theorem ze4 {c d:CallF}(h:LeC c d) {i j:ExF}(hx:LeX i j):∀(ds:List (FuncId×List AV)) (m:Md) (H:Heap),runDefers P c i ds m H≠none→runDefers P d j ds m H=runDefers P c i ds m H
 |[],_,_,_=>rfl
 |(f,xs)::ds,m,H,hne=>by
  simp only [runDefers] at hne ⊢;cases hf:P.funcs[f]? with
  |none=>rfl
  |some fn=>
   simp only [hf] at hne ⊢;cases hb:fn.body with
   |none=>rfl
   |some k=>
    simp only [hb,zez] at hne ⊢;have hx':execD P c i k ⟨layT .lf 0 xs,H,[]⟩ (upOf m)≠.bad:=fun e=>hne (by rw [e]);rw [execD_le h hx k _ _ hx'];cases hr:execD P c i k ⟨layT .lf 0 xs,H,[]⟩ (upOf m) with
    |bad=>rfl
    |ok e S u=>
     simp only [hr] at hne ⊢;cases e with
     |exit _=>rfl
     |panic v=>
      cases hc:S.D.isEmpty with
      |false=>simp only [hc,cond_false]
      |true=>simp only [hc,cond_true] at hne ⊢;exact ze4 h hx ds _ _ hne
     |normal=>
      cases hc:S.D.isEmpty&&(resA P fn S.T S.H).isSome with
      |false=>simp only [hc,cond_false]
      |true=>simp only [hc,cond_true] at hne ⊢;exact ze4 h hx ds _ _ hne
     |ret=>
      cases hc:S.D.isEmpty&&(resA P fn S.T S.H).isSome with
      |false=>simp only [hc,cond_false]
      |true=>simp only [hc,cond_true] at hne ⊢;exact ze4 h hx ds _ _ hne
theorem leave_le {c d:CallF}(h:LeC c d) {i j:ExF}(hx:LeX i j) (fn:Func) (m:Md) (S:St) (hne:leave P c i fn m S≠.bad):leave P d j fn m S=leave P c i fn m S:=by
 unfold leave at hne ⊢;cases hD:S.D with
 |nil=>rfl
 |cons x ds=>
  simp only [hD] at hne ⊢;have hb:runDefers P c i (x::ds) m S.H≠none:=fun e=>hne (by rw [e]);rw [ze4 h hx _ _ _ hb]
theorem callB_le {c d:CallF}(h:LeC c d) {i j:ExF}(hx:LeX i j):LeC (callB P c i) (callB P d j):=by
 intro f xs H hne;simp only [callB] at hne ⊢;cases hf:P.funcs[f]? with
 |none=>rfl
 |some fn=>
  simp only [hf] at hne ⊢;cases hb:fn.body with
  |none=>rfl
  |some k=>
   simp only [hb,zez] at hne ⊢;have hx':i k ⟨layT .lf 0 xs,H,[]⟩≠.bad:=fun e=>hne (by rw [e]);rw [hx k _ hx'];cases hr:i k ⟨layT .lf 0 xs,H,[]⟩ with
   |bad=>rfl
   |ok e S=>
    simp only [hr] at hne ⊢;cases e with
    |exit _=>rfl
    |_=>exact leave_le h hx _ _ _ hne
theorem callO_le {tb:List FuncId}{gl:List (List AV)}{c d:CallF}(h:LeC c d):LeC (callO tb gl c) (callO tb gl d):=by
 intro f xs H hne;cases xs with
 |cons x l=>exact h f (x::l) H hne
 |nil=>
  simp only [callO] at hne ⊢;cases hm:memF f tb with
  |false=>simp only [hm,cond_false] at hne ⊢;exact h f [] H hne
  |true=>rfl
theorem zle (tb:List FuncId) (gl:List (List AV)):∀n,LeX (execO P tb gl n) (execO P tb gl (n+1))∧LeC (callFO P tb gl n) (callFO P tb gl (n+1))
 |0=>⟨fun _ _ h=>absurd rfl h,fun _ _ _ h=>absurd rfl h⟩
 |n+1=>by
  obtain ⟨h1,h2⟩:=zle tb gl n;have h3:LeC (callFO P tb gl (n+1)) (callFO P tb gl (n+2)):=callO_le (callB_le h2 h1);exact ⟨stepC_le h3 h1,h3⟩
theorem LeX.refl (c:ExF):LeX c c:=fun _ _ _=>rfl
theorem LeC.refl (c:CallF):LeC c c:=fun _ _ _ _=>rfl
theorem LeX.trans {a b c:ExF}(h:LeX a b) (k:LeX b c):LeX a c:=fun x S hne=>by
 have e:=h x S hne;rw [k x S (by rw [e];exact hne),e]
theorem LeC.trans {a b c:CallF}(h:LeC a b) (k:LeC b c):LeC a c:=fun f xs H hne=>by
 have e:=h f xs H hne;rw [k f xs H (by rw [e];exact hne),e]
theorem zo0 (tb:List FuncId) (gl:List (List AV)) (n:Nat):∀k,LeX (execO P tb gl n) (execO P tb gl (n+k))
 |0=>.refl _
 |k+1=>(zo0 tb gl n k).trans (zle tb gl (n+k)).1
theorem zmj (tb:List FuncId) (gl:List (List AV)) (n:Nat):∀k,LeC (callFO P tb gl n) (callFO P tb gl (n+k))
 |0=>.refl _
 |k+1=>(zmj tb gl n k).trans (zle tb gl (n+k)).2
theorem zdf {tb:List FuncId}{gl:List (List AV)}{n m:Nat}(h:n≤m) {c:Code}{S S':St}{e:Ex}(hx:execO P tb gl n c S=.ok e S'):execO P tb gl m c S=.ok e S':=by
 obtain ⟨k,rfl⟩:=Nat.exists_eq_add_of_le h;rw [zo0 tb gl n k c S (by rw [hx];intro h;cases h),hx]
theorem zvm {tb:List FuncId}{gl:List (List AV)}{n m:Nat}(h:n≤m):LeC (callFO P tb gl n) (callFO P tb gl m):=by
 obtain ⟨k,rfl⟩:=Nat.exists_eq_add_of_le h;exact zmj tb gl n k
end
end Eng
end Go.Proofs.YtniflgldgnmiaaaGreatDoor
namespace Go.Proofs.YtniflgldgnmiaaaGreatDoor
namespace Eng
open Go
inductive It where
 |op (d:Option Tmp) (o:Op)
 |gd (t:Tmp) (w:Bool) (d:Option Tmp) (o:Op)
 |ck (t:Tmp) (o:Op)
 |ckg (g:Tmp) (w:Bool) (t:Tmp) (o:Op)
inductive CV where
 |reg (l:List It)
 |seq (a b:CV)
 |cond (x:Operand) (a b:CV)
 |block (id:Nat) (b:CV)
 |loop (b:CV)
 |exit (id:Nat)
 |skip
 |ret
def itOf (ops:Array Oper) (o:Oper):Option It:=match o.guard with
 |none=>some (.op o.dst o.op)
 |some (j,w)=>match (ops[j]?).bind (·.dst) with
  |some t=>some (.gd t w o.dst o.op)
  |none=>none
def ckOf (ops:Array Oper) (o:Oper):Option It:=match o.guard,o.dst with
 |none,some t=>some (.ck t o.op)
 |some (j,w),some t=>match (ops[j]?).bind (·.dst) with
  |some g=>some (.ckg g w t o.op)
  |none=>none
 |_,_=>none
def itsS (ops:Array Oper):List Oper→Option (List It)
 |[]=>some []
 |o::l=>match itOf ops o,itsS ops l with|some i,some r=>some (i::r)|_,_=>none
def itsD (ops:Array Oper):List Mv→Option (List It)
 |[]=>some []
 |.ex i _::l=>match (ops[i]?).bind (itOf ops),itsD ops l with|some i,some r=>some (i::r)|_,_=>none
 |.ck i::l=>match (ops[i]?).bind (ckOf ops),itsD ops l with|some i,some r=>some (i::r)|_,_=>none
def viewR (P:Program) (ops:Array Oper) (draw:Bool):Option (List It):=match draw with
 |false=>itsS ops ops.toList
 |true=>match planOf P ops with|some l=>itsD ops l|none=>none
def viewC (P:Program):Code→Option CV
 |.region _ ops draw=>match viewR P ops draw with|some l=>some (.reg l)|none=>none
 |.seq a b=>match viewC P a,viewC P b with|some a,some b=>some (.seq a b)|_,_=>none
 |.cond x a b=>match viewC P a,viewC P b with|some a,some b=>some (.cond x a b)|_,_=>none
 |.block id b=>match viewC P b with|some b=>some (.block id b)|none=>none
 |.loop b=>match viewC P b with|some b=>some (.loop b)|none=>none
 |.scope b=>viewC P b
 |.exit id=>some (.exit id)
 |.ret=>some .ret
 |.skip=>some .skip
 |.label _=>some .skip
 |_=>none
section
variable {P:Program}{tb:List FuncId}{gl:List (List AV)}
def botC:CallF:=fun _ _ _=>.bad
theorem botC_le (c:CallF):LeC botC c:=fun _ _ _ h=>absurd rfl h
def putI (d:Option Tmp) (v:AV) (T:Tm):Tm:=match d with|some t=>T.set (bits t) (some v)|none=>T
def runI (P:Program) (call:CallF):List It→Tm→Heap→Option (Tm×Heap)
 |[],T,H=>some (T,H)
 |.op d o::l,T,H=>match oper P call o T H with
  |.val v H=>runI P call l (putI d v T) H
  |_=>none
 |.gd t w d o::l,T,H=>match T.get (bits t) with
  |some (.bool b)=>bif b==w then (match oper P call o T H with
    |.val v H=>runI P call l (putI d v T) H
    |_=>none) else runI P call l (putI d undefA T) H
  |some _=>runI P call l (putI d undefA T) H
  |none=>none
 |.ck t o::l,T,H=>match oper P (fun _ _ _=>.bad) o T H,T.get (bits t) with
  |.val v _,some u=>bif AV.eq u v then runI P call l T H else none
  |_,_=>none
 |.ckg g w t o::l,T,H=>match T.get (bits g) with
  |some (.bool b)=>bif b==w then (match oper P (fun _ _ _=>.bad) o T H,T.get (bits t) with
   |.val v _,some u=>bif AV.eq u v then runI P call l T H else none
   |_,_=>none) else runI P call l T H
  |some _=>runI P call l T H
  |none=>none
theorem zr7 {call:CallF}{ops:Array Oper}{o:Oper}{i:It}(hi:itOf ops o=some i) {l:List It}{T T':Tm}{H H':Heap}(h:runI P call (i::l) T H=some (T',H')):
  (want ops o.guard T=some true∧∃v H1,oper P call o.op T H=.val v H1∧runI P call l (putI o.dst v T) H1=some (T',H'))∨
  (want ops o.guard T=some false∧runI P call l (putI o.dst undefA T) H=some (T',H')):=by
 unfold itOf at hi;cases hg:o.guard with
 |none=>
  rw [hg] at hi;injection hi with hi
  subst hi;simp only [runI] at h;cases ho:oper P call o.op T H with
  |val v H1=>rw [ho] at h;exact .inl ⟨rfl,v,H1,rfl,h⟩
  |_=>rw [ho] at h;cases h
 |some g=>
  obtain ⟨j,w⟩:=g;rw [hg] at hi;simp only at hi;cases hd:(ops[j]?).bind (·.dst) with
  |none=>rw [hd] at hi;cases hi
  |some t=>
   rw [hd] at hi;injection hi with hi
   subst hi;simp only [runI] at h;simp only [want,hd];cases ht:T.get (bits t) with
   |none=>rw [ht] at h;cases h
   |some u=>
    rw [ht] at h;cases u with
    |bool b=>
     simp only at h ⊢;cases hb:b==w with
     |false=>rw [hb] at h;exact .inr ⟨rfl,h⟩
     |true=>
      rw [hb] at h;simp only [cond_true] at h;cases ho:oper P call o.op T H with
      |val v H1=>rw [ho] at h;exact .inl ⟨rfl,v,H1,rfl,h⟩
      |_=>rw [ho] at h;cases h
    |_=>exact .inr ⟨rfl,h⟩
theorem znq {call:CallF}{ops:Array Oper}:∀{l:List Oper}{r:List It},itsS ops l=some r→∀{T T':Tm}{H H':Heap}{D:List (FuncId×List AV)},runI P call r T H=some (T',H')→opsR P call ops l ⟨T,H,D⟩=.ok .normal ⟨T',H',D⟩
 |[],r,hr,T,T',H,H',D,h=>by
  injection hr with hr
  subst hr;simp only [runI,Option.some.injEq,Prod.mk.injEq] at h;obtain ⟨rfl,rfl⟩:=h;rfl
 |o::l,r,hr,T,T',H,H',D,h=>by
  simp only [itsS] at hr;split at hr
  ·rename_i i r' hi hr';injection hr with hr
   subst hr;simp only [opsR,oneOp];rcases zr7 hi h with ⟨hw,v,H1,ho,h⟩|⟨hw,h⟩
   ·simp only [hw,ho,after,zd3];exact znq hr' h
   ·simp only [hw,zd3];exact znq hr' h
  ·cases hr
theorem zfu {call:CallF}{ops:Array Oper}:∀{l:List Mv}{r:List It},itsD ops l=some r→∀{T T':Tm}{H H':Heap}{D:List (FuncId×List AV)},runI P call r T H=some (T',H')→drawR P call ops l ⟨T,H,D⟩=.ok .normal ⟨T',H',D⟩
 |[],r,hr,T,T',H,H',D,h=>by
  injection hr with hr
  subst hr;simp only [runI,Option.some.injEq,Prod.mk.injEq] at h;obtain ⟨rfl,rfl⟩:=h;rfl
 |.ex i fin::l,r,hr,T,T',H,H',D,h=>by
  simp only [itsD] at hr;split at hr
  ·rename_i it r' hi hr';injection hr with hr
   subst hr;cases ho:ops[i]? with
   |none=>rw [ho] at hi;cases hi
   |some o=>
    rw [ho] at hi;simp only [drawR,ho];rcases zr7 hi h with ⟨hw,v,H1,hv,h⟩|⟨hw,h⟩
    ·simp only [hw,hv,zd3];exact zfu hr' h
    ·simp only [hw,zd3];exact zfu hr' h
  ·cases hr
 |.ck i::l,r,hr,T,T',H,H',D,h=>by
  simp only [itsD] at hr;split at hr
  ·rename_i it r' hi hr';injection hr with hr
   subst hr;cases ho:ops[i]? with
   |none=>rw [ho] at hi;cases hi
   |some o=>
    rw [ho] at hi;simp only [Option.bind_some,ckOf] at hi;split at hi
    ·rename_i t hg hd;injection hi with hi
     subst hi;simp only [runI] at h;simp only [drawR,ho,ckOp,hg,want,hd];split at h
     ·rename_i v H1 u hv hu;simp only [hv,hu];cases he:AV.eq u v with
      |false=>rw [he] at h;cases h
      |true=>
       rw [he] at h;exact zfu hr' h
     ·cases h
    ·rename_i j w t hg hd;split at hi
     ·rename_i g hj;injection hi with hi
      subst hi;simp only [runI] at h;simp only [drawR,ho,ckOp,hg,want,hd,hj];cases hT:T.get (bits g) with
      |none=>rw [hT] at h;cases h
      |some a=>
       rw [hT] at h;cases a with
       |bool b=>
        simp only at h ⊢;cases hb:b==w with
        |false=>rw [hb] at h;exact zfu hr' h
        |true=>
         rw [hb] at h;simp only [cond_true] at h;split at h
         ·rename_i v H1 u hv hu;simp only [hv,hu];cases he:AV.eq u v with
          |false=>rw [he] at h;cases h
          |true=>
           rw [he] at h;exact zfu hr' h
         ·cases h
       |_=>exact zfu hr' h
     ·cases hi
    ·cases hi
  ·cases hr
theorem zy1 {call:CallF}{ops:Array Oper}{dr:Bool}{r:List It}(hr:viewR P ops dr=some r) {T T':Tm}{H H':Heap}{D:List (FuncId×List AV)}(h:runI P call r T H=some (T',H')):regionR P call ops dr ⟨T,H,D⟩=.ok .normal ⟨T',H',D⟩:=by
 cases dr with
 |false=>exact znq hr h
 |true=>
  simp only [viewR] at hr;cases hp:planOf P ops with
  |none=>rw [hp] at hr;cases hr
  |some l=>
   rw [hp] at hr;simp only [regionR,hp];exact zfu hr h
variable (P tb gl) in
def Wp (c:Code) (S:St) (Q:Ex→St→Prop):Prop:=∃n e S',execO P tb gl n c S=.ok e S'∧Q e S'
variable (P tb gl) in
def WpF (f:FuncId) (xs:List AV) (H:Heap) (Q:AV→Heap→Prop):Prop:=∃n v H',callFO P tb gl n f xs H=.ret v H'∧Q v H'
variable (P tb gl) in
def WpO (o:Op) (T:Tm) (H:Heap) (Q:AV→Heap→Prop):Prop:=∃n v H',oper P (callFO P tb gl n) o T H=.val v H'∧Q v H'
variable (P tb gl) in
def WpI (l:List It) (T:Tm) (H:Heap) (Q:Tm→Heap→Prop):Prop:=∃n T' H',runI P (callFO P tb gl n) l T H=some (T',H')∧Q T' H'
variable (P tb gl) in
def WpV (v:CV) (T:Tm) (H:Heap) (Q:Ex→Tm→Heap→Prop):Prop:=∀c,viewC P c=some v→Wp P tb gl c ⟨T,H,[]⟩ fun e S=>S.D=[]∧Q e S.T S.H
theorem WpF.mono {f:FuncId}{xs:List AV}{H:Heap}{Q Q':AV→Heap→Prop}(h:WpF P tb gl f xs H Q) (k:∀v H',Q v H'→Q' v H'):WpF P tb gl f xs H Q':=by
 obtain ⟨n,v,H',h1,h2⟩:=h;exact ⟨n,v,H',h1,k v H' h2⟩
theorem WpO.mono {o:Op}{T:Tm}{H:Heap}{Q Q':AV→Heap→Prop}(h:WpO P tb gl o T H Q) (k:∀v H',Q v H'→Q' v H'):WpO P tb gl o T H Q':=by
 obtain ⟨n,v,H',h1,h2⟩:=h;exact ⟨n,v,H',h1,k v H' h2⟩
theorem WpI.mono {l:List It}{T:Tm}{H:Heap}{Q Q':Tm→Heap→Prop}(h:WpI P tb gl l T H Q) (k:∀T' H',Q T' H'→Q' T' H'):WpI P tb gl l T H Q':=by
 obtain ⟨n,v,H',h1,h2⟩:=h;exact ⟨n,v,H',h1,k v H' h2⟩
theorem WpV.mono {v:CV}{T:Tm}{H:Heap}{Q Q':Ex→Tm→Heap→Prop}(h:WpV P tb gl v T H Q) (k:∀e T' H',Q e T' H'→Q' e T' H'):WpV P tb gl v T H Q':=by
 intro c hc;obtain ⟨n,e,S',h1,h2,h3⟩:=h c hc;exact ⟨n,e,S',h1,h2,k _ _ _ h3⟩
theorem zkj {n m:Nat}(h:n≤m) {o:Op}{T:Tm}{H H':Heap}{v:AV}(ho:oper P (callFO P tb gl n) o T H=.val v H'):oper P (callFO P tb gl m) o T H=.val v H':=by
 rw [zlj (zvm h) o T H (by rw [ho];intro h;cases h),ho]
theorem zd4 {n m:Nat}(h:n≤m):∀{l:List It}{T T':Tm}{H H':Heap},runI P (callFO P tb gl n) l T H=some (T',H')→runI P (callFO P tb gl m) l T H=some (T',H')
 |[],_,_,_,_,hr=>hr
 |.op d o::l,T,T',H,H',hr=>by
  simp only [runI] at hr ⊢;cases ho:oper P (callFO P tb gl n) o T H with
  |val v H1=>
   rw [ho] at hr;rw [zkj h ho];exact zd4 h hr
  |_=>rw [ho] at hr;cases hr
 |.gd t w d o::l,T,T',H,H',hr=>by
  simp only [runI] at hr ⊢;cases ht:T.get (bits t) with
  |none=>rw [ht] at hr;cases hr
  |some u=>
   rw [ht] at hr;cases u with
   |bool b=>
    simp only at hr ⊢;cases hb:b==w with
    |false=>rw [hb] at hr;exact zd4 h hr
    |true=>
     rw [hb] at hr;simp only [cond_true] at hr ⊢;cases ho:oper P (callFO P tb gl n) o T H with
     |val v H1=>
      rw [ho] at hr;rw [zkj h ho];exact zd4 h hr
     |_=>rw [ho] at hr;cases hr
   |_=>exact zd4 h hr
 |.ck t o::l,T,T',H,H',hr=>by
  simp only [runI] at hr ⊢;split at hr
  ·rename_i v H1 u hv hu;cases he:AV.eq u v with
   |false=>rw [he] at hr;cases hr
   |true=>
    rw [he] at hr;simp only [cond_true] at hr ⊢;exact zd4 h hr
  ·cases hr
 |.ckg g w t o::l,T,T',H,H',hr=>by
  simp only [runI] at hr ⊢;cases hT:T.get (bits g) with
  |none=>rw [hT] at hr;cases hr
  |some a=>
   rw [hT] at hr;cases a with
   |bool b=>
    simp only at hr ⊢;cases hb:b==w with
    |false=>rw [hb] at hr;exact zd4 h hr
    |true=>
     rw [hb] at hr;simp only [cond_true] at hr ⊢;split at hr
     ·rename_i v H1 u hv hu;cases he:AV.eq u v with
      |false=>rw [he] at hr;cases hr
      |true=>
       rw [he] at hr;simp only [cond_true] at hr ⊢;exact zd4 h hr
     ·cases hr
   |_=>exact zd4 h hr
theorem wpo {o:Op}{T:Tm}{H:Heap}{Q:AV→Heap→Prop}{v:AV}{H':Heap}(h:oper P botC o T H=.val v H') (k:Q v H'):WpO P tb gl o T H Q:=
 ⟨0,v,H',by rw [zlj (botC_le _) o T H (by rw [h];intro h;cases h),h],k⟩
theorem wpo_call {c:Call}{T:Tm}{H:Heap}{Q:AV→Heap→Prop}{xs:List AV}{f:Operand}{g:FuncId}{l:List AV}(he:evL c.args.toList T=some xs) (hc:c.callee=.value f) (hf:ev f T=some (.fn g l))
  (k:WpF P tb gl g (xs++l) H Q):WpO P tb gl (.call c) T H Q:=by
 obtain ⟨n,v,H',h1,h2⟩:=k;exact ⟨n,v,H',by show oCall P _ c T H=_;simp only [oCall,he,hc,hf,h1,ofCall],h2⟩
theorem wpi_nil {T:Tm}{H:Heap}{Q:Tm→Heap→Prop}(h:Q T H):WpI P tb gl [] T H Q:=⟨0,T,H,rfl,h⟩
theorem wpi_op {d:Option Tmp}{o:Op}{l:List It}{T:Tm}{H:Heap}{Q:Tm→Heap→Prop}(h:WpO P tb gl o T H fun v H'=>WpI P tb gl l (putI d v T) H' Q):WpI P tb gl (.op d o::l) T H Q:=by
 obtain ⟨n,v,H1,ho,m,T',H',hr,hq⟩:=h;refine ⟨max n m,T',H',?_,hq⟩;simp only [runI,zkj (Nat.le_max_left n m) ho];exact zd4 (Nat.le_max_right n m) hr
theorem zu2 {t:Tmp}{w:Bool}{d:Option Tmp}{o:Op}{l:List It}{T:Tm}{H:Heap}{Q:Tm→Heap→Prop}(ht:T.get (bits t)=some (.bool w)) (h:WpO P tb gl o T H fun v H'=>WpI P tb gl l (putI d v T) H' Q):WpI P tb gl (.gd t w d o::l) T H Q:=by
 obtain ⟨n,v,H1,ho,m,T',H',hr,hq⟩:=h;refine ⟨max n m,T',H',?_,hq⟩;simp only [runI,ht,beq_self_eq_true,cond_true,zkj (Nat.le_max_left n m) ho];exact zd4 (Nat.le_max_right n m) hr
theorem zzp {t:Tmp}{w:Bool}{d:Option Tmp}{o:Op}{l:List It}{T:Tm}{H:Heap}{Q:Tm→Heap→Prop}(ht:T.get (bits t)=some (.bool (!w))) (h:WpI P tb gl l (putI d undefA T) H Q):WpI P tb gl (.gd t w d o::l) T H Q:=by
 obtain ⟨m,T',H',hr,hq⟩:=h;refine ⟨m,T',H',?_,hq⟩;have:((!w)==w)=false:=by cases w<;>rfl
 simp only [runI,ht,this,cond_false];exact hr
theorem zzq {t:Tmp}{w:Bool}{d:Option Tmp}{o:Op}{l:List It}{T:Tm}{H:Heap}{Q:Tm→Heap→Prop}(ht:T.get (bits t)=some undefA) (h:WpI P tb gl l (putI d undefA T) H Q):WpI P tb gl (.gd t w d o::l) T H Q:=by
 obtain ⟨m,T',H',hr,hq⟩:=h;exact ⟨m,T',H',by simp only [runI,ht,undefA];exact hr,hq⟩
theorem wpi_gd {t:Tmp}{w b:Bool}{d:Option Tmp}{o:Op}{l:List It}{T:Tm}{H:Heap}{Q:Tm→Heap→Prop}(ht:T.get (bits t)=some (.bool b)) (h:b=w→WpO P tb gl o T H fun v H'=>WpI P tb gl l (putI d v T) H' Q)
  (k:b = !w→WpI P tb gl l (putI d undefA T) H Q):WpI P tb gl (.gd t w d o::l) T H Q:=by
 by_cases e:b=w
 ·subst e;exact zu2 ht (h rfl)
 ·have e:b = !w:=by cases b<;>cases w<;>simp at e ⊢
  subst e;exact zzp ht (k rfl)
theorem wpi_ck {t:Tmp}{o:Op}{l:List It}{T:Tm}{H H1:Heap}{Q:Tm→Heap→Prop}{u v:AV}(ho:oper P botC o T H=.val v H1) (ht:T.get (bits t)=some u) (he:AV.eq u v=true) (h:WpI P tb gl l T H Q):WpI P tb gl (.ck t o::l) T H Q:=by
 obtain ⟨m,T',H',hr,hq⟩:=h;refine ⟨m,T',H',?_,hq⟩;have ho:oper P (fun _ _ _=>.bad) o T H=.val v H1:=ho;simp only [runI,ho,ht,he,cond_true];exact hr
def bare:Code→Bool|.scope _=>false|.label _=>false|_=>true
theorem strip (c:Code):∀v,viewC P c=some v→∃c',viewC P c'=some v∧bare c'=true∧∀call ih,stepC P call ih c=stepC P call ih c':=by
 induction c with
 |scope b ih=>
  intro v h;obtain ⟨c',h1,h2,h3⟩:=ih v h;exact ⟨c',h1,h2,fun call i=>h3 call i⟩
 |label l=>intro v h;exact ⟨.skip,h,rfl,fun _ _=>rfl⟩
 |skip=>intro v h;exact ⟨_,h,rfl,fun _ _=>rfl⟩
 |region _ _ _=>intro v h;exact ⟨_,h,rfl,fun _ _=>rfl⟩
 |seq _ _ _ _=>intro v h;exact ⟨_,h,rfl,fun _ _=>rfl⟩
 |cond _ _ _ _ _=>intro v h;exact ⟨_,h,rfl,fun _ _=>rfl⟩
 |block _ _ _=>intro v h;exact ⟨_,h,rfl,fun _ _=>rfl⟩
 |loop _ _=>intro v h;exact ⟨_,h,rfl,fun _ _=>rfl⟩
 |exit _=>intro v h;exact ⟨_,h,rfl,fun _ _=>rfl⟩
 |ret=>intro v h;exact ⟨_,h,rfl,fun _ _=>rfl⟩
 |_=>intro v h;cases h
theorem zqn {c c':Code}(h:∀call ih,stepC P call ih c=stepC P call ih c'):∀n,execO P tb gl n c=execO P tb gl n c'
 |0=>rfl
 |_n+1=>h _ _
theorem WpV.of {v:CV}{T:Tm}{H:Heap}{Q:Ex→Tm→Heap→Prop}(h:∀c,viewC P c=some v→bare c=true→Wp P tb gl c ⟨T,H,[]⟩ fun e S=>S.D=[]∧Q e S.T S.H):WpV P tb gl v T H Q:=by
 intro c hc;obtain ⟨c',h1,h2,h3⟩:=strip c v hc;obtain ⟨n,e,S',h4,h5⟩:=h c' h1 h2;exact ⟨n,e,S',by rw [zqn h3];exact h4,h5⟩
theorem zcf (n:Nat) (c:Code) (S:St):execO P tb gl (n+1) c S=stepC P (callFO P tb gl (n+1)) (execO P tb gl n) c S:=rfl
theorem wp_succ {c:Code}{S:St}{Q:Ex→St→Prop}{n:Nat}{e:Ex}{S':St}(h:stepC P (callFO P tb gl (n+1)) (execO P tb gl n) c S=.ok e S') (hq:Q e S'):Wp P tb gl c S Q:=⟨n+1,e,S',h,hq⟩
theorem wpv_reg {l:List It}{T:Tm}{H:Heap}{Q:Ex→Tm→Heap→Prop}(h:WpI P tb gl l T H (Q .normal)):WpV P tb gl (.reg l) T H Q:=by
 refine .of fun c hc hb=>?_;obtain ⟨n,T',H',hr,hq⟩:=h;cases c with
 |region id ops dr=>
  simp only [viewC] at hc;split at hc
  ·rename_i r hv;injection hc with hc
   injection hc with hc
   subst hc;exact wp_succ (n:=n) (zy1 hv (zd4 (Nat.le_succ n) hr)) ⟨rfl,hq⟩
  ·cases hc
 |scope _=>cases hb
 |label _=>cases hb
 |seq _ _=>simp only [viewC] at hc;split at hc<;>simp at hc
 |cond _ _ _=>simp only [viewC] at hc;split at hc<;>simp at hc
 |block _ _=>simp only [viewC] at hc;split at hc<;>simp at hc
 |loop _=>simp only [viewC] at hc;split at hc<;>simp at hc
 |_=>simp [viewC] at hc
def seqQ (P:Program) (tb:List FuncId) (gl:List (List AV)) (b:CV) (Q:Ex→Tm→Heap→Prop):Ex→Tm→Heap→Prop
 |.normal,T,H=>WpV P tb gl b T H Q
 |e,T,H=>Q e T H
theorem wpv_seq {a b:CV}{T:Tm}{H:Heap}{Q:Ex→Tm→Heap→Prop}(h:WpV P tb gl a T H (seqQ P tb gl b Q)):WpV P tb gl (.seq a b) T H Q:=by
 refine .of fun c hc hb=>?_;cases c with
 |seq x y=>
  simp only [viewC] at hc;split at hc
  ·rename_i va vb hx hy;injection hc with hc
   injection hc with h1 h2
   subst h1 h2;obtain ⟨n,e,S1,e1,hD,hq⟩:=h x hx;obtain ⟨T1,H1,D1⟩:=S1;simp only at hD;subst hD;cases e with
   |normal=>
    obtain ⟨m,e',S',e2,hD',hq'⟩:=hq y hy;refine ⟨max n m+1,e',S',?_,hD',hq'⟩;rw [zcf];have k1:=zdf (Nat.le_trans (Nat.le_max_left n m) (Nat.le_succ _)) e1;have k2:=zdf (Nat.le_trans (Nat.le_max_right n m) (Nat.le_succ _)) e2;have k1:stepC P (callFO P tb gl (max n m+1)) (execO P tb gl (max n m)) x ⟨T,H,[]⟩=_:=k1;have k2:stepC P (callFO P tb gl (max n m+1)) (execO P tb gl (max n m)) y ⟨T1,H1,[]⟩=_:=k2;simp only [stepC,k1,seqK,k2]
   |exit i=>
    refine ⟨n+1,.exit i,⟨T1,H1,[]⟩,?_,rfl,hq⟩;have k1:stepC P (callFO P tb gl (n+1)) (execO P tb gl n) x ⟨T,H,[]⟩=_:=zdf (Nat.le_succ n) e1;rw [zcf];simp only [stepC,k1,seqK]
   |ret=>
    refine ⟨n+1,.ret,⟨T1,H1,[]⟩,?_,rfl,hq⟩;have k1:stepC P (callFO P tb gl (n+1)) (execO P tb gl n) x ⟨T,H,[]⟩=_:=zdf (Nat.le_succ n) e1;rw [zcf];simp only [stepC,k1,seqK]
   |panic v=>
    refine ⟨n+1,.panic v,⟨T1,H1,[]⟩,?_,rfl,hq⟩;have k1:stepC P (callFO P tb gl (n+1)) (execO P tb gl n) x ⟨T,H,[]⟩=_:=zdf (Nat.le_succ n) e1;rw [zcf];simp only [stepC,k1,seqK]
  ·cases hc
 |scope _=>cases hb
 |label _=>cases hb
 |region _ _ _=>simp only [viewC] at hc;split at hc<;>simp at hc
 |cond _ _ _=>simp only [viewC] at hc;split at hc<;>simp at hc
 |block _ _=>simp only [viewC] at hc;split at hc<;>simp at hc
 |loop _=>simp only [viewC] at hc;split at hc<;>simp at hc
 |_=>simp [viewC] at hc
theorem wpv_cond {x:Operand}{a b:CV}{T:Tm}{H:Heap}{Q:Ex→Tm→Heap→Prop}{c:Bool}(hx:ev x T=some (.bool c)) (h1:c=true→WpV P tb gl a T H Q) (h2:c=false→WpV P tb gl b T H Q):WpV P tb gl (.cond x a b) T H Q:=by
 refine .of fun k hk hb=>?_;cases k with
 |cond y ka kb=>
  simp only [viewC] at hk;split at hk
  ·rename_i va vb ha hb';injection hk with hk
   injection hk with e1 e2 e3
   subst e1 e2 e3;cases c with
   |true=>
    obtain ⟨n,e,S',h4,h5⟩:=h1 rfl ka ha;refine ⟨n+1,e,S',?_,h5⟩;have k1:stepC P (callFO P tb gl (n+1)) (execO P tb gl n) ka ⟨T,H,[]⟩=_:=zdf (Nat.le_succ n) h4;rw [zcf];simp only [stepC,condK,hx,k1]
   |false=>
    obtain ⟨n,e,S',h4,h5⟩:=h2 rfl kb hb';refine ⟨n+1,e,S',?_,h5⟩;have k1:stepC P (callFO P tb gl (n+1)) (execO P tb gl n) kb ⟨T,H,[]⟩=_:=zdf (Nat.le_succ n) h4;rw [zcf];simp only [stepC,condK,hx,k1]
  ·cases hk
 |scope _=>cases hb
 |label _=>cases hb
 |region _ _ _=>simp only [viewC] at hk;split at hk<;>simp at hk
 |seq _ _=>simp only [viewC] at hk;split at hk<;>simp at hk
 |block _ _=>simp only [viewC] at hk;split at hk<;>simp at hk
 |loop _=>simp only [viewC] at hk;split at hk<;>simp at hk
 |_=>simp [viewC] at hk
def exitQ (id:Nat) (Q:Ex→Tm→Heap→Prop):Ex→Tm→Heap→Prop
 |.exit i,T,H=>if i=id then Q .normal T H else Q (.exit i) T H
 |e,T,H=>Q e T H
theorem zzr {id:Nat}{b:CV}{T:Tm}{H:Heap}{Q:Ex→Tm→Heap→Prop}(h:WpV P tb gl b T H (exitQ id Q)):WpV P tb gl (.block id b) T H Q:=by
 refine .of fun k hk hb=>?_;cases k with
 |block i kb=>
  simp only [viewC] at hk;split at hk
  ·rename_i vb hb';injection hk with hk
   injection hk with e1 e2
   subst e1 e2;obtain ⟨n,e,S',h4,hD,h5⟩:=h kb hb';have k1:stepC P (callFO P tb gl (n+1)) (execO P tb gl n) kb ⟨T,H,[]⟩=_:=zdf (Nat.le_succ n) h4;cases e with
   |exit j=>
    by_cases hj:j=i
    ·subst hj;simp only [exitQ,if_true] at h5;refine ⟨n+1,.normal,S',?_,hD,h5⟩;rw [zcf];simp only [stepC,k1,blockK,Nat.beq_refl,cond_true]
    ·simp only [exitQ,if_neg hj] at h5;refine ⟨n+1,.exit j,S',?_,hD,h5⟩;rw [zcf];simp only [stepC,k1,blockK,zdw hj,cond_false]
   |normal=>
    refine ⟨n+1,.normal,S',?_,hD,h5⟩;rw [zcf];simp only [stepC,k1,blockK]
   |ret=>
    refine ⟨n+1,.ret,S',?_,hD,h5⟩;rw [zcf];simp only [stepC,k1,blockK]
   |panic v=>
    refine ⟨n+1,.panic v,S',?_,hD,h5⟩;rw [zcf];simp only [stepC,k1,blockK]
  ·cases hk
 |scope _=>cases hb
 |label _=>cases hb
 |region _ _ _=>simp only [viewC] at hk;split at hk<;>simp at hk
 |seq _ _=>simp only [viewC] at hk;split at hk<;>simp at hk
 |cond _ _ _=>simp only [viewC] at hk;split at hk<;>simp at hk
 |loop _=>simp only [viewC] at hk;split at hk<;>simp at hk
 |_=>simp [viewC] at hk
theorem wpv_loop {b:CV}{T:Tm}{H:Heap}{Q:Ex→Tm→Heap→Prop}(h:WpV P tb gl b T H (seqQ P tb gl (.loop b) Q)):WpV P tb gl (.loop b) T H Q:=by
 refine .of fun k hk hb=>?_;cases k with
 |loop kb=>
  have hk0:=hk;simp only [viewC] at hk;split at hk
  ·rename_i vb hb';injection hk with hk
   injection hk with e1
   subst e1;obtain ⟨n,e,S1,h4,hD,hq⟩:=h kb hb';obtain ⟨T1,H1,D1⟩:=S1;simp only at hD;subst hD;cases e with
   |normal=>
    obtain ⟨m,e',S',e2,hD',hq'⟩:=hq (.loop kb) hk0;refine ⟨max n m+1,e',S',?_,hD',hq'⟩;have k1:stepC P (callFO P tb gl (max n m+1)) (execO P tb gl (max n m)) kb ⟨T,H,[]⟩=_:=zdf (Nat.le_trans (Nat.le_max_left n m) (Nat.le_succ _)) h4;rw [zcf];simp only [stepC,k1,seqK];exact zdf (Nat.le_max_right n m) e2
   |exit i=>
    refine ⟨n+1,.exit i,⟨T1,H1,[]⟩,?_,rfl,hq⟩;have k1:stepC P (callFO P tb gl (n+1)) (execO P tb gl n) kb ⟨T,H,[]⟩=_:=zdf (Nat.le_succ n) h4;rw [zcf];simp only [stepC,k1,seqK]
   |ret=>
    refine ⟨n+1,.ret,⟨T1,H1,[]⟩,?_,rfl,hq⟩;have k1:stepC P (callFO P tb gl (n+1)) (execO P tb gl n) kb ⟨T,H,[]⟩=_:=zdf (Nat.le_succ n) h4;rw [zcf];simp only [stepC,k1,seqK]
   |panic v=>
    refine ⟨n+1,.panic v,⟨T1,H1,[]⟩,?_,rfl,hq⟩;have k1:stepC P (callFO P tb gl (n+1)) (execO P tb gl n) kb ⟨T,H,[]⟩=_:=zdf (Nat.le_succ n) h4;rw [zcf];simp only [stepC,k1,seqK]
  ·cases hk
 |scope _=>cases hb
 |label _=>cases hb
 |region _ _ _=>simp only [viewC] at hk;split at hk<;>simp at hk
 |seq _ _=>simp only [viewC] at hk;split at hk<;>simp at hk
 |cond _ _ _=>simp only [viewC] at hk;split at hk<;>simp at hk
 |block _ _=>simp only [viewC] at hk;split at hk<;>simp at hk
 |_=>simp [viewC] at hk
theorem zoq {v:CV}{e:Ex}{T:Tm}{H:Heap}{Q:Ex→Tm→Heap→Prop}(hv:∀c,viewC P c=some v→bare c=true→∀call ih S,stepC P call ih c S=.ok e S) (h:Q e T H):WpV P tb gl v T H Q:=
 .of fun c hc hb=>⟨1,e,⟨T,H,[]⟩,hv c hc hb _ _ _,rfl,h⟩
theorem wpv_skip {T:Tm}{H:Heap}{Q:Ex→Tm→Heap→Prop}(h:Q .normal T H):WpV P tb gl .skip T H Q:=by
 refine zoq (e:=.normal) (fun c hc hb call ih S=>?_) h;cases c with
 |skip=>rfl
 |scope _=>cases hb
 |label _=>cases hb
 |region _ _ _=>simp only [viewC] at hc;split at hc<;>simp at hc
 |seq _ _=>simp only [viewC] at hc;split at hc<;>simp at hc
 |cond _ _ _=>simp only [viewC] at hc;split at hc<;>simp at hc
 |block _ _=>simp only [viewC] at hc;split at hc<;>simp at hc
 |loop _=>simp only [viewC] at hc;split at hc<;>simp at hc
 |_=>simp [viewC] at hc
theorem wpv_ret {T:Tm}{H:Heap}{Q:Ex→Tm→Heap→Prop}(h:Q .ret T H):WpV P tb gl .ret T H Q:=by
 refine zoq (e:=.ret) (fun c hc hb call ih S=>?_) h;cases c with
 |ret=>rfl
 |scope _=>cases hb
 |label _=>cases hb
 |region _ _ _=>simp only [viewC] at hc;split at hc<;>simp at hc
 |seq _ _=>simp only [viewC] at hc;split at hc<;>simp at hc
 |cond _ _ _=>simp only [viewC] at hc;split at hc<;>simp at hc
 |block _ _=>simp only [viewC] at hc;split at hc<;>simp at hc
 |loop _=>simp only [viewC] at hc;split at hc<;>simp at hc
 |_=>simp [viewC] at hc
theorem wpv_exit {id:Nat}{T:Tm}{H:Heap}{Q:Ex→Tm→Heap→Prop}(h:Q (.exit id) T H):WpV P tb gl (.exit id) T H Q:=by
 refine zoq (e:=.exit id) (fun c hc hb call ih S=>?_) h;cases c with
 |exit i=>simp only [viewC,Option.some.injEq,CV.exit.injEq] at hc;subst hc;rfl
 |scope _=>cases hb
 |label _=>cases hb
 |region _ _ _=>simp only [viewC] at hc;split at hc<;>simp at hc
 |seq _ _=>simp only [viewC] at hc;split at hc<;>simp at hc
 |cond _ _ _=>simp only [viewC] at hc;split at hc<;>simp at hc
 |block _ _=>simp only [viewC] at hc;split at hc<;>simp at hc
 |loop _=>simp only [viewC] at hc;split at hc<;>simp at hc
 |_=>simp [viewC] at hc
theorem zp9 {α:Type}(I:α→Tm→Heap→Prop) (m:α→Nat) {b:CV}{Q:Ex→Tm→Heap→Prop}
  (step:∀a T H,I a T H→WpV P tb gl b T H fun e T' H'=>match e with|.normal=>∃a',m a'<m a∧I a' T' H'|e=>Q e T' H'):∀a T H,I a T H→WpV P tb gl (.loop b) T H Q:=by
 have key:∀n a,m a=n→∀T H,I a T H→WpV P tb gl (.loop b) T H Q:=by
  intro n
  induction n using Nat.strongRecOn with
  |ind n ih=>
   intro a ha T H hI;refine wpv_loop ((step a T H hI).mono fun e T' H' h=>?_);cases e with
   |normal=>
    obtain ⟨a',h1,h2⟩:=h;exact ih (m a') (by omega) a' rfl T' H' h2
   |_=>exact h
 intro a T H hI;exact key (m a) a rfl T H hI
def leftQ (P:Program) (rs:List ResultVar) (Q:AV→Heap→Prop):Ex→Tm→Heap→Prop
 |.normal,T,H=>∃l,resL P T H rs=some l∧Q (match l with|[v]=>v|l=>.tup l) H
 |.ret,T,H=>∃l,resL P T H rs=some l∧Q (match l with|[v]=>v|l=>.tup l) H
 |_,_,_=>False
theorem wpf {f:FuncId}{fn:Func}{c:Code}{v:CV}{xs:List AV}{H:Heap}{Q:AV→Heap→Prop}(hf:P.funcs[f]? = some fn) (hb:fn.body=some c) (hv:viewC P c=some v) (hk:memF f tb=false∨xs≠[])
  (h:WpV P tb gl v (layT .lf 0 xs) H (leftQ P fn.results.toList Q)):WpF P tb gl f xs H Q:=by
 obtain ⟨n,e,S',h1,hD,h2⟩:=h c hv;have hr:∃r,callB P (callFO P tb gl n) (execO P tb gl n) f xs H=.ret r S'.H∧Q r S'.H:=by
  simp only [callB,hf,hb,zez,h1];have hres:∀l,resL P S'.T S'.H fn.results.toList=some l→resA P fn S'.T S'.H=some (match l with|[v]=>v|l=>.tup l):=by
   intro l hl;simp only [resA,hl];cases l with
   |nil=>rfl
   |cons x l=>cases l<;>rfl
  cases e with
  |normal=>
   obtain ⟨l,hl,hq⟩:=h2;exact ⟨_,by simp only [leave,hD,hres l hl],hq⟩
  |ret=>
   obtain ⟨l,hl,hq⟩:=h2;exact ⟨_,by simp only [leave,hD,hres l hl],hq⟩
  |exit i=>exact h2.elim
  |panic v=>exact h2.elim
 obtain ⟨r,h3,h4⟩:=hr;refine ⟨n+1,r,S'.H,?_,h4⟩;show callO tb gl (callB P (callFO P tb gl n) (execO P tb gl n)) f xs H=_;cases xs with
 |cons x l=>exact h3
 |nil=>
  rcases hk with hk|hk
  ·simp only [callO,hk,cond_false];exact h3
  ·exact absurd rfl hk
theorem zzo {f:FuncId}{H:Heap}{Q:AV→Heap→Prop}(hm:memF f tb=true) (hl:laidIn gl 0 H=true) (h:Q (.bool true) H):WpF P tb gl f [] H Q:=
 ⟨1,.bool true,H,by show callO tb gl _ f [] H=_;simp only [callO,hm,hl,cond_true],h⟩
end
end Eng
end Go.Proofs.YtniflgldgnmiaaaGreatDoor
namespace Go.Proofs.YtniflgldgnmiaaaGreatDoor
namespace Eng
open Go
theorem zca {z:Int}(h : -9223372036854775808≤z) (h2:z<9223372036854775808):IntKind.i64.wrap z=z:=by
 simp only [IntKind.wrap,IntKind.bits,IntKind.signed];simp;omega
theorem zko {z:Int}(h:0≤z) (h2:z<18446744073709551616):IntKind.u64.wrap z=z:=by
 simp only [IntKind.wrap,IntKind.bits,IntKind.signed];simp;omega
theorem zrj {z:Int}(h:0≤z) (h2:z<256):IntKind.u8.wrap z=z:=by
 simp only [IntKind.wrap,IntKind.bits,IntKind.signed];simp;omega
theorem zas {z c:Int}(e:z=c) (h : -9223372036854775808≤c) (h2:c<9223372036854775808):IntKind.i64.wrap z=c:=by rw [e,zca h h2]
theorem zqa {z c:Int}(e:z=c) (h:0≤c) (h2:c<18446744073709551616):IntKind.u64.wrap z=c:=by rw [e,zko h h2]
theorem wrapE_u8 {z c:Int}(e:z=c) (h:0≤c) (h2:c<256):IntKind.u8.wrap z=c:=by rw [e,zrj h h2]
theorem zgz (z:Int):IntKind.u64.wrap z=z % 18446744073709551616:=by
 simp only [IntKind.wrap,IntKind.bits,IntKind.signed];simp
abbrev Fm:=List (Nat×AV)
def lk (t:Nat):Fm→Option AV
 |[]=>none
 |(s,v)::r=>bif Nat.beq s t then some v else lk t r
def st (t:Nat) (v:AV) (l:Fm):Fm:=(t,v)::l
def stI (d:Option Tmp) (v:AV) (l:Fm):Fm:=match d with|some t=>st t v l|none=>l
def FR (l:Fm) (T:Tm):Prop:=∀t v,lk t l=some v→T.get (bits t)=some v
theorem lk_st (s t:Nat) (v:AV) (l:Fm):lk s (st t v l)=if t=s then some v else lk s l:=by
 simp only [st,lk,beq_eq'];by_cases h:t=s<;>simp [h]
theorem FR.set {l:Fm}{T:Tm}(h:FR l T) (t:Nat) (v:AV):FR (st t v l) (T.set (bits t) (some v)):=by
 intro s u hs;rw [lk_st] at hs;rw [Tr.get_set_bits];by_cases e:t=s
 ·simpa [e] using hs
 ·rw [if_neg e] at hs ⊢;exact h s u hs
theorem FR.put {l:Fm}{T:Tm}(h:FR l T) (d:Option Tmp) (v:AV):FR (stI d v l) (putI d v T):=by
 cases d with
 |none=>exact h
 |some t=>exact h.set t v
def Sb (l0 l:Fm):Prop:=match l0 with
 |[]=>True
 |(t,v)::r=>lk t l=some v∧Sb r l
theorem Sb.lk {l:Fm}:∀{l0:Fm},Sb l0 l→∀t v,lk t l0=some v→Eng.lk t l=some v
 |[],_,t,v,h=>by cases h
 |(s,u)::r,hs,t,v,h=>by
  simp only [Eng.lk,beq_eq'] at h;by_cases e:s=t
  ·subst e;simp only [decide_true,cond_true,Option.some.injEq] at h;subst h;exact hs.1
  ·simp only [e,decide_false,cond_false] at h;exact hs.2.lk t v h
theorem FR.sub {l0 l:Fm}{T:Tm}(h:FR l T) (s:Sb l0 l):FR l0 T:=fun t v ht=>h t v (s.lk t v ht)
def S (bs:List UInt8):AV:=.str bs.length (packL bs)
mutual
def cA:Value→Option AV
 |.bool b=>some (.bool b)
 |.int k n=>some (.int k n)
 |.string ⟨⟨l⟩⟩=>some (S l)
 |.pointer none=>some .nilp
 |.slice none 0 0=>some .nils
 |.map none=>some .nilm
 |.nilFunc=>some .nilf
 |.nilIface=>some .nili
 |.agg ⟨l⟩=>match cAL l with|some l=>some (.agg l)|none=>none
 |.tuple ⟨l⟩=>match cAL l with|some l=>some (.tup l)|none=>none
 |_=>none
def cAL:List Value→Option (List AV)
 |[]=>some []
 |v::l=>match cA v,cAL l with|some v,some l=>some (v::l)|_,_=>none
end
mutual
theorem cA_ok:∀(v:Value) (u:AV),cA v=some u→aConst v=some u
 |.bool b,u,h=>by simpa [cA,aConst] using h
 |.int k n,u,h=>by simpa [cA,aConst,zdi] using h
 |.string ⟨⟨l⟩⟩,u,h=>by
  simp only [cA,Option.some.injEq] at h;simp only [aConst,zbj,Option.some.injEq];rw [←h];rfl
 |.pointer none,u,h=>by simpa [cA,aConst] using h
 |.pointer (some _),u,h=>by simp [cA] at h
 |.slice none 0 0,u,h=>by simpa [cA,aConst] using h
 |.slice (some _) _ _,u,h=>by simp [cA] at h
 |.slice none (_+1) _,u,h=>by simp [cA] at h
 |.slice none 0 (_+1),u,h=>by simp [cA] at h
 |.map none,u,h=>by simpa [cA,aConst] using h
 |.map (some _),u,h=>by simp [cA] at h
 |.nilFunc,u,h=>by simpa [cA,aConst] using h
 |.nilIface,u,h=>by simpa [cA,aConst] using h
 |.agg ⟨l⟩,u,h=>by
  simp only [cA] at h;split at h
  ·rename_i m hm;simp only [aConst,zvl l m hm];exact h
  ·cases h
 |.tuple ⟨l⟩,u,h=>by
  simp only [cA] at h;split at h
  ·rename_i m hm;simp only [aConst,zvl l m hm];exact h
  ·cases h
 |.float _ _,u,h=>by simp [cA] at h
 |.complex _ _ _,u,h=>by simp [cA] at h
 |.chan _,u,h=>by simp [cA] at h
 |.func _ _ _,u,h=>by simp [cA] at h
 |.iface _ _,u,h=>by simp [cA] at h
theorem zvl:∀(l:List Value) (m:List AV),cAL l=some m→aConstL l=some m
 |[],m,h=>by simpa [cAL,aConstL] using h
 |v::l,m,h=>by
  simp only [cAL] at h;split at h
  ·rename_i x r hx hr;simp only [aConstL,cA_ok v x hx,zvl l r hr];exact h
  ·cases h
end
def evA (x:Operand) (l:Fm):Option AV:=match x with
 |.tmp t=>lk t l
 |.const v=>cA v
 |.global g=>some (.ptr g 0)
 |.func f=>some (.fn f [])
def evLA:List Operand→Fm→Option (List AV)
 |[],_=>some []
 |x::r,l=>match evA x l,evLA r l with|some v,some m=>some (v::m)|_,_=>none
theorem zbd {l:Fm}{T:Tm}(h:FR l T) {x:Operand}{v:AV}(e:evA x l=some v):ev x T=some v:=by
 cases x with
 |tmp t=>exact h t v e
 |const c=>exact cA_ok c v e
 |_=>exact e
theorem zi9 {l:Fm}{T:Tm}(h:FR l T):∀{xs:List Operand}{vs:List AV},evLA xs l=some vs→evL xs T=some vs
 |[],_,e=>e
 |x::r,vs,e=>by
  simp only [evLA] at e;split at e
  ·rename_i v m hv hm;injection e with e
   subst e;simp only [evL,zbd h hv,zi9 h hm]
  ·cases e
def argsA (i:Nat):List AV→Fm
 |[]=>[]
 |v::r=>(i,v)::argsA (i+1) r
theorem zrp:∀(xs:List AV) (i t:Nat) (v:AV),lk t (argsA i xs)=some v→i≤t∧xs[t-i]? = some v
 |[],_,_,_,h=>by cases h
 |x::xs,i,t,v,h=>by
  simp only [argsA,lk,beq_eq'] at h;by_cases e:i=t
  ·subst e;simp only [decide_true,cond_true,Option.some.injEq] at h;subst h;simp
  ·simp only [e,decide_false,cond_false] at h;obtain ⟨h1,h2⟩:=zrp xs (i+1) t v h;refine ⟨by omega,?_⟩;rw [show t-i=(t-(i+1))+1 by omega,List.getElem?_cons_succ];exact h2
theorem zro (xs:List AV):FR (argsA 0 xs) (layT .lf 0 xs):=by
 intro t v h;obtain ⟨_,h2⟩:=zrp xs 0 t v h;rw [Nat.sub_zero] at h2;rw [zcu,if_pos ⟨Nat.zero_le _,by have:=(Qb.1 h2).1;omega⟩];exact h2
def resLA (l:Fm):List ResultVar→Option (List AV)
 |[]=>some []
 |.tmp t::r=>match lk t l,resLA l r with|some v,some m=>some (v::m)|_,_=>none
 |_=>none
section
variable {P:Program}{tb:List FuncId}{gl:List (List AV)}
theorem zod {l:Fm}{T:Tm}(h:FR l T) (H:Heap):∀{rs:List ResultVar}{vs:List AV},resLA l rs=some vs→resL P T H rs=some vs
 |[],_,e=>e
 |.tmp t::r,vs,e=>by
  simp only [resLA] at e;split at e
  ·rename_i v m hv hm;injection e with e
   subst e;simp only [resL,resV,h t v hv,zod h H hm]
  ·cases e
 |.cell _ _::r,vs,e=>by cases e
variable (P tb gl) in
structure OA (o:Op) (l:Fm) (H:Heap) (Q:AV→Heap→Prop):Prop where
 run:∀T,FR l T→WpO P tb gl o T H Q
variable (P tb gl) in
structure IA (its:List It) (l:Fm) (H:Heap) (Q:Fm→Heap→Prop):Prop where
 run:∀T,FR l T→WpI P tb gl its T H fun T' H'=>∃l',FR l' T'∧Q l' H'
variable (P tb gl) in
structure VA (v:CV) (l:Fm) (H:Heap) (Q:Ex→Fm→Heap→Prop):Prop where
 run:∀T,FR l T→WpV P tb gl v T H fun e T' H'=>∃l',FR l' T'∧Q e l' H'
theorem OA.mono {o:Op}{l:Fm}{H:Heap}{Q Q':AV→Heap→Prop}(h:OA P tb gl o l H Q) (k:∀v H',Q v H'→Q' v H'):OA P tb gl o l H Q':=⟨fun T hT=>(h.run T hT).mono k⟩
theorem VA.mono {v:CV}{l:Fm}{H:Heap}{Q Q':Ex→Fm→Heap→Prop}(h:VA P tb gl v l H Q) (k:∀e l' H',Q e l' H'→Q' e l' H'):VA P tb gl v l H Q':=
 ⟨fun T hT=>(h.run T hT).mono fun e _ H' ⟨l',h1,h2⟩=>⟨l',h1,k e l' H' h2⟩⟩
theorem IA.mono {v:List It}{l:Fm}{H:Heap}{Q Q':Fm→Heap→Prop}(h:IA P tb gl v l H Q) (k:∀l' H',Q l' H'→Q' l' H'):IA P tb gl v l H Q':=
 ⟨fun T hT=>(h.run T hT).mono fun _ H' ⟨l',h1,h2⟩=>⟨l',h1,k l' H' h2⟩⟩
theorem VA.sub {v:CV}{l0 l:Fm}{H:Heap}{Q:Ex→Fm→Heap→Prop}(s:Sb l0 l) (h:VA P tb gl v l0 H Q):VA P tb gl v l H Q:=⟨fun T hT=>h.run T (hT.sub s)⟩
theorem IA.sub {v:List It}{l0 l:Fm}{H:Heap}{Q:Fm→Heap→Prop}(s:Sb l0 l) (h:IA P tb gl v l0 H Q):IA P tb gl v l H Q:=⟨fun T hT=>h.run T (hT.sub s)⟩
theorem zab {l:Fm}{H:Heap}{Q:Fm→Heap→Prop}(h:Q l H):IA P tb gl [] l H Q:=⟨fun _ hT=>wpi_nil ⟨l,hT,h⟩⟩
theorem zaa {d:Option Tmp}{o:Op}{its:List It}{l:Fm}{H:Heap}{Q:Fm→Heap→Prop}(h:OA P tb gl o l H fun v H'=>IA P tb gl its (stI d v l) H' Q):IA P tb gl (.op d o::its) l H Q:=
 ⟨fun T hT=>wpi_op ((h.run T hT).mono fun v _ k=>k.run _ (hT.put d v))⟩
theorem ia_gd {t:Tmp}{w b:Bool}{d:Option Tmp}{o:Op}{its:List It}{l:Fm}{H:Heap}{Q:Fm→Heap→Prop}(ht:lk t l=some (.bool b)) (h:b=w→OA P tb gl o l H fun v H'=>IA P tb gl its (stI d v l) H' Q)
  (k:b = !w→IA P tb gl its (stI d undefA l) H Q):IA P tb gl (.gd t w d o::its) l H Q:=
 ⟨fun T hT=>wpi_gd (hT t _ ht) (fun e=>((h e).run T hT).mono fun v _ k=>k.run _ (hT.put d v)) (fun e=>(k e).run _ (hT.put d undefA))⟩
theorem zo4 {t:Tmp}{w:Bool}{d:Option Tmp}{o:Op}{its:List It}{l:Fm}{H:Heap}{Q:Fm→Heap→Prop}(ht:lk t l=some undefA) (k:IA P tb gl its (stI d undefA l) H Q):IA P tb gl (.gd t w d o::its) l H Q:=
 ⟨fun _ hT=>zzq (hT t _ ht) (k.run _ (hT.put d undefA))⟩
theorem ia_ck {t:Tmp}{o:Op}{its:List It}{l:Fm}{H:Heap}{Q:Fm→Heap→Prop}{u v:AV}(ho:∀T,FR l T→∃H1,oper P botC o T H=.val v H1) (ht:lk t l=some u) (he:AV.eq u v=true) (h:IA P tb gl its l H Q):IA P tb gl (.ck t o::its) l H Q:=
 ⟨fun T hT=>by
  obtain ⟨H1,ho⟩:=ho T hT;exact wpi_ck ho (hT t u ht) he (h.run T hT)⟩
theorem za1 {its:List It}{l:Fm}{H:Heap}{Q:Ex→Fm→Heap→Prop}(h:IA P tb gl its l H (Q .normal)):VA P tb gl (.reg its) l H Q:=⟨fun T hT=>wpv_reg (h.run T hT)⟩
def seqA (P:Program) (tb:List FuncId) (gl:List (List AV)) (b:CV) (Q:Ex→Fm→Heap→Prop):Ex→Fm→Heap→Prop
 |.normal,l,H=>VA P tb gl b l H Q
 |e,l,H=>Q e l H
theorem zaj {a b:CV}{l:Fm}{H:Heap}{Q:Ex→Fm→Heap→Prop}(h:VA P tb gl a l H (seqA P tb gl b Q)):VA P tb gl (.seq a b) l H Q:=⟨fun T hT=>
 wpv_seq ((h.run T hT).mono fun e T' H' ⟨l',h1,h2⟩=>by
  cases e with
  |normal=>exact h2.run T' h1
  |_=>exact ⟨l',h1,h2⟩)⟩
theorem zac {its:List It}{b:CV}{l:Fm}{H:Heap}{Q:Ex→Fm→Heap→Prop}(h:IA P tb gl its l H fun l' H'=>VA P tb gl b l' H' Q):VA P tb gl (.seq (.reg its) b) l H Q:=zaj (za1 h)
theorem zlz {x:Operand}{a b:CV}{l:Fm}{H:Heap}{Q:Ex→Fm→Heap→Prop}{c:Bool}(hx:evA x l=some (.bool c)) (h1:c=true→VA P tb gl a l H Q) (h2:c=false→VA P tb gl b l H Q):VA P tb gl (.cond x a b) l H Q:=
 ⟨fun T hT=>wpv_cond (zbd hT hx) (fun e=>(h1 e).run T hT) (fun e=>(h2 e).run T hT)⟩
def exitA (id:Nat) (Q:Ex→Fm→Heap→Prop):Ex→Fm→Heap→Prop
 |.exit i,l,H=>if i=id then Q .normal l H else Q (.exit i) l H
 |e,l,H=>Q e l H
theorem zau {id:Nat}{b:CV}{l:Fm}{H:Heap}{Q:Ex→Fm→Heap→Prop}(h:VA P tb gl b l H (exitA id Q)):VA P tb gl (.block id b) l H Q:=⟨fun T hT=>
 zzr ((h.run T hT).mono fun e T' H' ⟨l',h1,h2⟩=>by
  cases e with
  |exit i=>
   simp only [exitA,exitQ] at h2 ⊢;by_cases hi:i=id
   ·rw [if_pos hi] at h2 ⊢;exact ⟨l',h1,h2⟩
   ·rw [if_neg hi] at h2 ⊢;exact ⟨l',h1,h2⟩
  |_=>exact ⟨l',h1,h2⟩)⟩
theorem zam {l:Fm}{H:Heap}{Q:Ex→Fm→Heap→Prop}(h:Q .normal l H):VA P tb gl .skip l H Q:=⟨fun _ hT=>wpv_skip ⟨l,hT,h⟩⟩
theorem zao {l:Fm}{H:Heap}{Q:Ex→Fm→Heap→Prop}(h:Q .ret l H):VA P tb gl .ret l H Q:=⟨fun _ hT=>wpv_ret ⟨l,hT,h⟩⟩
theorem zbq {id:Nat}{l:Fm}{H:Heap}{Q:Ex→Fm→Heap→Prop}(h:Q (.exit id) l H):VA P tb gl (.exit id) l H Q:=⟨fun _ hT=>wpv_exit ⟨l,hT,h⟩⟩
def roundA {α:Type}(F:α→Fm) (I:α→Heap→Prop) (m:α→Nat) (a:α) (Q:Ex→Fm→Heap→Prop):Ex→Fm→Heap→Prop
 |.normal,l,H=>∃a',m a'<m a∧Sb (F a') l∧I a' H
 |e,l,H=>Q e l H
theorem zbv {α:Type}(F:α→Fm) (I:α→Heap→Prop) (m:α→Nat) {b:CV}{Q:Ex→Fm→Heap→Prop}(step:∀a H,I a H→VA P tb gl b (F a) H (roundA F I m a Q)):∀a l H,Sb (F a) l→I a H→VA P tb gl (.loop b) l H Q:=by
 intro a l H hS hI;refine ⟨fun T hT=>?_⟩;refine zp9 (fun (x:α) T H=>∃l,FR l T∧Sb (F x) l∧I x H) m (fun x T H ⟨l,h1,hs,h2⟩=>((step x H h2).run T (h1.sub hs)).mono fun e T' H' ⟨l',h3,h4⟩=>?_) a T H ⟨l,hT,hS,hI⟩;cases e with
 |normal=>
  obtain ⟨x',h5,h6,h7⟩:=h4;exact ⟨x',h5,l',h3,h6,h7⟩
 |_=>exact ⟨l',h3,h4⟩
def leftA (rs:List ResultVar) (Q:AV→Heap→Prop):Ex→Fm→Heap→Prop
 |.normal,l,H=>∃vs,resLA l rs=some vs∧Q (match vs with|[v]=>v|vs=>.tup vs) H
 |.ret,l,H=>∃vs,resLA l rs=some vs∧Q (match vs with|[v]=>v|vs=>.tup vs) H
 |_,_,_=>False
theorem fa {f:FuncId}{fn:Func}{c:Code}{v:CV}{rs:List ResultVar}{xs:List AV}{H:Heap}{Q:AV→Heap→Prop}(hf:P.funcs[f]? = some fn) (hb:fn.body=some c) (hv:viewC P c=some v) (hr:fn.results.toList=rs) (hk:memF f tb=false∨xs≠[])
  (h:VA P tb gl v (argsA 0 xs) H (leftA rs Q)):WpF P tb gl f xs H Q:=by
 subst hr;refine wpf hf hb hv hk ((h.run _ (zro xs)).mono fun e T' H' ⟨l',h1,h2⟩=>?_);cases e with
 |normal=>
  obtain ⟨vs,h3,h4⟩:=h2;exact ⟨vs,zod h1 H' h3,h4⟩
 |ret=>
  obtain ⟨vs,h3,h4⟩:=h2;exact ⟨vs,zod h1 H' h3,h4⟩
 |exit _=>exact h2.elim
 |panic _=>exact h2.elim
theorem zaf {c:Call}{l:Fm}{H:Heap}{Q:AV→Heap→Prop}{xs:List AV}{f:Operand}{g:FuncId}{cap:List AV}(hc:c.callee=.value f) (he:evLA c.args.toList l=some xs) (hf:evA f l=some (.fn g cap))
  (k:WpF P tb gl g (xs++cap) H Q):OA P tb gl (.call c) l H Q:=⟨fun _ hT=>wpo_call (zi9 hT he) hc (zbd hT hf) k⟩
theorem oa {o:Op}{l:Fm}{H:Heap}{Q:AV→Heap→Prop}{v:AV}{H':Heap}(h:∀T,FR l T→oper P botC o T H=.val v H') (k:Q v H'):OA P tb gl o l H Q:=⟨fun T hT=>wpo (h T hT) k⟩
theorem zal {x:Operand}{l:Fm}{H:Heap}{Q:AV→Heap→Prop}{v:AV}(hx:evA x l=some v) (k:Q v H):OA P tb gl (.move x) l H Q:=
 oa (fun T hT=>by simp only [oper,oMove,zbd hT hx,okV]) k
theorem zak {x:Operand}{l:Fm}{H:Heap}{Q:AV→Heap→Prop}{v:AV}(hx:evA x l=some v) (k:Q v H):OA P tb gl (.assign x) l H Q:=
 oa (fun T hT=>by simp only [oper,oMove,zbd hT hx,okV]) k
theorem oa_pick {c x y:Operand}{l:Fm}{H:Heap}{Q:AV→Heap→Prop}{b:Bool}{u v:AV}(hc:evA c l=some (.bool b)) (hx:evA x l=some u) (hy:evA y l=some v) (k:Q (if b then u else v) H):OA P tb gl (.pick c x y) l H Q:=
 oa (v:=if b then u else v) (fun T hT=>by cases b<;>simp [oper,oPick,zbd hT hc,zbd hT hx,zbd hT hy,okV]) k
section
variable {t r:TypeId}{x y:Operand}{l:Fm}{H:Heap}{Q:AV→Heap→Prop}{k:IntKind}{a b:Int}
theorem oa_add (hx:evA x l=some (.int k a)) (hy:evA y l=some (.int k b)) (q:Q (.int k (k.wrap (a+b))) H):OA P tb gl (.binOp .add t x y r) l H Q:=
 oa (fun T hT=>by simp [oper,oBin,zbd hT hx,zbd hT hy,intOp,zdi,zdg,zqo]) q
theorem oa_sub (hx:evA x l=some (.int k a)) (hy:evA y l=some (.int k b)) (q:Q (.int k (k.wrap (a-b))) H):OA P tb gl (.binOp .sub t x y r) l H Q:=
 oa (fun T hT=>by simp [oper,oBin,zbd hT hx,zbd hT hy,intOp,zdi,zdg,zqo,znn,Int.sub_eq_add_neg]) q
theorem zaz {c:Int}(hx:evA x l=some (.int k a)) (hy:evA y l=some (.int k b)) (hw:k.wrap (a+b)=c) (q:Q (.int k c) H):OA P tb gl (.binOp .add t x y r) l H Q:=oa_add hx hy (hw▸q)
theorem zc4 {c:Int}(hx:evA x l=some (.int k a)) (hy:evA y l=some (.int k b)) (hw:k.wrap (a-b)=c) (q:Q (.int k c) H):OA P tb gl (.binOp .sub t x y r) l H Q:=oa_sub hx hy (hw▸q)
theorem oa_mul (hx:evA x l=some (.int k a)) (hy:evA y l=some (.int k b)) (q:Q (.int k (k.wrap (a*b))) H):OA P tb gl (.binOp .mul t x y r) l H Q:=
 oa (fun T hT=>by simp only [oper,oBin,zbd hT hx,zbd hT hy,intOp,zdi,zdg,decide_true,cond_true];rfl) q
theorem oa_quo (hx:evA x l=some (.int k a)) (hy:evA y l=some (.int k b)) (h0:b≠0) (q:Q (.int k (k.wrap (Int.tdiv a b))) H):OA P tb gl (.binOp .quo t x y r) l H Q:=
 oa (fun T hT=>by
  have:ieq b (.ofNat 0)=false:=by rw [zfd];simpa using h0
  simp only [oper,oBin,zbd hT hx,zbd hT hy,intOp,zdi,zdg,decide_true,cond_true,this,cond_false]) q
theorem oa_rem (hx:evA x l=some (.int k a)) (hy:evA y l=some (.int k b)) (h0:b≠0) (q:Q (.int k (Int.tmod a b)) H):OA P tb gl (.binOp .rem t x y r) l H Q:=
 oa (fun T hT=>by
  have:ieq b (.ofNat 0)=false:=by rw [zfd];simpa using h0
  simp only [oper,oBin,zbd hT hx,zbd hT hy,intOp,zdi,decide_true,cond_true,this,cond_false]) q
theorem oa_eql (hx:evA x l=some (.int k a)) (hy:evA y l=some (.int k b)) (q:Q (.bool (decide (a=b))) H):OA P tb gl (.binOp .eql t x y r) l H Q:=
 oa (fun T hT=>by
  have:ieq a b=decide (a=b):=by rw [zfd];by_cases h:a=b<;>simp [h]
  simp only [oper,oBin,zbd hT hx,zbd hT hy,intOp,zdr,decide_true,cond_true,this]) q
theorem oa_neq (hx:evA x l=some (.int k a)) (hy:evA y l=some (.int k b)) (q:Q (.bool (decide (a≠b))) H):OA P tb gl (.binOp .neq t x y r) l H Q:=
 oa (fun T hT=>by
  have:(!ieq a b)=decide (a≠b):=by rw [zfd];by_cases h:a=b<;>simp [h]
  simp only [oper,oBin,zbd hT hx,zbd hT hy,intOp,zdr,decide_true,cond_true,this]) q
theorem zxg (hx:evA x l=some (.int k a)) (hy:evA y l=some (.int k b)) (q:Q (.bool (decide (a<b))) H):OA P tb gl (.binOp .lss t x y r) l H Q:=
 oa (fun T hT=>by simp only [oper,oBin,zbd hT hx,zbd hT hy,intOp,zdr,decide_true,cond_true,zo5]) q
theorem oa_leq (hx:evA x l=some (.int k a)) (hy:evA y l=some (.int k b)) (q:Q (.bool (decide (a≤b))) H):OA P tb gl (.binOp .leq t x y r) l H Q:=
 oa (fun T hT=>by simp only [oper,oBin,zbd hT hx,zbd hT hy,intOp,zdr,decide_true,cond_true,zwj]) q
theorem oa_gtr (hx:evA x l=some (.int k a)) (hy:evA y l=some (.int k b)) (q:Q (.bool (decide (b<a))) H):OA P tb gl (.binOp .gtr t x y r) l H Q:=
 oa (fun T hT=>by simp only [oper,oBin,zbd hT hx,zbd hT hy,intOp,zdr,decide_true,cond_true,zo5]) q
theorem oa_geq (hx:evA x l=some (.int k a)) (hy:evA y l=some (.int k b)) (q:Q (.bool (decide (b≤a))) H):OA P tb gl (.binOp .geq t x y r) l H Q:=
 oa (fun T hT=>by simp only [oper,oBin,zbd hT hx,zbd hT hy,intOp,zdr,decide_true,cond_true,zwj]) q
theorem oa_bneq {c d:Bool}(hu:P.underlying t=some .bool) (hx:evA x l=some (.bool c)) (hy:evA y l=some (.bool d)) (q:Q (.bool (c != d)) H):OA P tb gl (.binOp .neq t x y r) l H Q:=
 oa (fun T hT=>by simp only [oper,oBin,zbd hT hx,zbd hT hy,hu,eqOp,zdr];rfl) q
theorem zfh {c:Bool}(hx:evA x l=some (.bool c)) (q:Q (.bool (!c)) H):OA P tb gl (.unOp .not t x) l H Q:=
 oa (fun T hT=>by simp only [oper,oUn,zbd hT hx,zdr]) q
theorem oa_neg (hx:evA x l=some (.int k a)) (q:Q (.int k (k.wrap (-a))) H):OA P tb gl (.unOp .neg t x) l H Q:=
 oa (fun T hT=>by simp only [oper,oUn,zbd hT hx,zdi,zdg,znn]) q
theorem zxa {s d:TypeId}{j k:IntKind}(hs:P.underlying s=some (.int j)) (hd:P.underlying d=some (.int k)) {k0:IntKind}(hx:evA x l=some (.int k0 a)) (q:Q (.int k (k.wrap a)) H):OA P tb gl (.convert s d x) l H Q:=
 oa (fun T hT=>by simp only [oper,oConvert,hs,hd,zbd hT hx,zdi,zdg]) q
theorem zkf {s d:TypeId}{j k:IntKind}{c:Int}(hs:P.underlying s=some (.int j)) (hd:P.underlying d=some (.int k)) {k0:IntKind}(hx:evA x l=some (.int k0 a)) (hw:k.wrap a=c) (q:Q (.int k c) H):OA P tb gl (.convert s d x) l H Q:=zxa hs hd hx (hw▸q)
theorem zhx {c:Int}(hx:evA x l=some (.int k a)) (hy:evA y l=some (.int k b)) (h0:b≠0) (hw:k.wrap (Int.tdiv a b)=c) (q:Q (.int k c) H):OA P tb gl (.binOp .quo t x y r) l H Q:=oa_quo hx hy h0 (hw▸q)
theorem zxi {c:Int}(hx:evA x l=some (.int k a)) (hy:evA y l=some (.int k b)) (h0:b≠0) (hw:Int.tmod a b=c) (q:Q (.int k c) H):OA P tb gl (.binOp .rem t x y r) l H Q:=oa_rem hx hy h0 (hw▸q)
theorem zuh {i:Nat}{vs:List AV}{v:AV}(hx:evA x l=some (.tup vs)) (hi:vs[i]? = some v) (q:Q v H):OA P tb gl (.extract x i) l H Q:=
 oa (fun T hT=>by simp only [oper,oExtract,zbd hT hx,hi,okV]) q
theorem zar {b i:Nat}(hx:evA x l=some (.ptr b i)) (q:Q (.ptr b i) H):OA P tb gl (.nilCheck x) l H Q:=
 oa (fun T hT=>by simp only [oper,oNilCheck,zbd hT hx]) q
theorem zae {s:TypeId}{f b i:Nat}{p:Plc}(hp:fieldPlc P s f=some p) (hz:p.sz≠0) (hx:evA x l=some (.ptr b i)) (q:Q (.ptr b (i+p.off)) H):OA P tb gl (.fieldAddr s x f) l H Q:=
 oa (fun T hT=>by
  have:Nat.beq p.sz 0=false:=zdw hz;simp only [oper,oFieldAddr,zbd hT hx,hp,this,cond_false,zbj];rfl) q
theorem oa_build {fs:Array Field}{z:AV}{ps:Array (Nat×Operand)}{vs:List AV}(hu:P.underlying t=some (.struct fs)) (hz:zeroOf P t=some z) (hs:(fs.toList.all fun f=>(szOf P f.type).isSome)=true)
  (hf:∀T,FR l T→fillL z.cells (structPlc P t) T ps.toList=some vs) (q:Q (.agg vs) H):OA P tb gl (.build t ps) l H Q:=
 oa (fun T hT=>by simp only [oper,oBuild,hu,hz,hs,cond_true,hf T hT]) q
end
end
end Eng
end Go.Proofs.YtniflgldgnmiaaaGreatDoor
namespace Go.Proofs.YtniflgldgnmiaaaGreatDoor
namespace Eng
open Go
def RowT (t:Tr AV) (cs:List AV):Prop:=∀i,i<cs.length→t.get (bits i)=cs[i]?
def IsRow (H:Heap) (b:Nat) (cs:List AV) (tl ro:Bool):Prop:=b<H.nx∧∃t,getB H b=some (.cells t cs.length tl ro)∧RowT t cs
structure Keep (S:Nat→Prop) (H H':Heap):Prop where
 nx:H.nx≤H'.nx
 old:∀c B,c<H.nx→getB H c=some B→(¬S c∨¬wr B)→getB H' c=some B
abbrev Non:Nat→Prop:=fun _=>False
theorem Keep.refl (S:Nat→Prop) (H:Heap):Keep S H H:=⟨Jz _,fun _ _ _ h _=>h⟩
theorem Keep.trans {S S1:Nat→Prop}{H H1 H2:Heap}(h:Keep S H H1) (k:Keep S1 H1 H2) (s:∀c,S1 c→S c∨H.nx≤c):Keep S H H2:=
 ⟨Nat.le_trans h.nx k.nx,fun c B hc hB hs=>k.old c B (Nat.lt_of_lt_of_le hc h.nx) (h.old c B hc hB hs) (by
  rcases hs with hs|hs
  ·exact .inl fun h1=>by
    rcases s c h1 with h2|h2
    ·exact hs h2
    ·omega
  ·exact .inr hs)⟩
theorem Keep.wide {S S1:Nat→Prop}{H H':Heap}(h:Keep S H H') (s:∀c,S c→S1 c):Keep S1 H H':=
 ⟨h.nx,fun c B hc hB hs=>h.old c B hc hB (hs.imp (fun k h1=>k (s c h1)) id)⟩
theorem Keep.trans0 {H H1 H2:Heap}(h:Keep Non H H1) (k:Keep Non H1 H2):Keep Non H H2:=h.trans k fun _ h=>h.elim
theorem IsRow.keep {S:Nat→Prop}{H H':Heap}{b:Nat}{cs:List AV}{tl ro:Bool}(h:IsRow H b cs tl ro) (k:Keep S H H') (hs:¬S b∨ro=true):IsRow H' b cs tl ro:=by
 obtain ⟨h1,t,h2,h3⟩:=h;refine ⟨Nat.lt_of_lt_of_le h1 k.nx,t,k.old b _ h1 h2 (hs.imp id fun e=>?_),h3⟩;subst e;simp [wr]
theorem IsRow.keep0 {H H':Heap}{b:Nat}{cs:List AV}{tl ro:Bool}(h:IsRow H b cs tl ro) (k:Keep Non H H'):IsRow H' b cs tl ro:=h.keep k (.inl id)
theorem RowT.lay (cs:List AV):RowT (layT .lf 0 cs) cs:=by
 intro i hi;rw [zcu,if_pos ⟨Nat.zero_le _,by omega⟩,Nat.sub_zero]
theorem zfe (H:Heap) (B:Blk):Keep Non H ⟨H.bl.set (bits H.nx) (some B),H.nx+1⟩:=
 ⟨Nat.le_succ _,fun c C hc hC _=>by rw [zei,if_neg (by omega)];exact hC⟩
theorem keep_put (H:Heap) (b:Nat) (B:Blk):Keep (· = b) H ⟨H.bl.set (bits b) (some B),H.nx⟩∨∃C,getB H b=some C∧¬wr C:=by
 by_cases h:∃C,getB H b=some C∧¬wr C
 ·exact .inr h
 ·refine .inl ⟨Jz _,fun c C hc hC hs=>?_⟩;rw [zei];by_cases e:b=c
  ·subst e;rcases hs with hs|hs
   ·exact absurd rfl hs
   ·exact absurd ⟨C,hC,hs⟩ h
  ·rw [if_neg e];exact hC
theorem keep_put' {H:Heap}{b:Nat}{C:Blk}(hC:getB H b=some C) (hw:wr C) (B:Blk):Keep (· = b) H ⟨H.bl.set (bits b) (some B),H.nx⟩:=by
 rcases keep_put H b B with h|⟨D,hD,hn⟩
 ·exact h
 ·rw [hC] at hD;injection hD with hD
  subst hD;exact absurd hw hn
theorem zg5 (H:Heap) (t:Tr AV) (cs:List AV) (tl ro:Bool) (h:RowT t cs):IsRow ⟨H.bl.set (bits H.nx) (some (.cells t cs.length tl ro)),H.nx+1⟩ H.nx cs tl ro:=
 ⟨Nat.lt_succ_self _,t,by rw [zei,if_pos rfl],h⟩
theorem zwd (bl:Tr Blk) (b c:Nat) (B:Option Blk) (n:Nat):getB ⟨bl.set (bits b) B,n⟩ c=if b=c then B else getB ⟨bl,n⟩ c:=by
 simp [getB,Tr.get_set_bits]
theorem zd9 {t:Tr AV}:∀(n i:Nat) (l:List AV),l.length=n→(∀j,j<n→t.get (bits (i+j))=l[j]?)→takeC t i n=some l
 |0,i,l,hl,_=>by
  obtain rfl:=List.length_eq_zero_iff.1 hl;rfl
 |n+1,i,[],hl,_=>by cases hl
 |n+1,i,v::l,hl,h=>by
  have h0:=h 0 (by omega);rw [Nat.add_zero] at h0;have hr:=zd9 (t:=t) n (i+1) l (by simpa using hl) fun j hj=>by
   have:=h (j+1) (by omega);rw [show i+(j+1)=i+1+j by omega] at this;simpa using this
  simp only [takeC,h0,List.getElem?_cons_zero];rw [show Nat.succ i=i+1 from rfl,hr]
theorem zik {β:Type}{bad:β}{k:Tr AV→β}:∀(vs:List AV) (t:Tr AV) (i:Nat),(∀j,i≤j→j<i+vs.length→(t.get (bits j)).isSome)→scalL vs=true→putC t i vs bad k=k (layT t i vs)
 |[],_,_,_,_=>rfl
 |v::l,t,i,h,hs=>by
  have h0:=h i (Jz _) (by simp);obtain ⟨u,hu⟩:=Option.isSome_iff_exists.1 h0;simp only [scalL] at hs;cases hv:scal v with
  |false=>rw [hv] at hs;cases hs
  |true=>
   rw [hv] at hs;simp only [putC,hu,hv,Tr.setK_eq,layT];refine zik l _ (i+1) (fun j h1 h2=>?_) hs;rw [Tr.get_set_bits,if_neg (by omega)];exact h j (by omega) (by simp;omega)
def PtsTo (H:Heap) (p:AV) (cs:List AV):Prop:=∃b i row tl ro,p=.ptr b i∧IsRow H b row tl ro∧∀j,j<cs.length→row[i+j]? = cs[j]?
def IsSl (H:Heap) (v:AV) (es n:Nat) (cs:List AV):Prop:=cs.length=n*es∧((v=.nils∧n=0)∨(((∃b o was,v=.se b o was es)∨∃a,v=.sz a)∧n=0)∨
 ∃b o row tl ro,((v=.so b o n es∧o+n*es≤row.length)∨∃c,v=.sl b o n c∧n≤c)∧IsRow H b row tl ro∧∀j,j<cs.length→row[o+j]? = cs[j]?)
def Own (H:Heap) (v:AV) (es n:Nat) (cs:List AV):Prop:=cs.length=n*es∧n<limit∧((v=.nils∧n=0)∨∃b row,v=.so b 0 n es∧IsRow H b row true false∧n*es≤row.length∧∀j,j<cs.length→row[j]? = cs[j]?)
def ownB (v:AV) (c:Nat):Prop:=match v with|.so b _ _ _=>c=b|_=>False
theorem PtsTo.keep {S:Nat→Prop}{H H':Heap}{p:AV}{cs:List AV}(h:PtsTo H p cs) (k:Keep S H H') (hs:∀c,¬S c):PtsTo H' p cs:=by
 obtain ⟨b,i,row,tl,ro,h1,h2,h3⟩:=h;exact ⟨b,i,row,tl,ro,h1,h2.keep k (.inl (hs b)),h3⟩
theorem IsSl.keep0 {H H':Heap}{v:AV}{es n:Nat}{cs:List AV}(h:IsSl H v es n cs) (k:Keep Non H H'):IsSl H' v es n cs:=by
 obtain ⟨h0,h⟩:=h;refine ⟨h0,h.imp id (Or.imp id ?_)⟩;rintro ⟨b,o,row,tl,ro,h1,h2,h3⟩;exact ⟨b,o,row,tl,ro,h1,h2.keep0 k,h3⟩
def IsSlR (H:Heap) (v:AV) (es n:Nat) (cs:List AV):Prop:=cs.length=n*es∧(((v=.nils∨∃a,v=.sz a)∧n=0)∨
 ∃b o row tl,(∃c,v=.sl b o n c∧n≤c)∧IsRow H b row tl true∧∀j,j<cs.length→row[o+j]? = cs[j]?)
theorem IsSlR.keep {S:Nat→Prop}{H H':Heap}{v:AV}{es n:Nat}{cs:List AV}(h:IsSlR H v es n cs) (k:Keep S H H'):IsSlR H' v es n cs:=by
 obtain ⟨h0,h⟩:=h;refine ⟨h0,h.imp id ?_⟩;rintro ⟨b,o,row,tl,h1,h2,h3⟩;exact ⟨b,o,row,tl,h1,h2.keep k (.inr rfl),h3⟩
theorem IsSlR.sl {H:Heap}{v:AV}{es n:Nat}{cs:List AV}(h:IsSlR H v es n cs):IsSl H v es n cs:=by
 obtain ⟨h0,⟨h|⟨a,h⟩,hn⟩|⟨b,o,row,tl,h1,h2,h3⟩⟩:=h
 ·exact ⟨h0,.inl ⟨h,hn⟩⟩
 ·exact ⟨h0,.inr (.inl ⟨.inr ⟨a,h⟩,hn⟩)⟩
 ·exact ⟨h0,.inr (.inr ⟨b,o,row,tl,true,.inr h1,h2,h3⟩)⟩
theorem Own.sl {H:Heap}{v:AV}{es n:Nat}{cs:List AV}(h:Own H v es n cs):IsSl H v es n cs:=by
 obtain ⟨h0,_,h⟩:=h;refine ⟨h0,h.imp id fun h=>.inr ?_⟩;obtain ⟨b,row,h1,h2,h3⟩:=h;exact ⟨b,0,row,true,false,.inl ⟨h1,by rw [Nat.zero_add];exact h3.1⟩,h2,fun j hj=>by rw [Nat.zero_add];exact h3.2 j hj⟩
theorem Own.keep {S:Nat→Prop}{H H':Heap}{v:AV}{es n:Nat}{cs:List AV}(h:Own H v es n cs) (k:Keep S H H') (hs:∀c,ownB v c→¬S c):Own H' v es n cs:=by
 obtain ⟨h0,h1,h⟩:=h;refine ⟨h0,h1,h.imp id ?_⟩;rintro ⟨b,row,h1,h2,h3⟩;exact ⟨b,row,h1,h2.keep k (.inl (hs b (by rw [h1];rfl))),h3⟩
theorem Own.keep0 {H H':Heap}{v:AV}{es n:Nat}{cs:List AV}(h:Own H v es n cs) (k:Keep Non H H'):Own H' v es n cs:=h.keep k fun _ _=>id
theorem Own.lt {H:Heap}{v:AV}{es n:Nat}{cs:List AV}(h:Own H v es n cs) {c:Nat}(hc:ownB v c):c<H.nx:=by
 obtain ⟨_,_,⟨rfl,_⟩|⟨b,row,rfl,h2,_⟩⟩:=h
 ·exact hc.elim
 ·have:c=b:=hc;subst this;exact h2.1
theorem Own.nil (H:Heap) (es:Nat):Own H .nils es 0 []:=⟨by simp,by decide,.inl ⟨rfl,rfl⟩⟩
theorem IsSl.nil (H:Heap) (es:Nat):IsSl H .nils es 0 []:=⟨by simp,.inl ⟨rfl,rfl⟩⟩
theorem IsRow.sl {H:Heap}{b:Nat}{cs:List AV}{tl ro:Bool}(h:IsRow H b cs tl ro) {es n c:Nat}(hl:cs.length=n*es) (hc:n≤c):IsSl H (.sl b 0 n c) es n cs:=
 ⟨hl,.inr (.inr ⟨b,0,cs,tl,ro,.inr ⟨c,rfl,hc⟩,h,fun j _=>by rw [Nat.zero_add]⟩)⟩
theorem IsSl.elems {H:Heap}{v:AV}{es n:Nat}{cs:List AV}(h:IsSl H v es n cs):elemsOf H v es=some (n,cs):=by
 obtain ⟨h0,⟨rfl,rfl⟩|⟨⟨b,o,was,rfl⟩|⟨a,rfl⟩,rfl⟩|⟨b,o,row,tl,ro,h1,⟨_,t,hB,hT⟩,h3⟩⟩:=h
 ·simp only [Nat.zero_mul] at h0;rw [List.length_eq_zero_iff.1 h0];rfl
 ·simp only [Nat.zero_mul] at h0;rw [List.length_eq_zero_iff.1 h0];rfl
 ·simp only [Nat.zero_mul] at h0;rw [List.length_eq_zero_iff.1 h0];rfl
 ·have ht:takeC t o (n*es)=some cs:=by
   refine zd9 _ _ _ h0 fun j hj=>?_;have hr:=h3 j (by omega);have hlt:o+j<row.length:=by
    by_cases hlt:o+j<row.length
    ·exact hlt
    ·rw [List.getElem?_eq_none (by omega),Qa (by omega)] at hr;cases hr
   rw [hT _ hlt,hr]
  rcases h1 with ⟨rfl,_⟩|⟨c,rfl,_⟩
  ·have ht':takeC t o (Nat.mul n es)=some cs:=ht;simp only [elemsOf,Nat.beq_refl,cond_true,hB,ht']
  ·have ht':takeC t o (Nat.mul n es)=some cs:=ht;simp only [elemsOf,hB,ht']
theorem zs0:∀bs:List UInt8,packL bs<256 ^ bs.length
 |[]=>by simp [packL]
 |b::l=>by
  have h1:=zs0 l;have h2:b.toNat<256:=b.toNat_lt;show b.toNat+256*packL l<256 ^ (l.length+1);rw [Nat.pow_succ];omega
theorem zjx:∀a b:List UInt8,packL (a++b)=packL a+packL b*256 ^ a.length
 |[],b=>by simp [packL]
 |x::a,b=>by
  show x.toNat+256*packL (a++b)=x.toNat+256*packL a+packL b*256 ^ (a.length+1);have:256*(packL b*256 ^ a.length)=packL b*(256 ^ a.length*256):=by rw [Nat.mul_comm 256,Nat.mul_assoc]
  rw [zjx a b,Nat.pow_succ,Nat.mul_add,this];omega
theorem S_inj {a b:List UInt8}(h:strEq a.length (packL a) b.length (packL b)=true):a=b:=by
 rw [zf4] at h;have h:=eq_of_beq h;simp only [unpack,zp3,ze5] at h;exact h
theorem zys (a b:List UInt8):strEq a.length (packL a) b.length (packL b)=decide (a=b):=by
 by_cases e:a=b
 ·subst e;rw [zf4];simp
 ·cases h:strEq a.length (packL a) b.length (packL b) with
  |false=>simp [e]
  |true=>exact absurd (S_inj h) e
def u8 (b:UInt8):AV:=.int .u8 (b.toNat:Int)
theorem zg9:∀bs:List UInt8,strCells bs.length (packL bs)=bs.map u8
 |[]=>rfl
 |b::l=>by
  have h2:b.toNat<256:=b.toNat_lt;have h1:(b.toNat+256*packL l) % 256=b.toNat:=by omega
  have h3:(b.toNat+256*packL l) / 256=packL l:=by omega
  show strCells (l.length+1) (b.toNat+256*packL l)=u8 b::l.map u8;simp only [strCells,zbj];rw [show Nat.mod (b.toNat+256*packL l) 256=b.toNat from h1,show Nat.div (b.toNat+256*packL l) 256=packL l from h3,zg9 l];rfl
theorem zsy:∀bs:List UInt8,packA (bs.map u8)=some (packL bs)
 |[]=>rfl
 |b::l=>by
  have h2:Nat.blt b.toNat 256=true:=by rw [zbx];simpa using b.toNat_lt
  show (match packA (l.map u8) with|some x=>bif Nat.blt b.toNat 256 then some (Nat.add b.toNat (Nat.mul 256 x)) else none|none=>none)=_;rw [zsy l,h2];rfl
theorem zdq {l:List AV}(h:∀v∈l,scal v=true):scalL l=true:=by
 induction l with
 |nil=>rfl
 |cons v l ih=>
  simp only [scalL,h v (by simp),cond_true];exact ih fun u hu=>h u (by simp [hu])
theorem zoe (bs:List UInt8):scalL (bs.map u8)=true:=zdq fun v hv=>by
 obtain ⟨b,_,rfl⟩:=List.mem_map.1 hv;rfl
section
variable {P:Program}{tb:List FuncId}{gl:List (List AV)}{t e:TypeId}{x y i:Operand}{l:Fm}{H:Heap}{Q:AV→Heap→Prop}{v w:AV}{cs:List AV}{tl ro:Bool}{b n m es:Nat}
theorem zgm {r:TypeId}{p q:List UInt8}(hx:evA x l=some (S p)) (hy:evA y l=some (S q)) (hn:p.length+q.length<pow63) (k:Q (S (p++q)) H):OA P tb gl (.binOp .add t x y r) l H Q:=
 oa (fun T hT=>by
  have h1:Nat.blt (Nat.add p.length q.length) pow63=true:=by rw [zbx];simpa using hn
  have h2:packL p % 256 ^ p.length=packL p:=Nat.mod_eq_of_lt (zs0 p);have hx':ev x T=some (.str p.length (packL p)):=zbd hT hx;have hy':ev y T=some (.str q.length (packL q)):=zbd hT hy;simp only [oper,oBin,hx',hy',strOp,h1,cond_true,zbj];rw [show Nat.mod (packL p) (Nat.pow 256 p.length)=packL p from h2];show OR.val (.str (p.length+q.length) (packL p+packL q*256 ^ p.length)) H=_;rw [←zjx,←J1];rfl) k
theorem oa_seql {r:TypeId}{p q:List UInt8}(hx:evA x l=some (S p)) (hy:evA y l=some (S q)) (k:Q (.bool (decide (p=q))) H):OA P tb gl (.binOp .eql t x y r) l H Q:=
 oa (fun T hT=>by
  have hx':ev x T=some (.str p.length (packL p)):=zbd hT hx;have hy':ev y T=some (.str q.length (packL q)):=zbd hT hy;simp only [oper,oBin,hx',hy',strOp,zdr,zys]) k
theorem oa_sneq {r:TypeId}{p q:List UInt8}(hx:evA x l=some (S p)) (hy:evA y l=some (S q)) (k:Q (.bool (!decide (p=q))) H):OA P tb gl (.binOp .neq t x y r) l H Q:=
 oa (fun T hT=>by
  have hx':ev x T=some (.str p.length (packL p)):=zbd hT hx;have hy':ev y T=some (.str q.length (packL q)):=zbd hT hy;simp only [oper,oBin,hx',hy',strOp,zdr,zys]) k
theorem zb4 {c:Call}{p:List UInt8}(hc:c.callee=.builtin .len) (ha:c.args.toList=[x]) (ht:c.argTypes.toList=[t]) (hu:P.underlying t=some .string) (hx:evA x l=some (S p)) (k:Q (.int .i64 (p.length:Int)) H):OA P tb gl (.call c) l H Q:=
 oa (fun T hT=>by
  have hx':evL [x] T=some [.str p.length (packL p)]:=zi9 hT (by simp only [evLA,hx];rfl);simp only [oper,oCall,ha,hx',hc,ht,oBuiltin,oLen,hu];rfl) k
theorem zcz {p:List UInt8}{k0:IntKind}{j:Nat}{z0:Int}{c:UInt8}(hu:P.underlying t=some .string) (hx:evA x l=some (S p)) (hi:evA i l=some (.int k0 z0)) (hz0:z0=(j:Int)) (hj:p[j]? = some c) (k:Q (u8 c) H):OA P tb gl (.index t x i) l H Q:=
 oa (fun T hT=>by
  have hlt:j<p.length:=(Qb.1 hj).1;have hx':ev x T=some (.str p.length (packL p)):=zbd hT hx;have hi':ev i T=some (.int k0 (.ofNat j)):=by rw [zbd hT hi,hz0];rfl
  have h1:Nat.blt j p.length=true:=by rw [zbx];simpa using hlt
  have h2:byteAt (packL p) j=c.toNat:=by
   have h3:=zhz p.length (packL p) j hlt;rw [ze5,hj] at h3;injection h3 with h3
   rw [zou,h3,UInt8.toNat_ofNat'];have:packL p / 256 ^ j % 256<256:=Nat.mod_lt _ (by decide);omega
  simp only [oper,oIndex,hu,hx',hi',idx,h1,cond_true,zbj,h2];rfl) k
theorem zmr:∀(a:Nat) (p:List UInt8),packL p / 256 ^ a=packL (p.drop a)
 |0,p=>by simp
 |a+1,[]=>by simp [packL]
 |a+1,b::p=>by
  have h2:b.toNat<256:=b.toNat_lt;show (b.toNat+256*packL p) / 256 ^ (a+1)=packL (p.drop a);rw [Nat.pow_succ',←Nat.div_div_eq_div_mul,show (b.toNat+256*packL p) / 256=packL p by omega,zmr a p]
theorem zms:∀(a:Nat) (p:List UInt8),packL p % 256 ^ a=packL (p.take a)
 |0,p=>by simp [packL,Nat.mod_one]
 |a+1,[]=>by simp [packL]
 |a+1,b::p=>by
  have h2:b.toNat<256:=b.toNat_lt;show (b.toNat+256*packL p) % 256 ^ (a+1)=b.toNat+256*packL (p.take a);rw [←zms a p,Nat.pow_succ,Nat.mul_comm (256 ^ a) 256,Nat.mod_mul,show (b.toNat+256*packL p) % 256=b.toNat by omega,show (b.toNat+256*packL p) / 256=packL p by omega]
def bndA (x:Option Operand) (l:Fm) (d:Nat):Option Nat:=match x with|some x=>natOf (evA x l)|none=>some d
theorem zkt {x:Operand}{d a:Nat}{k0:IntKind}{z0:Int}(h:evA x l=some (.int k0 z0)) (hz:z0=(a:Int)):bndA (some x) l d=some a:=by
 subst hz;simp only [bndA,h];rfl
theorem zvj {T:Tm}(hT:FR l T) {x:Option Operand}{d c:Nat}(h:bndA x l d=some c):boundOf x T d=some c:=by
 cases x with
 |none=>exact h
 |some x=>
  simp only [bndA] at h;cases he:evA x l with
  |none=>rw [he] at h;cases h
  |some u=>simp only [boundOf,zbd hT he];rw [he] at h;exact h
theorem zvi {T:Tm}(hT:FR l T) {lo hi:Option Operand}{a c len cap:Nat}(h1:bndA lo l 0=some a) (h2:bndA hi l len=some c) (h3:a≤c) (h4:c≤cap):bnd3 lo hi none T len cap=some (a,c,cap):=by
 have e1:Nat.ble a c=true:=by rw [zdh];simpa using h3
 have e2:Nat.ble c cap=true:=by rw [zdh];simpa using h4
 have e3:Nat.ble cap cap=true:=by rw [zdh];simp
 have b1:=zvj hT h1;have b2:=zvj hT h2;have fin:(bif Nat.ble a c&&Nat.ble c cap&&Nat.ble cap cap then some (a,c,cap) else none)=some (a,c,cap):=by simp only [e1,e2,e3,Bool.and_self,cond_true]
 cases hi with
 |none=>
  show (match boundOf lo T 0,boundOf none T len,boundOf none T cap with|some l,some h,some m=>(bif Nat.ble l h&&Nat.ble h m&&Nat.ble m cap then some (l,h,m) else none)|_,_,_=>none)=_;rw [b1,b2];exact fin
 |some hh=>
  show (match boundOf lo T 0,boundOf (some hh) T len,boundOf none T cap with|some l,some h,some m=>(bif Nat.ble l h&&Nat.ble h m&&Nat.ble m cap then some (l,h,m) else none)|_,_,_=>none)=_;rw [b1,b2];exact fin
theorem zdl {p:List UInt8}{lo hi:Option Operand}{a c:Nat}(hu:P.underlying t=some .string) (hx:evA x l=some (S p)) (h1:bndA lo l 0=some a) (h2:bndA hi l p.length=some c) (h3:a≤c) (h4:c≤p.length) (k:Q (S ((p.drop a).take (c-a))) H):OA P tb gl (.slice t x lo hi none) l H Q:=
 oa (fun T hT=>by
  have hx':ev x T=some (.str p.length (packL p)):=zbd hT hx;simp only [oper,oSlice,hu,hx',oSliceS,zvi hT h1 h2 h3 h4,zbj];have e1:Nat.mod (Nat.shiftRight (packL p) (Nat.mul 8 a)) (Nat.pow 256 (Nat.sub c a))=packL ((p.drop a).take (c-a)):=by
   show (packL p >>> (8*a)) % 256 ^ (c-a)=_;rw [Nat.shiftRight_eq_div_pow,Nat.pow_mul,show (2:Nat) ^ 8=256 from rfl,zmr,zms]
  have e2:((p.drop a).take (c-a)).length=c-a:=by rw [Qh,List.length_drop];omega
  rw [e1];show OR.val (.str (c-a) _) H=OR.val (.str _ _) H;rw [e2]) k
theorem za8 {z:AV}(hz:zeroOf P t=some z) (q:∀H',Keep Non H H'→IsRow H' H.nx z.cells false false→Q (.ptr H.nx 0) H'):OA P tb gl (.alloc t) l H Q:=
 oa (H':=⟨H.bl.set (bits H.nx) (some (.cells (layT .lf 0 z.cells) z.cells.length false false)),H.nx+1⟩) (fun T _=>by simp only [oper,oAlloc,hz,newR,zcg,zbj,zcd,len'_eq]) (q _ (zfe _ _) (zg5 _ _ _ _ _ (.lay _)))
theorem zcy (hx:evA x l=some v) (q:∀H',Keep Non H H'→IsRow H' H.nx v.cells false false→Q (.ptr H.nx 0) H'):OA P tb gl (.box t x) l H Q:=
 oa (H':=⟨H.bl.set (bits H.nx) (some (.cells (layT .lf 0 v.cells) v.cells.length false false)),H.nx+1⟩) (fun T hT=>by simp only [oper,oBox,zbd hT hx,newR,zcg,zbj,zcd,len'_eq]) (q _ (zfe _ _) (zg5 _ _ _ _ _ (.lay _)))
theorem znz {E:EI}{parts:Array (Nat×Operand)}{vs:List AV}(hE:elemI P t=some E) (hl:n*E.z<10000) (hf:∀T,FR l T→fillL (repL n E.zero.cells) (rowPlc E.z) T parts.toList=some vs) (hv:vs.length=n*E.z)
  (q:∀H',Keep Non H H'→IsRow H' H.nx vs false false→Q (.sl H.nx 0 n n) H'):OA P tb gl (.buildSlice t n parts) l H Q:=
 oa (H':=⟨H.bl.set (bits H.nx) (some (.cells (layT .lf 0 vs) vs.length false false)),H.nx+1⟩) (fun T hT=>by
  have h1:Nat.blt (Nat.mul n E.z) 10000=true:=by rw [zbx];simpa using hl
  simp only [oper,oBuildSlice,hE,h1,cond_true,hf T hT,zcg,zbj,zcd];rw [hv];rfl) (q _ (zfe _ _) (zg5 _ _ _ _ _ (.lay _)))
theorem zah {o z i:Nat}(hp:plcOf P t 0=some ⟨o,false,z⟩) (hx:evA x l=some (.ptr b i)) (hr:IsRow H b cs tl ro) (hv:cs[i]? = some v) (q:Q v H):OA P tb gl (.load t x) l H Q:=
 oa (fun T hT=>by
  obtain ⟨_,tr,hB,hT'⟩:=hr;have hi:i<cs.length:=(Qb.1 hv).1;simp only [oper,oLoad,zbd hT hx,hp,loadR,hB,cond_false,hT' i hi,hv]) q
theorem zn2 {o z i:Nat}(hp:plcOf P t 0=some ⟨o,true,z⟩) (hx:evA x l=some (.ptr b i)) (hr:IsRow H b cs tl ro) (hi:i+z≤cs.length) (q:Q (.agg ((cs.drop i).take z)) H):OA P tb gl (.load t x) l H Q:=
 oa (fun T hT=>by
  obtain ⟨_,tr,hB,hT'⟩:=hr;have ht:takeC tr i z=some ((cs.drop i).take z):=by
   refine zd9 _ _ _ (by rw [Qh,List.length_drop];omega) fun j hj=>?_;rw [hT' _ (by omega),List.getElem?_take,if_pos hj,List.getElem?_drop]
  simp only [oper,oLoad,zbd hT hx,hp,loadR,hB,cond_true,ht]) q
theorem PtsTo.row {p:AV}(h:PtsTo H p cs) (hne:cs≠[]):∃b i row tl ro,p=.ptr b i∧IsRow H b row tl ro∧i+cs.length≤row.length∧(row.drop i).take cs.length=cs:=by
 obtain ⟨b,i,row,tl,ro,h1,h2,h3⟩:=h;have hle:i+cs.length≤row.length:=by
  have hpos:0<cs.length:=List.length_pos_iff.2 hne;have:=h3 (cs.length-1) (by omega);by_cases hlt:i+(cs.length-1)<row.length
  ·omega
  ·rw [List.getElem?_eq_none (by omega),Qa (by omega)] at this;cases this
 refine ⟨b,i,row,tl,ro,h1,h2,hle,?_⟩;refine List.ext_getElem? fun j=>?_;by_cases hj:j<cs.length
 ·rw [List.getElem?_take,if_pos hj,List.getElem?_drop,h3 j hj]
 ·rw [List.getElem?_take,if_neg hj,List.getElem?_eq_none (by omega)]
theorem zat {o k:Nat}{p:AV}(hp:plcOf P t 0=some ⟨o,true,k⟩) (hk:cs.length=k) (hne:0<k) (hx:evA x l=some p) (hr:PtsTo H p cs) (q:Q (.agg cs) H):OA P tb gl (.load t x) l H Q:=by
 subst hk;obtain ⟨b,i,row,tl,ro,rfl,h2,h3,h4⟩:=hr.row (List.length_pos_iff.1 hne);exact zn2 hp hx h2 h3 (by rw [h4];exact q)
theorem za6 {s:TypeId}{f:Nat}{p:AV}{o z:Nat}{g:Bool}(hp:fieldPlc P s f=some ⟨o,g,z⟩) (hz:z≠0) (hx:evA x l=some p) (hr:PtsTo H p cs) (q:∀p',PtsTo H p' (cs.drop o)→Q p' H):OA P tb gl (.fieldAddr s x f) l H Q:=by
 obtain ⟨b,i,row,tl,ro,rfl,h2,h3⟩:=hr;refine zae hp hz hx (q _ ⟨b,i+o,row,tl,ro,rfl,h2,fun j hj=>?_⟩);rw [List.length_drop] at hj;rw [List.getElem?_drop,Nat.add_assoc];exact h3 (o+j) (by omega)
theorem PtsTo.pre {p:AV}{cs ds:List AV}(h:PtsTo H p (cs++ds)):PtsTo H p cs:=by
 obtain ⟨b,i,row,tl,ro,h1,h2,h3⟩:=h;exact ⟨b,i,row,tl,ro,h1,h2,fun j hj=>by
  have:=h3 j (by rw [J1];omega)
  rwa [List.getElem?_append_left hj] at this⟩
theorem za9 {k0:IntKind}{j:Nat}{z0:Int}(hu:P.underlying t=some (.slice e)) (hz:szOf P e=some es) (hx:evA x l=some v) (hs:IsSl H v es n cs) (hi:evA i l=some (.int k0 z0)) (hz0:z0=(j:Int)) (hj:j<n)
  (q:∀p,PtsTo H p ((cs.drop (j*es)).take es)→Q p H):OA P tb gl (.indexAddr t x i) l H Q:=by
 obtain ⟨h0,⟨_,rfl⟩|⟨_,rfl⟩|⟨b,o,row,tl,ro,h1,h2,h3⟩⟩:=hs
 ·omega
 ·omega
 ·have hb:Nat.blt j n=true:=by rw [zbx];simpa using hj
  have hjs:j*es+es≤n*es:=by
   have:=Nat.mul_le_mul_right es (show j+1≤n from hj);rw [Nat.add_mul,Nat.one_mul] at this;exact this
  refine oa (v:=.ptr b (o+j*es)) (H':=H) (fun T hT=>?_) (q _ ⟨b,o+j*es,row,tl,ro,rfl,h2,fun k hk=>?_⟩)
  ·have hi':ev i T=some (.int k0 (.ofNat j)):=by rw [zbd hT hi,hz0];rfl
   rcases h1 with ⟨rfl,_⟩|⟨c,rfl,_⟩
   ·simp only [oper,oIndexAddr,hu,zbd hT hx,hi',idx,hb,cond_true,hz,zbj];rfl
   ·simp only [oper,oIndexAddr,hu,zbd hT hx,hi',idx,hb,cond_true,hz,zbj];rfl
  ·rw [Qh,List.length_drop] at hk;rw [List.getElem?_take,if_pos (by omega),List.getElem?_drop,Nat.add_assoc];exact h3 _ (by omega)
theorem zli {k0:IntKind}{j o:Nat}{z0:Int}(hu:P.underlying t=some (.array n e)) (hz:szOf P e=some es) (hx:evA x l=some (.ptr b o)) (hi:evA i l=some (.int k0 z0)) (hz0:z0=(j:Int)) (hj:j<n) (q:Q (.ptr b (o+j*es)) H):OA P tb gl (.indexAddr t x i) l H Q:=
 oa (fun T hT=>by
  have hb:Nat.blt j n=true:=by rw [zbx];simpa using hj
  have hi':ev i T=some (.int k0 (.ofNat j)):=by rw [zbd hT hi,hz0];rfl
  simp only [oper,oIndexAddr,hu,zbd hT hx,hi',idx,hb,cond_true,hz,zbj];rfl) q
theorem za3 {c:Call}(hc:c.callee=.builtin .len) (ha:c.args.toList=[x]) (ht:c.argTypes.toList=[t]) (hu:P.underlying t=some (.slice e)) (hx:evA x l=some v) (hs:IsSl H v es n cs) (k:Q (.int .i64 (n:Int)) H):OA P tb gl (.call c) l H Q:=
 oa (fun T hT=>by
  have hx':evL [x] T=some [v]:=zi9 hT (by simp only [evLA,hx]);obtain ⟨_,⟨rfl,rfl⟩|⟨⟨_,_,_,rfl⟩|⟨_,rfl⟩,rfl⟩|⟨b,o,row,tl,ro,h1,_,_⟩⟩:=hs
  ·simp only [oper,oCall,ha,hx',hc,ht,oBuiltin,oLen,hu];rfl
  ·simp only [oper,oCall,ha,hx',hc,ht,oBuiltin,oLen,hu];rfl
  ·simp only [oper,oCall,ha,hx',hc,ht,oBuiltin,oLen,hu];rfl
  ·rcases h1 with ⟨rfl,_⟩|⟨c,rfl,_⟩
   ·simp only [oper,oCall,ha,hx',hc,ht,oBuiltin,oLen,hu];rfl
   ·simp only [oper,oCall,ha,hx',hc,ht,oBuiltin,oLen,hu];rfl) k
theorem RowT.set {tr:Tr AV}(h:RowT tr cs) (i:Nat) (u:AV):RowT (tr.set (bits i) (some u)) (cs.set i u):=by
 intro j hj;rw [List.length_set] at hj;rw [Tr.get_set_bits,List.getElem?_set];by_cases e:i=j
 ·subst e;simp [hj]
 ·rw [if_neg e,if_neg e];exact h j hj
theorem zbu {u:AV}{i:Nat}(hz:szOf P t=some 1) (hx:evA x l=some (.ptr b i)) (hy:evA y l=some u) (hs:scal u=true) (hr:IsRow H b cs tl false) (hi:i<cs.length)
  (q:∀H',Keep (· = b) H H'→H'.nx=H.nx→IsRow H' b (cs.set i u) tl false→Q undefA H'):OA P tb gl (.store t x y) l H Q:=by
 obtain ⟨hb,tr,hB,hT'⟩:=hr;have hcs:u.cells=[u]:=by cases u<;>first|rfl|cases hs
 refine oa (H':=⟨H.bl.set (bits b) (some (.cells (tr.set (bits i) (some u)) cs.length tl false)),H.nx⟩) (fun T hT=>?_) (q _ (keep_put' hB rfl _) rfl ⟨hb,_,by rw [zei,if_pos rfl,List.length_set],hT'.set i u⟩);have hp:∀{β:Type}(bad:β) (k:Tr AV→β),putC tr i u.cells bad k=k (tr.set (bits i) (some u)):=by
  intro β bad k;rw [hcs,zik [u] tr i (fun j h1 h2=>?_) (by simp [scalL,hs])]
  ·rfl
  ·have:j=i:=by simp at h2;omega
   subst this;rw [hT' j hi,Qa hi];rfl
 simp only [oper,oStore,zbd hT hx,zbd hT hy,hz];rw [len'_eq,show u.cells.length=1 by rw [hcs];rfl];simp only [Nat.beq_refl,cond_true,storeR,hB,hp,zcb]
theorem layT_row {tr:Tr AV}{xs:List AV}(hT:∀j,j<cs.length→tr.get (bits j)=cs[j]?):RowT (layT tr cs.length xs) (cs++xs):=by
 intro i hi;rw [J1] at hi;rw [zcu];by_cases h:cs.length≤i
 ·rw [if_pos ⟨h,by omega⟩,List.getElem?_append_right h]
 ·rw [if_neg (by omega),List.getElem?_append_left (by omega),hT i (by omega)]
theorem zqt {xs:List AV}(hl:xs.length=m*es) (hm:m<limit):newOpen H m es xs=.val (.so H.nx 0 m es) ⟨H.bl.set (bits H.nx) (some (.cells (layT .lf 0 xs) xs.length true false)),H.nx+1⟩∧
  Own ⟨H.bl.set (bits H.nx) (some (.cells (layT .lf 0 xs) xs.length true false)),H.nx+1⟩ (.so H.nx 0 m es) es m xs:=by
 refine ⟨?_,hl,hm,.inr ⟨H.nx,xs,rfl,zg5 _ _ _ _ _ (.lay _),by omega,fun _ _=>rfl⟩⟩;have h1:Nat.blt m limit=true:=by rw [zbx];simpa using hm
 simp only [newOpen,h1,Bool.not_true,cond_false,zcg,zbj,zcd];rw [hl];rfl
theorem zqd {xs:List AV}(ho:Own H v es n cs) (hl:xs.length=m*es) (hs:scalL xs=true) (hn:n+m<limit):
  ∃v' H',appendR H v es m xs=.val v' H'∧Own H' v' es (n+m) (cs++xs)∧Keep (ownB v) H H'∧∀c,ownB v' c→ownB v c∨H.nx≤c:=by
 obtain ⟨h0,h1,⟨rfl,rfl⟩|⟨b,row,rfl,hr,hle0,h3⟩⟩:=ho
 ·rw [Nat.zero_mul] at h0;obtain rfl:=List.length_eq_zero_iff.1 h0;rw [Nat.zero_add] at hn ⊢;rw [List.nil_append];cases hb:Nat.beq m 0 with
  |true=>
   have hm0:=zb5.1 hb;subst hm0;rw [Nat.zero_mul] at hl;obtain rfl:=List.length_eq_zero_iff.1 hl;exact ⟨.nils,H,rfl,.nil _ _,.refl _ _,fun c hc=>hc.elim⟩
  |false=>
   obtain ⟨e1,e2⟩:=zqt (H:=H) hl hn;refine ⟨_,_,?_,e2,(zfe _ _).wide fun _ h=>h.elim,fun c hc=>.inr ?_⟩
   ·simp only [appendR,hb,cond_false];exact e1
   ·have:c=H.nx:=hc;omega
 ·obtain ⟨hb,tr,hB,hT'⟩:=hr;have hle:cs.length≤row.length:=by omega
  have hcs:∀j,j<cs.length→tr.get (bits j)=cs[j]?:=fun j hj=>by rw [hT' j (by omega),h3 j hj]
  simp only [appendR,Nat.beq_refl,cond_true,hB];rw [show Nat.add 0 (Nat.mul (Nat.add n m) es)=(n+m)*es by simp,show Nat.add 0 (Nat.mul n es)=n*es by simp];have hnm:(n+m)*es=n*es+m*es:=Nat.add_mul _ _ _;cases hfit:Nat.ble ((n+m)*es) row.length with
  |true=>
   have hfit':(n+m)*es≤row.length:=by simpa [zdh] using hfit
   simp only [cond_true];rw [zik xs tr (n*es) (fun j h1 h2=>?_) hs]
   ·simp only [zcb,zbj];refine ⟨_,_,rfl,⟨by rw [J1,h0,hl,hnm],hn,.inr ⟨b,row.take cs.length++xs++row.drop (cs.length+xs.length),rfl,⟨hb,layT tr (n*es) xs,?_,?_⟩,?_,?_⟩⟩,(keep_put' hB rfl _).wide fun c hc=>hc,fun c hc=>.inl hc⟩
    ·rw [zei,if_pos rfl];have:(row.take cs.length++xs++row.drop (cs.length+xs.length)).length=row.length:=by
      simp only [J1,Qh,List.length_drop];omega
     rw [this]
    ·intro j hj;simp only [J1,Qh,List.length_drop] at hj;rw [zcu];by_cases hj1:n*es≤j∧j<n*es+xs.length
     ·rw [if_pos hj1,List.append_assoc,List.getElem?_append_right (by rw [Qh];omega),List.getElem?_append_left (by rw [Qh];omega)]
      congr 1
      rw [Qh];omega
     ·rw [if_neg hj1,hT' j (by omega)];by_cases hj2:j<cs.length
      ·rw [List.append_assoc,List.getElem?_append_left (by rw [Qh];omega),List.getElem?_take,if_pos hj2]
      ·rw [List.getElem?_append_right (by rw [J1,Qh];omega),List.getElem?_drop]
       congr 1
       rw [J1,Qh];omega
    ·simp only [J1,Qh,List.length_drop];omega
    ·intro j hj;rw [J1] at hj;rw [List.getElem?_append_left (by rw [J1,Qh];omega)];by_cases hj2:j<cs.length
     ·rw [List.getElem?_append_left (by rw [Qh];omega),List.getElem?_append_left hj2,List.getElem?_take,if_pos hj2,h3 j hj2]
     ·rw [List.getElem?_append_right (by rw [Qh];omega),List.getElem?_append_right (by omega)]
      congr 1
      rw [Qh];omega
   ·rw [hT' j (by omega),Qa (by omega)];rfl
  |false=>
   have e1:Nat.ble (n*es) row.length=true:=by rw [zdh];simp;omega
   have e2:Nat.blt (n+m) limit=true:=by rw [zbx];simpa using hn
   have e2':Nat.blt (Nat.add n m) limit=true:=e2;simp only [cond_false,e1,hs,e2',Bool.and_self,cond_true,zcb,zcg,zbj,zcd];have hr2:RowT (layT tr (n*es) xs) (cs++xs):=by rw [←h0];exact layT_row hcs
   refine ⟨_,_,rfl,⟨by rw [J1,h0,hl,hnm],hn,.inr ⟨H.nx,cs++xs,rfl,⟨Nat.lt_succ_self _,layT tr (n*es) xs,?_,hr2⟩,by rw [J1,h0,hl,hnm];exact Jz _,fun _ _=>rfl⟩⟩,?_,fun c hc=>.inr ?_⟩
   ·rw [zwd,if_pos rfl,J1,h0,hl,←hnm];rfl
   ·exact ((keep_put' hB rfl _).wide fun c hc=>hc).trans (zfe _ _) fun _ h=>h.elim
   ·have:c=H.nx:=hc;omega
theorem zfg {c:Call}{u:TypeId}{E:EI}{xs:List AV}(hc:c.callee=.builtin .append) (ha:c.args.toList=[x,y]) (ht:c.argTypes.toList=[t,u]) (hE:elemI P t=some E) (hu:P.underlying u=some (.slice e)∨P.underlying u=some .string)
  (hx:evA x l=some v) (ho:Own H v E.z n cs) (hy:evA y l=some w) (hel:elemsOf H w E.z=some (m,xs)) (hlen:xs.length=m*E.z) (hs:scalL xs=true) (hn:n+m<limit)
  (q:∀v' H',Own H' v' E.z (n+m) (cs++xs)→Keep (ownB v) H H'→(∀c,ownB v' c→ownB v c∨H.nx≤c)→Q v' H'):OA P tb gl (.call c) l H Q:=by
 obtain ⟨v',H',hr,h1,h2,h3⟩:=zqd ho hlen hs hn;refine oa (fun T hT=>?_) (q v' H' h1 h2 h3);have hx':evL [x,y] T=some [v,w]:=zi9 hT (by simp only [evLA,hx,hy]);have hm:Nat.blt m limit=true:=by rw [zbx];simp;omega
 simp only [oper,oCall,ha,hx',hc,ht,oBuiltin,oAppend,hE];rcases hu with hu|hu
 ·simp only [hu,appS,hel,hm,cond_true,hr]
 ·simp only [hu,appS,hel,hm,cond_true,hr]
theorem zxb {lo hi:Option Operand}{a c o:Nat}(hu:P.underlying t=some (.array n e)) (hz:szOf P e=some es) (hx:evA x l=some (.ptr b o)) (h1:bndA lo l 0=some a) (h2:bndA hi l n=some c) (hac:a≤c) (hc:c≤n) (han:a<n)
  (q:Q (.sl b (o+a*es) (c-a) (n-a)) H):OA P tb gl (.slice t x lo hi none) l H Q:=
 oa (fun T hT=>by
  have hb:Nat.beq n a=false:=zdw (by omega);simp only [oper,oSlice,hu,zbd hT hx,hz,zvi hT h1 h2 hac hc,oSliceR,hb,cond_false,zbj];rfl) q
theorem zxj {s d u:TypeId}{bs:List UInt8}(hs:P.underlying s=some (.slice u)) (hu:P.underlying u=some (.int .u8)) (hd:P.underlying d=some .string) (hx:evA x l=some v) (hv:IsSl H v 1 n (bs.map Eng.u8)) (q:Q (S bs) H):OA P tb gl (.convert s d x) l H Q:=
 oa (fun T hT=>by
  have he:=hv.elems;have hn:n=bs.length:=by have:=hv.1;rw [List.length_map] at this;omega
  subst hn;have hstr:isStr v=false:=by
   obtain ⟨_,⟨rfl,_⟩|⟨⟨_,_,_,rfl⟩|⟨_,rfl⟩,_⟩|⟨b,o,row,tl,ro,⟨rfl,_⟩|⟨c,rfl,_⟩,_⟩⟩:=hv<;>rfl
  simp only [oper,oConvert,hs,hd,zbd hT hx,hu,hstr,cond_false,he,zsy,zbj];rfl) q
end
end Eng
end Go.Proofs.YtniflgldgnmiaaaGreatDoor
namespace Go.Proofs.YtniflgldgnmiaaaGreatDoor
namespace Eng
open Go
section
variable {P:Program}
def isKind:TypeDesc→Value→Prop
 |.bool,v=>∃b,v=.bool b
 |.int k,v=>∃n,v=.int k n∧(Lit.int k n).wf=true
 |.string,v=>∃s,v=.string s∧s.size≤maxLen
 |_,_=>False
theorem zhh {H:Type}{P:Program}{e:TypeId}{k:Nat}:∀{l:List (DataW H)}{d:DataW H},d∈l→k∈d.weights P e→k∈DataW.weightsAll P e l
 |[],_,h,_=>by cases h
 |x::l,d,h,hk=>by
  simp only [DataW.weightsAll,List.mem_append];rcases List.mem_cons.1 h with rfl|h
  ·exact .inl hk
  ·exact .inr (zhh h hk)
theorem zeu {H:Type}{P:Program}{k:Nat}:∀{ts:List TypeId}{l:List (DataW H)}{i:Nat}{t:TypeId}{d:DataW H},ts[i]? = some t→l[i]? = some d→k∈d.weights P t→k∈DataW.weightsEach P ts l
 |[],_,i,_,_,h,_,_=>by simp at h
 |_::_,[],i,_,_,_,h,_=>by simp at h
 |t0::ts,x::l,0,t,d,h1,h2,hk=>by
  simp only [List.getElem?_cons_zero,Option.some.injEq] at h1 h2;subst h1 h2;simp only [DataW.weightsEach,List.mem_append];exact .inl hk
 |t0::ts,x::l,i+1,t,d,h1,h2,hk=>by
  simp only [DataW.weightsEach,List.mem_append];exact .inr (zeu (i:=i) (by simpa using h1) (by simpa using h2) hk)
def avOf:Value→AV
 |.bool b=>.bool b
 |.int k n=>.int k n
 |.string s=>S s.data.toList
 |_=>.nilp
def isKA:TypeDesc→AV→Prop
 |.bool,v=>∃b,v=.bool b
 |.int k,v=>∃n,v=.int k n∧(Lit.int k n).wf=true
 |.string,v=>∃bs,v=S bs∧bs.length≤maxLen
 |_,_=>False
theorem isKind.av {d:TypeDesc}{v:Value}(h:isKind d v) (ρ:Rho):den ρ (avOf v)=some v∧isKA d (avOf v):=by
 cases d<;>first|exact h.elim|skip
 ·obtain ⟨b,rfl⟩:=h;exact ⟨rfl,b,rfl⟩
 ·obtain ⟨n,rfl,hw⟩:=h;exact ⟨rfl,n,rfl,hw⟩
 ·obtain ⟨s,rfl,hs⟩:=h;refine ⟨?_,_,rfl,by simpa using hs⟩;have:unpack s.data.toList.length (packL s.data.toList)=s:=by
   have h:=zh0 s;have e:s.size=s.data.toList.length:=Array.length_toList.symm;rw [e] at h;exact h
  show den ρ (.str s.data.toList.length (packL s.data.toList))=some (.string s);rw [den,this]
def AllRo (H:Heap):Prop:=∀b B,getB H b=some B→¬wr B
def Frees (ρ:Rho) (H:Heap):Prop:=∀b,H.nx≤b→ρ b=none
theorem HR.push_ro {ρ:Rho}{H:Heap}{w:World}(h:HR ρ H w) (ha:AllRo H) (hf:Frees ρ H) {p:Pl}{t:Tr AV}{n:Nat}(hB:CellsOK (upd ρ H.nx p) w p t n true):
  HR (upd ρ H.nx p) (push H (.cells t n false true)) w∧AllRo (push H (.cells t n false true))∧Frees (upd ρ H.nx p) (push H (.cells t n false true))∧Sub ρ (upd ρ H.nx p)∧Keep Non H (push H (.cells t n false true)):=by
 have hs:Sub ρ (upd ρ H.nx p):=.upd (hf H.nx (Jz _));have har:AllRo (push H (.cells t n false true)):=fun b B hb=>by
  rw [zcp] at hb;by_cases e:b=H.nx
  ·rw [if_pos e] at hb;injection hb with hb;subst hb;simp [wr]
  ·rw [if_neg e] at hb;exact ha b B hb
 refine ⟨⟨fun b B hb=>?_,fun b b' B B' q q' k i _ hb hb' _ _ hw _=>?_,fun b B hb=>?_⟩,har,fun b hb=>?_,hs,zfe _ _⟩
 ·rw [zcp] at hb;by_cases e:b=H.nx
  ·subst e;rw [if_pos rfl] at hb;injection hb with hb
   subst hb;exact ⟨p,zcx _ _ _,hB⟩
  ·rw [if_neg e] at hb;obtain ⟨q,hq,hC⟩:=h.blk b B hb;exact ⟨q,hs b q hq,hC.keep hs (S:=fun _ _=>False) (.of_eq rfl) (fun _ _ _=>id)⟩
 ·rcases hw with hw|hw
  ·exact absurd hw (har b B hb)
  ·exact absurd hw (har b' B' hb')
 ·rw [zcp] at hb;by_cases e:b=H.nx
  ·subst e;simp [push]
  ·rw [if_neg e] at hb;have:=h.lt b B hb;simp [push];omega
 ·have hb':H.nx+1≤b:=hb;rw [ze6 (by omega)];exact hf b (by omega)
theorem zov {w:World}{base:Nat}{a:Addr}{n:Nat}{cs:List Value}(h:w.cells? base a n=some cs):cs.length=n∧∀j,j<n→w.cell? (a.add j)=cs[j]?:=by
 unfold World.cells? at h;split at h
 ·refine ⟨by simpa using mapM_some_length h,fun j hj=>?_⟩;exact mapM_some_get h j j (by simp [hj])
 ·cases h
theorem contractG (hP:progOK P=true) (hfol:P.follows .mixedOrders=true) {tb:List FuncId}{gl:List (List AV)}(hg:groundG gl=true) (hsz:gl.length≤P.globals.size) (hK:∀f∈tb,KnownOK P gl f)
  {f:FuncId}{xs:List AV}{H:Heap}{v:AV}(hrun:WpF P tb gl f xs H fun u _=>u=v) {ρ:Rho}{W:World}{args:Array Value}(hd:DL ρ xs args.toList) (hH:HR ρ H W) (hG:GOK P ρ) (hA:AllRo H) (hF:Frees ρ H)
  {x:Value}(hx:∀ρ',den ρ' v=some x):Calls P f args W fun e W'=>e=.returned x∧Same W W':=by
 obtain ⟨n,u,H',hrun,rfl⟩:=hrun;have hbad:callFO P tb gl n f xs H≠.bad:=by rw [hrun];intro h;cases h
 have:=((zlf hP hfol hg hsz hK n).1 f xs H hbad).2 ρ W args hd hH hG (fun v H' _ b hb _=>hF b hb);refine this.mono fun e W' hp=>?_;rw [hrun] at hp;cases e with
 |returned y=>
  obtain ⟨v',H2,ρ',hr,hd,hHR,hE⟩:=hp;injection hr with h1 h2
  subst h1 h2;rw [hx ρ'] at hd;injection hd with hd
  subst hd;exact ⟨rfl,hE.size,fun c hc=>hE.keep c hc (fun ⟨b,B,p,hB,hp,_,hw⟩=>hA b B hB hw),hE.os,hE.tape,hE.output⟩
 |panicked ch=>
  obtain ⟨v',H2,ρ',hr,_⟩:=hp;cases hr
 |outgrown=>exact hp.elim
def Laid (gl:List (List AV)) (H:Heap):Prop:=laidIn gl 0 H=true∧gl.length≤H.nx
theorem zhv {S:Nat→Prop}{H H':Heap}(k:Keep S H H'):∀(gl:List (List AV)) (b:Nat),(∀c,b≤c→c<b+gl.length→¬S c)→b+gl.length≤H.nx→laidIn gl b H=true→laidIn gl b H'=true
 |[],_,_,_,_=>rfl
 |[]::gl,b,hs,hn,h=>by
  simp only [laidIn] at h ⊢;simp only [Jy] at hs hn;exact zhv k gl (b+1) (fun c h1 h2=>hs c (by omega) (by omega)) (by omega) h
 |(v::l)::gl,b,hs,hn,h=>by
  simp only [laidIn,J8] at h ⊢;simp only [Jy] at hs hn;refine ⟨?_,zhv k gl (b+1) (fun c h1 h2=>hs c (by omega) (by omega)) (by omega) h.2⟩;have h1:=h.1;split at h1
  ·rename_i t n tl ro hB;rw [k.old b _ (by omega) hB (.inl (hs b (Jz _) (by omega)))];exact h1
  ·cases h1
theorem Laid.keep {gl:List (List AV)}{H H':Heap}(h:Laid gl H) (k:Keep Non H H'):Laid gl H':=
 ⟨zhv k gl 0 (fun _ _ _=>id) (by have:=h.2;omega) h.1,Nat.le_trans h.2 k.nx⟩
theorem zkg {tb:List FuncId}{gl:List (List AV)}{l:Fm}{H:Heap}{Q:AV→Heap→Prop}{f:FuncId}(hm:memF f tb=true) (hl:Laid gl H) (q:Q (.bool true) H):OA P tb gl (.call ⟨.value (.func f),#[],#[]⟩) l H Q:=
 zaf rfl (show evLA [] l=some [] from rfl) rfl (zzo hm hl.1 q)
theorem zjs {t:Tr AV}:∀(l:List AV) (i:Nat),l.all groundV=true→(∀j,j<l.length→t.get (bits (i+j))=l[j]?)→cellsIn t l i=true
 |[],_,_,_=>rfl
 |v::l,i,hg,h=>by
  simp only [List.all_cons,J8] at hg;have h0:=h 0 (by simp);rw [Nat.add_zero,List.getElem?_cons_zero] at h0;have he:AV.eq v v=true:=by
   have h1:=hg.1;cases v<;>first|(cases h1;done)|skip
   ·simp [AV.eq]
   ·simp [AV.eq,zfd]
   ·simp [AV.eq]
  simp only [cellsIn,h0,he,Bool.true_and];refine zjs l (i+1) hg.2 fun j hj=>?_;have:=h (j+1) (by simpa using hj);rw [show i+(j+1)=i+1+j by omega] at this;simpa using this
theorem zld {gl:List (List AV)}(hg:groundG gl=true) {m:Nat}:∀(r:List (List AV)) (b:Nat),(∀j l,r[j]? = some l→gl[b+j]? = some l)→laidIn r b (H0 gl m)=true
 |[],_,_=>rfl
 |[]::r,b,h=>by
  simp only [laidIn];refine zld hg r (b+1) fun j l' hj=>?_;have:=h (j+1) l' (by simpa using hj);rw [show b+(j+1)=b+1+j by omega] at this;exact this
 |(v::l)::r,b,h=>by
  have h0:=h 0 (v::l) rfl;rw [Nat.add_zero] at h0;have hB:getB (H0 gl m) b=some (.cells (layT .lf 0 (v::l)) (v::l).length false true):=by
   simp only [H0,zfc,Nat.zero_le,if_true,Nat.sub_zero,h0]
  have hgl:(v::l).all groundV=true:=List.all_eq_true.1 hg (v::l) (Qe h0);simp only [laidIn,hB,J8];refine ⟨zjs (v::l) 0 hgl fun j hj=>?_,zld hg r (b+1) fun j l' hj=>?_⟩
  ·rw [zcu,if_pos ⟨by omega,by omega⟩]
   congr 1
   omega
  ·have:=h (j+1) l' (by simpa using hj);rw [show b+(j+1)=b+1+j by omega] at this;exact this
theorem laid_H0 {gl:List (List AV)}(hg:groundG gl=true) {m:Nat}(hm:gl.length≤m):Laid gl (H0 gl m):=
 ⟨zld hg gl 0 fun j l h=>by rw [Nat.zero_add];exact h,by rw [H0,zfw];exact hm⟩
theorem H0_ro' {gl:List (List AV)}{m:Nat}:AllRo (H0 gl m):=fun _ _ h=>H0_ro h
theorem zun {W:World}{gl:List (List AV)}{m:Nat}:Frees (rho0 W m) (H0 gl m):=fun _ h=>ztd h
end
end Eng
end Go.Proofs.YtniflgldgnmiaaaGreatDoor
namespace Go.Proofs.YtniflgldgnmiaaaGreatDoor
namespace Eng
open Go
section
variable {P:Program}
def closedT (P:Program) (ts:List TypeId):Bool:=ts.all fun t=>match P.underlying t with
 |some .bool=>true
 |some (.int _)=>true
 |some .string=>true
 |some (.struct fs)=>fs.toList.all fun f=>ts.contains f.type
 |some (.array _ e)=>ts.contains e
 |some (.slice e)=>ts.contains e&&Nat.blt 0 (P.cellsOf e)
 |_=>false
theorem zjd {α β:Type}{f:α→Option β}:∀{l:List α}{r:List β},r.length=l.length→(∀(i:Nat) x,l[i]? = some x→f x=r[i]?)→l.mapM f=some r
 |[],[],_,_=>rfl
 |[],_::_,h,_=>by cases h
 |_::_,[],h,_=>by cases h
 |x::l,y::r,h,k=>by
  have h1:=k 0 x rfl;simp only [List.getElem?_cons_zero] at h1;have h2:=zjd (f:=f) (l:=l) (r:=r) (by simpa using h) fun i z hz=>by
   have:=k (i+1) z (by simpa using hz);simpa using this
  simp [h1,h2]
theorem zqf {W W':World}(hk:∀c,c<W.heap.size→W'.heap[c]? = W.heap[c]?) {base n:Nat}{a:Addr}{cs:List Value}(h:W.cells? base a n=some cs):W'.cells? base a n=some cs:=by
 obtain ⟨h1,h2⟩:=zov h;unfold World.cells? at h ⊢;split at h
 ·rename_i hb;rw [if_pos hb];refine zjd (by simpa using h1) fun i x hx=>?_;have hi:i<n:=by have:=(Qb.1 hx).1;simpa using this
  have hxi:x=i:=by
   rw [List.getElem?_range hi] at hx;injection hx with hx;exact hx.symm
  subst hxi;rw [←h2 x hi];have hs:(W.cell? (a.add x)).isSome:=by rw [h2 x hi,Qa (by omega)];rfl
  have hblk:(a.add x).block<W.heap.size:=by
   unfold World.cell? at hs;split at hs
   ·rename_i c _ _ hc;exact (Array.getElem?_eq_some_iff.1 hc).1
   ·cases hs
  unfold World.cell?
  rw [hk _ hblk]
 ·cases h
theorem zis {H:Type}{enc:TypeId×Value→H}{W W':World}{base:Nat}{held:Bool}{sp:Nat→Bool}(hk:∀c,c<W.heap.size→W'.heap[c]? = W.heap[c]?) {ts:List TypeId}(hc:closedT P ts=true):
  ∀(n:Nat) (t:TypeId) (cs:List Value) (x:DataW H×List MemPlace),t∈ts→DataW.trod enc P W base (fun _=>true) held n t cs=some x→(∀p∈x.2,sp p.block=true)→DataW.trod enc P W' base sp held n t cs=some x
 |0,_,_,_,_,h,_=>by simp [DataW.trod] at h
 |n+1,t,cs,x,ht,h,hs=>by
  have hct:=List.all_eq_true.1 hc t ht;split at hct
  ·rename_i hu;obtain ⟨b,rfl,rfl⟩:=DataW.trod_bool hu h;simp only [DataW.trod,hu]
  ·rename_i k hu;obtain ⟨z,rfl,rfl,hw⟩:=DataW.trod_int hu h;simp only [DataW.trod,hu,hw,and_self,if_true]
  ·rename_i hu;obtain ⟨s,rfl,rfl,hw⟩:=DataW.trod_string hu h;simp only [DataW.trod,hu,hw,if_true]
  ·rename_i fs hu;obtain ⟨xs,m,hm,rfl,hlen,hfs,hel⟩:=DataW.trod_struct hu h;injection hm with hm
   subst hm;have hmem:∀(i:Nat) (f:Field),fs[i]? = some f→f.type∈ts:=fun i f hf=>by
    have:=List.all_eq_true.1 hct f (Array.mem_toList_iff.2 (Array.mem_of_getElem? hf));simpa using this
   have hmap:fs.toList.mapM (fun f=>DataW.trod enc P W' base sp held n f.type ((cs.drop f.offset).take (P.cellsOf f.type)))=some xs:=by
    refine zjd (by simp [hfs]) fun i f hf=>?_;have hf':fs[i]? = some f:=by simpa using hf
    have h1:=hel i f hf';have hi:i<xs.length:=by
     rw [hfs];exact (Array.getElem?_eq_some_iff.1 hf').1
    rw [Qa hi] at h1 ⊢;refine zis hk hc n _ _ _ (hmem i f hf') h1 fun p hp=>hs p ?_;exact List.mem_flatMap.2 ⟨_,List.getElem_mem hi,hp⟩
   unfold DataW.trod;rw [hu];split<;>simp_all
  ·rename_i k e hu;obtain ⟨xs,m,hm,rfl,hlen,hfs,hel⟩:=DataW.trod_array hu h;injection hm with hm
   subst hm;have hmem:e∈ts:=by simpa using hct
   have hmap:(List.range k).mapM (fun i=>DataW.trod enc P W' base sp held n e ((cs.drop (i*P.cellsOf e)).take (P.cellsOf e)))=some xs:=by
    refine zjd (by simp [hfs]) fun i j hj=>?_;have hi:i<k:=by have:=(Qb.1 hj).1;simpa using this
    rw [List.getElem?_range hi] at hj;injection hj with hj
    subst hj;have h1:=hel i hi;have hi':i<xs.length:=by omega
    rw [Qa hi'] at h1 ⊢;refine zis hk hc n _ _ _ hmem h1 fun p hp=>hs p ?_;exact List.mem_flatMap.2 ⟨_,List.getElem_mem hi',hp⟩
   unfold DataW.trod;rw [hu];split<;>simp_all
  ·rename_i e hu;simp only [J8] at hct;have hmem:e∈ts:=by simpa using hct.1
   have hz:0<P.cellsOf e:=by have:=hct.2;rw [zbx] at this;simpa using this
   rcases DataW.trod_slice hu h with ⟨rfl,rfl⟩|⟨a,len,cap,elems,rest,m,hm,rfl,rfl,hb,hlc,hcm,hel,hget,hsp,_⟩
   ·simp only [DataW.trod,hu]
   ·injection hm with hm
    subst hm;obtain ⟨hrl,hrest⟩:=hsp rfl;have hin:∀y∈elems++rest,∀p∈y.2,sp p.block=true:=fun y hy p hp=>hs p (by
     refine List.mem_append.2 (.inr (List.mem_flatMap.2 ⟨y,hy,hp⟩)))
    have hone:∀(i:Nat) (y:DataW H×List MemPlace),(W.cells? base (a.add (i*P.cellsOf e)) (P.cellsOf e)).bind (DataW.trod enc P W base (fun _=>true) held n e)=some y→(∀p∈y.2,sp p.block=true)→
      (W'.cells? base (a.add (i*P.cellsOf e)) (P.cellsOf e)).bind (DataW.trod enc P W' base sp held n e)=some y:=fun i y hy hp=>by
     rw [Option.bind_eq_some_iff] at hy ⊢;obtain ⟨ds,h1,h2⟩:=hy;exact ⟨ds,zqf hk h1,zis hk hc n _ _ _ hmem h2 hp⟩
    have m1:(List.range len).mapM (fun i=>(W'.cells? base (a.add (i*P.cellsOf e)) (P.cellsOf e)).bind (DataW.trod enc P W' base sp held n e))=some elems:=by
     refine zjd (by simp [hel]) fun i j hj=>?_;have hi:i<len:=by have:=(Qb.1 hj).1;simpa using this
     rw [List.getElem?_range hi] at hj;injection hj with hj
     subst hj;have h1:=hget i hi;have hi':i<elems.length:=by omega
     rw [Qa hi'] at h1 ⊢;exact hone i _ h1 (hin _ (List.mem_append.2 (.inl (List.getElem_mem hi'))))
    have m2:(if sp a.block=true then (List.range (cap-len)).mapM (fun j=>(W'.cells? base (a.add ((len+j)*P.cellsOf e)) (P.cellsOf e)).bind (DataW.trod enc P W' base sp held n e)) else some [])=some rest:=by
     by_cases h0:elems.length+rest.length=0
     ·have:rest=[]:=List.length_eq_zero_iff.1 (by omega);subst this;have:cap-len=0:=by simpa using hrl.symm
      rw [this];split<;>rfl
     ·have hab:sp a.block=true:=by
       refine hs (.cell a.block a.off) (List.mem_append.2 (.inl ?_));unfold MemPlace.row;refine List.mem_map.2 ⟨0,?_,by simp⟩;rw [List.mem_range];exact Nat.mul_pos (by omega) hz
      rw [if_pos hab];refine zjd (by simp [hrl]) fun i j hj=>?_;have hi:i<cap-len:=by have:=(Qb.1 hj).1;simpa using this
      rw [List.getElem?_range hi] at hj;injection hj with hj
      subst hj;have h1:=hrest i hi;have hi':i<rest.length:=by omega
      rw [Qa hi'] at h1 ⊢;exact hone (len+i) _ h1 (hin _ (List.mem_append.2 (.inr (List.getElem_mem hi'))))
    unfold DataW.trod;rw [hu];simp only [hb,hlc,hcm,and_self,if_true,m1,m2,Option.bind_some,Option.map_some]
  ·cases hct
theorem zjz {H:Type}{enc:TypeId×Value→H}{W W':World}{held:Bool}{sp:Nat→Bool}(hk:∀c,c<W.heap.size→W'.heap[c]? = W.heap[c]?) {cl:List TypeId}(hc:closedT P cl=true):
  ∀{ts:List TypeId}{vs:List Value}{ds:List (DataW H)}{ps:List MemPlace},(∀t∈ts,t∈cl)→DataW.TrodAll enc P W 0 (fun _=>true) held ts vs ds ps→(∀p∈ps,sp p.block=true)→DataW.TrodAll enc P W' 0 sp held ts vs ds ps
 |[],[],[],_,_,h,_=>h
 |t::ts,v::vs,d::ds,ps,hm,h,hs=>by
  obtain ⟨p,q,⟨n,h1⟩,h2,rfl⟩:=h;exact ⟨p,q,⟨n,zis hk hc n t _ _ (hm t (by simp)) h1 fun x hx=>hs x (List.mem_append.2 (.inl hx))⟩,zjz hk hc (fun u hu=>hm u (by simp [hu])) h2 fun x hx=>hs x (List.mem_append.2 (.inr hx)),rfl⟩
 |[],_::_,_,_,_,h,_=>h.elim
 |[],[],_::_,_,_,h,_=>h.elim
 |_::_,[],_,_,_,h,_=>h.elim
 |_::_,_::_,[],_,_,h,_=>h.elim
end
end Eng
end Go.Proofs.YtniflgldgnmiaaaGreatDoor
namespace Go.Proofs.YtniflgldgnmiaaaGreatDoor
namespace Eng
open Go
theorem zja {α:Type}{f:α→List AV}{z:Nat}(hf:∀a,(f a).length=z):∀(l:List α) (j:Nat) (a:α),l[j]? = some a→((l.flatMap f).drop (j*z)).take z=f a
 |[],j,a,h=>by simp at h
 |b::l,0,a,h=>by
  simp only [List.getElem?_cons_zero,Option.some.injEq] at h;subst h;rw [Nat.zero_mul,List.drop_zero,List.flatMap_cons,List.take_append_of_le_length (by rw [hf b];exact Jz _),Qd (by rw [hf b];exact Jz _)]
 |b::l,j+1,a,h=>by
  have e:(f b++l.flatMap f).drop z=l.flatMap f:=by rw [←hf b];exact List.drop_left
  rw [List.flatMap_cons,Nat.add_mul,Nat.one_mul,Nat.add_comm,←List.drop_drop,e];exact zja hf l j a (by simpa using h)
def fillF (cells:List AV) (plc:Nat→Option (Nat×Nat)) (l:Fm):List (Nat×Operand)→Option (List AV)
 |[]=>some cells
 |(i,x)::r=>match plc i,evA x l with
  |some (off,sz),some v=>bif Nat.beq (len' v.cells) sz&&Nat.blt 0 sz then (match putL cells off v.cells with|some c=>fillF c plc l r|none=>none) else none
  |_,_=>none
theorem zng {l:Fm}{T:Tm}(hT:FR l T) {plc plc':Nat→Option (Nat×Nat)}(hp:∀i p,plc i=some p→plc' i=some p):∀{ps:List (Nat×Operand)}{cells vs:List AV},fillF cells plc l ps=some vs→fillL cells plc' T ps=some vs
 |[],_,_,h=>h
 |(i,x)::r,cells,vs,h=>by
  simp only [fillF] at h;split at h
  ·rename_i off sz v h1 h2;simp only [fillL,hp i _ h1,zbd hT h2];cases hc:(Nat.beq (len' v.cells) sz&&Nat.blt 0 sz) with
   |false=>rw [hc] at h;cases h
   |true=>
    rw [hc] at h;simp only [cond_true] at h ⊢;split at h
    ·rename_i c hc2;simp only [hc2];exact zng hT hp h
    ·cases h
  ·cases h
def plcL (pl:List (Nat×Nat)) (i:Nat):Option (Nat×Nat):=pl[i]?
def plcsOK (P:Program) (t:TypeId):Nat→List (Nat×Nat)→Bool
 |_,[]=>true
 |i,p::r=>(match structPlc P t i with|some q=>decide (p=q)|none=>false)&&plcsOK P t (i+1) r
theorem zmt {P:Program}{t:TypeId}:∀{pl:List (Nat×Nat)}{i:Nat},plcsOK P t i pl=true→∀j p,pl[j]? = some p→structPlc P t (i+j)=some p
 |[],_,_,j,p,h=>by simp at h
 |q::r,i,hk,j,p,h=>by
  simp only [plcsOK,J8] at hk;cases j with
  |zero=>
   simp only [List.getElem?_cons_zero,Option.some.injEq] at h;subst h;have h1:=hk.1;split at h1
   ·rename_i x hx;rw [Nat.add_zero,hx,of_decide_eq_true h1]
   ·cases h1
  |succ j=>
   have:=zmt hk.2 j p (by simpa using h);rw [show i+(j+1)=i+1+j by omega];exact this
section
variable {P:Program}{tb:List FuncId}{gl:List (List AV)}{t e:TypeId}{x y i:Operand}{l:Fm}{H:Heap}{Q:AV→Heap→Prop}{v w:AV}{cs:List AV}{tl ro:Bool}{b n m es:Nat}
def structOK (P:Program) (t:TypeId):Bool:=match P.underlying t with|some (.struct fs)=>fs.toList.all fun f=>(szOf P f.type).isSome|_=>false
theorem zra {P:Program}{t:TypeId}(h:structOK P t=true):∃fs,P.underlying t=some (.struct fs)∧(fs.toList.all fun f=>(szOf P f.type).isSome)=true:=by
 unfold structOK at h;split at h
 ·exact ⟨_,by assumption,h⟩
 ·cases h
theorem zba {z:AV}{pl:List (Nat×Nat)}{ps:Array (Nat×Operand)}{vs:List AV}(hu:structOK P t=true) (hz:zeroOf P t=some z) (hp:plcsOK P t 0 pl=true)
  (hf:fillF z.cells (plcL pl) l ps.toList=some vs) (q:Q (.agg vs) H):OA P tb gl (.build t ps) l H Q:=by
 obtain ⟨fs,h1,h2⟩:=zra hu;refine oa_build h1 hz h2 (fun T hT=>zng hT (fun i p h=>?_) hf) q;have:=zmt hp i p h
 rwa [Nat.zero_add] at this
theorem zap {E:EI}{parts:Array (Nat×Operand)}{vs:List AV}(hE:elemI P t=some E) (hl:n*E.z<10000) (hf:fillF (repL n E.zero.cells) (rowPlc E.z) l parts.toList=some vs) (hv:vs.length=n*E.z)
  (q:∀H',Keep Non H H'→IsRow H' H.nx vs false false→Q (.sl H.nx 0 n n) H'):OA P tb gl (.buildSlice t n parts) l H Q:=
 znz hE hl (fun _ hT=>zng hT (fun _ _ h=>h) hf) hv q
theorem layT_set {tr:Tr AV}{us:List AV}(hT:RowT tr cs) {j:Nat}(hj:j+us.length≤cs.length):RowT (layT tr j us) (cs.take j++us++cs.drop (j+us.length))∧(cs.take j++us++cs.drop (j+us.length)).length=cs.length:=by
 have hl:(cs.take j++us++cs.drop (j+us.length)).length=cs.length:=by
  simp only [J1,Qh,List.length_drop];omega
 refine ⟨fun k hk=>?_,hl⟩;rw [hl] at hk;rw [zcu];by_cases h1:j≤k∧k<j+us.length
 ·rw [if_pos h1,List.append_assoc,List.getElem?_append_right (by rw [Qh];omega),List.getElem?_append_left (by rw [Qh];omega)]
  congr 1
  rw [Qh];omega
 ·rw [if_neg h1,hT k hk];by_cases h2:k<j
  ·rw [List.append_assoc,List.getElem?_append_left (by rw [Qh];omega),List.getElem?_take,if_pos h2]
  ·rw [List.getElem?_append_right (by rw [J1,Qh];omega),List.getElem?_drop]
   congr 1
   rw [J1,Qh];omega
theorem zpn {us:List AV}{j k:Nat}(hz:szOf P t=some k) (hk:us.length=k) (hx:evA x l=some (.ptr b j)) (hy:evA y l=some (.agg us)) (hs:scalL us=true) (hr:IsRow H b cs tl false) (hj:j+us.length≤cs.length)
  (q:∀H',Keep (· = b) H H'→H'.nx=H.nx→IsRow H' b (cs.take j++us++cs.drop (j+us.length)) tl false→Q undefA H'):OA P tb gl (.store t x y) l H Q:=by
 subst hk;obtain ⟨hb,tr,hB,hT'⟩:=hr;obtain ⟨h1,h2⟩:=layT_set hT' hj;refine oa (H':=⟨H.bl.set (bits b) (some (.cells (layT tr j us) cs.length tl false)),H.nx⟩) (fun T hT=>?_) (q _ (keep_put' hB rfl _) rfl ⟨hb,_,by rw [zei,if_pos rfl,h2],h1⟩);have hp:∀{β:Type}(bad:β) (k:Tr AV→β),putC tr j us bad k=k (layT tr j us):=by
  intro β bad k;refine zik us tr j (fun i h1 h2=>?_) hs;rw [hT' i (by omega),Qa (by omega)];rfl
 have hy':=zbd hT hy;simp only [oper,oStore,zbd hT hx,hy',hz];rw [len'_eq];show (bif Nat.beq us.length us.length then storeR H b j us else .bad)=_;simp only [Nat.beq_refl,cond_true,storeR,hB,hp,zcb]
theorem zan {us:List AV}{k:Nat}(hz:szOf P t=some k) (hk:us.length=k) (hx:evA x l=some (.ptr b 0)) (hy:evA y l=some (.agg us)) (hs:scalL us=true) (hr:IsRow H b cs tl false) (hj:us.length=cs.length)
  (q:∀H',Keep (· = b) H H'→H'.nx=H.nx→IsRow H' b us tl false→Q undefA H'):OA P tb gl (.store t x y) l H Q:=
 zpn hz hk hx hy hs hr (by omega) fun H' h1 h2 h3=>q H' h1 h2 (by
  rw [List.take_zero,List.nil_append,Nat.zero_add,List.drop_of_length_le (by omega),List.append_nil] at h3;exact h3)
theorem Own.so (h:Own H v es n cs) (hn:0<n):∃b,v=.so b 0 n es:=by
 obtain ⟨_,_,⟨_,rfl⟩|⟨b,row,rfl,_⟩⟩:=h
 ·omega
 ·exact ⟨b,rfl⟩
section
variable {r:TypeId}{k:IntKind}{a c:Int}{d:Bool}
theorem zck (hx:evA x l=some (.int k a)) (hy:evA y l=some (.int k c)) (hw:decide (a<c)=d) (q:Q (.bool d) H):OA P tb gl (.binOp .lss t x y r) l H Q:=zxg hx hy (hw▸q)
theorem zxf (hx:evA x l=some (.int k a)) (hy:evA y l=some (.int k c)) (hw:decide (a≤c)=d) (q:Q (.bool d) H):OA P tb gl (.binOp .leq t x y r) l H Q:=oa_leq hx hy (hw▸q)
theorem zgl (hx:evA x l=some (.int k a)) (hy:evA y l=some (.int k c)) (hw:decide (c<a)=d) (q:Q (.bool d) H):OA P tb gl (.binOp .gtr t x y r) l H Q:=oa_gtr hx hy (hw▸q)
theorem zxc (hx:evA x l=some (.int k a)) (hy:evA y l=some (.int k c)) (hw:decide (c≤a)=d) (q:Q (.bool d) H):OA P tb gl (.binOp .geq t x y r) l H Q:=oa_geq hx hy (hw▸q)
theorem zqy (hx:evA x l=some (.int k a)) (hy:evA y l=some (.int k c)) (hw:decide (a=c)=d) (q:Q (.bool d) H):OA P tb gl (.binOp .eql t x y r) l H Q:=oa_eql hx hy (hw▸q)
theorem zxh (hx:evA x l=some (.int k a)) (hy:evA y l=some (.int k c)) (hw:decide (a≠c)=d) (q:Q (.bool d) H):OA P tb gl (.binOp .neq t x y r) l H Q:=oa_neq hx hy (hw▸q)
end
theorem zaq {c:Operand}{u w:AV}(hc:evA c l=some (.bool true)) (hx:evA x l=some u) (hy:evA y l=some w) (k:Q u H):OA P tb gl (.pick c x y) l H Q:=oa_pick hc hx hy k
theorem za0 {c:Operand}{w:AV}(hc:evA c l=some (.bool false)) (hy:evA y l=some w) (k:Q w H):OA P tb gl (.pick c x y) l H Q:=
 oa (fun T hT=>by simp [oper,oPick,zbd hT hc,zbd hT hy,okV]) k
theorem zav {t:Tmp}{w:Bool}{d:Option Tmp}{o:Op}{its:List It}{l:Fm}{Q:Fm→Heap→Prop}(ht:lk t l=some (.bool w)) (h:OA P tb gl o l H fun v H'=>IA P tb gl its (stI d v l) H' Q):IA P tb gl (.gd t w d o::its) l H Q:=
 ia_gd ht (fun _=>h) (fun e=>by cases w<;>cases e)
theorem zbh {t:Tmp}{w:Bool}{d:Option Tmp}{o:Op}{its:List It}{l:Fm}{Q:Fm→Heap→Prop}(ht:lk t l=some (.bool (!w))) (k:IA P tb gl its (stI d undefA l) H Q):IA P tb gl (.gd t w d o::its) l H Q:=
 ia_gd ht (fun e=>by cases w<;>cases e) (fun _=>k)
theorem zai {x:Operand}{a b:CV}{l:Fm}{Q:Ex→Fm→Heap→Prop}(hx:evA x l=some (.bool true)) (h:VA P tb gl a l H Q):VA P tb gl (.cond x a b) l H Q:=zlz hx (fun _=>h) (fun e=>by cases e)
theorem zag {x:Operand}{a b:CV}{l:Fm}{Q:Ex→Fm→Heap→Prop}(hx:evA x l=some (.bool false)) (h:VA P tb gl b l H Q):VA P tb gl (.cond x a b) l H Q:=zlz hx (fun e=>by cases e) (fun _=>h)
theorem zby {o z:Nat}{p:AV}(hp:plcOf P t 0=some ⟨o,false,z⟩) (hx:evA x l=some p) (hr:PtsTo H p cs) (hv:cs[0]? = some v) (q:Q v H):OA P tb gl (.load t x) l H Q:=by
 obtain ⟨b,i,row,tl,ro,rfl,h2,h3⟩:=hr;have:=h3 0 (Qb.1 hv).1;rw [Nat.add_zero,hv] at this;exact zah hp hx h2 this q
theorem IsRow.pts (h:IsRow H b cs tl ro):PtsTo H (.ptr b 0) cs:=⟨b,0,cs,tl,ro,rfl,h,fun j _=>by rw [Nat.zero_add]⟩
end
end Eng
end Go.Proofs.YtniflgldgnmiaaaGreatDoor
namespace Go.Proofs.YtniflgldgnmiaaaGreatDoor
namespace Eng
open Go
mutual
theorem AV.eq_self:∀u:AV,AV.eq u u=true
 |.bool a=>by simp [AV.eq]
 |.int j a=>by simp [AV.eq,zfd]
 |.str n x=>by simp [AV.eq]
 |.nilp=>rfl
 |.ptr b i=>by simp [AV.eq]
 |.nils=>rfl
 |.sl b i n c=>by simp [AV.eq]
 |.so b i n c=>by simp [AV.eq]
 |.se b i n c=>by simp [AV.eq]
 |.sz a=>by simp [AV.eq]
 |.nilm=>rfl
 |.map b=>by simp [AV.eq]
 |.fn f l=>by simp [AV.eq,AV.eqL_self l]
 |.nilf=>rfl
 |.nili=>rfl
 |.ifc t x=>by simp [AV.eq,AV.eq_self x]
 |.agg l=>by simp [AV.eq,AV.eqL_self l]
 |.tup l=>by simp [AV.eq,AV.eqL_self l]
theorem AV.eqL_self:∀l:List AV,AV.eqL l l=true
 |[]=>rfl
 |u::l=>by simp [AV.eqL,AV.eq_self u,AV.eqL_self l]
end
section
variable {P:Program}{tb:List FuncId}{gl:List (List AV)}{t:TypeId}{x y:Operand}{l:Fm}{H:Heap}{v:AV}{cs:List AV}{tl ro:Bool}{b:Nat}
theorem zo3 {k:Tmp}{its:List It}{Q:Fm→Heap→Prop}{o z i:Nat}(hp:plcOf P t 0=some ⟨o,false,z⟩) (hx:evA x l=some (.ptr b i)) (hr:IsRow H b cs tl ro) (hv:cs[i]? = some v) (ht:lk k l=some v) (h:IA P tb gl its l H Q):IA P tb gl (.ck k (.load t x)::its) l H Q:=
 ia_ck (v:=v) (fun T hT=>⟨H,by
  obtain ⟨_,tr,hB,hT'⟩:=hr;have hi:i<cs.length:=(Qb.1 hv).1;simp only [oper,oLoad,zbd hT hx,hp,loadR,hB,cond_false,hT' i hi,hv]⟩) ht (AV.eq_self v) h
variable {Q:AV→Heap→Prop}
theorem zbt {r:TypeId}{p q:List UInt8}{d:Bool}(hx:evA x l=some (S p)) (hy:evA y l=some (S q)) (hw:decide (p=q)=d) (k:Q (.bool d) H):OA P tb gl (.binOp .eql t x y r) l H Q:=oa_seql hx hy (by rw [hw];exact k)
theorem zg2 {r:TypeId}{p q:List UInt8}{d:Bool}(hx:evA x l=some (S p)) (hy:evA y l=some (S q)) (hw:(!decide (p=q))=d) (k:Q (.bool d) H):OA P tb gl (.binOp .neq t x y r) l H Q:=oa_sneq hx hy (by rw [hw];exact k)
end
end Eng
end Go.Proofs.YtniflgldgnmiaaaGreatDoor
namespace Go.Proofs.YtniflgldgnmiaaaGreatDoor
namespace Eng
open Go
section
variable {P:Program}{tb:List FuncId}{gl:List (List AV)}{t kt e:TypeId}{m x y:Operand}{l:Fm}{H:Heap}{Q:AV→Heap→Prop}{b:Nat}{k v:Int}{es:List (Int×Int)}
end
end Eng
end Go.Proofs.YtniflgldgnmiaaaGreatDoor
namespace Go.Proofs.YtniflgldgnmiaaaGreatDoor
namespace Eng
open Go
section
variable {P:Program}{tb:List FuncId}{gl:List (List AV)}{t e:TypeId}{x y i:Operand}{l:Fm}{H:Heap}{Q:AV→Heap→Prop}{v w:AV}{cs:List AV}{tl ro:Bool}{b n m es:Nat}
theorem zq0 {c:Call}{a b m:Int}{k:IntKind}(hc:c.callee=.builtin .max) (ha:c.args.toList=[x,y]) (hx:evA x l=some (.int k a)) (hy:evA y l=some (.int k b)) (hm:max a b=m) (q:Q (.int k m) H):OA P tb gl (.call c) l H Q:=
 oa (fun T hT=>by
  have hx':evL [x,y] T=some [.int k a,.int k b]:=zi9 hT (by simp only [evLA,hx,hy]);have e:(bif ilt a b then b else a)=m:=by
   rw [zo5,←hm];by_cases h:a<b
   ·rw [Qg h,cond_true];omega
   ·rw [Qf h,cond_false];omega
  simp only [oper,oCall,ha,hx',hc,oBuiltin,oMinMax,cond_true,e,zdi]) q
theorem oa_aneq {r:TypeId}{ds:List TypeDesc}{us vs:List AV}{c:Bool}(hF:flatF P t=some ds) (hg:P.eqGuardType P.depth t=false) (hx:evA x l=some (.agg us)) (hy:evA y l=some (.agg vs)) (hc:flatEq ds us vs=some c) (q:Q (.bool (!c)) H):OA P tb gl (.binOp .neq t x y r) l H Q:=
 oa (fun T hT=>by simp only [oper,oBin,zbd hT hx,zbd hT hy,hF,hg,cond_false,hc,eqOp,zdr]) q
theorem oa_mulW {t r:TypeId}{k:IntKind}{a b c:Int}(hx:evA x l=some (.int k a)) (hy:evA y l=some (.int k b)) (hw:k.wrap (a*b)=c) (q:Q (.int k c) H):OA P tb gl (.binOp .mul t x y r) l H Q:=oa_mul hx hy (hw▸q)
theorem zb8 {t r:TypeId}{k:IntKind}{a b:Int}(hx:evA x l=some (.int k a)) (hy:evA y l=some (.int k b)) (h:a<b) (q:Q (.bool true) H):OA P tb gl (.binOp .lss t x y r) l H Q:=zck hx hy (Qg h) q
theorem zcr {t r:TypeId}{k:IntKind}{a b:Int}(hx:evA x l=some (.int k a)) (hy:evA y l=some (.int k b)) (h:¬(a<b)) (q:Q (.bool false) H):OA P tb gl (.binOp .lss t x y r) l H Q:=zck hx hy (Qf h) q
theorem zex {t r:TypeId}{k:IntKind}{a b:Int}(hx:evA x l=some (.int k a)) (hy:evA y l=some (.int k b)) (h:a≤b) (q:Q (.bool true) H):OA P tb gl (.binOp .leq t x y r) l H Q:=zxf hx hy (Qg h) q
theorem zfx {t r:TypeId}{k:IntKind}{a b:Int}(hx:evA x l=some (.int k a)) (hy:evA y l=some (.int k b)) (h:¬(a≤b)) (q:Q (.bool false) H):OA P tb gl (.binOp .leq t x y r) l H Q:=zxf hx hy (Qf h) q
theorem zcn {t r:TypeId}{k:IntKind}{a b:Int}(hx:evA x l=some (.int k a)) (hy:evA y l=some (.int k b)) (h:b<a) (q:Q (.bool true) H):OA P tb gl (.binOp .gtr t x y r) l H Q:=zgl hx hy (Qg h) q
theorem zd1 {t r:TypeId}{k:IntKind}{a b:Int}(hx:evA x l=some (.int k a)) (hy:evA y l=some (.int k b)) (h:¬(b<a)) (q:Q (.bool false) H):OA P tb gl (.binOp .gtr t x y r) l H Q:=zgl hx hy (Qf h) q
theorem zew {t r:TypeId}{k:IntKind}{a b:Int}(hx:evA x l=some (.int k a)) (hy:evA y l=some (.int k b)) (h:b≤a) (q:Q (.bool true) H):OA P tb gl (.binOp .geq t x y r) l H Q:=zxc hx hy (Qg h) q
theorem zjg {t r:TypeId}{k:IntKind}{a b:Int}(hx:evA x l=some (.int k a)) (hy:evA y l=some (.int k b)) (h:¬(b≤a)) (q:Q (.bool false) H):OA P tb gl (.binOp .geq t x y r) l H Q:=zxc hx hy (Qf h) q
theorem zax {t r:TypeId}{k:IntKind}{a b:Int}(hx:evA x l=some (.int k a)) (hy:evA y l=some (.int k b)) (h:a=b) (q:Q (.bool true) H):OA P tb gl (.binOp .eql t x y r) l H Q:=zqy hx hy (Qg h) q
theorem za2 {t r:TypeId}{k:IntKind}{a b:Int}(hx:evA x l=some (.int k a)) (hy:evA y l=some (.int k b)) (h:¬(a=b)) (q:Q (.bool false) H):OA P tb gl (.binOp .eql t x y r) l H Q:=zqy hx hy (Qf h) q
theorem zfy {t r:TypeId}{k:IntKind}{a b:Int}(hx:evA x l=some (.int k a)) (hy:evA y l=some (.int k b)) (h:a≠b) (q:Q (.bool true) H):OA P tb gl (.binOp .neq t x y r) l H Q:=zxh hx hy (Qg h) q
theorem zc9 {t r:TypeId}{k:IntKind}{a b:Int}(hx:evA x l=some (.int k a)) (hy:evA y l=some (.int k b)) (h:¬(a≠b)) (q:Q (.bool false) H):OA P tb gl (.binOp .neq t x y r) l H Q:=zxh hx hy (Qf h) q
def plainO:Op→Fm→Option AV
 |.move x,l=>evA x l
 |.assign x,l=>evA x l
 |.extract x i,l=>match evA x l with|some (.tup vs)=>vs[i]?|_=>none
 |.unOp .not _ x,l=>match evA x l with|some (.bool b)=>some (.bool (!b))|_=>none
 |_,_=>none
def plainI:List It→Fm→List It×Fm
 |.op d o::its,l=>match plainO o l with|some v=>plainI its (stI d v l)|none=>(.op d o::its,l)
 |its,l=>(its,l)
theorem oa_plain {o:Op}{l:Fm}{v:AV}(h:plainO o l=some v) {H:Heap}{Q:AV→Heap→Prop}(q:Q v H):OA P tb gl o l H Q:=by
 unfold plainO at h;split at h
 ·exact zal h q
 ·exact zak h q
 ·split at h
  ·rename_i vs hx;exact zuh hx h q
  ·cases h
 ·split at h
  ·rename_i b hx;injection h with h
   subst h;exact zfh hx q
  ·cases h
 ·cases h
theorem zad:∀{its:List It}{l:Fm}{its':List It}{l':Fm}{H:Heap}{Q:Fm→Heap→Prop},plainI its l=(its',l')→IA P tb gl its' l' H Q→IA P tb gl its l H Q
 |.op d o::its,l,its',l',H,Q,h,k=>by
  unfold plainI at h;split at h
  ·rename_i v hv;exact zaa (oa_plain hv (zad h k))
  ·injection h with h1 h2
   subst h1 h2;exact k
 |.gd _ _ _ _::_,_,_,_,_,_,h,k=>by
  injection h with h1 h2
  subst h1 h2;exact k
 |.ck _ _::_,_,_,_,_,_,h,k=>by
  injection h with h1 h2
  subst h1 h2;exact k
 |.ckg _ _ _ _::_,_,_,_,_,_,h,k=>by
  injection h with h1 h2
  subst h1 h2;exact k
 |[],_,_,_,_,_,h,k=>by
  injection h with h1 h2
  subst h1 h2;exact k
def Nrm (R:Fm→Heap→Prop):Ex→Fm→Heap→Prop
 |.normal,l,H=>R l H
 |_,_,_=>False
theorem zj1 {v:CV}{Q:Ex→Fm→Heap→Prop}(R:Fm→Heap→Prop) (h:VA P tb gl v l H (Nrm R)) (k:∀l' H',R l' H'→Q .normal l' H'):VA P tb gl v l H Q:=
 h.mono fun e l' H' hr=>by
  cases e with
  |normal=>exact k l' H' hr
  |_=>exact hr.elim
theorem ztz {ds:List TypeDesc}{k:IntKind}{a b:Int}{us vs:List AV}{c:Bool}(h:flatEq ds us vs=some c):flatEq (.int k::ds) (.int k a::us) (.int k b::vs)=some (decide (a=b)&&c):=by
 have:ieq a b=decide (a=b):=by rw [zfd];by_cases h:a=b<;>simp [h]
 simp only [flatEq,decide_true,Bool.and_self,cond_true,h,this]
end
class UnF (P:Program) (t:TypeId) (d:outParam TypeDesc):Prop where h:P.underlying t=some d
class SzF (P:Program) (t:TypeId) (n:outParam Nat):Prop where h:szOf P t=some n
class PlF (P:Program) (t:TypeId) (p:outParam Plc):Prop where h:plcOf P t 0=some p
class ElF (P:Program) (t:TypeId) (E:outParam EI):Prop where h:elemI P t=some E
class ZeF (P:Program) (t:TypeId) (v:outParam AV):Prop where h:zeroOf P t=some v
class FpF (P:Program) (s:TypeId) (f:Nat) (p:outParam Plc):Prop where h:fieldPlc P s f=some p
class BsF (P:Program) (t:TypeId):Prop where h:structOK P t=true
class PsF (P:Program) (t:TypeId) (l:outParam (List (Nat×Nat))):Prop where h:plcsOK P t 0 l=true
abbrev Ja (n:Nat):Operand:=.tmp n
abbrev Jb (z:Int):Operand:=.const (.int .i64 z)
abbrev Jc (k:Nat) (c:Op):It:=.op (some k) c
abbrev Jd (k n:Nat):It:=.op (some k) (.move (.tmp n))
abbrev Je (k:Nat) (z:Int):It:=.op (some k) (.move (.const (.int .i64 z)))
abbrev Jf (k t n:Nat):It:=.op (some k) (.load t (.tmp n))
abbrev Jg (k t n i:Nat):It:=.op (some k) (.fieldAddr t (.tmp n) i)
abbrev Jh (k n:Nat):It:=.op (some k) (.assign (.tmp n))
abbrev Ji (k:Nat) (z:Int):It:=.op (some k) (.assign (.const (.int .i64 z)))
abbrev Jj (k n t:Nat):It:=.op (some k) (.call ⟨.builtin .len,#[.tmp n],#[t]⟩)
abbrev Jk (k t a b:Nat):It:=.op (some k) (.indexAddr t (.tmp a) (.tmp b))
abbrev Jl (k a i:Nat):It:=.op (some k) (.extract (.tmp a) i)
abbrev Jm (k a:Nat):It:=.op (some k) (.nilCheck (.tmp a))
abbrev Jn (k f a t:Nat):It:=.op (some k) (.call ⟨.value (.func f),#[.tmp a],#[t]⟩)
abbrev Jo (k f a b t u:Nat):It:=.op (some k) (.call ⟨.value (.func f),#[.tmp a,.tmp b],#[t,u]⟩)
abbrev Jp (g:Nat) (w:Bool) (k n:Nat):It:=.gd g w (some k) (.move (.tmp n))
abbrev Jq (g:Nat) (w:Bool) (k t n i:Nat):It:=.gd g w (some k) (.fieldAddr t (.tmp n) i)
abbrev Jr (g:Nat) (w:Bool) (k t n:Nat):It:=.gd g w (some k) (.load t (.tmp n))
abbrev Js (g:Nat) (w:Bool) (k:Nat) (c:Op):It:=.gd g w (some k) c
abbrev Jt (l:List It) (c:CV):CV:=.seq (.reg l) c
theorem Ju {z c:Int}(e:z=c:=by omega) (h : -9223372036854775808≤c:=by omega) (k:c<9223372036854775808:=by omega):IntKind.i64.wrap z=c:=zas e h k
end Eng
end Go.Proofs.YtniflgldgnmiaaaGreatDoor
