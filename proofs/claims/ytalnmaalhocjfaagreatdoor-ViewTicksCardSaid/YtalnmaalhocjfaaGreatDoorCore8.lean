/-
  THE ENGINE, part WA: more depth changes nothing that is there.
-/
import Derived.Test.YtalnmaalhocjfaaGreatDoorCore7
import Derived.ChangeArms
namespace Go.Proofs.YtalnmaalhocjfaaGreatDoor
namespace Eng
open Go
section
variable {P : Program}

def LeC (c d : CallF) : Prop := ∀ f xs H, c f xs H ≠ .bad → d f xs H = c f xs H
def LeX (c d : ExF) : Prop := ∀ k S, c k S ≠ .bad → d k S = c k S
theorem oper_le {c d : CallF} (h : LeC c d) (o : Op) (T : Tm) (H : Heap) (hne : oper P c o T H ≠ .bad) : oper P d o T H = oper P c o T H := by
  cases o with
  | call k =>
    have hne : oCall P c k T H ≠ .bad := hne
    show oCall P d k T H = oCall P c k T H
    unfold oCall at hne ⊢
    cases he : evL k.args.toList T with
    | none => rfl
    | some xs =>
      simp only [he] at hne ⊢
      cases hk : k.callee with
      | builtin b => rfl
      | invoke _ _ => rfl
      | value f =>
        simp only [hk] at hne ⊢
        cases hv : ev f T with
        | none => rfl
        | some v =>
          cases v with
          | fn g l =>
            simp only [hv] at hne ⊢
            rw [h g (xs ++ l) H (fun e => hne (by rw [e]; rfl))]
          | _ => rfl
  | _ => rfl
theorem opsR_le {c d : CallF} (h : LeC c d) (ops : Array Oper) : ∀ (l : List Oper) (S : St), opsR P c ops l S ≠ .bad → opsR P d ops l S = opsR P c ops l S
  | [], S, _ => rfl
  | o :: l, S, hne => by
    simp only [opsR, oneOp] at hne ⊢
    cases hw : want ops o.guard S.T with
    | none => rfl
    | some b =>
      cases b with
      | false =>
        simp only [hw, putT_eq] at hne ⊢
        exact opsR_le h ops l _ hne
      | true =>
        simp only [hw] at hne ⊢
        have hb : oper P c o.op S.T S.H ≠ .bad := fun e => hne (by rw [e]; rfl)
        rw [oper_le h o.op S.T S.H hb]
        cases hr : oper P c o.op S.T S.H with
        | val v H => simp only [hr, after, putT_eq] at hne ⊢; exact opsR_le h ops l _ hne
        | dfr f xs => simp only [hr, after, putT_eq] at hne ⊢; exact opsR_le h ops l _ hne
        | pan v H => rfl
        | bad => exact absurd hr hb
        | rcv => rfl
theorem drawR_le {c d : CallF} (h : LeC c d) (ops : Array Oper) : ∀ (l : List Mv) (S : St), drawR P c ops l S ≠ .bad → drawR P d ops l S = drawR P c ops l S
  | [], S, _ => rfl
  | .ck i :: l, S, hne => by
    simp only [drawR] at hne ⊢
    cases ho : ops[i]? with
    | none => rfl
    | some o =>
      simp only [ho] at hne ⊢
      cases hk : ckOp P ops o S with
      | false => rfl
      | true => simp only [hk, cond_true] at hne ⊢; exact drawR_le h ops l S hne
  | .ex i fin :: l, S, hne => by
    simp only [drawR] at hne ⊢
    cases ho : ops[i]? with
    | none => rfl
    | some o =>
      simp only [ho] at hne ⊢
      cases hw : want ops o.guard S.T with
      | none => rfl
      | some b =>
        cases b with
        | false => simp only [hw, putT_eq] at hne ⊢; exact drawR_le h ops l _ hne
        | true =>
          simp only [hw] at hne ⊢
          have hb : oper P c o.op S.T S.H ≠ .bad := fun e => hne (by rw [e])
          rw [oper_le h o.op S.T S.H hb]
          cases hr : oper P c o.op S.T S.H with
          | val v H => simp only [hr, putT_eq] at hne ⊢; exact drawR_le h ops l _ hne
          | dfr f xs => simp only [hr, putT_eq] at hne ⊢; exact drawR_le h ops l _ hne
          | pan v H => rfl
          | bad => exact absurd hr hb
          | rcv => rfl
theorem regionR_le {c d : CallF} (h : LeC c d) (ops : Array Oper) (dr : Bool) (S : St) (hne : regionR P c ops dr S ≠ .bad) : regionR P d ops dr S = regionR P c ops dr S := by
  cases dr with
  | false => exact opsR_le h ops _ S hne
  | true =>
    simp only [regionR] at hne ⊢
    cases hp : planOf P ops with
    | none => rfl
    | some l => simp only [hp] at hne ⊢; exact drawR_le h ops l S hne
theorem seqK_le {f g : St → Res} {r s : Res} (hr : r ≠ .bad → s = r) (hf : ∀ S, f S ≠ .bad → g S = f S) (hne : seqK f r ≠ .bad) : seqK g s = seqK f r := by
  have hb : r ≠ .bad := fun e => hne (by rw [e]; rfl)
  rw [hr hb]
  cases r with
  | bad => rfl
  | ok e S =>
    cases e with
    | normal => exact hf S hne
    | _ => rfl
theorem stepC_le {c d : CallF} (h : LeC c d) {i j : ExF} (hx : LeX i j) : LeX (stepC P c i) (stepC P d j) := by
  intro k
  induction k with
  | region id ops dr => intro S hne; exact regionR_le h ops dr S hne
  | seq a b iha ihb => intro S hne; exact seqK_le (iha S) ihb hne
  | cond x a b iha ihb =>
    intro S hne
    simp only [stepC, condK] at hne ⊢
    cases hv : ev x S.T with
    | none => rfl
    | some v =>
      cases v with
      | bool w => cases w <;> simp only [hv] at hne ⊢ <;> first | exact iha S hne | exact ihb S hne
      | _ => rfl
  | block id b ihb =>
    intro S hne
    simp only [stepC] at hne ⊢
    have hb : stepC P c i b S ≠ .bad := fun e => hne (by rw [e]; rfl)
    rw [ihb S hb]
  | loop b ihb => intro S hne; exact seqK_le (ihb S) (hx (.loop b)) hne
  | scope b ihb => intro S hne; exact ihb S hne
  | _ => intro S _; rfl
theorem opsD_le {c d : CallF} (h : LeC c d) (ops : Array Oper) : ∀ (l : List Oper) (S : St) (u : Up), opsD P c ops l S u ≠ .bad → opsD P d ops l S u = opsD P c ops l S u
  | [], S, u, _ => rfl
  | o :: l, S, u, hne => by
    simp only [opsD] at hne ⊢
    cases hw : want ops o.guard S.T with
    | none => rfl
    | some b =>
      cases b with
      | false => simp only [hw, putT_eq] at hne ⊢; exact opsD_le h ops l _ _ hne
      | true =>
        simp only [hw] at hne ⊢
        have hb : oper P c o.op S.T S.H ≠ .bad := fun e => hne (by rw [e])
        rw [oper_le h o.op S.T S.H hb]
        cases hr : oper P c o.op S.T S.H with
        | val v H => simp only [hr, putT_eq] at hne ⊢; exact opsD_le h ops l _ _ hne
        | rcv => simp only [hr, putT_eq] at hne ⊢; exact opsD_le h ops l _ _ hne
        | _ => rfl
theorem execD_le {c d : CallF} (h : LeC c d) {i j : ExF} (hx : LeX i j) : ∀ (k : Code) (S : St) (u : Up), execD P c i k S u ≠ .bad → execD P d j k S u = execD P c i k S u := by
  have lift : ∀ (k : Code) (S : St) (u : Up), liftD u (i k S) ≠ .bad → liftD u (j k S) = liftD u (i k S) := by
    intro k S u hne
    have hb : i k S ≠ .bad := fun e => hne (by rw [e]; rfl)
    rw [hx k S hb]
  intro k
  induction k with
  | seq a b iha ihb =>
    intro S u hne
    simp only [execD] at hne ⊢
    have hb : execD P c i a S u ≠ .bad := fun e => hne (by rw [e])
    rw [iha S u hb]
    cases hr : execD P c i a S u with
    | bad => rfl
    | ok e S' u' =>
      cases e with
      | normal => simp only [hr] at hne ⊢; exact ihb _ _ hne
      | _ => rfl
  | cond x a b iha ihb =>
    intro S u hne
    simp only [execD] at hne ⊢
    cases hv : ev x S.T with
    | none => rfl
    | some v =>
      cases v with
      | bool w => cases w <;> simp only [hv] at hne ⊢ <;> first | exact iha S u hne | exact ihb S u hne
      | _ => rfl
  | region id ops dr =>
    intro S u hne
    cases dr with
    | false => exact opsD_le h ops _ S u hne
    | true => exact lift _ S u hne
  | _ => intro S u hne; exact lift _ S u hne
theorem runDefers_le {c d : CallF} (h : LeC c d) {i j : ExF} (hx : LeX i j) : ∀ (ds : List (FuncId × List AV)) (m : Md) (H : Heap), runDefers P c i ds m H ≠ none → runDefers P d j ds m H = runDefers P c i ds m H
  | [], _, _, _ => rfl
  | (f, xs) :: ds, m, H, hne => by
    simp only [runDefers] at hne ⊢
    cases hf : P.funcs[f]? with
    | none => rfl
    | some fn =>
      simp only [hf] at hne ⊢
      cases hb : fn.body with
      | none => rfl
      | some k =>
        simp only [hb, argsT_eq] at hne ⊢
        have hx' : execD P c i k ⟨layT .lf 0 xs, H, []⟩ (upOf m) ≠ .bad := fun e => hne (by rw [e])
        rw [execD_le h hx k _ _ hx']
        cases hr : execD P c i k ⟨layT .lf 0 xs, H, []⟩ (upOf m) with
        | bad => rfl
        | ok e S u =>
          simp only [hr] at hne ⊢
          cases e with
          | exit _ => rfl
          | panic v =>
            cases hc : S.D.isEmpty with
            | false => simp only [hc, cond_false]
            | true => simp only [hc, cond_true] at hne ⊢; exact runDefers_le h hx ds _ _ hne
          | normal =>
            cases hc : S.D.isEmpty && (resA P fn S.T S.H).isSome with
            | false => simp only [hc, cond_false]
            | true => simp only [hc, cond_true] at hne ⊢; exact runDefers_le h hx ds _ _ hne
          | ret =>
            cases hc : S.D.isEmpty && (resA P fn S.T S.H).isSome with
            | false => simp only [hc, cond_false]
            | true => simp only [hc, cond_true] at hne ⊢; exact runDefers_le h hx ds _ _ hne
theorem leave_le {c d : CallF} (h : LeC c d) {i j : ExF} (hx : LeX i j) (fn : Func) (m : Md) (S : St) (hne : leave P c i fn m S ≠ .bad) : leave P d j fn m S = leave P c i fn m S := by
  unfold leave at hne ⊢
  cases hD : S.D with
  | nil => rfl
  | cons x ds =>
    simp only [hD] at hne ⊢
    have hb : runDefers P c i (x :: ds) m S.H ≠ none := fun e => hne (by rw [e])
    rw [runDefers_le h hx _ _ _ hb]
theorem callB_le {c d : CallF} (h : LeC c d) {i j : ExF} (hx : LeX i j) : LeC (callB P c i) (callB P d j) := by
  intro f xs H hne
  simp only [callB] at hne ⊢
  cases hf : P.funcs[f]? with
  | none => rfl
  | some fn =>
    simp only [hf] at hne ⊢
    cases hb : fn.body with
    | none => rfl
    | some k =>
      simp only [hb, argsT_eq] at hne ⊢
      have hx' : i k ⟨layT .lf 0 xs, H, []⟩ ≠ .bad := fun e => hne (by rw [e])
      rw [hx k _ hx']
      cases hr : i k ⟨layT .lf 0 xs, H, []⟩ with
      | bad => rfl
      | ok e S =>
        simp only [hr] at hne ⊢
        cases e with
        | exit _ => rfl
        | _ => exact leave_le h hx _ _ _ hne
theorem callO_le {tb : List FuncId} {gl : List (List AV)} {c d : CallF} (h : LeC c d) : LeC (callO tb gl c) (callO tb gl d) := by
  intro f xs H hne
  cases xs with
  | cons x l => exact h f (x :: l) H hne
  | nil =>
    simp only [callO] at hne ⊢
    cases hm : memF f tb with
    | false => simp only [hm, cond_false] at hne ⊢; exact h f [] H hne
    | true => rfl
theorem levelO_le (tb : List FuncId) (gl : List (List AV)) : ∀ n, LeX (execO P tb gl n) (execO P tb gl (n + 1)) ∧ LeC (callFO P tb gl n) (callFO P tb gl (n + 1))
  | 0 => ⟨fun _ _ h => absurd rfl h, fun _ _ _ h => absurd rfl h⟩
  | n + 1 => by
    obtain ⟨h1, h2⟩ := levelO_le tb gl n
    have h3 : LeC (callFO P tb gl (n + 1)) (callFO P tb gl (n + 2)) := callO_le (callB_le h2 h1)
    exact ⟨stepC_le h3 h1, h3⟩
theorem LeX.refl (c : ExF) : LeX c c := fun _ _ _ => rfl
theorem LeC.refl (c : CallF) : LeC c c := fun _ _ _ _ => rfl
theorem LeX.trans {a b c : ExF} (h : LeX a b) (k : LeX b c) : LeX a c := fun x S hne => by
  have e := h x S hne
  rw [k x S (by rw [e]; exact hne), e]
theorem LeC.trans {a b c : CallF} (h : LeC a b) (k : LeC b c) : LeC a c := fun f xs H hne => by
  have e := h f xs H hne
  rw [k f xs H (by rw [e]; exact hne), e]
theorem execO_add (tb : List FuncId) (gl : List (List AV)) (n : Nat) : ∀ k, LeX (execO P tb gl n) (execO P tb gl (n + k))
  | 0 => .refl _
  | k + 1 => (execO_add tb gl n k).trans (levelO_le tb gl (n + k)).1
theorem callFO_add (tb : List FuncId) (gl : List (List AV)) (n : Nat) : ∀ k, LeC (callFO P tb gl n) (callFO P tb gl (n + k))
  | 0 => .refl _
  | k + 1 => (callFO_add tb gl n k).trans (levelO_le tb gl (n + k)).2
theorem execO_le {tb : List FuncId} {gl : List (List AV)} {n m : Nat} (h : n ≤ m) {c : Code} {S S' : St} {e : Ex} (hx : execO P tb gl n c S = .ok e S') : execO P tb gl m c S = .ok e S' := by
  obtain ⟨k, rfl⟩ := Nat.exists_eq_add_of_le h
  rw [execO_add tb gl n k c S (by rw [hx]; intro h; cases h), hx]
theorem callFO_le {tb : List FuncId} {gl : List (List AV)} {n m : Nat} (h : n ≤ m) : LeC (callFO P tb gl n) (callFO P tb gl m) := by
  obtain ⟨k, rfl⟩ := Nat.exists_eq_add_of_le h
  exact callFO_add tb gl n k
end
end Eng
end Go.Proofs.YtalnmaalhocjfaaGreatDoor
namespace Go.Proofs.YtalnmaalhocjfaaGreatDoor
namespace Eng
open Go

/-! ### code as it is seen -/
/-- an operation of a region: its guard (a slot that must bear a truth), where its value goes -/
inductive It where
  | op (d : Option Tmp) (o : Op)
  | gd (t : Tmp) (w : Bool) (d : Option Tmp) (o : Op)
  | ck (t : Tmp) (o : Op)
inductive CV where
  | reg (l : List It)
  | seq (a b : CV)
  | cond (x : Operand) (a b : CV)
  | block (id : Nat) (b : CV)
  | loop (b : CV)
  | exit (id : Nat)
  | skip
  | ret
def itOf (ops : Array Oper) (o : Oper) : Option It := match o.guard with
  | none => some (.op o.dst o.op)
  | some (j, w) => match (ops[j]?).bind (·.dst) with
    | some t => some (.gd t w o.dst o.op)
    | none => none
def ckOf (o : Oper) : Option It := match o.guard, o.dst with
  | none, some t => some (.ck t o.op)
  | _, _ => none
def itsS (ops : Array Oper) : List Oper → Option (List It)
  | [] => some []
  | o :: l => match itOf ops o, itsS ops l with | some i, some r => some (i :: r) | _, _ => none
def itsD (ops : Array Oper) : List Mv → Option (List It)
  | [] => some []
  | .ex i _ :: l => match (ops[i]?).bind (itOf ops), itsD ops l with | some i, some r => some (i :: r) | _, _ => none
  | .ck i :: l => match (ops[i]?).bind ckOf, itsD ops l with | some i, some r => some (i :: r) | _, _ => none
def viewR (P : Program) (ops : Array Oper) (draw : Bool) : Option (List It) := match draw with
  | false => itsS ops ops.toList
  | true => match planOf P ops with | some l => itsD ops l | none => none
def viewC (P : Program) : Code → Option CV
  | .region _ ops draw => match viewR P ops draw with | some l => some (.reg l) | none => none
  | .seq a b => match viewC P a, viewC P b with | some a, some b => some (.seq a b) | _, _ => none
  | .cond x a b => match viewC P a, viewC P b with | some a, some b => some (.cond x a b) | _, _ => none
  | .block id b => match viewC P b with | some b => some (.block id b) | none => none
  | .loop b => match viewC P b with | some b => some (.loop b) | none => none
  | .scope b => viewC P b
  | .exit id => some (.exit id)
  | .ret => some .ret
  | .skip => some .skip
  | .label _ => some .skip
  | _ => none
section
variable {P : Program} {tb : List FuncId} {gl : List (List AV)}

def botC : CallF := fun _ _ _ => .bad
theorem botC_le (c : CallF) : LeC botC c := fun _ _ _ h => absurd rfl h
def putI (d : Option Tmp) (v : AV) (T : Tm) : Tm := match d with | some t => T.set (bits t) (some v) | none => T
/-- what follows an operation, its guard's truth known -/
def runI (P : Program) (call : CallF) : List It → Tm → Heap → Option (Tm × Heap)
  | [], T, H => some (T, H)
  | .op d o :: l, T, H => match oper P call o T H with
    | .val v H => runI P call l (putI d v T) H
    | _ => none
  | .gd t w d o :: l, T, H => match T.get (bits t) with
    | some (.bool b) => bif b == w then (match oper P call o T H with
        | .val v H => runI P call l (putI d v T) H
        | _ => none) else runI P call l (putI d undefA T) H
    | some _ => runI P call l (putI d undefA T) H
    | none => none
  | .ck t o :: l, T, H => match oper P (fun _ _ _ => .bad) o T H, T.get (bits t) with
    | .val v _, some u => bif AV.eq u v then runI P call l T H else none
    | _, _ => none
theorem itOf_run {call : CallF} {ops : Array Oper} {o : Oper} {i : It} (hi : itOf ops o = some i) {l : List It} {T T' : Tm} {H H' : Heap} (h : runI P call (i :: l) T H = some (T', H')) :
    (want ops o.guard T = some true ∧ ∃ v H1, oper P call o.op T H = .val v H1 ∧ runI P call l (putI o.dst v T) H1 = some (T', H')) ∨
    (want ops o.guard T = some false ∧ runI P call l (putI o.dst undefA T) H = some (T', H')) := by
  unfold itOf at hi
  cases hg : o.guard with
  | none =>
    rw [hg] at hi
    injection hi with hi
    subst hi
    simp only [runI] at h
    cases ho : oper P call o.op T H with
    | val v H1 => rw [ho] at h; exact .inl ⟨rfl, v, H1, rfl, h⟩
    | _ => rw [ho] at h; cases h
  | some g =>
    obtain ⟨j, w⟩ := g
    rw [hg] at hi
    simp only at hi
    cases hd : (ops[j]?).bind (·.dst) with
    | none => rw [hd] at hi; cases hi
    | some t =>
      rw [hd] at hi
      injection hi with hi
      subst hi
      simp only [runI] at h
      simp only [want, hd]
      cases ht : T.get (bits t) with
      | none => rw [ht] at h; cases h
      | some u =>
        rw [ht] at h
        cases u with
        | bool b =>
          simp only at h ⊢
          cases hb : b == w with
          | false => rw [hb] at h; exact .inr ⟨rfl, h⟩
          | true =>
            rw [hb] at h
            simp only [cond_true] at h
            cases ho : oper P call o.op T H with
            | val v H1 => rw [ho] at h; exact .inl ⟨rfl, v, H1, rfl, h⟩
            | _ => rw [ho] at h; cases h
        | _ => exact .inr ⟨rfl, h⟩
theorem itsS_run {call : CallF} {ops : Array Oper} : ∀ {l : List Oper} {r : List It}, itsS ops l = some r → ∀ {T T' : Tm} {H H' : Heap} {D : List (FuncId × List AV)}, runI P call r T H = some (T', H') → opsR P call ops l ⟨T, H, D⟩ = .ok .normal ⟨T', H', D⟩
  | [], r, hr, T, T', H, H', D, h => by
    injection hr with hr
    subst hr
    simp only [runI, Option.some.injEq, Prod.mk.injEq] at h
    obtain ⟨rfl, rfl⟩ := h
    rfl
  | o :: l, r, hr, T, T', H, H', D, h => by
    simp only [itsS] at hr
    split at hr
    · rename_i i r' hi hr'
      injection hr with hr
      subst hr
      simp only [opsR, oneOp]
      rcases itOf_run hi h with ⟨hw, v, H1, ho, h⟩ | ⟨hw, h⟩
      · simp only [hw, ho, after, putT_eq]
        exact itsS_run hr' h
      · simp only [hw, putT_eq]
        exact itsS_run hr' h
    · cases hr
theorem itsD_run {call : CallF} {ops : Array Oper} : ∀ {l : List Mv} {r : List It}, itsD ops l = some r → ∀ {T T' : Tm} {H H' : Heap} {D : List (FuncId × List AV)}, runI P call r T H = some (T', H') → drawR P call ops l ⟨T, H, D⟩ = .ok .normal ⟨T', H', D⟩
  | [], r, hr, T, T', H, H', D, h => by
    injection hr with hr
    subst hr
    simp only [runI, Option.some.injEq, Prod.mk.injEq] at h
    obtain ⟨rfl, rfl⟩ := h
    rfl
  | .ex i fin :: l, r, hr, T, T', H, H', D, h => by
    simp only [itsD] at hr
    split at hr
    · rename_i it r' hi hr'
      injection hr with hr
      subst hr
      cases ho : ops[i]? with
      | none => rw [ho] at hi; cases hi
      | some o =>
        rw [ho] at hi
        simp only [drawR, ho]
        rcases itOf_run hi h with ⟨hw, v, H1, hv, h⟩ | ⟨hw, h⟩
        · simp only [hw, hv, putT_eq]
          exact itsD_run hr' h
        · simp only [hw, putT_eq]
          exact itsD_run hr' h
    · cases hr
  | .ck i :: l, r, hr, T, T', H, H', D, h => by
    simp only [itsD] at hr
    split at hr
    · rename_i it r' hi hr'
      injection hr with hr
      subst hr
      cases ho : ops[i]? with
      | none => rw [ho] at hi; cases hi
      | some o =>
        rw [ho] at hi
        simp only [Option.bind_some, ckOf] at hi
        split at hi
        · rename_i t hg hd
          injection hi with hi
          subst hi
          simp only [runI] at h
          simp only [drawR, ho, ckOp, hg, want, hd]
          split at h
          · rename_i v H1 u hv hu
            simp only [hv, hu]
            cases he : AV.eq u v with
            | false => rw [he] at h; cases h
            | true =>
              rw [he] at h
              exact itsD_run hr' h
          · cases h
        · cases hi
    · cases hr
theorem viewR_run {call : CallF} {ops : Array Oper} {dr : Bool} {r : List It} (hr : viewR P ops dr = some r) {T T' : Tm} {H H' : Heap} {D : List (FuncId × List AV)} (h : runI P call r T H = some (T', H')) : regionR P call ops dr ⟨T, H, D⟩ = .ok .normal ⟨T', H', D⟩ := by
  cases dr with
  | false => exact itsS_run hr h
  | true =>
    simp only [viewR] at hr
    cases hp : planOf P ops with
    | none => rw [hp] at hr; cases hr
    | some l =>
      rw [hp] at hr
      simp only [regionR, hp]
      exact itsD_run hr h

/-! ### conditions ahead -/
variable (P tb gl) in
def Wp (c : Code) (S : St) (Q : Ex → St → Prop) : Prop := ∃ n e S', execO P tb gl n c S = .ok e S' ∧ Q e S'
variable (P tb gl) in
def WpF (f : FuncId) (xs : List AV) (H : Heap) (Q : AV → Heap → Prop) : Prop := ∃ n v H', callFO P tb gl n f xs H = .ret v H' ∧ Q v H'
variable (P tb gl) in
def WpO (o : Op) (T : Tm) (H : Heap) (Q : AV → Heap → Prop) : Prop := ∃ n v H', oper P (callFO P tb gl n) o T H = .val v H' ∧ Q v H'
variable (P tb gl) in
def WpI (l : List It) (T : Tm) (H : Heap) (Q : Tm → Heap → Prop) : Prop := ∃ n T' H', runI P (callFO P tb gl n) l T H = some (T', H') ∧ Q T' H'
variable (P tb gl) in
def WpV (v : CV) (T : Tm) (H : Heap) (Q : Ex → Tm → Heap → Prop) : Prop := ∀ c, viewC P c = some v → Wp P tb gl c ⟨T, H, []⟩ fun e S => S.D = [] ∧ Q e S.T S.H

theorem WpF.mono {f : FuncId} {xs : List AV} {H : Heap} {Q Q' : AV → Heap → Prop} (h : WpF P tb gl f xs H Q) (k : ∀ v H', Q v H' → Q' v H') : WpF P tb gl f xs H Q' := by
  obtain ⟨n, v, H', h1, h2⟩ := h
  exact ⟨n, v, H', h1, k v H' h2⟩
theorem WpO.mono {o : Op} {T : Tm} {H : Heap} {Q Q' : AV → Heap → Prop} (h : WpO P tb gl o T H Q) (k : ∀ v H', Q v H' → Q' v H') : WpO P tb gl o T H Q' := by
  obtain ⟨n, v, H', h1, h2⟩ := h
  exact ⟨n, v, H', h1, k v H' h2⟩
theorem WpI.mono {l : List It} {T : Tm} {H : Heap} {Q Q' : Tm → Heap → Prop} (h : WpI P tb gl l T H Q) (k : ∀ T' H', Q T' H' → Q' T' H') : WpI P tb gl l T H Q' := by
  obtain ⟨n, v, H', h1, h2⟩ := h
  exact ⟨n, v, H', h1, k v H' h2⟩
theorem WpV.mono {v : CV} {T : Tm} {H : Heap} {Q Q' : Ex → Tm → Heap → Prop} (h : WpV P tb gl v T H Q) (k : ∀ e T' H', Q e T' H' → Q' e T' H') : WpV P tb gl v T H Q' := by
  intro c hc
  obtain ⟨n, e, S', h1, h2, h3⟩ := h c hc
  exact ⟨n, e, S', h1, h2, k _ _ _ h3⟩

theorem oper_add {n m : Nat} (h : n ≤ m) {o : Op} {T : Tm} {H H' : Heap} {v : AV} (ho : oper P (callFO P tb gl n) o T H = .val v H') : oper P (callFO P tb gl m) o T H = .val v H' := by
  rw [oper_le (callFO_le h) o T H (by rw [ho]; intro h; cases h), ho]
theorem runI_add {n m : Nat} (h : n ≤ m) : ∀ {l : List It} {T T' : Tm} {H H' : Heap}, runI P (callFO P tb gl n) l T H = some (T', H') → runI P (callFO P tb gl m) l T H = some (T', H')
  | [], _, _, _, _, hr => hr
  | .op d o :: l, T, T', H, H', hr => by
    simp only [runI] at hr ⊢
    cases ho : oper P (callFO P tb gl n) o T H with
    | val v H1 =>
      rw [ho] at hr
      rw [oper_add h ho]
      exact runI_add h hr
    | _ => rw [ho] at hr; cases hr
  | .gd t w d o :: l, T, T', H, H', hr => by
    simp only [runI] at hr ⊢
    cases ht : T.get (bits t) with
    | none => rw [ht] at hr; cases hr
    | some u =>
      rw [ht] at hr
      cases u with
      | bool b =>
        simp only at hr ⊢
        cases hb : b == w with
        | false => rw [hb] at hr; exact runI_add h hr
        | true =>
          rw [hb] at hr
          simp only [cond_true] at hr ⊢
          cases ho : oper P (callFO P tb gl n) o T H with
          | val v H1 =>
            rw [ho] at hr
            rw [oper_add h ho]
            exact runI_add h hr
          | _ => rw [ho] at hr; cases hr
      | _ => exact runI_add h hr
  | .ck t o :: l, T, T', H, H', hr => by
    simp only [runI] at hr ⊢
    split at hr
    · rename_i v H1 u hv hu
      cases he : AV.eq u v with
      | false => rw [he] at hr; cases hr
      | true =>
        rw [he] at hr
        simp only [cond_true] at hr ⊢
        exact runI_add h hr
    · cases hr

/-! ### operations -/
theorem wpo {o : Op} {T : Tm} {H : Heap} {Q : AV → Heap → Prop} {v : AV} {H' : Heap} (h : oper P botC o T H = .val v H') (k : Q v H') : WpO P tb gl o T H Q :=
  ⟨0, v, H', by rw [oper_le (botC_le _) o T H (by rw [h]; intro h; cases h), h], k⟩
theorem wpo_call {c : Call} {T : Tm} {H : Heap} {Q : AV → Heap → Prop} {xs : List AV} {f : Operand} {g : FuncId} {l : List AV} (he : evL c.args.toList T = some xs) (hc : c.callee = .value f) (hf : ev f T = some (.fn g l))
    (k : WpF P tb gl g (xs ++ l) H Q) : WpO P tb gl (.call c) T H Q := by
  obtain ⟨n, v, H', h1, h2⟩ := k
  exact ⟨n, v, H', by show oCall P _ c T H = _; simp only [oCall, he, hc, hf, h1, ofCall], h2⟩
theorem wpi_nil {T : Tm} {H : Heap} {Q : Tm → Heap → Prop} (h : Q T H) : WpI P tb gl [] T H Q := ⟨0, T, H, rfl, h⟩
theorem wpi_op {d : Option Tmp} {o : Op} {l : List It} {T : Tm} {H : Heap} {Q : Tm → Heap → Prop} (h : WpO P tb gl o T H fun v H' => WpI P tb gl l (putI d v T) H' Q) : WpI P tb gl (.op d o :: l) T H Q := by
  obtain ⟨n, v, H1, ho, m, T', H', hr, hq⟩ := h
  refine ⟨max n m, T', H', ?_, hq⟩
  simp only [runI, oper_add (Nat.le_max_left n m) ho]
  exact runI_add (Nat.le_max_right n m) hr
theorem wpi_gd_yes {t : Tmp} {w : Bool} {d : Option Tmp} {o : Op} {l : List It} {T : Tm} {H : Heap} {Q : Tm → Heap → Prop} (ht : T.get (bits t) = some (.bool w)) (h : WpO P tb gl o T H fun v H' => WpI P tb gl l (putI d v T) H' Q) : WpI P tb gl (.gd t w d o :: l) T H Q := by
  obtain ⟨n, v, H1, ho, m, T', H', hr, hq⟩ := h
  refine ⟨max n m, T', H', ?_, hq⟩
  simp only [runI, ht, beq_self_eq_true, cond_true, oper_add (Nat.le_max_left n m) ho]
  exact runI_add (Nat.le_max_right n m) hr
theorem wpi_gd_no {t : Tmp} {w : Bool} {d : Option Tmp} {o : Op} {l : List It} {T : Tm} {H : Heap} {Q : Tm → Heap → Prop} (ht : T.get (bits t) = some (.bool (!w))) (h : WpI P tb gl l (putI d undefA T) H Q) : WpI P tb gl (.gd t w d o :: l) T H Q := by
  obtain ⟨m, T', H', hr, hq⟩ := h
  refine ⟨m, T', H', ?_, hq⟩
  have : ((!w) == w) = false := by cases w <;> rfl
  simp only [runI, ht, this, cond_false]
  exact hr
theorem wpi_gd_un {t : Tmp} {w : Bool} {d : Option Tmp} {o : Op} {l : List It} {T : Tm} {H : Heap} {Q : Tm → Heap → Prop} (ht : T.get (bits t) = some undefA) (h : WpI P tb gl l (putI d undefA T) H Q) : WpI P tb gl (.gd t w d o :: l) T H Q := by
  obtain ⟨m, T', H', hr, hq⟩ := h
  exact ⟨m, T', H', by simp only [runI, ht, undefA]; exact hr, hq⟩
theorem wpi_gd {t : Tmp} {w b : Bool} {d : Option Tmp} {o : Op} {l : List It} {T : Tm} {H : Heap} {Q : Tm → Heap → Prop} (ht : T.get (bits t) = some (.bool b)) (h : b = w → WpO P tb gl o T H fun v H' => WpI P tb gl l (putI d v T) H' Q)
    (k : b = !w → WpI P tb gl l (putI d undefA T) H Q) : WpI P tb gl (.gd t w d o :: l) T H Q := by
  by_cases e : b = w
  · subst e; exact wpi_gd_yes ht (h rfl)
  · have e : b = !w := by cases b <;> cases w <;> simp at e ⊢
    subst e; exact wpi_gd_no ht (k rfl)
theorem wpi_ck {t : Tmp} {o : Op} {l : List It} {T : Tm} {H H1 : Heap} {Q : Tm → Heap → Prop} {u v : AV} (ho : oper P botC o T H = .val v H1) (ht : T.get (bits t) = some u) (he : AV.eq u v = true) (h : WpI P tb gl l T H Q) : WpI P tb gl (.ck t o :: l) T H Q := by
  obtain ⟨m, T', H', hr, hq⟩ := h
  refine ⟨m, T', H', ?_, hq⟩
  have ho : oper P (fun _ _ _ => .bad) o T H = .val v H1 := ho
  simp only [runI, ho, ht, he, cond_true]
  exact hr

/-! ### code -/
/-- scopes do nothing -/
def bare : Code → Bool | .scope _ => false | .label _ => false | _ => true
theorem strip (c : Code) : ∀ v, viewC P c = some v → ∃ c', viewC P c' = some v ∧ bare c' = true ∧ ∀ call ih, stepC P call ih c = stepC P call ih c' := by
  induction c with
  | scope b ih =>
    intro v h
    obtain ⟨c', h1, h2, h3⟩ := ih v h
    exact ⟨c', h1, h2, fun call i => h3 call i⟩
  | label l => intro v h; exact ⟨.skip, h, rfl, fun _ _ => rfl⟩
  | skip => intro v h; exact ⟨_, h, rfl, fun _ _ => rfl⟩
  | region _ _ _ => intro v h; exact ⟨_, h, rfl, fun _ _ => rfl⟩
  | seq _ _ _ _ => intro v h; exact ⟨_, h, rfl, fun _ _ => rfl⟩
  | cond _ _ _ _ _ => intro v h; exact ⟨_, h, rfl, fun _ _ => rfl⟩
  | block _ _ _ => intro v h; exact ⟨_, h, rfl, fun _ _ => rfl⟩
  | loop _ _ => intro v h; exact ⟨_, h, rfl, fun _ _ => rfl⟩
  | exit _ => intro v h; exact ⟨_, h, rfl, fun _ _ => rfl⟩
  | ret => intro v h; exact ⟨_, h, rfl, fun _ _ => rfl⟩
  | _ => intro v h; cases h
theorem execO_strip {c c' : Code} (h : ∀ call ih, stepC P call ih c = stepC P call ih c') : ∀ n, execO P tb gl n c = execO P tb gl n c'
  | 0 => rfl
  | _n + 1 => h _ _
/-- it is enough to look at code that is no scope -/
theorem WpV.of {v : CV} {T : Tm} {H : Heap} {Q : Ex → Tm → Heap → Prop} (h : ∀ c, viewC P c = some v → bare c = true → Wp P tb gl c ⟨T, H, []⟩ fun e S => S.D = [] ∧ Q e S.T S.H) : WpV P tb gl v T H Q := by
  intro c hc
  obtain ⟨c', h1, h2, h3⟩ := strip c v hc
  obtain ⟨n, e, S', h4, h5⟩ := h c' h1 h2
  exact ⟨n, e, S', by rw [execO_strip h3]; exact h4, h5⟩
theorem execO_succ (n : Nat) (c : Code) (S : St) : execO P tb gl (n + 1) c S = stepC P (callFO P tb gl (n + 1)) (execO P tb gl n) c S := rfl
theorem wp_succ {c : Code} {S : St} {Q : Ex → St → Prop} {n : Nat} {e : Ex} {S' : St} (h : stepC P (callFO P tb gl (n + 1)) (execO P tb gl n) c S = .ok e S') (hq : Q e S') : Wp P tb gl c S Q := ⟨n + 1, e, S', h, hq⟩
theorem wpv_reg {l : List It} {T : Tm} {H : Heap} {Q : Ex → Tm → Heap → Prop} (h : WpI P tb gl l T H (Q .normal)) : WpV P tb gl (.reg l) T H Q := by
  refine .of fun c hc hb => ?_
  obtain ⟨n, T', H', hr, hq⟩ := h
  cases c with
  | region id ops dr =>
    simp only [viewC] at hc
    split at hc
    · rename_i r hv
      injection hc with hc
      injection hc with hc
      subst hc
      exact wp_succ (n := n) (viewR_run hv (runI_add (Nat.le_succ n) hr)) ⟨rfl, hq⟩
    · cases hc
  | scope _ => cases hb
  | label _ => cases hb
  | seq _ _ => simp only [viewC] at hc; split at hc <;> simp at hc
  | cond _ _ _ => simp only [viewC] at hc; split at hc <;> simp at hc
  | block _ _ => simp only [viewC] at hc; split at hc <;> simp at hc
  | loop _ => simp only [viewC] at hc; split at hc <;> simp at hc
  | _ => simp [viewC] at hc
/-- what is asked behind the first of two -/
def seqQ (P : Program) (tb : List FuncId) (gl : List (List AV)) (b : CV) (Q : Ex → Tm → Heap → Prop) : Ex → Tm → Heap → Prop
  | .normal, T, H => WpV P tb gl b T H Q
  | e, T, H => Q e T H
theorem wpv_seq {a b : CV} {T : Tm} {H : Heap} {Q : Ex → Tm → Heap → Prop} (h : WpV P tb gl a T H (seqQ P tb gl b Q)) : WpV P tb gl (.seq a b) T H Q := by
  refine .of fun c hc hb => ?_
  cases c with
  | seq x y =>
    simp only [viewC] at hc
    split at hc
    · rename_i va vb hx hy
      injection hc with hc
      injection hc with h1 h2
      subst h1 h2
      obtain ⟨n, e, S1, e1, hD, hq⟩ := h x hx
      obtain ⟨T1, H1, D1⟩ := S1
      simp only at hD
      subst hD
      cases e with
      | normal =>
        obtain ⟨m, e', S', e2, hD', hq'⟩ := hq y hy
        refine ⟨max n m + 1, e', S', ?_, hD', hq'⟩
        rw [execO_succ]
        have k1 := execO_le (Nat.le_trans (Nat.le_max_left n m) (Nat.le_succ _)) e1
        have k2 := execO_le (Nat.le_trans (Nat.le_max_right n m) (Nat.le_succ _)) e2
        have k1 : stepC P (callFO P tb gl (max n m + 1)) (execO P tb gl (max n m)) x ⟨T, H, []⟩ = _ := k1
        have k2 : stepC P (callFO P tb gl (max n m + 1)) (execO P tb gl (max n m)) y ⟨T1, H1, []⟩ = _ := k2
        simp only [stepC, k1, seqK, k2]
      | exit i =>
        refine ⟨n + 1, .exit i, ⟨T1, H1, []⟩, ?_, rfl, hq⟩
        have k1 : stepC P (callFO P tb gl (n + 1)) (execO P tb gl n) x ⟨T, H, []⟩ = _ := execO_le (Nat.le_succ n) e1
        rw [execO_succ]
        simp only [stepC, k1, seqK]
      | ret =>
        refine ⟨n + 1, .ret, ⟨T1, H1, []⟩, ?_, rfl, hq⟩
        have k1 : stepC P (callFO P tb gl (n + 1)) (execO P tb gl n) x ⟨T, H, []⟩ = _ := execO_le (Nat.le_succ n) e1
        rw [execO_succ]
        simp only [stepC, k1, seqK]
      | panic v =>
        refine ⟨n + 1, .panic v, ⟨T1, H1, []⟩, ?_, rfl, hq⟩
        have k1 : stepC P (callFO P tb gl (n + 1)) (execO P tb gl n) x ⟨T, H, []⟩ = _ := execO_le (Nat.le_succ n) e1
        rw [execO_succ]
        simp only [stepC, k1, seqK]
    · cases hc
  | scope _ => cases hb
  | label _ => cases hb
  | region _ _ _ => simp only [viewC] at hc; split at hc <;> simp at hc
  | cond _ _ _ => simp only [viewC] at hc; split at hc <;> simp at hc
  | block _ _ => simp only [viewC] at hc; split at hc <;> simp at hc
  | loop _ => simp only [viewC] at hc; split at hc <;> simp at hc
  | _ => simp [viewC] at hc
theorem wpv_cond {x : Operand} {a b : CV} {T : Tm} {H : Heap} {Q : Ex → Tm → Heap → Prop} {c : Bool} (hx : ev x T = some (.bool c)) (h1 : c = true → WpV P tb gl a T H Q) (h2 : c = false → WpV P tb gl b T H Q) : WpV P tb gl (.cond x a b) T H Q := by
  refine .of fun k hk hb => ?_
  cases k with
  | cond y ka kb =>
    simp only [viewC] at hk
    split at hk
    · rename_i va vb ha hb'
      injection hk with hk
      injection hk with e1 e2 e3
      subst e1 e2 e3
      cases c with
      | true =>
        obtain ⟨n, e, S', h4, h5⟩ := h1 rfl ka ha
        refine ⟨n + 1, e, S', ?_, h5⟩
        have k1 : stepC P (callFO P tb gl (n + 1)) (execO P tb gl n) ka ⟨T, H, []⟩ = _ := execO_le (Nat.le_succ n) h4
        rw [execO_succ]
        simp only [stepC, condK, hx, k1]
      | false =>
        obtain ⟨n, e, S', h4, h5⟩ := h2 rfl kb hb'
        refine ⟨n + 1, e, S', ?_, h5⟩
        have k1 : stepC P (callFO P tb gl (n + 1)) (execO P tb gl n) kb ⟨T, H, []⟩ = _ := execO_le (Nat.le_succ n) h4
        rw [execO_succ]
        simp only [stepC, condK, hx, k1]
    · cases hk
  | scope _ => cases hb
  | label _ => cases hb
  | region _ _ _ => simp only [viewC] at hk; split at hk <;> simp at hk
  | seq _ _ => simp only [viewC] at hk; split at hk <;> simp at hk
  | block _ _ => simp only [viewC] at hk; split at hk <;> simp at hk
  | loop _ => simp only [viewC] at hk; split at hk <;> simp at hk
  | _ => simp [viewC] at hk
/-- what is asked behind a block's body -/
def exitQ (id : Nat) (Q : Ex → Tm → Heap → Prop) : Ex → Tm → Heap → Prop
  | .exit i, T, H => if i = id then Q .normal T H else Q (.exit i) T H
  | e, T, H => Q e T H
theorem wpv_block {id : Nat} {b : CV} {T : Tm} {H : Heap} {Q : Ex → Tm → Heap → Prop} (h : WpV P tb gl b T H (exitQ id Q)) : WpV P tb gl (.block id b) T H Q := by
  refine .of fun k hk hb => ?_
  cases k with
  | block i kb =>
    simp only [viewC] at hk
    split at hk
    · rename_i vb hb'
      injection hk with hk
      injection hk with e1 e2
      subst e1 e2
      obtain ⟨n, e, S', h4, hD, h5⟩ := h kb hb'
      have k1 : stepC P (callFO P tb gl (n + 1)) (execO P tb gl n) kb ⟨T, H, []⟩ = _ := execO_le (Nat.le_succ n) h4
      cases e with
      | exit j =>
        by_cases hj : j = i
        · subst hj
          simp only [exitQ, if_true] at h5
          refine ⟨n + 1, .normal, S', ?_, hD, h5⟩
          rw [execO_succ]
          simp only [stepC, k1, blockK, Nat.beq_refl, cond_true]
        · simp only [exitQ, if_neg hj] at h5
          refine ⟨n + 1, .exit j, S', ?_, hD, h5⟩
          rw [execO_succ]
          simp only [stepC, k1, blockK, beq_false hj, cond_false]
      | normal =>
        refine ⟨n + 1, .normal, S', ?_, hD, h5⟩
        rw [execO_succ]
        simp only [stepC, k1, blockK]
      | ret =>
        refine ⟨n + 1, .ret, S', ?_, hD, h5⟩
        rw [execO_succ]
        simp only [stepC, k1, blockK]
      | panic v =>
        refine ⟨n + 1, .panic v, S', ?_, hD, h5⟩
        rw [execO_succ]
        simp only [stepC, k1, blockK]
    · cases hk
  | scope _ => cases hb
  | label _ => cases hb
  | region _ _ _ => simp only [viewC] at hk; split at hk <;> simp at hk
  | seq _ _ => simp only [viewC] at hk; split at hk <;> simp at hk
  | cond _ _ _ => simp only [viewC] at hk; split at hk <;> simp at hk
  | loop _ => simp only [viewC] at hk; split at hk <;> simp at hk
  | _ => simp [viewC] at hk
/-- one round, and the rest -/
theorem wpv_loop {b : CV} {T : Tm} {H : Heap} {Q : Ex → Tm → Heap → Prop} (h : WpV P tb gl b T H (seqQ P tb gl (.loop b) Q)) : WpV P tb gl (.loop b) T H Q := by
  refine .of fun k hk hb => ?_
  cases k with
  | loop kb =>
    have hk0 := hk
    simp only [viewC] at hk
    split at hk
    · rename_i vb hb'
      injection hk with hk
      injection hk with e1
      subst e1
      obtain ⟨n, e, S1, h4, hD, hq⟩ := h kb hb'
      obtain ⟨T1, H1, D1⟩ := S1
      simp only at hD
      subst hD
      cases e with
      | normal =>
        obtain ⟨m, e', S', e2, hD', hq'⟩ := hq (.loop kb) hk0
        refine ⟨max n m + 1, e', S', ?_, hD', hq'⟩
        have k1 : stepC P (callFO P tb gl (max n m + 1)) (execO P tb gl (max n m)) kb ⟨T, H, []⟩ = _ := execO_le (Nat.le_trans (Nat.le_max_left n m) (Nat.le_succ _)) h4
        rw [execO_succ]
        simp only [stepC, k1, seqK]
        exact execO_le (Nat.le_max_right n m) e2
      | exit i =>
        refine ⟨n + 1, .exit i, ⟨T1, H1, []⟩, ?_, rfl, hq⟩
        have k1 : stepC P (callFO P tb gl (n + 1)) (execO P tb gl n) kb ⟨T, H, []⟩ = _ := execO_le (Nat.le_succ n) h4
        rw [execO_succ]
        simp only [stepC, k1, seqK]
      | ret =>
        refine ⟨n + 1, .ret, ⟨T1, H1, []⟩, ?_, rfl, hq⟩
        have k1 : stepC P (callFO P tb gl (n + 1)) (execO P tb gl n) kb ⟨T, H, []⟩ = _ := execO_le (Nat.le_succ n) h4
        rw [execO_succ]
        simp only [stepC, k1, seqK]
      | panic v =>
        refine ⟨n + 1, .panic v, ⟨T1, H1, []⟩, ?_, rfl, hq⟩
        have k1 : stepC P (callFO P tb gl (n + 1)) (execO P tb gl n) kb ⟨T, H, []⟩ = _ := execO_le (Nat.le_succ n) h4
        rw [execO_succ]
        simp only [stepC, k1, seqK]
    · cases hk
  | scope _ => cases hb
  | label _ => cases hb
  | region _ _ _ => simp only [viewC] at hk; split at hk <;> simp at hk
  | seq _ _ => simp only [viewC] at hk; split at hk <;> simp at hk
  | cond _ _ _ => simp only [viewC] at hk; split at hk <;> simp at hk
  | block _ _ => simp only [viewC] at hk; split at hk <;> simp at hk
  | _ => simp [viewC] at hk
theorem wpv_leaf {v : CV} {e : Ex} {T : Tm} {H : Heap} {Q : Ex → Tm → Heap → Prop} (hv : ∀ c, viewC P c = some v → bare c = true → ∀ call ih S, stepC P call ih c S = .ok e S) (h : Q e T H) : WpV P tb gl v T H Q :=
  .of fun c hc hb => ⟨1, e, ⟨T, H, []⟩, hv c hc hb _ _ _, rfl, h⟩
theorem wpv_skip {T : Tm} {H : Heap} {Q : Ex → Tm → Heap → Prop} (h : Q .normal T H) : WpV P tb gl .skip T H Q := by
  refine wpv_leaf (e := .normal) (fun c hc hb call ih S => ?_) h
  cases c with
  | skip => rfl
  | scope _ => cases hb
  | label _ => cases hb
  | region _ _ _ => simp only [viewC] at hc; split at hc <;> simp at hc
  | seq _ _ => simp only [viewC] at hc; split at hc <;> simp at hc
  | cond _ _ _ => simp only [viewC] at hc; split at hc <;> simp at hc
  | block _ _ => simp only [viewC] at hc; split at hc <;> simp at hc
  | loop _ => simp only [viewC] at hc; split at hc <;> simp at hc
  | _ => simp [viewC] at hc
theorem wpv_ret {T : Tm} {H : Heap} {Q : Ex → Tm → Heap → Prop} (h : Q .ret T H) : WpV P tb gl .ret T H Q := by
  refine wpv_leaf (e := .ret) (fun c hc hb call ih S => ?_) h
  cases c with
  | ret => rfl
  | scope _ => cases hb
  | label _ => cases hb
  | region _ _ _ => simp only [viewC] at hc; split at hc <;> simp at hc
  | seq _ _ => simp only [viewC] at hc; split at hc <;> simp at hc
  | cond _ _ _ => simp only [viewC] at hc; split at hc <;> simp at hc
  | block _ _ => simp only [viewC] at hc; split at hc <;> simp at hc
  | loop _ => simp only [viewC] at hc; split at hc <;> simp at hc
  | _ => simp [viewC] at hc
theorem wpv_exit {id : Nat} {T : Tm} {H : Heap} {Q : Ex → Tm → Heap → Prop} (h : Q (.exit id) T H) : WpV P tb gl (.exit id) T H Q := by
  refine wpv_leaf (e := .exit id) (fun c hc hb call ih S => ?_) h
  cases c with
  | exit i => simp only [viewC, Option.some.injEq, CV.exit.injEq] at hc; subst hc; rfl
  | scope _ => cases hb
  | label _ => cases hb
  | region _ _ _ => simp only [viewC] at hc; split at hc <;> simp at hc
  | seq _ _ => simp only [viewC] at hc; split at hc <;> simp at hc
  | cond _ _ _ => simp only [viewC] at hc; split at hc <;> simp at hc
  | block _ _ => simp only [viewC] at hc; split at hc <;> simp at hc
  | loop _ => simp only [viewC] at hc; split at hc <;> simp at hc
  | _ => simp [viewC] at hc
/-- a loop, by what holds ahead of each round, and what grows less -/
theorem wpv_loop_ind {α : Type} (I : α → Tm → Heap → Prop) (m : α → Nat) {b : CV} {Q : Ex → Tm → Heap → Prop}
    (step : ∀ a T H, I a T H → WpV P tb gl b T H fun e T' H' => match e with | .normal => ∃ a', m a' < m a ∧ I a' T' H' | e => Q e T' H') : ∀ a T H, I a T H → WpV P tb gl (.loop b) T H Q := by
  have key : ∀ n a, m a = n → ∀ T H, I a T H → WpV P tb gl (.loop b) T H Q := by
    intro n
    induction n using Nat.strongRecOn with
    | ind n ih =>
      intro a ha T H hI
      refine wpv_loop ((step a T H hI).mono fun e T' H' h => ?_)
      cases e with
      | normal =>
        obtain ⟨a', h1, h2⟩ := h
        exact ih (m a') (by omega) a' rfl T' H' h2
      | _ => exact h
  intro a T H hI
  exact key (m a) a rfl T H hI

/-! ### functions -/
/-- a function's frame is left with a value -/
def leftQ (P : Program) (rs : List ResultVar) (Q : AV → Heap → Prop) : Ex → Tm → Heap → Prop
  | .normal, T, H => ∃ l, resL P T H rs = some l ∧ Q (match l with | [v] => v | l => .tup l) H
  | .ret, T, H => ∃ l, resL P T H rs = some l ∧ Q (match l with | [v] => v | l => .tup l) H
  | _, _, _ => False
theorem wpf {f : FuncId} {fn : Func} {c : Code} {v : CV} {xs : List AV} {H : Heap} {Q : AV → Heap → Prop} (hf : P.funcs[f]? = some fn) (hb : fn.body = some c) (hv : viewC P c = some v) (hk : memF f tb = false ∨ xs ≠ [])
    (h : WpV P tb gl v (layT .lf 0 xs) H (leftQ P fn.results.toList Q)) : WpF P tb gl f xs H Q := by
  obtain ⟨n, e, S', h1, hD, h2⟩ := h c hv
  have hr : ∃ r, callB P (callFO P tb gl n) (execO P tb gl n) f xs H = .ret r S'.H ∧ Q r S'.H := by
    simp only [callB, hf, hb, argsT_eq, h1]
    have hres : ∀ l, resL P S'.T S'.H fn.results.toList = some l → resA P fn S'.T S'.H = some (match l with | [v] => v | l => .tup l) := by
      intro l hl
      simp only [resA, hl]
      cases l with
      | nil => rfl
      | cons x l => cases l <;> rfl
    cases e with
    | normal =>
      obtain ⟨l, hl, hq⟩ := h2
      exact ⟨_, by simp only [leave, hD, hres l hl], hq⟩
    | ret =>
      obtain ⟨l, hl, hq⟩ := h2
      exact ⟨_, by simp only [leave, hD, hres l hl], hq⟩
    | exit i => exact h2.elim
    | panic v => exact h2.elim
  obtain ⟨r, h3, h4⟩ := hr
  refine ⟨n + 1, r, S'.H, ?_, h4⟩
  show callO tb gl (callB P (callFO P tb gl n) (execO P tb gl n)) f xs H = _
  cases xs with
  | cons x l => exact h3
  | nil =>
    rcases hk with hk | hk
    · simp only [callO, hk, cond_false]; exact h3
    · exact absurd rfl hk
/-- a call whose answer is known -/
theorem wpf_known {f : FuncId} {H : Heap} {Q : AV → Heap → Prop} (hm : memF f tb = true) (hl : laidIn gl 0 H = true) (h : Q (.bool true) H) : WpF P tb gl f [] H Q :=
  ⟨1, .bool true, H, by show callO tb gl _ f [] H = _; simp only [callO, hm, hl, cond_true], h⟩
end
end Eng
end Go.Proofs.YtalnmaalhocjfaaGreatDoor
namespace Go.Proofs.YtalnmaalhocjfaaGreatDoor
namespace Eng
open Go

/-! ### numbers that fit -/
theorem wrap_i64 {z : Int} (h : -9223372036854775808 ≤ z) (h2 : z < 9223372036854775808) : IntKind.i64.wrap z = z := by
  simp only [IntKind.wrap, IntKind.bits, IntKind.signed]
  simp
  omega
theorem wrap_u64 {z : Int} (h : 0 ≤ z) (h2 : z < 18446744073709551616) : IntKind.u64.wrap z = z := by
  simp only [IntKind.wrap, IntKind.bits, IntKind.signed]
  simp
  omega
theorem wrap_u8 {z : Int} (h : 0 ≤ z) (h2 : z < 256) : IntKind.u8.wrap z = z := by
  simp only [IntKind.wrap, IntKind.bits, IntKind.signed]
  simp
  omega
theorem wrapE_i64 {z c : Int} (e : z = c) (h : -9223372036854775808 ≤ c) (h2 : c < 9223372036854775808) : IntKind.i64.wrap z = c := by rw [e, wrap_i64 h h2]
theorem wrapE_u64 {z c : Int} (e : z = c) (h : 0 ≤ c) (h2 : c < 18446744073709551616) : IntKind.u64.wrap z = c := by rw [e, wrap_u64 h h2]
theorem wrapE_u8 {z c : Int} (e : z = c) (h : 0 ≤ c) (h2 : c < 256) : IntKind.u8.wrap z = c := by rw [e, wrap_u8 h h2]
theorem wrap_u64_mod (z : Int) : IntKind.u64.wrap z = z % 18446744073709551616 := by
  simp only [IntKind.wrap, IntKind.bits, IntKind.signed]
  simp
theorem tdiv_nat (a b : Nat) : Int.tdiv (a : Int) (b : Int) = ((a / b : Nat) : Int) := rfl
theorem tmod_nat (a b : Nat) : Int.tmod (a : Int) (b : Int) = ((a % b : Nat) : Int) := rfl
/-! ### frames -/
abbrev Fm := List (Nat × AV)
def lk (t : Nat) : Fm → Option AV
  | [] => none
  | (s, v) :: r => bif Nat.beq s t then some v else lk t r
def st (t : Nat) (v : AV) (l : Fm) : Fm := (t, v) :: l
def stI (d : Option Tmp) (v : AV) (l : Fm) : Fm := match d with | some t => st t v l | none => l
def FR (l : Fm) (T : Tm) : Prop := ∀ t v, lk t l = some v → T.get (bits t) = some v
theorem lk_st (s t : Nat) (v : AV) (l : Fm) : lk s (st t v l) = if t = s then some v else lk s l := by
  simp only [st, lk, beq_eq']
  by_cases h : t = s <;> simp [h]
theorem FR.set {l : Fm} {T : Tm} (h : FR l T) (t : Nat) (v : AV) : FR (st t v l) (T.set (bits t) (some v)) := by
  intro s u hs
  rw [lk_st] at hs
  rw [Tr.get_set_bits]
  by_cases e : t = s
  · simpa [e] using hs
  · rw [if_neg e] at hs ⊢; exact h s u hs
theorem FR.put {l : Fm} {T : Tm} (h : FR l T) (d : Option Tmp) (v : AV) : FR (stI d v l) (putI d v T) := by
  cases d with
  | none => exact h
  | some t => exact h.set t v
/-- a frame that says no more than another -/
def Sb (l0 l : Fm) : Prop := match l0 with
  | [] => True
  | (t, v) :: r => lk t l = some v ∧ Sb r l
theorem Sb.lk {l : Fm} : ∀ {l0 : Fm}, Sb l0 l → ∀ t v, lk t l0 = some v → Eng.lk t l = some v
  | [], _, t, v, h => by cases h
  | (s, u) :: r, hs, t, v, h => by
    simp only [Eng.lk, beq_eq'] at h
    by_cases e : s = t
    · subst e
      simp only [decide_true, cond_true, Option.some.injEq] at h
      subst h
      exact hs.1
    · simp only [e, decide_false, cond_false] at h
      exact hs.2.lk t v h
theorem FR.sub {l0 l : Fm} {T : Tm} (h : FR l T) (s : Sb l0 l) : FR l0 T := fun t v ht => h t v (s.lk t v ht)
/-- a text, byte by byte -/
def S (bs : List UInt8) : AV := .str bs.length (packL bs)
mutual
def cA : Value → Option AV
  | .bool b => some (.bool b)
  | .int k n => some (.int k n)
  | .string ⟨⟨l⟩⟩ => some (S l)
  | .pointer none => some .nilp
  | .slice none 0 0 => some .nils
  | .map none => some .nilm
  | .nilFunc => some .nilf
  | .nilIface => some .nili
  | .agg ⟨l⟩ => match cAL l with | some l => some (.agg l) | none => none
  | .tuple ⟨l⟩ => match cAL l with | some l => some (.tup l) | none => none
  | _ => none
def cAL : List Value → Option (List AV)
  | [] => some []
  | v :: l => match cA v, cAL l with | some v, some l => some (v :: l) | _, _ => none
end
mutual
theorem cA_ok : ∀ (v : Value) (u : AV), cA v = some u → aConst v = some u
  | .bool b, u, h => by simpa [cA, aConst] using h
  | .int k n, u, h => by simpa [cA, aConst, fI_eq] using h
  | .string ⟨⟨l⟩⟩, u, h => by
    simp only [cA, Option.some.injEq] at h
    simp only [aConst, fN_eq, Option.some.injEq]
    rw [← h]
    rfl
  | .pointer none, u, h => by simpa [cA, aConst] using h
  | .pointer (some _), u, h => by simp [cA] at h
  | .slice none 0 0, u, h => by simpa [cA, aConst] using h
  | .slice (some _) _ _, u, h => by simp [cA] at h
  | .slice none (_ + 1) _, u, h => by simp [cA] at h
  | .slice none 0 (_ + 1), u, h => by simp [cA] at h
  | .map none, u, h => by simpa [cA, aConst] using h
  | .map (some _), u, h => by simp [cA] at h
  | .nilFunc, u, h => by simpa [cA, aConst] using h
  | .nilIface, u, h => by simpa [cA, aConst] using h
  | .agg ⟨l⟩, u, h => by
    simp only [cA] at h
    split at h
    · rename_i m hm
      simp only [aConst, cAL_ok l m hm]
      exact h
    · cases h
  | .tuple ⟨l⟩, u, h => by
    simp only [cA] at h
    split at h
    · rename_i m hm
      simp only [aConst, cAL_ok l m hm]
      exact h
    · cases h
  | .float _ _, u, h => by simp [cA] at h
  | .complex _ _ _, u, h => by simp [cA] at h
  | .chan _, u, h => by simp [cA] at h
  | .func _ _ _, u, h => by simp [cA] at h
  | .iface _ _, u, h => by simp [cA] at h
theorem cAL_ok : ∀ (l : List Value) (m : List AV), cAL l = some m → aConstL l = some m
  | [], m, h => by simpa [cAL, aConstL] using h
  | v :: l, m, h => by
    simp only [cAL] at h
    split at h
    · rename_i x r hx hr
      simp only [aConstL, cA_ok v x hx, cAL_ok l r hr]
      exact h
    · cases h
end
def evA (x : Operand) (l : Fm) : Option AV := match x with
  | .tmp t => lk t l
  | .const v => cA v
  | .global g => some (.ptr g 0)
  | .func f => some (.fn f [])
def evLA : List Operand → Fm → Option (List AV)
  | [], _ => some []
  | x :: r, l => match evA x l, evLA r l with | some v, some m => some (v :: m) | _, _ => none
theorem evA_ok {l : Fm} {T : Tm} (h : FR l T) {x : Operand} {v : AV} (e : evA x l = some v) : ev x T = some v := by
  cases x with
  | tmp t => exact h t v e
  | const c => exact cA_ok c v e
  | _ => exact e
theorem evLA_ok {l : Fm} {T : Tm} (h : FR l T) : ∀ {xs : List Operand} {vs : List AV}, evLA xs l = some vs → evL xs T = some vs
  | [], _, e => e
  | x :: r, vs, e => by
    simp only [evLA] at e
    split at e
    · rename_i v m hv hm
      injection e with e
      subst e
      simp only [evL, evA_ok h hv, evLA_ok h hm]
    · cases e
def argsA (i : Nat) : List AV → Fm
  | [] => []
  | v :: r => (i, v) :: argsA (i + 1) r
theorem argsA_lk : ∀ (xs : List AV) (i t : Nat) (v : AV), lk t (argsA i xs) = some v → i ≤ t ∧ xs[t - i]? = some v
  | [], _, _, _, h => by cases h
  | x :: xs, i, t, v, h => by
    simp only [argsA, lk, beq_eq'] at h
    by_cases e : i = t
    · subst e
      simp only [decide_true, cond_true, Option.some.injEq] at h
      subst h
      simp
    · simp only [e, decide_false, cond_false] at h
      obtain ⟨h1, h2⟩ := argsA_lk xs (i + 1) t v h
      refine ⟨by omega, ?_⟩
      rw [show t - i = (t - (i + 1)) + 1 by omega, List.getElem?_cons_succ]
      exact h2
theorem argsA_FR (xs : List AV) : FR (argsA 0 xs) (layT .lf 0 xs) := by
  intro t v h
  obtain ⟨_, h2⟩ := argsA_lk xs 0 t v h
  rw [Nat.sub_zero] at h2
  rw [get_layT, if_pos ⟨Nat.zero_le _, by have := (List.getElem?_eq_some_iff.1 h2).1; omega⟩]
  exact h2
def resLA (l : Fm) : List ResultVar → Option (List AV)
  | [] => some []
  | .tmp t :: r => match lk t l, resLA l r with | some v, some m => some (v :: m) | _, _ => none
  | _ => none

section
variable {P : Program} {tb : List FuncId} {gl : List (List AV)}
theorem resLA_ok {l : Fm} {T : Tm} (h : FR l T) (H : Heap) : ∀ {rs : List ResultVar} {vs : List AV}, resLA l rs = some vs → resL P T H rs = some vs
  | [], _, e => e
  | .tmp t :: r, vs, e => by
    simp only [resLA] at e
    split at e
    · rename_i v m hv hm
      injection e with e
      subst e
      simp only [resL, resV, h t v hv, resLA_ok h H hm]
    · cases e
  | .cell _ _ :: r, vs, e => by cases e

/-! ### conditions -/
variable (P tb gl) in
structure OA (o : Op) (l : Fm) (H : Heap) (Q : AV → Heap → Prop) : Prop where
  run : ∀ T, FR l T → WpO P tb gl o T H Q
variable (P tb gl) in
structure IA (its : List It) (l : Fm) (H : Heap) (Q : Fm → Heap → Prop) : Prop where
  run : ∀ T, FR l T → WpI P tb gl its T H fun T' H' => ∃ l', FR l' T' ∧ Q l' H'
variable (P tb gl) in
structure VA (v : CV) (l : Fm) (H : Heap) (Q : Ex → Fm → Heap → Prop) : Prop where
  run : ∀ T, FR l T → WpV P tb gl v T H fun e T' H' => ∃ l', FR l' T' ∧ Q e l' H'

theorem OA.mono {o : Op} {l : Fm} {H : Heap} {Q Q' : AV → Heap → Prop} (h : OA P tb gl o l H Q) (k : ∀ v H', Q v H' → Q' v H') : OA P tb gl o l H Q' := ⟨fun T hT => (h.run T hT).mono k⟩
theorem VA.mono {v : CV} {l : Fm} {H : Heap} {Q Q' : Ex → Fm → Heap → Prop} (h : VA P tb gl v l H Q) (k : ∀ e l' H', Q e l' H' → Q' e l' H') : VA P tb gl v l H Q' :=
  ⟨fun T hT => (h.run T hT).mono fun e _ H' ⟨l', h1, h2⟩ => ⟨l', h1, k e l' H' h2⟩⟩
theorem IA.mono {v : List It} {l : Fm} {H : Heap} {Q Q' : Fm → Heap → Prop} (h : IA P tb gl v l H Q) (k : ∀ l' H', Q l' H' → Q' l' H') : IA P tb gl v l H Q' :=
  ⟨fun T hT => (h.run T hT).mono fun _ H' ⟨l', h1, h2⟩ => ⟨l', h1, k l' H' h2⟩⟩
theorem VA.sub {v : CV} {l0 l : Fm} {H : Heap} {Q : Ex → Fm → Heap → Prop} (s : Sb l0 l) (h : VA P tb gl v l0 H Q) : VA P tb gl v l H Q := ⟨fun T hT => h.run T (hT.sub s)⟩
theorem IA.sub {v : List It} {l0 l : Fm} {H : Heap} {Q : Fm → Heap → Prop} (s : Sb l0 l) (h : IA P tb gl v l0 H Q) : IA P tb gl v l H Q := ⟨fun T hT => h.run T (hT.sub s)⟩

/-! ### code -/
theorem ia_nil {l : Fm} {H : Heap} {Q : Fm → Heap → Prop} (h : Q l H) : IA P tb gl [] l H Q := ⟨fun _ hT => wpi_nil ⟨l, hT, h⟩⟩
theorem ia_op {d : Option Tmp} {o : Op} {its : List It} {l : Fm} {H : Heap} {Q : Fm → Heap → Prop} (h : OA P tb gl o l H fun v H' => IA P tb gl its (stI d v l) H' Q) : IA P tb gl (.op d o :: its) l H Q :=
  ⟨fun T hT => wpi_op ((h.run T hT).mono fun v _ k => k.run _ (hT.put d v))⟩
theorem ia_gd {t : Tmp} {w b : Bool} {d : Option Tmp} {o : Op} {its : List It} {l : Fm} {H : Heap} {Q : Fm → Heap → Prop} (ht : lk t l = some (.bool b)) (h : b = w → OA P tb gl o l H fun v H' => IA P tb gl its (stI d v l) H' Q)
    (k : b = !w → IA P tb gl its (stI d undefA l) H Q) : IA P tb gl (.gd t w d o :: its) l H Q :=
  ⟨fun T hT => wpi_gd (hT t _ ht) (fun e => ((h e).run T hT).mono fun v _ k => k.run _ (hT.put d v)) (fun e => (k e).run _ (hT.put d undefA))⟩
theorem ia_gdU {t : Tmp} {w : Bool} {d : Option Tmp} {o : Op} {its : List It} {l : Fm} {H : Heap} {Q : Fm → Heap → Prop} (ht : lk t l = some undefA) (k : IA P tb gl its (stI d undefA l) H Q) : IA P tb gl (.gd t w d o :: its) l H Q :=
  ⟨fun _ hT => wpi_gd_un (hT t _ ht) (k.run _ (hT.put d undefA))⟩
theorem ia_ck {t : Tmp} {o : Op} {its : List It} {l : Fm} {H : Heap} {Q : Fm → Heap → Prop} {u v : AV} (ho : ∀ T, FR l T → ∃ H1, oper P botC o T H = .val v H1) (ht : lk t l = some u) (he : AV.eq u v = true) (h : IA P tb gl its l H Q) : IA P tb gl (.ck t o :: its) l H Q :=
  ⟨fun T hT => by
    obtain ⟨H1, ho⟩ := ho T hT
    exact wpi_ck ho (hT t u ht) he (h.run T hT)⟩
theorem va_reg {its : List It} {l : Fm} {H : Heap} {Q : Ex → Fm → Heap → Prop} (h : IA P tb gl its l H (Q .normal)) : VA P tb gl (.reg its) l H Q := ⟨fun T hT => wpv_reg (h.run T hT)⟩
def seqA (P : Program) (tb : List FuncId) (gl : List (List AV)) (b : CV) (Q : Ex → Fm → Heap → Prop) : Ex → Fm → Heap → Prop
  | .normal, l, H => VA P tb gl b l H Q
  | e, l, H => Q e l H
theorem va_seq {a b : CV} {l : Fm} {H : Heap} {Q : Ex → Fm → Heap → Prop} (h : VA P tb gl a l H (seqA P tb gl b Q)) : VA P tb gl (.seq a b) l H Q := ⟨fun T hT =>
  wpv_seq ((h.run T hT).mono fun e T' H' ⟨l', h1, h2⟩ => by
    cases e with
    | normal => exact h2.run T' h1
    | _ => exact ⟨l', h1, h2⟩)⟩
theorem va_seqr {its : List It} {b : CV} {l : Fm} {H : Heap} {Q : Ex → Fm → Heap → Prop} (h : IA P tb gl its l H fun l' H' => VA P tb gl b l' H' Q) : VA P tb gl (.seq (.reg its) b) l H Q := va_seq (va_reg h)
theorem va_cond {x : Operand} {a b : CV} {l : Fm} {H : Heap} {Q : Ex → Fm → Heap → Prop} {c : Bool} (hx : evA x l = some (.bool c)) (h1 : c = true → VA P tb gl a l H Q) (h2 : c = false → VA P tb gl b l H Q) : VA P tb gl (.cond x a b) l H Q :=
  ⟨fun T hT => wpv_cond (evA_ok hT hx) (fun e => (h1 e).run T hT) (fun e => (h2 e).run T hT)⟩
def exitA (id : Nat) (Q : Ex → Fm → Heap → Prop) : Ex → Fm → Heap → Prop
  | .exit i, l, H => if i = id then Q .normal l H else Q (.exit i) l H
  | e, l, H => Q e l H
theorem va_block {id : Nat} {b : CV} {l : Fm} {H : Heap} {Q : Ex → Fm → Heap → Prop} (h : VA P tb gl b l H (exitA id Q)) : VA P tb gl (.block id b) l H Q := ⟨fun T hT =>
  wpv_block ((h.run T hT).mono fun e T' H' ⟨l', h1, h2⟩ => by
    cases e with
    | exit i =>
      simp only [exitA, exitQ] at h2 ⊢
      by_cases hi : i = id
      · rw [if_pos hi] at h2 ⊢; exact ⟨l', h1, h2⟩
      · rw [if_neg hi] at h2 ⊢; exact ⟨l', h1, h2⟩
    | _ => exact ⟨l', h1, h2⟩)⟩
theorem va_skip {l : Fm} {H : Heap} {Q : Ex → Fm → Heap → Prop} (h : Q .normal l H) : VA P tb gl .skip l H Q := ⟨fun _ hT => wpv_skip ⟨l, hT, h⟩⟩
theorem va_ret {l : Fm} {H : Heap} {Q : Ex → Fm → Heap → Prop} (h : Q .ret l H) : VA P tb gl .ret l H Q := ⟨fun _ hT => wpv_ret ⟨l, hT, h⟩⟩
theorem va_exit {id : Nat} {l : Fm} {H : Heap} {Q : Ex → Fm → Heap → Prop} (h : Q (.exit id) l H) : VA P tb gl (.exit id) l H Q := ⟨fun _ hT => wpv_exit ⟨l, hT, h⟩⟩
/-- one round -/
def roundA {α : Type} (F : α → Fm) (I : α → Heap → Prop) (m : α → Nat) (a : α) (Q : Ex → Fm → Heap → Prop) : Ex → Fm → Heap → Prop
  | .normal, l, H => ∃ a', m a' < m a ∧ Sb (F a') l ∧ I a' H
  | e, l, H => Q e l H
/-- a loop: what the frame says ahead of each round, what holds of memory, what grows less -/
theorem va_loop {α : Type} (F : α → Fm) (I : α → Heap → Prop) (m : α → Nat) {b : CV} {Q : Ex → Fm → Heap → Prop} (step : ∀ a H, I a H → VA P tb gl b (F a) H (roundA F I m a Q)) : ∀ a l H, Sb (F a) l → I a H → VA P tb gl (.loop b) l H Q := by
  intro a l H hS hI
  refine ⟨fun T hT => ?_⟩
  refine wpv_loop_ind (fun (x : α) T H => ∃ l, FR l T ∧ Sb (F x) l ∧ I x H) m (fun x T H ⟨l, h1, hs, h2⟩ => ((step x H h2).run T (h1.sub hs)).mono fun e T' H' ⟨l', h3, h4⟩ => ?_) a T H ⟨l, hT, hS, hI⟩
  cases e with
  | normal =>
    obtain ⟨x', h5, h6, h7⟩ := h4
    exact ⟨x', h5, l', h3, h6, h7⟩
  | _ => exact ⟨l', h3, h4⟩

/-! ### functions -/
def leftA (rs : List ResultVar) (Q : AV → Heap → Prop) : Ex → Fm → Heap → Prop
  | .normal, l, H => ∃ vs, resLA l rs = some vs ∧ Q (match vs with | [v] => v | vs => .tup vs) H
  | .ret, l, H => ∃ vs, resLA l rs = some vs ∧ Q (match vs with | [v] => v | vs => .tup vs) H
  | _, _, _ => False
theorem fa {f : FuncId} {fn : Func} {c : Code} {v : CV} {rs : List ResultVar} {xs : List AV} {H : Heap} {Q : AV → Heap → Prop} (hf : P.funcs[f]? = some fn) (hb : fn.body = some c) (hv : viewC P c = some v) (hr : fn.results.toList = rs) (hk : memF f tb = false ∨ xs ≠ [])
    (h : VA P tb gl v (argsA 0 xs) H (leftA rs Q)) : WpF P tb gl f xs H Q := by
  subst hr
  refine wpf hf hb hv hk ((h.run _ (argsA_FR xs)).mono fun e T' H' ⟨l', h1, h2⟩ => ?_)
  cases e with
  | normal =>
    obtain ⟨vs, h3, h4⟩ := h2
    exact ⟨vs, resLA_ok h1 H' h3, h4⟩
  | ret =>
    obtain ⟨vs, h3, h4⟩ := h2
    exact ⟨vs, resLA_ok h1 H' h3, h4⟩
  | exit _ => exact h2.elim
  | panic _ => exact h2.elim
theorem oa_call {c : Call} {l : Fm} {H : Heap} {Q : AV → Heap → Prop} {xs : List AV} {f : Operand} {g : FuncId} {cap : List AV} (hc : c.callee = .value f) (he : evLA c.args.toList l = some xs) (hf : evA f l = some (.fn g cap))
    (k : WpF P tb gl g (xs ++ cap) H Q) : OA P tb gl (.call c) l H Q := ⟨fun _ hT => wpo_call (evLA_ok hT he) hc (evA_ok hT hf) k⟩

/-! ### what touches no memory -/
/-- an operation that is seen: its answer, whatever the frame says besides -/
theorem oa {o : Op} {l : Fm} {H : Heap} {Q : AV → Heap → Prop} {v : AV} {H' : Heap} (h : ∀ T, FR l T → oper P botC o T H = .val v H') (k : Q v H') : OA P tb gl o l H Q := ⟨fun T hT => wpo (h T hT) k⟩
theorem oa_move {x : Operand} {l : Fm} {H : Heap} {Q : AV → Heap → Prop} {v : AV} (hx : evA x l = some v) (k : Q v H) : OA P tb gl (.move x) l H Q :=
  oa (fun T hT => by simp only [oper, oMove, evA_ok hT hx, okV]) k
theorem oa_assign {x : Operand} {l : Fm} {H : Heap} {Q : AV → Heap → Prop} {v : AV} (hx : evA x l = some v) (k : Q v H) : OA P tb gl (.assign x) l H Q :=
  oa (fun T hT => by simp only [oper, oMove, evA_ok hT hx, okV]) k
theorem oa_pick {c x y : Operand} {l : Fm} {H : Heap} {Q : AV → Heap → Prop} {b : Bool} {u v : AV} (hc : evA c l = some (.bool b)) (hx : evA x l = some u) (hy : evA y l = some v) (k : Q (if b then u else v) H) : OA P tb gl (.pick c x y) l H Q :=
  oa (v := if b then u else v) (fun T hT => by cases b <;> simp [oper, oPick, evA_ok hT hc, evA_ok hT hx, evA_ok hT hy, okV]) k
section
variable {t r : TypeId} {x y : Operand} {l : Fm} {H : Heap} {Q : AV → Heap → Prop} {k : IntKind} {a b : Int}
theorem oa_add (hx : evA x l = some (.int k a)) (hy : evA y l = some (.int k b)) (q : Q (.int k (k.wrap (a + b))) H) : OA P tb gl (.binOp .add t x y r) l H Q :=
  oa (fun T hT => by simp [oper, oBin, evA_ok hT hx, evA_ok hT hy, intOp, fI_eq, wrapF_eq, iadd_eq]) q
theorem oa_sub (hx : evA x l = some (.int k a)) (hy : evA y l = some (.int k b)) (q : Q (.int k (k.wrap (a - b))) H) : OA P tb gl (.binOp .sub t x y r) l H Q :=
  oa (fun T hT => by simp [oper, oBin, evA_ok hT hx, evA_ok hT hy, intOp, fI_eq, wrapF_eq, iadd_eq, ineg_eq, Int.sub_eq_add_neg]) q
theorem oa_addW {c : Int} (hx : evA x l = some (.int k a)) (hy : evA y l = some (.int k b)) (hw : k.wrap (a + b) = c) (q : Q (.int k c) H) : OA P tb gl (.binOp .add t x y r) l H Q := oa_add hx hy (hw ▸ q)
theorem oa_subW {c : Int} (hx : evA x l = some (.int k a)) (hy : evA y l = some (.int k b)) (hw : k.wrap (a - b) = c) (q : Q (.int k c) H) : OA P tb gl (.binOp .sub t x y r) l H Q := oa_sub hx hy (hw ▸ q)
theorem oa_mul (hx : evA x l = some (.int k a)) (hy : evA y l = some (.int k b)) (q : Q (.int k (k.wrap (a * b))) H) : OA P tb gl (.binOp .mul t x y r) l H Q :=
  oa (fun T hT => by simp only [oper, oBin, evA_ok hT hx, evA_ok hT hy, intOp, fI_eq, wrapF_eq, decide_true, cond_true]; rfl) q
theorem oa_quo (hx : evA x l = some (.int k a)) (hy : evA y l = some (.int k b)) (h0 : b ≠ 0) (q : Q (.int k (k.wrap (Int.tdiv a b))) H) : OA P tb gl (.binOp .quo t x y r) l H Q :=
  oa (fun T hT => by
    have : ieq b (.ofNat 0) = false := by rw [ieq_eq]; simpa using h0
    simp only [oper, oBin, evA_ok hT hx, evA_ok hT hy, intOp, fI_eq, wrapF_eq, decide_true, cond_true, this, cond_false]) q
theorem oa_rem (hx : evA x l = some (.int k a)) (hy : evA y l = some (.int k b)) (h0 : b ≠ 0) (q : Q (.int k (Int.tmod a b)) H) : OA P tb gl (.binOp .rem t x y r) l H Q :=
  oa (fun T hT => by
    have : ieq b (.ofNat 0) = false := by rw [ieq_eq]; simpa using h0
    simp only [oper, oBin, evA_ok hT hx, evA_ok hT hy, intOp, fI_eq, decide_true, cond_true, this, cond_false]) q
theorem oa_eql (hx : evA x l = some (.int k a)) (hy : evA y l = some (.int k b)) (q : Q (.bool (decide (a = b))) H) : OA P tb gl (.binOp .eql t x y r) l H Q :=
  oa (fun T hT => by
    have : ieq a b = decide (a = b) := by rw [ieq_eq]; by_cases h : a = b <;> simp [h]
    simp only [oper, oBin, evA_ok hT hx, evA_ok hT hy, intOp, fB_eq, decide_true, cond_true, this]) q
theorem oa_neq (hx : evA x l = some (.int k a)) (hy : evA y l = some (.int k b)) (q : Q (.bool (decide (a ≠ b))) H) : OA P tb gl (.binOp .neq t x y r) l H Q :=
  oa (fun T hT => by
    have : (!ieq a b) = decide (a ≠ b) := by rw [ieq_eq]; by_cases h : a = b <;> simp [h]
    simp only [oper, oBin, evA_ok hT hx, evA_ok hT hy, intOp, fB_eq, decide_true, cond_true, this]) q
theorem oa_lss (hx : evA x l = some (.int k a)) (hy : evA y l = some (.int k b)) (q : Q (.bool (decide (a < b))) H) : OA P tb gl (.binOp .lss t x y r) l H Q :=
  oa (fun T hT => by simp only [oper, oBin, evA_ok hT hx, evA_ok hT hy, intOp, fB_eq, decide_true, cond_true, ilt_eq]) q
theorem oa_leq (hx : evA x l = some (.int k a)) (hy : evA y l = some (.int k b)) (q : Q (.bool (decide (a ≤ b))) H) : OA P tb gl (.binOp .leq t x y r) l H Q :=
  oa (fun T hT => by simp only [oper, oBin, evA_ok hT hx, evA_ok hT hy, intOp, fB_eq, decide_true, cond_true, ile_eq]) q
theorem oa_gtr (hx : evA x l = some (.int k a)) (hy : evA y l = some (.int k b)) (q : Q (.bool (decide (b < a))) H) : OA P tb gl (.binOp .gtr t x y r) l H Q :=
  oa (fun T hT => by simp only [oper, oBin, evA_ok hT hx, evA_ok hT hy, intOp, fB_eq, decide_true, cond_true, ilt_eq]) q
theorem oa_geq (hx : evA x l = some (.int k a)) (hy : evA y l = some (.int k b)) (q : Q (.bool (decide (b ≤ a))) H) : OA P tb gl (.binOp .geq t x y r) l H Q :=
  oa (fun T hT => by simp only [oper, oBin, evA_ok hT hx, evA_ok hT hy, intOp, fB_eq, decide_true, cond_true, ile_eq]) q
theorem oa_beql {c d : Bool} (hu : P.underlying t = some .bool) (hx : evA x l = some (.bool c)) (hy : evA y l = some (.bool d)) (q : Q (.bool (c == d)) H) : OA P tb gl (.binOp .eql t x y r) l H Q :=
  oa (fun T hT => by simp only [oper, oBin, evA_ok hT hx, evA_ok hT hy, hu, eqOp, fB_eq]) q
theorem oa_bneq {c d : Bool} (hu : P.underlying t = some .bool) (hx : evA x l = some (.bool c)) (hy : evA y l = some (.bool d)) (q : Q (.bool (c != d)) H) : OA P tb gl (.binOp .neq t x y r) l H Q :=
  oa (fun T hT => by simp only [oper, oBin, evA_ok hT hx, evA_ok hT hy, hu, eqOp, fB_eq]; rfl) q
theorem oa_not {c : Bool} (hx : evA x l = some (.bool c)) (q : Q (.bool (!c)) H) : OA P tb gl (.unOp .not t x) l H Q :=
  oa (fun T hT => by simp only [oper, oUn, evA_ok hT hx, fB_eq]) q
theorem oa_neg (hx : evA x l = some (.int k a)) (q : Q (.int k (k.wrap (-a))) H) : OA P tb gl (.unOp .neg t x) l H Q :=
  oa (fun T hT => by simp only [oper, oUn, evA_ok hT hx, fI_eq, wrapF_eq, ineg_eq]) q
theorem oa_conv {s d : TypeId} {j k : IntKind} (hs : P.underlying s = some (.int j)) (hd : P.underlying d = some (.int k)) {k0 : IntKind} (hx : evA x l = some (.int k0 a)) (q : Q (.int k (k.wrap a)) H) : OA P tb gl (.convert s d x) l H Q :=
  oa (fun T hT => by simp only [oper, oConvert, hs, hd, evA_ok hT hx, fI_eq, wrapF_eq]) q
theorem oa_convW {s d : TypeId} {j k : IntKind} {c : Int} (hs : P.underlying s = some (.int j)) (hd : P.underlying d = some (.int k)) {k0 : IntKind} (hx : evA x l = some (.int k0 a)) (hw : k.wrap a = c) (q : Q (.int k c) H) : OA P tb gl (.convert s d x) l H Q := oa_conv hs hd hx (hw ▸ q)
theorem oa_quoW {c : Int} (hx : evA x l = some (.int k a)) (hy : evA y l = some (.int k b)) (h0 : b ≠ 0) (hw : k.wrap (Int.tdiv a b) = c) (q : Q (.int k c) H) : OA P tb gl (.binOp .quo t x y r) l H Q := oa_quo hx hy h0 (hw ▸ q)
theorem oa_remW {c : Int} (hx : evA x l = some (.int k a)) (hy : evA y l = some (.int k b)) (h0 : b ≠ 0) (hw : Int.tmod a b = c) (q : Q (.int k c) H) : OA P tb gl (.binOp .rem t x y r) l H Q := oa_rem hx hy h0 (hw ▸ q)
theorem oa_extract {i : Nat} {vs : List AV} {v : AV} (hx : evA x l = some (.tup vs)) (hi : vs[i]? = some v) (q : Q v H) : OA P tb gl (.extract x i) l H Q :=
  oa (fun T hT => by simp only [oper, oExtract, evA_ok hT hx, hi, okV]) q
theorem oa_fn {f : FuncId} {fs cs : Array Operand} {vs : List AV} (hf : fs.toList = []) (hc : evLA cs.toList l = some vs) (q : Q (.fn f vs) H) : OA P tb gl (.makeFunc (.func f) fs cs) l H Q :=
  oa (fun T hT => by simp only [oper, oMakeFunc, hf, evLA_ok hT hc]) q
theorem oa_nilCheck {b i : Nat} (hx : evA x l = some (.ptr b i)) (q : Q (.ptr b i) H) : OA P tb gl (.nilCheck x) l H Q :=
  oa (fun T hT => by simp only [oper, oNilCheck, evA_ok hT hx]) q
theorem oa_fieldAddr {s : TypeId} {f b i : Nat} {p : Plc} (hp : fieldPlc P s f = some p) (hz : p.sz ≠ 0) (hx : evA x l = some (.ptr b i)) (q : Q (.ptr b (i + p.off)) H) : OA P tb gl (.fieldAddr s x f) l H Q :=
  oa (fun T hT => by
    have : Nat.beq p.sz 0 = false := beq_false hz
    simp only [oper, oFieldAddr, evA_ok hT hx, hp, this, cond_false, fN_eq]; rfl) q
theorem oa_field1 {s : TypeId} {f o : Nat} {vs : List AV} {v : AV} (hp : fieldPlc P s f = some ⟨o, false, 1⟩) (hx : evA x l = some (.agg vs)) (hv : vs[o]? = some v) (q : Q v H) : OA P tb gl (.field s x f) l H Q :=
  oa (fun T hT => by
    simp only [oper, oField, evA_ok hT hx, hp, oPart, partL, cond_false, hv]
    cases v <;> simp only [fL_eq]) q
theorem oa_fieldN {s : TypeId} {f o n : Nat} {vs : List AV} (hp : fieldPlc P s f = some ⟨o, true, n⟩) (hx : evA x l = some (.agg vs)) (q : Q (.agg ((vs.drop o).take n)) H) : OA P tb gl (.field s x f) l H Q :=
  oa (fun T hT => by simp only [oper, oField, evA_ok hT hx, hp, oPart, partL, cond_true, fL_eq]) q
/-- parts put together -/
theorem oa_build {fs : Array Field} {z : AV} {ps : Array (Nat × Operand)} {vs : List AV} (hu : P.underlying t = some (.struct fs)) (hz : zeroOf P t = some z) (hs : (fs.toList.all fun f => (szOf P f.type).isSome) = true)
    (hf : ∀ T, FR l T → fillL z.cells (structPlc P t) T ps.toList = some vs) (q : Q (.agg vs) H) : OA P tb gl (.build t ps) l H Q :=
  oa (fun T hT => by simp only [oper, oBuild, hu, hz, hs, cond_true, hf T hT]) q
end
end
end Eng
end Go.Proofs.YtalnmaalhocjfaaGreatDoor
namespace Go.Proofs.YtalnmaalhocjfaaGreatDoor
namespace Eng
open Go

/-! ### rows -/
def RowT (t : Tr AV) (cs : List AV) : Prop := ∀ i, i < cs.length → t.get (bits i) = cs[i]?
def IsRow (H : Heap) (b : Nat) (cs : List AV) (tl ro : Bool) : Prop := b < H.nx ∧ ∃ t, getB H b = some (.cells t cs.length tl ro) ∧ RowT t cs
/-- blocks that are kept: all old ones, but those of a set, and of these the read-only ones -/
structure Keep (S : Nat → Prop) (H H' : Heap) : Prop where
  nx : H.nx ≤ H'.nx
  old : ∀ c B, c < H.nx → getB H c = some B → (¬ S c ∨ ¬ wr B) → getB H' c = some B
abbrev Non : Nat → Prop := fun _ => False
theorem Keep.refl (S : Nat → Prop) (H : Heap) : Keep S H H := ⟨Nat.le_refl _, fun _ _ _ h _ => h⟩
theorem Keep.trans {S S1 : Nat → Prop} {H H1 H2 : Heap} (h : Keep S H H1) (k : Keep S1 H1 H2) (s : ∀ c, S1 c → S c ∨ H.nx ≤ c) : Keep S H H2 :=
  ⟨Nat.le_trans h.nx k.nx, fun c B hc hB hs => k.old c B (Nat.lt_of_lt_of_le hc h.nx) (h.old c B hc hB hs) (by
    rcases hs with hs | hs
    · exact .inl fun h1 => by
        rcases s c h1 with h2 | h2
        · exact hs h2
        · omega
    · exact .inr hs)⟩
theorem Keep.wide {S S1 : Nat → Prop} {H H' : Heap} (h : Keep S H H') (s : ∀ c, S c → S1 c) : Keep S1 H H' :=
  ⟨h.nx, fun c B hc hB hs => h.old c B hc hB (hs.imp (fun k h1 => k (s c h1)) id)⟩
theorem Keep.non {S : Nat → Prop} {H H' : Heap} (h : Keep S H H') (s : ∀ c, S c → H.nx ≤ c) : Keep Non H H' :=
  ⟨h.nx, fun c B hc hB _ => h.old c B hc hB (.inl fun h1 => by have := s c h1; omega)⟩
theorem Keep.trans0 {H H1 H2 : Heap} (h : Keep Non H H1) (k : Keep Non H1 H2) : Keep Non H H2 := h.trans k fun _ h => h.elim
theorem IsRow.keep {S : Nat → Prop} {H H' : Heap} {b : Nat} {cs : List AV} {tl ro : Bool} (h : IsRow H b cs tl ro) (k : Keep S H H') (hs : ¬ S b ∨ ro = true) : IsRow H' b cs tl ro := by
  obtain ⟨h1, t, h2, h3⟩ := h
  refine ⟨Nat.lt_of_lt_of_le h1 k.nx, t, k.old b _ h1 h2 (hs.imp id fun e => ?_), h3⟩
  subst e
  simp [wr]
theorem IsRow.keep0 {H H' : Heap} {b : Nat} {cs : List AV} {tl ro : Bool} (h : IsRow H b cs tl ro) (k : Keep Non H H') : IsRow H' b cs tl ro := h.keep k (.inl id)
theorem RowT.lay (cs : List AV) : RowT (layT .lf 0 cs) cs := by
  intro i hi
  rw [get_layT, if_pos ⟨Nat.zero_le _, by omega⟩, Nat.sub_zero]
theorem keep_push (H : Heap) (B : Blk) : Keep Non H ⟨H.bl.set (bits H.nx) (some B), H.nx + 1⟩ :=
  ⟨Nat.le_succ _, fun c C hc hC _ => by rw [getB_set, if_neg (by omega)]; exact hC⟩
theorem keep_put (H : Heap) (b : Nat) (B : Blk) : Keep (· = b) H ⟨H.bl.set (bits b) (some B), H.nx⟩ ∨ ∃ C, getB H b = some C ∧ ¬ wr C := by
  by_cases h : ∃ C, getB H b = some C ∧ ¬ wr C
  · exact .inr h
  · refine .inl ⟨Nat.le_refl _, fun c C hc hC hs => ?_⟩
    rw [getB_set]
    by_cases e : b = c
    · subst e
      rcases hs with hs | hs
      · exact absurd rfl hs
      · exact absurd ⟨C, hC, hs⟩ h
    · rw [if_neg e]; exact hC
theorem keep_put' {H : Heap} {b : Nat} {C : Blk} (hC : getB H b = some C) (hw : wr C) (B : Blk) : Keep (· = b) H ⟨H.bl.set (bits b) (some B), H.nx⟩ := by
  rcases keep_put H b B with h | ⟨D, hD, hn⟩
  · exact h
  · rw [hC] at hD
    injection hD with hD
    subst hD
    exact absurd hw hn
theorem row_push (H : Heap) (t : Tr AV) (cs : List AV) (tl ro : Bool) (h : RowT t cs) : IsRow ⟨H.bl.set (bits H.nx) (some (.cells t cs.length tl ro)), H.nx + 1⟩ H.nx cs tl ro :=
  ⟨Nat.lt_succ_self _, t, by rw [getB_set, if_pos rfl], h⟩
theorem getB_setT (bl : Tr Blk) (b c : Nat) (B : Option Blk) (n : Nat) : getB ⟨bl.set (bits b) B, n⟩ c = if b = c then B else getB ⟨bl, n⟩ c := by
  simp [getB, Tr.get_set_bits]
theorem takeC_some {t : Tr AV} : ∀ (n i : Nat) (l : List AV), l.length = n → (∀ j, j < n → t.get (bits (i + j)) = l[j]?) → takeC t i n = some l
  | 0, i, l, hl, _ => by
    obtain rfl := List.length_eq_zero_iff.1 hl
    rfl
  | n + 1, i, [], hl, _ => by cases hl
  | n + 1, i, v :: l, hl, h => by
    have h0 := h 0 (by omega)
    rw [Nat.add_zero] at h0
    have hr := takeC_some (t := t) n (i + 1) l (by simpa using hl) fun j hj => by
      have := h (j + 1) (by omega)
      rw [show i + (j + 1) = i + 1 + j by omega] at this
      simpa using this
    simp only [takeC, h0, List.getElem?_cons_zero]
    rw [show Nat.succ i = i + 1 from rfl, hr]
theorem putC_some {β : Type} {bad : β} {k : Tr AV → β} : ∀ (vs : List AV) (t : Tr AV) (i : Nat), (∀ j, i ≤ j → j < i + vs.length → (t.get (bits j)).isSome) → scalL vs = true → putC t i vs bad k = k (layT t i vs)
  | [], _, _, _, _ => rfl
  | v :: l, t, i, h, hs => by
    have h0 := h i (Nat.le_refl _) (by simp)
    obtain ⟨u, hu⟩ := Option.isSome_iff_exists.1 h0
    simp only [scalL] at hs
    cases hv : scal v with
    | false => rw [hv] at hs; cases hs
    | true =>
      rw [hv] at hs
      simp only [putC, hu, hv, Tr.setK_eq, layT]
      refine putC_some l _ (i + 1) (fun j h1 h2 => ?_) hs
      rw [Tr.get_set_bits, if_neg (by omega)]
      exact h j (by omega) (by simp; omega)

/-! ### what is pointed at -/
def PtsTo (H : Heap) (p : AV) (cs : List AV) : Prop := ∃ b i row tl ro, p = .ptr b i ∧ IsRow H b row tl ro ∧ ∀ j, j < cs.length → row[i + j]? = cs[j]?
/-- a slice's elements, cell by cell: each of so many cells -/
def IsSl (H : Heap) (v : AV) (es n : Nat) (cs : List AV) : Prop := cs.length = n * es ∧ ((v = .nils ∧ n = 0) ∨ (((∃ b o was, v = .se b o was es) ∨ ∃ a, v = .sz a) ∧ n = 0) ∨
  ∃ b o row tl ro, ((v = .so b o n es ∧ o + n * es ≤ row.length) ∨ ∃ c, v = .sl b o n c ∧ n ≤ c) ∧ IsRow H b row tl ro ∧ ∀ j, j < cs.length → row[o + j]? = cs[j]?)
/-- a slice of the call's own, which may be appended to -/
def Own (H : Heap) (v : AV) (es n : Nat) (cs : List AV) : Prop := cs.length = n * es ∧ n < limit ∧ ((v = .nils ∧ n = 0) ∨ ∃ b row, v = .so b 0 n es ∧ IsRow H b row true false ∧ n * es ≤ row.length ∧ ∀ j, j < cs.length → row[j]? = cs[j]?)
def ownB (v : AV) (c : Nat) : Prop := match v with | .so b _ _ _ => c = b | _ => False
theorem PtsTo.keep {S : Nat → Prop} {H H' : Heap} {p : AV} {cs : List AV} (h : PtsTo H p cs) (k : Keep S H H') (hs : ∀ c, ¬ S c) : PtsTo H' p cs := by
  obtain ⟨b, i, row, tl, ro, h1, h2, h3⟩ := h
  exact ⟨b, i, row, tl, ro, h1, h2.keep k (.inl (hs b)), h3⟩
theorem IsSl.keep0 {H H' : Heap} {v : AV} {es n : Nat} {cs : List AV} (h : IsSl H v es n cs) (k : Keep Non H H') : IsSl H' v es n cs := by
  obtain ⟨h0, h⟩ := h
  refine ⟨h0, h.imp id (Or.imp id ?_)⟩
  rintro ⟨b, o, row, tl, ro, h1, h2, h3⟩
  exact ⟨b, o, row, tl, ro, h1, h2.keep0 k, h3⟩
/-- a slice in memory that nobody writes -/
def IsSlR (H : Heap) (v : AV) (es n : Nat) (cs : List AV) : Prop := cs.length = n * es ∧ (((v = .nils ∨ ∃ a, v = .sz a) ∧ n = 0) ∨
  ∃ b o row tl, (∃ c, v = .sl b o n c ∧ n ≤ c) ∧ IsRow H b row tl true ∧ ∀ j, j < cs.length → row[o + j]? = cs[j]?)
theorem IsSlR.keep {S : Nat → Prop} {H H' : Heap} {v : AV} {es n : Nat} {cs : List AV} (h : IsSlR H v es n cs) (k : Keep S H H') : IsSlR H' v es n cs := by
  obtain ⟨h0, h⟩ := h
  refine ⟨h0, h.imp id ?_⟩
  rintro ⟨b, o, row, tl, h1, h2, h3⟩
  exact ⟨b, o, row, tl, h1, h2.keep k (.inr rfl), h3⟩
theorem IsSlR.sl {H : Heap} {v : AV} {es n : Nat} {cs : List AV} (h : IsSlR H v es n cs) : IsSl H v es n cs := by
  obtain ⟨h0, ⟨h | ⟨a, h⟩, hn⟩ | ⟨b, o, row, tl, h1, h2, h3⟩⟩ := h
  · exact ⟨h0, .inl ⟨h, hn⟩⟩
  · exact ⟨h0, .inr (.inl ⟨.inr ⟨a, h⟩, hn⟩)⟩
  · exact ⟨h0, .inr (.inr ⟨b, o, row, tl, true, .inr h1, h2, h3⟩)⟩
theorem Own.sl {H : Heap} {v : AV} {es n : Nat} {cs : List AV} (h : Own H v es n cs) : IsSl H v es n cs := by
  obtain ⟨h0, _, h⟩ := h
  refine ⟨h0, h.imp id fun h => .inr ?_⟩
  obtain ⟨b, row, h1, h2, h3⟩ := h
  exact ⟨b, 0, row, true, false, .inl ⟨h1, by rw [Nat.zero_add]; exact h3.1⟩, h2, fun j hj => by rw [Nat.zero_add]; exact h3.2 j hj⟩
theorem Own.keep {S : Nat → Prop} {H H' : Heap} {v : AV} {es n : Nat} {cs : List AV} (h : Own H v es n cs) (k : Keep S H H') (hs : ∀ c, ownB v c → ¬ S c) : Own H' v es n cs := by
  obtain ⟨h0, h1, h⟩ := h
  refine ⟨h0, h1, h.imp id ?_⟩
  rintro ⟨b, row, h1, h2, h3⟩
  exact ⟨b, row, h1, h2.keep k (.inl (hs b (by rw [h1]; rfl))), h3⟩
theorem Own.keep0 {H H' : Heap} {v : AV} {es n : Nat} {cs : List AV} (h : Own H v es n cs) (k : Keep Non H H') : Own H' v es n cs := h.keep k fun _ _ => id
theorem Own.lt {H : Heap} {v : AV} {es n : Nat} {cs : List AV} (h : Own H v es n cs) {c : Nat} (hc : ownB v c) : c < H.nx := by
  obtain ⟨_, _, ⟨rfl, _⟩ | ⟨b, row, rfl, h2, _⟩⟩ := h
  · exact hc.elim
  · have : c = b := hc
    subst this
    exact h2.1
theorem Own.nil (H : Heap) (es : Nat) : Own H .nils es 0 [] := ⟨by simp, by decide, .inl ⟨rfl, rfl⟩⟩
theorem IsSl.nil (H : Heap) (es : Nat) : IsSl H .nils es 0 [] := ⟨by simp, .inl ⟨rfl, rfl⟩⟩
theorem IsRow.sl {H : Heap} {b : Nat} {cs : List AV} {tl ro : Bool} (h : IsRow H b cs tl ro) {es n c : Nat} (hl : cs.length = n * es) (hc : n ≤ c) : IsSl H (.sl b 0 n c) es n cs :=
  ⟨hl, .inr (.inr ⟨b, 0, cs, tl, ro, .inr ⟨c, rfl, hc⟩, h, fun j _ => by rw [Nat.zero_add]⟩)⟩
theorem IsSl.elems {H : Heap} {v : AV} {es n : Nat} {cs : List AV} (h : IsSl H v es n cs) : elemsOf H v es = some (n, cs) := by
  obtain ⟨h0, ⟨rfl, rfl⟩ | ⟨⟨b, o, was, rfl⟩ | ⟨a, rfl⟩, rfl⟩ | ⟨b, o, row, tl, ro, h1, ⟨_, t, hB, hT⟩, h3⟩⟩ := h
  · simp only [Nat.zero_mul] at h0
    rw [List.length_eq_zero_iff.1 h0]
    rfl
  · simp only [Nat.zero_mul] at h0
    rw [List.length_eq_zero_iff.1 h0]
    rfl
  · simp only [Nat.zero_mul] at h0
    rw [List.length_eq_zero_iff.1 h0]
    rfl
  · have ht : takeC t o (n * es) = some cs := by
      refine takeC_some _ _ _ h0 fun j hj => ?_
      have hr := h3 j (by omega)
      have hlt : o + j < row.length := by
        by_cases hlt : o + j < row.length
        · exact hlt
        · rw [List.getElem?_eq_none (by omega), List.getElem?_eq_getElem (by omega)] at hr
          cases hr
      rw [hT _ hlt, hr]
    rcases h1 with ⟨rfl, _⟩ | ⟨c, rfl, _⟩
    · have ht' : takeC t o (Nat.mul n es) = some cs := ht
      simp only [elemsOf, Nat.beq_refl, cond_true, hB, ht']
    · have ht' : takeC t o (Nat.mul n es) = some cs := ht
      simp only [elemsOf, hB, ht']

/-! ### texts -/
theorem packL_lt : ∀ bs : List UInt8, packL bs < 256 ^ bs.length
  | [] => by simp [packL]
  | b :: l => by
    have h1 := packL_lt l
    have h2 : b.toNat < 256 := b.toNat_lt
    show b.toNat + 256 * packL l < 256 ^ (l.length + 1)
    rw [Nat.pow_succ]
    omega
theorem packL_append : ∀ a b : List UInt8, packL (a ++ b) = packL a + packL b * 256 ^ a.length
  | [], b => by simp [packL]
  | x :: a, b => by
    show x.toNat + 256 * packL (a ++ b) = x.toNat + 256 * packL a + packL b * 256 ^ (a.length + 1)
    have : 256 * (packL b * 256 ^ a.length) = packL b * (256 ^ a.length * 256) := by rw [Nat.mul_comm 256, Nat.mul_assoc]
    rw [packL_append a b, Nat.pow_succ, Nat.mul_add, this]
    omega
theorem S_inj {a b : List UInt8} (h : strEq a.length (packL a) b.length (packL b) = true) : a = b := by
  rw [strEq_eq] at h
  have h := eq_of_beq h
  simp only [unpack, toList_mk, unpackL_pack] at h
  exact h
theorem strEq_S (a b : List UInt8) : strEq a.length (packL a) b.length (packL b) = decide (a = b) := by
  by_cases e : a = b
  · subst e
    rw [strEq_eq]
    simp
  · cases h : strEq a.length (packL a) b.length (packL b) with
    | false => simp [e]
    | true => exact absurd (S_inj h) e
def u8 (b : UInt8) : AV := .int .u8 (b.toNat : Int)
theorem strCells_S : ∀ bs : List UInt8, strCells bs.length (packL bs) = bs.map u8
  | [] => rfl
  | b :: l => by
    have h2 : b.toNat < 256 := b.toNat_lt
    have h1 : (b.toNat + 256 * packL l) % 256 = b.toNat := by omega
    have h3 : (b.toNat + 256 * packL l) / 256 = packL l := by omega
    show strCells (l.length + 1) (b.toNat + 256 * packL l) = u8 b :: l.map u8
    simp only [strCells, fN_eq]
    rw [show Nat.mod (b.toNat + 256 * packL l) 256 = b.toNat from h1, show Nat.div (b.toNat + 256 * packL l) 256 = packL l from h3, strCells_S l]
    rfl
theorem packA_u8 : ∀ bs : List UInt8, packA (bs.map u8) = some (packL bs)
  | [] => rfl
  | b :: l => by
    have h2 : Nat.blt b.toNat 256 = true := by rw [blt_iff]; simpa using b.toNat_lt
    show (match packA (l.map u8) with | some x => bif Nat.blt b.toNat 256 then some (Nat.add b.toNat (Nat.mul 256 x)) else none | none => none) = _
    rw [packA_u8 l, h2]
    rfl
theorem elems_S (H : Heap) (bs : List UInt8) : elemsOf H (S bs) 1 = some (bs.length, bs.map u8) := by
  simp only [elemsOf, S, Nat.beq_refl, cond_true, strCells_S]
theorem scalL_of {l : List AV} (h : ∀ v ∈ l, scal v = true) : scalL l = true := by
  induction l with
  | nil => rfl
  | cons v l ih =>
    simp only [scalL, h v (by simp), cond_true]
    exact ih fun u hu => h u (by simp [hu])
theorem scalL_u8 (bs : List UInt8) : scalL (bs.map u8) = true := scalL_of fun v hv => by
  obtain ⟨b, _, rfl⟩ := List.mem_map.1 hv
  rfl
theorem scalL_get {l : List AV} (h : scalL l = true) : ∀ v ∈ l, scal v = true := by
  induction l with
  | nil => intro v hv; cases hv
  | cons u l ih =>
    simp only [scalL] at h
    cases hu : scal u with
    | false => rw [hu] at h; cases h
    | true =>
      rw [hu] at h
      intro v hv
      rcases List.mem_cons.1 hv with rfl | hv
      · exact hu
      · exact ih h v hv

section
variable {P : Program} {tb : List FuncId} {gl : List (List AV)} {t e : TypeId} {x y i : Operand} {l : Fm} {H : Heap} {Q : AV → Heap → Prop} {v w : AV} {cs : List AV} {tl ro : Bool} {b n m es : Nat}

/-! ### texts: rules -/
theorem oa_sadd {r : TypeId} {p q : List UInt8} (hx : evA x l = some (S p)) (hy : evA y l = some (S q)) (hn : p.length + q.length < pow63) (k : Q (S (p ++ q)) H) : OA P tb gl (.binOp .add t x y r) l H Q :=
  oa (fun T hT => by
    have h1 : Nat.blt (Nat.add p.length q.length) pow63 = true := by rw [blt_iff]; simpa using hn
    have h2 : packL p % 256 ^ p.length = packL p := Nat.mod_eq_of_lt (packL_lt p)
    have hx' : ev x T = some (.str p.length (packL p)) := evA_ok hT hx
    have hy' : ev y T = some (.str q.length (packL q)) := evA_ok hT hy
    simp only [oper, oBin, hx', hy', strOp, h1, cond_true, fN_eq]
    rw [show Nat.mod (packL p) (Nat.pow 256 p.length) = packL p from h2]
    show OR.val (.str (p.length + q.length) (packL p + packL q * 256 ^ p.length)) H = _
    rw [← packL_append, ← List.length_append]
    rfl) k
theorem oa_seql {r : TypeId} {p q : List UInt8} (hx : evA x l = some (S p)) (hy : evA y l = some (S q)) (k : Q (.bool (decide (p = q))) H) : OA P tb gl (.binOp .eql t x y r) l H Q :=
  oa (fun T hT => by
    have hx' : ev x T = some (.str p.length (packL p)) := evA_ok hT hx
    have hy' : ev y T = some (.str q.length (packL q)) := evA_ok hT hy
    simp only [oper, oBin, hx', hy', strOp, fB_eq, strEq_S]) k
theorem oa_sneq {r : TypeId} {p q : List UInt8} (hx : evA x l = some (S p)) (hy : evA y l = some (S q)) (k : Q (.bool (!decide (p = q))) H) : OA P tb gl (.binOp .neq t x y r) l H Q :=
  oa (fun T hT => by
    have hx' : ev x T = some (.str p.length (packL p)) := evA_ok hT hx
    have hy' : ev y T = some (.str q.length (packL q)) := evA_ok hT hy
    simp only [oper, oBin, hx', hy', strOp, fB_eq, strEq_S]) k
theorem oa_lenS {c : Call} {p : List UInt8} (hc : c.callee = .builtin .len) (ha : c.args.toList = [x]) (ht : c.argTypes.toList = [t]) (hu : P.underlying t = some .string) (hx : evA x l = some (S p)) (k : Q (.int .i64 (p.length : Int)) H) : OA P tb gl (.call c) l H Q :=
  oa (fun T hT => by
    have hx' : evL [x] T = some [.str p.length (packL p)] := evLA_ok hT (by simp only [evLA, hx]; rfl)
    simp only [oper, oCall, ha, hx', hc, ht, oBuiltin, oLen, hu]; rfl) k
theorem oa_indexS {p : List UInt8} {k0 : IntKind} {j : Nat} {z0 : Int} {c : UInt8} (hu : P.underlying t = some .string) (hx : evA x l = some (S p)) (hi : evA i l = some (.int k0 z0)) (hz0 : z0 = (j : Int)) (hj : p[j]? = some c) (k : Q (u8 c) H) : OA P tb gl (.index t x i) l H Q :=
  oa (fun T hT => by
    have hlt : j < p.length := (List.getElem?_eq_some_iff.1 hj).1
    have hx' : ev x T = some (.str p.length (packL p)) := evA_ok hT hx
    have hi' : ev i T = some (.int k0 (.ofNat j)) := by rw [evA_ok hT hi, hz0]; rfl
    have h1 : Nat.blt j p.length = true := by rw [blt_iff]; simpa using hlt
    have h2 : byteAt (packL p) j = c.toNat := by
      have h3 := unpackL_get p.length (packL p) j hlt
      rw [unpackL_pack, hj] at h3
      injection h3 with h3
      rw [byteAt_eq, h3, UInt8.toNat_ofNat']
      have : packL p / 256 ^ j % 256 < 256 := Nat.mod_lt _ (by decide)
      omega
    simp only [oper, oIndex, hu, hx', hi', idx, h1, cond_true, fN_eq, h2]; rfl) k
theorem packL_drop : ∀ (a : Nat) (p : List UInt8), packL p / 256 ^ a = packL (p.drop a)
  | 0, p => by simp
  | a + 1, [] => by simp [packL]
  | a + 1, b :: p => by
    have h2 : b.toNat < 256 := b.toNat_lt
    show (b.toNat + 256 * packL p) / 256 ^ (a + 1) = packL (p.drop a)
    rw [Nat.pow_succ', ← Nat.div_div_eq_div_mul, show (b.toNat + 256 * packL p) / 256 = packL p by omega, packL_drop a p]
theorem packL_take : ∀ (a : Nat) (p : List UInt8), packL p % 256 ^ a = packL (p.take a)
  | 0, p => by simp [packL, Nat.mod_one]
  | a + 1, [] => by simp [packL]
  | a + 1, b :: p => by
    have h2 : b.toNat < 256 := b.toNat_lt
    show (b.toNat + 256 * packL p) % 256 ^ (a + 1) = b.toNat + 256 * packL (p.take a)
    rw [← packL_take a p, Nat.pow_succ, Nat.mul_comm (256 ^ a) 256, Nat.mod_mul, show (b.toNat + 256 * packL p) % 256 = b.toNat by omega, show (b.toNat + 256 * packL p) / 256 = packL p by omega]
def bndA (x : Option Operand) (l : Fm) (d : Nat) : Option Nat := match x with | some x => natOf (evA x l) | none => some d
theorem bndA_of {x : Operand} {d a : Nat} {k0 : IntKind} {z0 : Int} (h : evA x l = some (.int k0 z0)) (hz : z0 = (a : Int)) : bndA (some x) l d = some a := by
  subst hz
  simp only [bndA, h]
  rfl
theorem bndA_ok {T : Tm} (hT : FR l T) {x : Option Operand} {d c : Nat} (h : bndA x l d = some c) : boundOf x T d = some c := by
  cases x with
  | none => exact h
  | some x =>
    simp only [bndA] at h
    cases he : evA x l with
    | none => rw [he] at h; cases h
    | some u => simp only [boundOf, evA_ok hT he]; rw [he] at h; exact h
theorem bnd3_ok {T : Tm} (hT : FR l T) {lo hi : Option Operand} {a c len cap : Nat} (h1 : bndA lo l 0 = some a) (h2 : bndA hi l len = some c) (h3 : a ≤ c) (h4 : c ≤ cap) : bnd3 lo hi none T len cap = some (a, c, cap) := by
  have e1 : Nat.ble a c = true := by rw [ble_iff]; simpa using h3
  have e2 : Nat.ble c cap = true := by rw [ble_iff]; simpa using h4
  have e3 : Nat.ble cap cap = true := by rw [ble_iff]; simp
  have b1 := bndA_ok hT h1
  have b2 := bndA_ok hT h2
  have fin : (bif Nat.ble a c && Nat.ble c cap && Nat.ble cap cap then some (a, c, cap) else none) = some (a, c, cap) := by simp only [e1, e2, e3, Bool.and_self, cond_true]
  cases hi with
  | none =>
    show (match boundOf lo T 0, boundOf none T len, boundOf none T cap with | some l, some h, some m => (bif Nat.ble l h && Nat.ble h m && Nat.ble m cap then some (l, h, m) else none) | _, _, _ => none) = _
    rw [b1, b2]
    exact fin
  | some hh =>
    show (match boundOf lo T 0, boundOf (some hh) T len, boundOf none T cap with | some l, some h, some m => (bif Nat.ble l h && Nat.ble h m && Nat.ble m cap then some (l, h, m) else none) | _, _, _ => none) = _
    rw [b1, b2]
    exact fin
theorem oa_sliceS {p : List UInt8} {lo hi : Option Operand} {a c : Nat} (hu : P.underlying t = some .string) (hx : evA x l = some (S p)) (h1 : bndA lo l 0 = some a) (h2 : bndA hi l p.length = some c) (h3 : a ≤ c) (h4 : c ≤ p.length) (k : Q (S ((p.drop a).take (c - a))) H) : OA P tb gl (.slice t x lo hi none) l H Q :=
  oa (fun T hT => by
    have hx' : ev x T = some (.str p.length (packL p)) := evA_ok hT hx
    simp only [oper, oSlice, hu, hx', oSliceS, bnd3_ok hT h1 h2 h3 h4, fN_eq]
    have e1 : Nat.mod (Nat.shiftRight (packL p) (Nat.mul 8 a)) (Nat.pow 256 (Nat.sub c a)) = packL ((p.drop a).take (c - a)) := by
      show (packL p >>> (8 * a)) % 256 ^ (c - a) = _
      rw [Nat.shiftRight_eq_div_pow, Nat.pow_mul, show (2 : Nat) ^ 8 = 256 from rfl, packL_drop, packL_take]
    have e2 : ((p.drop a).take (c - a)).length = c - a := by rw [List.length_take, List.length_drop]; omega
    rw [e1]
    show OR.val (.str (c - a) _) H = OR.val (.str _ _) H
    rw [e2]) k

/-! ### memory that is made -/
theorem oa_alloc {z : AV} (hz : zeroOf P t = some z) (q : ∀ H', Keep Non H H' → IsRow H' H.nx z.cells false false → Q (.ptr H.nx 0) H') : OA P tb gl (.alloc t) l H Q :=
  oa (H' := ⟨H.bl.set (bits H.nx) (some (.cells (layT .lf 0 z.cells) z.cells.length false false)), H.nx + 1⟩) (fun T _ => by simp only [oper, oAlloc, hz, newR, layC_eq, fN_eq, newB_eq, len'_eq]) (q _ (keep_push _ _) (row_push _ _ _ _ _ (.lay _)))
theorem oa_box (hx : evA x l = some v) (q : ∀ H', Keep Non H H' → IsRow H' H.nx v.cells false false → Q (.ptr H.nx 0) H') : OA P tb gl (.box t x) l H Q :=
  oa (H' := ⟨H.bl.set (bits H.nx) (some (.cells (layT .lf 0 v.cells) v.cells.length false false)), H.nx + 1⟩) (fun T hT => by simp only [oper, oBox, evA_ok hT hx, newR, layC_eq, fN_eq, newB_eq, len'_eq]) (q _ (keep_push _ _) (row_push _ _ _ _ _ (.lay _)))
theorem oa_buildSlice {E : EI} {parts : Array (Nat × Operand)} {vs : List AV} (hE : elemI P t = some E) (hl : n * E.z < 10000) (hf : ∀ T, FR l T → fillL (repL n E.zero.cells) (rowPlc E.z) T parts.toList = some vs) (hv : vs.length = n * E.z)
    (q : ∀ H', Keep Non H H' → IsRow H' H.nx vs false false → Q (.sl H.nx 0 n n) H') : OA P tb gl (.buildSlice t n parts) l H Q :=
  oa (H' := ⟨H.bl.set (bits H.nx) (some (.cells (layT .lf 0 vs) vs.length false false)), H.nx + 1⟩) (fun T hT => by
    have h1 : Nat.blt (Nat.mul n E.z) 10000 = true := by rw [blt_iff]; simpa using hl
    simp only [oper, oBuildSlice, hE, h1, cond_true, hf T hT, layC_eq, fN_eq, newB_eq]
    rw [hv]
    rfl) (q _ (keep_push _ _) (row_push _ _ _ _ _ (.lay _)))
theorem repL_length (n : Nat) (l : List AV) : (repL n l).length = n * l.length := by
  induction n with
  | zero => simp [repL]
  | succ n ih => simp only [repL, List.length_append, ih, Nat.succ_mul]; omega
theorem oa_makeSlice {E : EI} {c : Nat} {k1 k2 : IntKind} (hE : elemI P t = some E) {zn zc : Int} (hx : evA x l = some (.int k1 zn)) (hzn : zn = (n : Int)) (hy : evA y l = some (.int k2 zc)) (hzc : zc = (c : Int)) (hn : n ≤ c) (hc : c < limit) (hz : E.zero.cells.length = E.z)
    (q : ∀ H', Keep Non H H' → IsRow H' H.nx (repL c E.zero.cells) false false → Q (.sl H.nx 0 n c) H') : OA P tb gl (.makeSlice t x y) l H Q :=
  oa (H' := ⟨H.bl.set (bits H.nx) (some (.cells (layT .lf 0 (repL c E.zero.cells)) (repL c E.zero.cells).length false false)), H.nx + 1⟩) (fun T hT => by
    have hx' : ev x T = some (.int k1 (.ofNat n)) := by rw [evA_ok hT hx, hzn]; rfl
    have hy' : ev y T = some (.int k2 (.ofNat c)) := by rw [evA_ok hT hy, hzc]; rfl
    have h1 : Nat.ble n c = true := by rw [ble_iff]; simpa using hn
    have h2 : Nat.blt c limit = true := by rw [blt_iff]; simpa using hc
    simp only [oper, oMakeSlice, hE, hx', hy', h1, h2, Bool.and_self, cond_true, layC_eq, fN_eq, newB_eq]
    rw [repL_length, hz]
    rfl) (q _ (keep_push _ _) (row_push _ _ _ _ _ (.lay _)))

/-! ### loads -/
theorem oa_load1 {o z i : Nat} (hp : plcOf P t 0 = some ⟨o, false, z⟩) (hx : evA x l = some (.ptr b i)) (hr : IsRow H b cs tl ro) (hv : cs[i]? = some v) (q : Q v H) : OA P tb gl (.load t x) l H Q :=
  oa (fun T hT => by
    obtain ⟨_, tr, hB, hT'⟩ := hr
    have hi : i < cs.length := (List.getElem?_eq_some_iff.1 hv).1
    simp only [oper, oLoad, evA_ok hT hx, hp, loadR, hB, cond_false, hT' i hi, hv]) q
theorem oa_loadN {o z i : Nat} (hp : plcOf P t 0 = some ⟨o, true, z⟩) (hx : evA x l = some (.ptr b i)) (hr : IsRow H b cs tl ro) (hi : i + z ≤ cs.length) (q : Q (.agg ((cs.drop i).take z)) H) : OA P tb gl (.load t x) l H Q :=
  oa (fun T hT => by
    obtain ⟨_, tr, hB, hT'⟩ := hr
    have ht : takeC tr i z = some ((cs.drop i).take z) := by
      refine takeC_some _ _ _ (by rw [List.length_take, List.length_drop]; omega) fun j hj => ?_
      rw [hT' _ (by omega), List.getElem?_take, if_pos hj, List.getElem?_drop]
    simp only [oper, oLoad, evA_ok hT hx, hp, loadR, hB, cond_true, ht]) q
theorem PtsTo.row {p : AV} (h : PtsTo H p cs) (hne : cs ≠ []) : ∃ b i row tl ro, p = .ptr b i ∧ IsRow H b row tl ro ∧ i + cs.length ≤ row.length ∧ (row.drop i).take cs.length = cs := by
  obtain ⟨b, i, row, tl, ro, h1, h2, h3⟩ := h
  have hle : i + cs.length ≤ row.length := by
    have hpos : 0 < cs.length := List.length_pos_iff.2 hne
    have := h3 (cs.length - 1) (by omega)
    by_cases hlt : i + (cs.length - 1) < row.length
    · omega
    · rw [List.getElem?_eq_none (by omega), List.getElem?_eq_getElem (by omega)] at this
      cases this
  refine ⟨b, i, row, tl, ro, h1, h2, hle, ?_⟩
  refine List.ext_getElem? fun j => ?_
  by_cases hj : j < cs.length
  · rw [List.getElem?_take, if_pos hj, List.getElem?_drop, h3 j hj]
  · rw [List.getElem?_take, if_neg hj, List.getElem?_eq_none (by omega)]
theorem oa_pload1 {o z : Nat} {p : AV} (hp : plcOf P t 0 = some ⟨o, false, z⟩) (hx : evA x l = some p) (hr : PtsTo H p [v]) (q : Q v H) : OA P tb gl (.load t x) l H Q := by
  obtain ⟨b, i, row, tl, ro, rfl, h2, h3⟩ := hr
  have := h3 0 (by simp)
  exact oa_load1 hp hx h2 (by simpa using this) q
theorem oa_ploadN {o k : Nat} {p : AV} (hp : plcOf P t 0 = some ⟨o, true, k⟩) (hk : cs.length = k) (hne : 0 < k) (hx : evA x l = some p) (hr : PtsTo H p cs) (q : Q (.agg cs) H) : OA P tb gl (.load t x) l H Q := by
  subst hk
  obtain ⟨b, i, row, tl, ro, rfl, h2, h3, h4⟩ := hr.row (List.length_pos_iff.1 hne)
  exact oa_loadN hp hx h2 h3 (by rw [h4]; exact q)
theorem oa_pfieldAddr {s : TypeId} {f : Nat} {p : AV} {o z : Nat} {g : Bool} (hp : fieldPlc P s f = some ⟨o, g, z⟩) (hz : z ≠ 0) (hx : evA x l = some p) (hr : PtsTo H p cs) (q : ∀ p', PtsTo H p' (cs.drop o) → Q p' H) : OA P tb gl (.fieldAddr s x f) l H Q := by
  obtain ⟨b, i, row, tl, ro, rfl, h2, h3⟩ := hr
  refine oa_fieldAddr hp hz hx (q _ ⟨b, i + o, row, tl, ro, rfl, h2, fun j hj => ?_⟩)
  rw [List.length_drop] at hj
  rw [List.getElem?_drop, Nat.add_assoc]
  exact h3 (o + j) (by omega)
theorem PtsTo.pre {p : AV} {cs ds : List AV} (h : PtsTo H p (cs ++ ds)) : PtsTo H p cs := by
  obtain ⟨b, i, row, tl, ro, h1, h2, h3⟩ := h
  exact ⟨b, i, row, tl, ro, h1, h2, fun j hj => by
    have := h3 j (by rw [List.length_append]; omega)
    rwa [List.getElem?_append_left hj] at this⟩
theorem oa_indexSl {k0 : IntKind} {j : Nat} {z0 : Int} (hu : P.underlying t = some (.slice e)) (hz : szOf P e = some es) (hx : evA x l = some v) (hs : IsSl H v es n cs) (hi : evA i l = some (.int k0 z0)) (hz0 : z0 = (j : Int)) (hj : j < n)
    (q : ∀ p, PtsTo H p ((cs.drop (j * es)).take es) → Q p H) : OA P tb gl (.indexAddr t x i) l H Q := by
  obtain ⟨h0, ⟨_, rfl⟩ | ⟨_, rfl⟩ | ⟨b, o, row, tl, ro, h1, h2, h3⟩⟩ := hs
  · omega
  · omega
  · have hb : Nat.blt j n = true := by rw [blt_iff]; simpa using hj
    have hjs : j * es + es ≤ n * es := by
      have := Nat.mul_le_mul_right es (show j + 1 ≤ n from hj)
      rw [Nat.add_mul, Nat.one_mul] at this
      exact this
    refine oa (v := .ptr b (o + j * es)) (H' := H) (fun T hT => ?_) (q _ ⟨b, o + j * es, row, tl, ro, rfl, h2, fun k hk => ?_⟩)
    · have hi' : ev i T = some (.int k0 (.ofNat j)) := by rw [evA_ok hT hi, hz0]; rfl
      rcases h1 with ⟨rfl, _⟩ | ⟨c, rfl, _⟩
      · simp only [oper, oIndexAddr, hu, evA_ok hT hx, hi', idx, hb, cond_true, hz, fN_eq]; rfl
      · simp only [oper, oIndexAddr, hu, evA_ok hT hx, hi', idx, hb, cond_true, hz, fN_eq]; rfl
    · rw [List.length_take, List.length_drop] at hk
      rw [List.getElem?_take, if_pos (by omega), List.getElem?_drop, Nat.add_assoc]
      exact h3 _ (by omega)
theorem oa_indexOwn {k0 : IntKind} {j : Nat} {z0 : Int} (hu : P.underlying t = some (.slice e)) (hz : szOf P e = some es) (hx : evA x l = some (.so b 0 n es)) (hi : evA i l = some (.int k0 z0)) (hz0 : z0 = (j : Int)) (hj : j < n) (q : Q (.ptr b (j * es)) H) : OA P tb gl (.indexAddr t x i) l H Q :=
  oa (fun T hT => by
    have hb : Nat.blt j n = true := by rw [blt_iff]; simpa using hj
    have hi' : ev i T = some (.int k0 (.ofNat j)) := by rw [evA_ok hT hi, hz0]; rfl
    simp only [oper, oIndexAddr, hu, evA_ok hT hx, hi', idx, hb, cond_true, hz, fN_eq]
    show OR.val (.ptr b (0 + j * es)) H = _
    rw [Nat.zero_add]) q
theorem oa_indexRow {k0 : IntKind} {j c : Nat} {z0 : Int} (hu : P.underlying t = some (.slice e)) (hz : szOf P e = some es) (hx : evA x l = some (.sl b 0 n c)) (hi : evA i l = some (.int k0 z0)) (hz0 : z0 = (j : Int)) (hj : j < n) (q : Q (.ptr b (j * es)) H) : OA P tb gl (.indexAddr t x i) l H Q :=
  oa (fun T hT => by
    have hb : Nat.blt j n = true := by rw [blt_iff]; simpa using hj
    have hi' : ev i T = some (.int k0 (.ofNat j)) := by rw [evA_ok hT hi, hz0]; rfl
    simp only [oper, oIndexAddr, hu, evA_ok hT hx, hi', idx, hb, cond_true, hz, fN_eq]
    show OR.val (.ptr b (0 + j * es)) H = _
    rw [Nat.zero_add]) q
theorem oa_indexArr {k0 : IntKind} {j o : Nat} {z0 : Int} (hu : P.underlying t = some (.array n e)) (hz : szOf P e = some es) (hx : evA x l = some (.ptr b o)) (hi : evA i l = some (.int k0 z0)) (hz0 : z0 = (j : Int)) (hj : j < n) (q : Q (.ptr b (o + j * es)) H) : OA P tb gl (.indexAddr t x i) l H Q :=
  oa (fun T hT => by
    have hb : Nat.blt j n = true := by rw [blt_iff]; simpa using hj
    have hi' : ev i T = some (.int k0 (.ofNat j)) := by rw [evA_ok hT hi, hz0]; rfl
    simp only [oper, oIndexAddr, hu, evA_ok hT hx, hi', idx, hb, cond_true, hz, fN_eq]; rfl) q
theorem oa_lenSl {c : Call} (hc : c.callee = .builtin .len) (ha : c.args.toList = [x]) (ht : c.argTypes.toList = [t]) (hu : P.underlying t = some (.slice e)) (hx : evA x l = some v) (hs : IsSl H v es n cs) (k : Q (.int .i64 (n : Int)) H) : OA P tb gl (.call c) l H Q :=
  oa (fun T hT => by
    have hx' : evL [x] T = some [v] := evLA_ok hT (by simp only [evLA, hx])
    obtain ⟨_, ⟨rfl, rfl⟩ | ⟨⟨_, _, _, rfl⟩ | ⟨_, rfl⟩, rfl⟩ | ⟨b, o, row, tl, ro, h1, _, _⟩⟩ := hs
    · simp only [oper, oCall, ha, hx', hc, ht, oBuiltin, oLen, hu]; rfl
    · simp only [oper, oCall, ha, hx', hc, ht, oBuiltin, oLen, hu]; rfl
    · simp only [oper, oCall, ha, hx', hc, ht, oBuiltin, oLen, hu]; rfl
    · rcases h1 with ⟨rfl, _⟩ | ⟨c, rfl, _⟩
      · simp only [oper, oCall, ha, hx', hc, ht, oBuiltin, oLen, hu]; rfl
      · simp only [oper, oCall, ha, hx', hc, ht, oBuiltin, oLen, hu]; rfl) k

/-! ### stores -/
theorem RowT.set {tr : Tr AV} (h : RowT tr cs) (i : Nat) (u : AV) : RowT (tr.set (bits i) (some u)) (cs.set i u) := by
  intro j hj
  rw [List.length_set] at hj
  rw [Tr.get_set_bits, List.getElem?_set]
  by_cases e : i = j
  · subst e; simp [hj]
  · rw [if_neg e, if_neg e]; exact h j hj
theorem oa_store1 {u : AV} {i : Nat} (hz : szOf P t = some 1) (hx : evA x l = some (.ptr b i)) (hy : evA y l = some u) (hs : scal u = true) (hr : IsRow H b cs tl false) (hi : i < cs.length)
    (q : ∀ H', Keep (· = b) H H' → H'.nx = H.nx → IsRow H' b (cs.set i u) tl false → Q undefA H') : OA P tb gl (.store t x y) l H Q := by
  obtain ⟨hb, tr, hB, hT'⟩ := hr
  have hcs : u.cells = [u] := by cases u <;> first | rfl | cases hs
  refine oa (H' := ⟨H.bl.set (bits b) (some (.cells (tr.set (bits i) (some u)) cs.length tl false)), H.nx⟩) (fun T hT => ?_) (q _ (keep_put' hB rfl _) rfl ⟨hb, _, by rw [getB_set, if_pos rfl, List.length_set], hT'.set i u⟩)
  have hp : ∀ {β : Type} (bad : β) (k : Tr AV → β), putC tr i u.cells bad k = k (tr.set (bits i) (some u)) := by
    intro β bad k
    rw [hcs, putC_some [u] tr i (fun j h1 h2 => ?_) (by simp [scalL, hs])]
    · rfl
    · have : j = i := by simp at h2; omega
      subst this
      rw [hT' j hi, List.getElem?_eq_getElem hi]; rfl
  simp only [oper, oStore, evA_ok hT hx, evA_ok hT hy, hz]
  rw [len'_eq, show u.cells.length = 1 by rw [hcs]; rfl]
  simp only [Nat.beq_refl, cond_true, storeR, hB, hp, setB_eq]

/-! ### appending -/
theorem elemI_pos {E : EI} (h : elemI P t = some E) : 0 < E.z ∧ E.zero.cells.length = E.z := by
  unfold elemI at h
  split at h
  · split at h
    · rename_i i v _ _
      cases hc : (Nat.blt 0 i.size && Nat.blt i.bytes limit && Nat.beq v.cells.length i.size) with
      | false => rw [hc] at h; cases h
      | true =>
        rw [hc] at h
        injection h with h
        subst h
        simp only [Bool.and_eq_true] at hc
        exact ⟨by simpa [blt_iff] using hc.1.1, by simpa using beq_true.1 hc.2⟩
    · cases h
  · cases h
theorem layT_row {tr : Tr AV} {xs : List AV} (hT : ∀ j, j < cs.length → tr.get (bits j) = cs[j]?) : RowT (layT tr cs.length xs) (cs ++ xs) := by
  intro i hi
  rw [List.length_append] at hi
  rw [get_layT]
  by_cases h : cs.length ≤ i
  · rw [if_pos ⟨h, by omega⟩, List.getElem?_append_right h]
  · rw [if_neg (by omega), List.getElem?_append_left (by omega), hT i (by omega)]
theorem row_lt {row : List AV} {o j : Nat} (h : ∀ j, j < cs.length → row[o + j]? = cs[j]?) (hj : j < cs.length) : o + j < row.length := by
  have := h j hj
  by_cases hlt : o + j < row.length
  · exact hlt
  · rw [List.getElem?_eq_none (by omega), List.getElem?_eq_getElem hj] at this
    cases this
theorem newOpen_own {xs : List AV} (hl : xs.length = m * es) (hm : m < limit) : newOpen H m es xs = .val (.so H.nx 0 m es) ⟨H.bl.set (bits H.nx) (some (.cells (layT .lf 0 xs) xs.length true false)), H.nx + 1⟩ ∧
    Own ⟨H.bl.set (bits H.nx) (some (.cells (layT .lf 0 xs) xs.length true false)), H.nx + 1⟩ (.so H.nx 0 m es) es m xs := by
  refine ⟨?_, hl, hm, .inr ⟨H.nx, xs, rfl, row_push _ _ _ _ _ (.lay _), by omega, fun _ _ => rfl⟩⟩
  have h1 : Nat.blt m limit = true := by rw [blt_iff]; simpa using hm
  simp only [newOpen, h1, Bool.not_true, cond_false, layC_eq, fN_eq, newB_eq]
  rw [hl]
  rfl
theorem appendR_own {xs : List AV} (ho : Own H v es n cs) (hl : xs.length = m * es) (hs : scalL xs = true) (hn : n + m < limit) :
    ∃ v' H', appendR H v es m xs = .val v' H' ∧ Own H' v' es (n + m) (cs ++ xs) ∧ Keep (ownB v) H H' ∧ ∀ c, ownB v' c → ownB v c ∨ H.nx ≤ c := by
  obtain ⟨h0, h1, ⟨rfl, rfl⟩ | ⟨b, row, rfl, hr, hle0, h3⟩⟩ := ho
  · rw [Nat.zero_mul] at h0
    obtain rfl := List.length_eq_zero_iff.1 h0
    rw [Nat.zero_add] at hn ⊢
    rw [List.nil_append]
    cases hb : Nat.beq m 0 with
    | true =>
      have hm0 := beq_true.1 hb
      subst hm0
      rw [Nat.zero_mul] at hl
      obtain rfl := List.length_eq_zero_iff.1 hl
      exact ⟨.nils, H, rfl, .nil _ _, .refl _ _, fun c hc => hc.elim⟩
    | false =>
      obtain ⟨e1, e2⟩ := newOpen_own (H := H) hl hn
      refine ⟨_, _, ?_, e2, (keep_push _ _).wide fun _ h => h.elim, fun c hc => .inr ?_⟩
      · simp only [appendR, hb, cond_false]; exact e1
      · have : c = H.nx := hc
        omega
  · obtain ⟨hb, tr, hB, hT'⟩ := hr
    have hle : cs.length ≤ row.length := by omega
    have hcs : ∀ j, j < cs.length → tr.get (bits j) = cs[j]? := fun j hj => by rw [hT' j (by omega), h3 j hj]
    simp only [appendR, Nat.beq_refl, cond_true, hB]
    rw [show Nat.add 0 (Nat.mul (Nat.add n m) es) = (n + m) * es by simp, show Nat.add 0 (Nat.mul n es) = n * es by simp]
    have hnm : (n + m) * es = n * es + m * es := Nat.add_mul _ _ _
    cases hfit : Nat.ble ((n + m) * es) row.length with
    | true =>
      have hfit' : (n + m) * es ≤ row.length := by simpa [ble_iff] using hfit
      simp only [cond_true]
      rw [putC_some xs tr (n * es) (fun j h1 h2 => ?_) hs]
      · simp only [setB_eq, fN_eq]
        refine ⟨_, _, rfl, ⟨by rw [List.length_append, h0, hl, hnm], hn, .inr ⟨b, row.take cs.length ++ xs ++ row.drop (cs.length + xs.length), rfl, ⟨hb, layT tr (n * es) xs, ?_, ?_⟩, ?_, ?_⟩⟩, (keep_put' hB rfl _).wide fun c hc => hc, fun c hc => .inl hc⟩
        · rw [getB_set, if_pos rfl]
          have : (row.take cs.length ++ xs ++ row.drop (cs.length + xs.length)).length = row.length := by
            simp only [List.length_append, List.length_take, List.length_drop]
            omega
          rw [this]
        · intro j hj
          simp only [List.length_append, List.length_take, List.length_drop] at hj
          rw [get_layT]
          by_cases hj1 : n * es ≤ j ∧ j < n * es + xs.length
          · rw [if_pos hj1, List.append_assoc, List.getElem?_append_right (by rw [List.length_take]; omega), List.getElem?_append_left (by rw [List.length_take]; omega)]
            congr 1
            rw [List.length_take]; omega
          · rw [if_neg hj1, hT' j (by omega)]
            by_cases hj2 : j < cs.length
            · rw [List.append_assoc, List.getElem?_append_left (by rw [List.length_take]; omega), List.getElem?_take, if_pos hj2]
            · rw [List.getElem?_append_right (by rw [List.length_append, List.length_take]; omega), List.getElem?_drop]
              congr 1
              rw [List.length_append, List.length_take]; omega
        · simp only [List.length_append, List.length_take, List.length_drop]
          omega
        · intro j hj
          rw [List.length_append] at hj
          rw [List.getElem?_append_left (by rw [List.length_append, List.length_take]; omega)]
          by_cases hj2 : j < cs.length
          · rw [List.getElem?_append_left (by rw [List.length_take]; omega), List.getElem?_append_left hj2, List.getElem?_take, if_pos hj2, h3 j hj2]
          · rw [List.getElem?_append_right (by rw [List.length_take]; omega), List.getElem?_append_right (by omega)]
            congr 1
            rw [List.length_take]; omega
      · rw [hT' j (by omega), List.getElem?_eq_getElem (by omega)]; rfl
    | false =>
      have e1 : Nat.ble (n * es) row.length = true := by rw [ble_iff]; simp; omega
      have e2 : Nat.blt (n + m) limit = true := by rw [blt_iff]; simpa using hn
      have e2' : Nat.blt (Nat.add n m) limit = true := e2
      simp only [cond_false, e1, hs, e2', Bool.and_self, cond_true, setB_eq, layC_eq, fN_eq, newB_eq]
      have hr2 : RowT (layT tr (n * es) xs) (cs ++ xs) := by rw [← h0]; exact layT_row hcs
      refine ⟨_, _, rfl, ⟨by rw [List.length_append, h0, hl, hnm], hn, .inr ⟨H.nx, cs ++ xs, rfl, ⟨Nat.lt_succ_self _, layT tr (n * es) xs, ?_, hr2⟩, by rw [List.length_append, h0, hl, hnm]; exact Nat.le_refl _, fun _ _ => rfl⟩⟩, ?_, fun c hc => .inr ?_⟩
      · rw [getB_setT, if_pos rfl, List.length_append, h0, hl, ← hnm]
        rfl
      · exact ((keep_put' hB rfl _).wide fun c hc => hc).trans (keep_push _ _) fun _ h => h.elim
      · have : c = H.nx := hc
        omega
theorem oa_append {c : Call} {u : TypeId} {E : EI} {xs : List AV} (hc : c.callee = .builtin .append) (ha : c.args.toList = [x, y]) (ht : c.argTypes.toList = [t, u]) (hE : elemI P t = some E) (hu : P.underlying u = some (.slice e) ∨ P.underlying u = some .string)
    (hx : evA x l = some v) (ho : Own H v E.z n cs) (hy : evA y l = some w) (hel : elemsOf H w E.z = some (m, xs)) (hlen : xs.length = m * E.z) (hs : scalL xs = true) (hn : n + m < limit)
    (q : ∀ v' H', Own H' v' E.z (n + m) (cs ++ xs) → Keep (ownB v) H H' → (∀ c, ownB v' c → ownB v c ∨ H.nx ≤ c) → Q v' H') : OA P tb gl (.call c) l H Q := by
  obtain ⟨v', H', hr, h1, h2, h3⟩ := appendR_own ho hlen hs hn
  refine oa (fun T hT => ?_) (q v' H' h1 h2 h3)
  have hx' : evL [x, y] T = some [v, w] := evLA_ok hT (by simp only [evLA, hx, hy])
  have hm : Nat.blt m limit = true := by rw [blt_iff]; simp; omega
  simp only [oper, oCall, ha, hx', hc, ht, oBuiltin, oAppend, hE]
  rcases hu with hu | hu
  · simp only [hu, appS, hel, hm, cond_true, hr]
  · simp only [hu, appS, hel, hm, cond_true, hr]
/-- cut short: what is left is still the call's own -/
theorem oa_cutOwn {hi : Option Operand} {c : Nat} (hu : P.underlying t = some (.slice e)) (hz : szOf P e = some es) (hpos : 0 < es) (hx : evA x l = some v) (ho : Own H v es n cs) (h2 : bndA hi l n = some c) (hc : c ≤ n) (hn : 0 < n)
    (q : ∀ v', Own H v' es c (cs.take (c * es)) → (∀ d, ownB v' d → ownB v d) → Q v' H) : OA P tb gl (.slice t x none hi none) l H Q := by
  obtain ⟨h0, h1, ⟨_, rfl⟩ | ⟨b, row, rfl, hr, hle0, h3⟩⟩ := ho
  · omega
  · have hr0 := hr
    obtain ⟨hb, tr, hB, hT'⟩ := hr
    have hmul : c * es ≤ n * es := Nat.mul_le_mul_right es hc
    have hpn : 0 < n * es := Nat.mul_pos hn hpos
    have hkn : knownC H b 0 es = some (row.length / es) := by
      have e1 : Nat.ble 0 row.length = true := by simp [ble_iff]
      have e2 : Nat.blt 0 es = true := by rw [blt_iff]; simpa using hpos
      simp only [knownC, hB, e1, e2, Bool.and_self, cond_true]
      rfl
    have hk1 : n ≤ row.length / es := by
      rw [Nat.le_div_iff_mul_le hpos]
      omega
    refine oa (v := .so b 0 c es) (H' := H) (fun T hT => ?_) (q _ ⟨by rw [List.length_take, h0]; omega, by omega, .inr ⟨b, row, rfl, hr0, by omega, fun j hj => ?_⟩⟩ fun d hd => hd)
    · have e3 : Nat.blt 0 (row.length / es) = true := by rw [blt_iff]; exact decide_eq_true (by omega)
      simp only [oper, oSlice, hu, evA_ok hT hx, hz, hkn, Nat.beq_refl, cond_true, bnd3_ok hT (show bndA none l 0 = some 0 from rfl) h2 (Nat.zero_le _) (show c ≤ row.length / es by omega), oSliceO, e3, fN_eq]
      show OR.val (.so b (0 + 0 * es) (c - 0) es) H = _
      simp
    · rw [List.length_take] at hj
      rw [List.getElem?_take, if_pos (by omega)]
      exact h3 j (by omega)
/-- a part of an array behind a pointer -/
theorem oa_cutArr {lo hi : Option Operand} {a c o : Nat} (hu : P.underlying t = some (.array n e)) (hz : szOf P e = some es) (hx : evA x l = some (.ptr b o)) (h1 : bndA lo l 0 = some a) (h2 : bndA hi l n = some c) (hac : a ≤ c) (hc : c ≤ n) (han : a < n)
    (q : Q (.sl b (o + a * es) (c - a) (n - a)) H) : OA P tb gl (.slice t x lo hi none) l H Q :=
  oa (fun T hT => by
    have hb : Nat.beq n a = false := beq_false (by omega)
    simp only [oper, oSlice, hu, evA_ok hT hx, hz, bnd3_ok hT h1 h2 hac hc, oSliceR, hb, cond_false, fN_eq]
    rfl) q
/-- a part of a slice, to be read -/
theorem oa_cutSl {lo hi : Option Operand} {a c : Nat} (hu : P.underlying t = some (.slice e)) (hz : szOf P e = some es) (hpos : 0 < es) (hx : evA x l = some v) (hs : IsSl H v es n cs) (h1 : bndA lo l 0 = some a) (h2 : bndA hi l n = some c) (hac : a ≤ c) (hc : c ≤ n)
    (hse : ∀ b o w z, v ≠ .se b o w z) (hsz : ∀ z, v ≠ .sz z) (q : ∀ v', IsSl H v' es (c - a) ((cs.drop (a * es)).take ((c - a) * es)) → Q v' H) : OA P tb gl (.slice t x lo hi none) l H Q := by
  obtain ⟨h0, hs⟩ := hs
  have hmul : c * es ≤ n * es := Nat.mul_le_mul_right es hc
  have hsub : (c - a) * es = c * es - a * es := Nat.sub_mul _ _ _
  have hma : a * es ≤ c * es := Nat.mul_le_mul_right es hac
  have hlen : ((cs.drop (a * es)).take ((c - a) * es)).length = (c - a) * es := by rw [List.length_take, List.length_drop]; omega
  rcases hs with ⟨rfl, rfl⟩ | ⟨⟨b, o, was, rfl⟩ | ⟨z, rfl⟩, rfl⟩ | ⟨b, o, row, tl, ro, hv, hr, h3⟩
  · refine oa (v := .nils) (H' := H) (fun T hT => ?_) (q _ ⟨hlen, .inl ⟨rfl, by omega⟩⟩)
    simp only [oper, oSlice, hu, evA_ok hT hx, bnd3_ok hT h1 h2 hac hc, hz]
  · exact absurd rfl (hse _ _ _ _)
  · exact absurd rfl (hsz _)
  · have hget : ∀ j, j < ((cs.drop (a * es)).take ((c - a) * es)).length → row[o + a * es + j]? = ((cs.drop (a * es)).take ((c - a) * es))[j]? := fun j hj => by
      rw [hlen] at hj
      rw [List.getElem?_take, if_pos hj, List.getElem?_drop, Nat.add_assoc]
      exact h3 _ (by omega)
    rcases hv with ⟨rfl, hle⟩ | ⟨cp, rfl, hcp⟩
    · have hr0 := hr
      obtain ⟨hb, tr, hB, hT'⟩ := hr
      have hkn : knownC H b o es = some ((row.length - o) / es) := by
        have e1 : Nat.ble o row.length = true := by rw [ble_iff]; simp; omega
        have e2 : Nat.blt 0 es = true := by rw [blt_iff]; simpa using hpos
        simp only [knownC, hB, e1, e2, Bool.and_self, cond_true]
        rfl
      have hk1 : n ≤ (row.length - o) / es := by
        rw [Nat.le_div_iff_mul_le hpos]
        omega
      cases hlt : Nat.blt a ((row.length - o) / es) with
      | true =>
        refine oa (v := .so b (o + a * es) (c - a) es) (H' := H) (fun T hT => ?_) (q _ ⟨hlen, .inr (.inr ⟨b, o + a * es, row, tl, ro, .inl ⟨rfl, by omega⟩, hr0, hget⟩)⟩)
        simp only [oper, oSlice, hu, evA_ok hT hx, hz, hkn, Nat.beq_refl, cond_true, bnd3_ok hT h1 h2 hac (show c ≤ (row.length - o) / es by omega), oSliceO, hlt, fN_eq]
        rfl
      | false =>
        have hge : ¬ a < (row.length - o) / es := by simpa [blt_iff] using hlt
        have h0c : c - a = 0 := by omega
        refine oa (v := .se b (o + a * es) o es) (H' := H) (fun T hT => ?_) (q _ ⟨hlen, .inr (.inl ⟨.inl ⟨b, o + a * es, o, rfl⟩, h0c⟩)⟩)
        simp only [oper, oSlice, hu, evA_ok hT hx, hz, hkn, Nat.beq_refl, cond_true, bnd3_ok hT h1 h2 hac (show c ≤ (row.length - o) / es by omega), oSliceO, hlt, cond_false, fN_eq]
        rfl
    · cases hb : Nat.beq cp a with
      | true =>
        have hb' := beq_true.1 hb
        refine oa (v := .sl b o (c - a) (cp - a)) (H' := H) (fun T hT => ?_) (q _ ⟨hlen, .inr (.inr ⟨b, o, row, tl, ro, .inr ⟨_, rfl, by omega⟩, hr, fun j hj => by rw [hlen, show c - a = 0 by omega] at hj; omega⟩)⟩)
        simp only [oper, oSlice, hu, evA_ok hT hx, hz, bnd3_ok hT h1 h2 hac (show c ≤ cp by omega), oSliceR, hb, cond_true, fN_eq]
        rfl
      | false =>
        refine oa (v := .sl b (o + a * es) (c - a) (cp - a)) (H' := H) (fun T hT => ?_) (q _ ⟨hlen, .inr (.inr ⟨b, o + a * es, row, tl, ro, .inr ⟨_, rfl, by omega⟩, hr, hget⟩)⟩)
        simp only [oper, oSlice, hu, evA_ok hT hx, hz, bnd3_ok hT h1 h2 hac (show c ≤ cp by omega), oSliceR, hb, cond_false, fN_eq]
        rfl
/-- bytes as a text -/
theorem oa_toS {s d u : TypeId} {bs : List UInt8} (hs : P.underlying s = some (.slice u)) (hu : P.underlying u = some (.int .u8)) (hd : P.underlying d = some .string) (hx : evA x l = some v) (hv : IsSl H v 1 n (bs.map Eng.u8)) (q : Q (S bs) H) : OA P tb gl (.convert s d x) l H Q :=
  oa (fun T hT => by
    have he := hv.elems
    have hn : n = bs.length := by have := hv.1; rw [List.length_map] at this; omega
    subst hn
    have hstr : isStr v = false := by
      obtain ⟨_, ⟨rfl, _⟩ | ⟨⟨_, _, _, rfl⟩ | ⟨_, rfl⟩, _⟩ | ⟨b, o, row, tl, ro, ⟨rfl, _⟩ | ⟨c, rfl, _⟩, _⟩⟩ := hv <;> rfl
    simp only [oper, oConvert, hs, hd, evA_ok hT hx, hu, hstr, cond_false, he, packA_u8, fN_eq]; rfl) q
end
end Eng
end Go.Proofs.YtalnmaalhocjfaaGreatDoor
namespace Go.Proofs.YtalnmaalhocjfaaGreatDoor
namespace Eng
open Go
section
variable {P : Program}

/-! ### what cells flat data have -/
def isKind : TypeDesc → Value → Prop
  | .bool, v => ∃ b, v = .bool b
  | .int k, v => ∃ n, v = .int k n ∧ (Lit.int k n).wf = true
  | .string, v => ∃ s, v = .string s ∧ s.size ≤ maxLen
  | _, _ => False
def KL : List TypeDesc → List Value → Prop
  | [], [] => True
  | d :: ds, v :: vs => isKind d v ∧ KL ds vs
  | _, _ => False
theorem KL.length : ∀ {ds : List TypeDesc} {vs : List Value}, KL ds vs → vs.length = ds.length
  | [], [], _ => rfl
  | _ :: _, _ :: _, h => by simp [KL.length h.2]
  | [], _ :: _, h => h.elim
  | _ :: _, [], h => h.elim
theorem KL.append : ∀ {ds : List TypeDesc} {vs : List Value} {ds' : List TypeDesc} {vs' : List Value}, KL ds vs → KL ds' vs' → KL (ds ++ ds') (vs ++ vs')
  | [], [], _, _, _, k => k
  | _ :: _, _ :: _, _, _, h, k => ⟨h.1, KL.append h.2 k⟩
  | [], _ :: _, _, _, h, _ => h.elim
  | _ :: _, [], _, _, h, _ => h.elim
def kindsS (P : Program) (f : TypeId → Option (List TypeDesc)) : Nat → List Field → Option (List TypeDesc)
  | _, [] => some []
  | off, x :: fs => match f x.type, kindsS P f (off + P.cellsOf x.type) fs with
    | some l, some r => if x.offset = off ∧ l.length = P.cellsOf x.type then some (l ++ r) else none
    | _, _ => none
def repK (n : Nat) (l : List TypeDesc) : List TypeDesc := match n with | 0 => [] | n + 1 => l ++ repK n l
def kindsOf (P : Program) : Nat → TypeId → Option (List TypeDesc)
  | 0, _ => none
  | n + 1, t => match P.underlying t with
    | some .bool => some [.bool]
    | some (.int k) => some [.int k]
    | some .string => some [.string]
    | some (.array m e) => match kindsOf P n e with
      | some ks => if ks.length = P.cellsOf e ∧ P.cellsOf t = m * P.cellsOf e then some (repK m ks) else none
      | none => none
    | some (.struct fs) => match kindsS P (kindsOf P n) 0 fs.toList with
      | some l => if l.length = P.cellsOf t then some l else none
      | none => none
    | _ => none
theorem kindsS_ok {f : TypeId → Option (List TypeDesc)} {cs : List Value} : ∀ (fs : List Field) (off : Nat) (l : List TypeDesc), kindsS P f off fs = some l → cs.length = off + l.length →
    (∀ (i : Nat) (x : Field) l, fs[i]? = some x → f x.type = some l → KL l ((cs.drop x.offset).take (P.cellsOf x.type))) → KL l (cs.drop off)
  | [], off, l, h, hl, _ => by
    injection h with h
    subst h
    rw [List.drop_eq_nil_of_le (by simp at hl; omega)]
    trivial
  | x :: fs, off, l, h, hl, hd => by
    simp only [kindsS] at h
    split at h
    · rename_i l0 r h0 hr
      split at h
      · rename_i hz
        injection h with h
        subst h
        have h1 := hd 0 x l0 rfl h0
        rw [hz.1] at h1
        rw [List.length_append] at hl
        have h2 := kindsS_ok fs _ r hr (by omega) (fun i x l hi hf => hd (i + 1) x l (by simpa using hi) hf)
        have := h1.append h2
        rw [← List.drop_drop, List.take_append_drop] at this
        exact this
      · cases h
    · cases h
theorem repK_ok {ks : List TypeDesc} {z : Nat} : ∀ (m : Nat) (cs : List Value), cs.length = m * z → (∀ i, i < m → KL ks ((cs.drop (i * z)).take z)) → KL (repK m ks) cs
  | 0, cs, hl, _ => by
    have : cs = [] := List.length_eq_zero_iff.1 (by simpa using hl)
    subst this
    trivial
  | m + 1, cs, hl, h => by
    have h1 := h 0 (by omega)
    simp only [Nat.zero_mul, List.drop_zero] at h1
    have h2 := repK_ok (ks := ks) (z := z) m (cs.drop z) (by rw [List.length_drop, hl, Nat.add_mul]; omega) (fun i hi => by
      have := h (i + 1) (by omega)
      rwa [take_drop_succ] at this)
    have := h1.append h2
    rwa [List.take_append_drop] at this
theorem kinds_ok {H : Type} {enc : TypeId × Value → H} {w : World} {base : Nat} {sp : Nat → Bool} {held : Bool} : ∀ (n : Nat) (t : TypeId) (ks : List TypeDesc), kindsOf P n t = some ks →
    ∀ (fuel : Nat) (cs : List Value) (x : DataW H × List MemPlace), DataW.trod enc P w base sp held fuel t cs = some x → KL ks cs
  | 0, _, _, h, _, _, _, _ => by cases h
  | n + 1, t, ks, h, fuel, cs, x, ht => by
    simp only [kindsOf] at h
    split at h
    · rename_i hu
      injection h with h
      subst h
      obtain ⟨c, rfl, _⟩ := DataW.trod_bool hu ht
      exact ⟨⟨c, rfl⟩, trivial⟩
    · rename_i k hu
      injection h with h
      subst h
      obtain ⟨c, rfl, _, hw⟩ := DataW.trod_int hu ht
      exact ⟨⟨c, rfl, hw⟩, trivial⟩
    · rename_i hu
      injection h with h
      subst h
      obtain ⟨s, rfl, _, hw⟩ := DataW.trod_string hu ht
      exact ⟨⟨s, rfl, hw⟩, trivial⟩
    · rename_i m e hu
      split at h
      · rename_i ks0 hk
        split at h
        · rename_i hz
          injection h with h
          subst h
          obtain ⟨xs, k, rfl, _, hlen, hm, hel⟩ := DataW.trod_array hu ht
          refine repK_ok m cs (by rw [hlen, hz.2]) fun i hi => ?_
          have := hel i hi
          rw [List.getElem?_eq_getElem (by omega)] at this
          exact kinds_ok n e ks0 hk _ _ _ this
        · cases h
      · cases h
    · rename_i fs hu
      split at h
      · rename_i l hl
        split at h
        · rename_i hz
          injection h with h
          subst h
          obtain ⟨xs, k, rfl, _, hlen, hm, hel⟩ := DataW.trod_struct hu ht
          have := kindsS_ok (P := P) (cs := cs) fs.toList 0 l hl (by rw [hlen]; omega) (fun i x l hi hf => by
            have h1 := hel i x (by simpa using hi)
            have hi' : i < xs.length := by
              rw [hm]
              have := (List.getElem?_eq_some_iff.1 hi).1
              simpa using this
            rw [List.getElem?_eq_getElem hi'] at h1
            exact kinds_ok n _ l hf _ _ _ h1)
          simpa using this
        · cases h
      · cases h
    · cases h

/-! ### texts' lengths -/
theorem mem_weightsAll {H : Type} {P : Program} {e : TypeId} {k : Nat} : ∀ {l : List (DataW H)} {d : DataW H}, d ∈ l → k ∈ d.weights P e → k ∈ DataW.weightsAll P e l
  | [], _, h, _ => by cases h
  | x :: l, d, h, hk => by
    simp only [DataW.weightsAll, List.mem_append]
    rcases List.mem_cons.1 h with rfl | h
    · exact .inl hk
    · exact .inr (mem_weightsAll h hk)
theorem mem_weightsEach {H : Type} {P : Program} {k : Nat} : ∀ {ts : List TypeId} {l : List (DataW H)} {i : Nat} {t : TypeId} {d : DataW H}, ts[i]? = some t → l[i]? = some d → k ∈ d.weights P t → k ∈ DataW.weightsEach P ts l
  | [], _, i, _, _, h, _, _ => by simp at h
  | _ :: _, [], i, _, _, _, h, _ => by simp at h
  | t0 :: ts, x :: l, 0, t, d, h1, h2, hk => by
    simp only [List.getElem?_cons_zero, Option.some.injEq] at h1 h2
    subst h1 h2
    simp only [DataW.weightsEach, List.mem_append]
    exact .inl hk
  | t0 :: ts, x :: l, i + 1, t, d, h1, h2, hk => by
    simp only [DataW.weightsEach, List.mem_append]
    exact .inr (mem_weightsEach (i := i) (by simpa using h1) (by simpa using h2) hk)
/-- a value's texts are among the data's weights -/
def TxB (B : Nat) (cs : List Value) : Prop := ∀ s, Value.string s ∈ cs → s.size ≤ B
theorem kindsS_tx {B : Nat} {f : TypeId → Option (List TypeDesc)} {cs : List Value} : ∀ (fs : List Field) (off : Nat) (l : List TypeDesc), kindsS P f off fs = some l → cs.length = off + l.length →
    (∀ (i : Nat) (x : Field) l, fs[i]? = some x → f x.type = some l → TxB B ((cs.drop x.offset).take (P.cellsOf x.type))) → TxB B (cs.drop off)
  | [], off, l, h, hl, _ => by
    injection h with h
    subst h
    rw [List.drop_eq_nil_of_le (by simp at hl; omega)]
    intro s hs
    cases hs
  | x :: fs, off, l, h, hl, hd => by
    simp only [kindsS] at h
    split at h
    · rename_i l0 r h0 hr
      split at h
      · rename_i hz
        injection h with h
        subst h
        have h1 := hd 0 x l0 rfl h0
        rw [hz.1] at h1
        rw [List.length_append] at hl
        have h2 := kindsS_tx fs _ r hr (by omega) (fun i x l hi hf => hd (i + 1) x l (by simpa using hi) hf)
        intro s hs
        rw [← List.take_append_drop (P.cellsOf x.type) (cs.drop off), List.mem_append, List.drop_drop] at hs
        exact hs.elim (h1 s) (h2 s)
      · cases h
    · cases h
theorem repK_tx {B z : Nat} : ∀ (m : Nat) (cs : List Value), cs.length = m * z → (∀ i, i < m → TxB B ((cs.drop (i * z)).take z)) → TxB B cs
  | 0, cs, hl, _ => by
    have : cs = [] := List.length_eq_zero_iff.1 (by simpa using hl)
    subst this
    intro s hs
    cases hs
  | m + 1, cs, hl, h => by
    have h1 := h 0 (by omega)
    simp only [Nat.zero_mul, List.drop_zero] at h1
    have h2 := repK_tx (B := B) (z := z) m (cs.drop z) (by rw [List.length_drop, hl, Nat.add_mul]; omega) (fun i hi => by
      have := h (i + 1) (by omega)
      rwa [take_drop_succ] at this)
    intro s hs
    rw [← List.take_append_drop z cs, List.mem_append] at hs
    exact hs.elim (h1 s) (h2 s)
theorem kinds_tx {H : Type} {enc : TypeId × Value → H} {w : World} {base : Nat} {sp : Nat → Bool} {held : Bool} {B : Nat} : ∀ (n : Nat) (t : TypeId) (ks : List TypeDesc), kindsOf P n t = some ks →
    ∀ (fuel : Nat) (cs : List Value) (x : DataW H × List MemPlace), DataW.trod enc P w base sp held fuel t cs = some x → (∀ k ∈ x.1.weights P t, k ≤ B) → TxB B cs
  | 0, _, _, h, _, _, _, _, _ => by cases h
  | n + 1, t, ks, h, fuel, cs, x, ht, hB => by
    simp only [kindsOf] at h
    split at h
    · rename_i hu
      obtain ⟨c, rfl, _⟩ := DataW.trod_bool hu ht
      intro s hs
      simp at hs
    · rename_i k hu
      obtain ⟨c, rfl, _, hw⟩ := DataW.trod_int hu ht
      intro s hs
      simp at hs
    · rename_i hu
      obtain ⟨s, rfl, rfl, hw⟩ := DataW.trod_string hu ht
      intro s' hs
      simp only [List.mem_singleton, Value.string.injEq] at hs
      subst hs
      exact hB _ (by simp [DataW.weights])
    · rename_i m e hu
      split at h
      · rename_i ks0 hk
        split at h
        · rename_i hz
          obtain ⟨xs, k, rfl, rfl, hlen, hm, hel⟩ := DataW.trod_array hu ht
          refine repK_tx (z := P.cellsOf e) m cs (by rw [hlen, hz.2]) fun i hi => ?_
          have := hel i hi
          rw [List.getElem?_eq_getElem (by omega)] at this
          refine kinds_tx n e ks0 hk _ _ _ this fun k hk2 => hB k ?_
          simp only [DataW.weights, hu]
          exact mem_weightsAll (List.mem_map.2 ⟨xs[i], List.getElem_mem (by omega), rfl⟩) hk2
        · cases h
      · cases h
    · rename_i fs hu
      split at h
      · rename_i l hl
        split at h
        · rename_i hz
          obtain ⟨xs, k, rfl, rfl, hlen, hm, hel⟩ := DataW.trod_struct hu ht
          have := kindsS_tx (P := P) (B := B) (cs := cs) fs.toList 0 l hl (by rw [hlen]; omega) (fun i x l hi hf => by
            have h1 := hel i x (by simpa using hi)
            have hi' : i < xs.length := by
              rw [hm]
              have := (List.getElem?_eq_some_iff.1 hi).1
              simpa using this
            rw [List.getElem?_eq_getElem hi'] at h1
            refine kinds_tx n _ l hf _ _ _ h1 fun k hk2 => hB k ?_
            simp only [DataW.weights, hu]
            exact mem_weightsEach (i := i) (by rw [List.getElem?_map, hi]; rfl) (by rw [List.getElem?_map, List.getElem?_eq_getElem hi']; rfl) hk2)
          simpa using this
        · cases h
      · cases h
    · cases h

/-! ### as the engine's -/
def avOf : Value → AV
  | .bool b => .bool b
  | .int k n => .int k n
  | .string s => S s.data.toList
  | _ => .nilp
def isKA : TypeDesc → AV → Prop
  | .bool, v => ∃ b, v = .bool b
  | .int k, v => ∃ n, v = .int k n ∧ (Lit.int k n).wf = true
  | .string, v => ∃ bs, v = S bs ∧ bs.length ≤ maxLen
  | _, _ => False
def KA : List TypeDesc → List AV → Prop
  | [], [] => True
  | d :: ds, v :: vs => isKA d v ∧ KA ds vs
  | _, _ => False
theorem isKind.av {d : TypeDesc} {v : Value} (h : isKind d v) (ρ : Rho) : den ρ (avOf v) = some v ∧ isKA d (avOf v) := by
  cases d <;> first | exact h.elim | skip
  · obtain ⟨b, rfl⟩ := h
    exact ⟨rfl, b, rfl⟩
  · obtain ⟨n, rfl, hw⟩ := h
    exact ⟨rfl, n, rfl, hw⟩
  · obtain ⟨s, rfl, hs⟩ := h
    refine ⟨?_, _, rfl, by simpa using hs⟩
    have : unpack s.data.toList.length (packL s.data.toList) = s := by
      have h := unpack_pack s
      have e : s.size = s.data.toList.length := Array.length_toList.symm
      rw [e] at h
      exact h
    show den ρ (.str s.data.toList.length (packL s.data.toList)) = some (.string s)
    rw [den, this]
theorem KL.av : ∀ {ds : List TypeDesc} {vs : List Value}, KL ds vs → ∀ ρ, DL ρ (vs.map avOf) vs ∧ KA ds (vs.map avOf)
  | [], [], _, _ => ⟨.nil, trivial⟩
  | _ :: _, _ :: _, h, ρ => ⟨.cons (h.1.av ρ).1 (h.2.av ρ).1, (h.1.av ρ).2, (h.2.av ρ).2⟩
  | [], _ :: _, h, _ => h.elim
  | _ :: _, [], h, _ => h.elim
theorem KA.cons {d : TypeDesc} {ds : List TypeDesc} {c : List AV} (h : KA (d :: ds) c) : ∃ v vs, c = v :: vs ∧ isKA d v ∧ KA ds vs := by
  cases c with
  | nil => exact h.elim
  | cons v vs => exact ⟨v, vs, rfl, h⟩
theorem KA.nil {c : List AV} (h : KA [] c) : c = [] := by
  cases c with
  | nil => rfl
  | cons v vs => exact h.elim
theorem KA.length : ∀ {ds : List TypeDesc} {vs : List AV}, KA ds vs → vs.length = ds.length
  | [], [], _ => rfl
  | _ :: _, _ :: _, h => by simp [KA.length h.2]
  | [], _ :: _, h => h.elim
  | _ :: _, [], h => h.elim

/-! ### read-only blocks that lie in what was there -/
def AllRo (H : Heap) : Prop := ∀ b B, getB H b = some B → ¬ wr B
def Frees (ρ : Rho) (H : Heap) : Prop := ∀ b, H.nx ≤ b → ρ b = none
theorem HR.push_ro {ρ : Rho} {H : Heap} {w : World} (h : HR ρ H w) (ha : AllRo H) (hf : Frees ρ H) {p : Pl} {t : Tr AV} {n : Nat} (hB : CellsOK (upd ρ H.nx p) w p t n true) :
    HR (upd ρ H.nx p) (push H (.cells t n false true)) w ∧ AllRo (push H (.cells t n false true)) ∧ Frees (upd ρ H.nx p) (push H (.cells t n false true)) ∧ Sub ρ (upd ρ H.nx p) ∧ Keep Non H (push H (.cells t n false true)) := by
  have hs : Sub ρ (upd ρ H.nx p) := .upd (hf H.nx (Nat.le_refl _))
  have har : AllRo (push H (.cells t n false true)) := fun b B hb => by
    rw [getB_push] at hb
    by_cases e : b = H.nx
    · rw [if_pos e] at hb; injection hb with hb; subst hb; simp [wr]
    · rw [if_neg e] at hb; exact ha b B hb
  refine ⟨⟨fun b B hb => ?_, fun b b' B B' q q' k i _ hb hb' _ _ hw _ => ?_, fun b B hb => ?_⟩, har, fun b hb => ?_, hs, keep_push _ _⟩
  · rw [getB_push] at hb
    by_cases e : b = H.nx
    · subst e
      rw [if_pos rfl] at hb
      injection hb with hb
      subst hb
      exact ⟨p, upd_self _ _ _, hB⟩
    · rw [if_neg e] at hb
      obtain ⟨q, hq, hC⟩ := h.blk b B hb
      exact ⟨q, hs b q hq, hC.keep hs (S := fun _ _ => False) (.of_eq rfl) (fun _ _ _ => id)⟩
  · rcases hw with hw | hw
    · exact absurd hw (har b B hb)
    · exact absurd hw (har b' B' hb')
  · rw [getB_push] at hb
    by_cases e : b = H.nx
    · subst e; simp [push]
    · rw [if_neg e] at hb; have := h.lt b B hb; simp [push]; omega
  · have hb' : H.nx + 1 ≤ b := hb
    rw [upd_ne (by omega)]
    exact hf b (by omega)

/-! ### slices of flat data -/
theorem cells_get {w : World} {base : Nat} {a : Addr} {n : Nat} {cs : List Value} (h : w.cells? base a n = some cs) : cs.length = n ∧ ∀ j, j < n → w.cell? (a.add j) = cs[j]? := by
  unfold World.cells? at h
  split at h
  · refine ⟨by simpa using mapM_some_length h, fun j hj => ?_⟩
    exact mapM_some_get h j j (by simp [hj])
  · cases h
theorem flat_len {ks : List TypeDesc} : ∀ vs : List (List Value), (∀ c ∈ vs, KL ks c) → vs.flatten.length = vs.length * ks.length
  | [], _ => by simp
  | d :: vs, h => by
    rw [List.flatten_cons, List.length_append, flat_len vs (fun c hc => h c (by simp [hc])), (h d (by simp)).length, List.length_cons, Nat.add_mul]
    omega
/-- an argument that is a slice of flat data: laid as a read-only block -/
theorem lay_sliceB {H0 : Type} {enc : TypeId × Value → H0} {W : World} {base : Nat} {sp : Nat → Bool} {held : Bool} {fuel : Nat} {t e : TypeId} {ks : List TypeDesc} {m : Nat} {v : Value} {x : DataW H0 × List MemPlace}
    (hu : P.underlying t = some (.slice e)) (hk : kindsOf P m e = some ks) (hz : P.cellsOf e = ks.length) (h : DataW.trod enc P W base sp held fuel t [v] = some x) {b0 : Nat} (hok : Value.okWide P W .any b0 t v) {B : Nat} (hB : ∀ k ∈ x.1.weights P t, k ≤ B) :
    ∃ (els : List (List AV)), (∀ c ∈ els, KA ks c) ∧ (∀ c ∈ els, ∀ bs, S bs ∈ c → bs.length ≤ B) ∧ els.length ≤ maxLen ∧ ∀ ρ H, HR ρ H W → AllRo H → Frees ρ H → ∃ ρ' H' u, HR ρ' H' W ∧ AllRo H' ∧ Frees ρ' H' ∧ Sub ρ ρ' ∧ Keep Non H H' ∧ den ρ' u = some v ∧ IsSlR H' u ks.length els.length els.flatten := by
  rcases DataW.trod_slice hu h with ⟨hv, _⟩ | ⟨a, len, cap, elems, rest, n, _, hv, rfl, _, hlc, hcm, hel, hget, _⟩
  · injection hv with hv
    subst hv
    exact ⟨[], fun _ h => (by cases h), fun _ h => (by cases h), Nat.zero_le _, fun ρ H h1 h2 h3 => ⟨ρ, H, .nils, h1, h2, h3, .refl ρ, .refl _ _, rfl, by simp, .inl ⟨.inl rfl, rfl⟩⟩⟩
  · injection hv with hv
    subst hv
    have hhas : W.has P .any b0 a e cap := by
      simp only [Value.okWide, hu, Cell.okWide, Cell.ok] at hok
      exact hok.2.2
    obtain ⟨_, hspot, row, cells, hshape, _⟩ := hhas
    obtain ⟨c, ce, fz, hc⟩ : ∃ c ce fz, W.heap[a.block]? = some (.cells c ce fz) := by
      unfold World.shape? at hshape
      split at hshape
      · exact ⟨_, _, _, by assumption⟩
      · cases hshape
    -- each element's cells
    have helem : ∀ i, i < len → ∃ cs : List Value, (KL ks cs ∧ TxB B cs) ∧ ∀ j, j < ks.length → c[a.off + (i * ks.length + j)]? = cs[j]? := by
      intro i hi
      have h1 := hget i hi
      rw [List.getElem?_eq_getElem (by omega)] at h1
      rw [Option.bind_eq_some_iff] at h1
      obtain ⟨cs, hcs, htr⟩ := h1
      refine ⟨cs, ⟨kinds_ok m e ks hk _ _ _ htr, kinds_tx m e ks hk _ _ _ htr fun k hk2 => hB k ?_⟩, fun j hj => ?_⟩
      · simp only [DataW.weights, hu]
        exact List.mem_cons_of_mem _ (List.mem_append.2 (.inl (mem_weightsAll (List.mem_map.2 ⟨elems[i], List.getElem_mem (by omega), rfl⟩) hk2)))
      obtain ⟨_, h2⟩ := cells_get hcs
      have h3 := h2 j (by omega)
      rw [← h3]
      have hadd : (a.add (i * P.cellsOf e)).add j = ⟨a.block, a.off + (i * ks.length + j), none⟩ := by
        rw [hz]
        unfold Addr.add
        obtain ⟨ab, ao, as⟩ := a
        simp only at hspot
        subst hspot
        by_cases h0 : i * ks.length = 0
        · by_cases hj0 : j = 0
          · simp [h0, hj0]
          · simp [h0, hj0]
        · by_cases hj0 : j = 0
          · simp [h0, hj0]
          · simp [h0, hj0, Nat.add_assoc]
      rw [hadd]
      simp [World.cell?, hc]
    -- the list of all elements
    have hlist : ∀ k, k ≤ len → ∃ vs : List (List Value), vs.length = k ∧ (∀ c ∈ vs, KL ks c ∧ TxB B c) ∧ ∀ i cs, vs[i]? = some cs → ∀ j, j < ks.length → c[a.off + (i * ks.length + j)]? = cs[j]? := by
      intro k
      induction k with
      | zero => exact fun _ => ⟨[], rfl, fun _ h => (by cases h), fun i cs h => (by simp at h)⟩
      | succ k ih =>
        intro hk'
        obtain ⟨vs, h1, h2, h3⟩ := ih (by omega)
        obtain ⟨cs, h4, h5⟩ := helem k (by omega)
        refine ⟨vs ++ [cs], by simp [h1], fun d hd => ?_, fun i d hd => ?_⟩
        · rcases List.mem_append.1 hd with hd | hd
          · exact h2 d hd
          · rw [List.mem_singleton.1 hd]; exact h4
        · rw [List.getElem?_append] at hd
          by_cases hi : i < vs.length
          · rw [if_pos hi] at hd; exact h3 i d hd
          · rw [if_neg hi] at hd
            have hi' : i = k := by
              have := (List.getElem?_eq_some_iff.1 hd).1
              simp at this
              omega
            subst hi'
            rw [h1, Nat.sub_self] at hd
            simp only [List.getElem?_cons_zero, Option.some.injEq] at hd
            subst hd
            exact h5
    obtain ⟨vs, hvl, hvk0, hvc⟩ := hlist len (Nat.le_refl _)
    have hvk : ∀ c ∈ vs, KL ks c := fun c hc => (hvk0 c hc).1
    refine ⟨vs.map (List.map avOf), fun d hd => ?_, fun d hd bs hbs => ?_, by rw [List.length_map, hvl]; omega, fun ρ H hH hA hF => ?_⟩
    · obtain ⟨d0, hd0, rfl⟩ := List.mem_map.1 hd
      exact ((hvk d0 hd0).av (fun _ => none)).2
    · obtain ⟨d0, hd0, rfl⟩ := List.mem_map.1 hd
      obtain ⟨x0, hx0, he⟩ := List.mem_map.1 hbs
      have hx1 := (hvk0 d0 hd0).2
      cases x0 with
      | string s =>
        have h1 := hx1 s hx0
        have h2 : s.data.toList.length = bs.length := by
          simp only [avOf, S, AV.str.injEq] at he
          exact he.1
        rw [← h2]
        exact h1
      | _ => simp [avOf, S] at he
    · have hfl : (vs.map (List.map avOf)).flatten = vs.flatten.map avOf := by rw [List.map_flatten]
      have hlen : vs.flatten.length = len * ks.length := by
        rw [← hvl]
        exact flat_len vs hvk
      have hflat : ∀ k y, vs.flatten[k]? = some y → c[a.off + k]? = some y ∧ ∀ ρ, den ρ (avOf y) = some y := by
        intro k y hy
        have hk2 : k < len * ks.length := by rw [← hlen]; exact (List.getElem?_eq_some_iff.1 hy).1
        have hgen : ∀ (us : List (List Value)) (off : Nat), (∀ d ∈ us, KL ks d) → (∀ i cs, us[i]? = some cs → ∀ j, j < ks.length → c[a.off + (off + (i * ks.length + j))]? = cs[j]?) → ∀ k y, us.flatten[k]? = some y → c[a.off + (off + k)]? = some y ∧ ∀ ρ, den ρ (avOf y) = some y := by
          intro us
          induction us with
          | nil => intro off _ _ k y h; simp at h
          | cons d us ih =>
            intro off hk3 hc3 k y hy
            have hd := hk3 d (by simp)
            rw [List.flatten_cons, List.getElem?_append] at hy
            by_cases hkd : k < d.length
            · rw [if_pos hkd] at hy
              have := hc3 0 d rfl k (by rw [← hd.length]; exact hkd)
              rw [Nat.zero_mul, Nat.zero_add] at this
              refine ⟨by rw [this]; exact hy, fun ρ => ?_⟩
              have hDL := (hd.av ρ).1
              obtain ⟨z, h1, h2⟩ := hDL.get (i := k) (v := avOf y) (by rw [List.getElem?_map, hy]; rfl)
              rw [hy] at h1
              injection h1 with h1
              subst h1
              exact h2
            · rw [if_neg hkd] at hy
              have hdl := hd.length
              have := ih (off + ks.length) (fun c hc => hk3 c (by simp [hc])) (fun i cs hi j hj => by
                have := hc3 (i + 1) cs (by simpa using hi) j hj
                rw [Nat.add_mul, Nat.one_mul] at this
                rw [show off + ks.length + (i * ks.length + j) = off + (i * ks.length + ks.length + j) by omega]
                exact this) (k - d.length) y hy
              rw [show off + ks.length + (k - d.length) = off + k by omega] at this
              exact this
        have := hgen vs 0 hvk (fun i cs hi j hj => by rw [Nat.zero_add]; exact hvc i cs hi j hj) k y hy
        rw [Nat.zero_add] at this
        exact this
      have hlenA : (vs.flatten.map avOf).length = len * ks.length := by rw [List.length_map, hlen]
      have hcell : ∀ ρ' off, off + (if len * ks.length = 0 then 0 else a.off) = a.off → CellsOK ρ' W ⟨a.block, if len * ks.length = 0 then 0 else a.off, len * ks.length⟩ (layT .lf 0 (vs.flatten.map avOf)) (vs.flatten.map avOf).length true := by
        intro ρ' off _
        refine ⟨c, ce, fz, hc, Nat.le_of_eq hlenA, ?_, fun h => (by cases h), fun i u hu => ?_⟩
        · by_cases h0 : len * ks.length = 0
          · simp [h0]
          · simp only [if_neg h0]
            have hy : vs.flatten[len * ks.length - 1]? = some (vs.flatten[len * ks.length - 1]'(by omega)) := List.getElem?_eq_getElem (by omega)
            have := (hflat _ _ hy).1
            have := (Array.getElem?_eq_some_iff.1 this).1
            omega
        · rw [get_layT, Tr.get_lf] at hu
          by_cases hi : 0 ≤ i ∧ i < 0 + (vs.flatten.map avOf).length
          · rw [if_pos hi, Nat.sub_zero, List.getElem?_map] at hu
            rw [hlenA] at hi
            cases hy : vs.flatten[i]? with
            | none => rw [hy] at hu; cases hu
            | some y =>
              rw [hy] at hu
              simp only [Option.map_some, Option.some.injEq] at hu
              subst hu
              obtain ⟨h1, h2⟩ := hflat i y hy
              refine ⟨by rw [hlenA]; omega, y, h2 _, ?_⟩
              simp only [if_neg (show len * ks.length ≠ 0 by omega)]
              exact h1
          · rw [if_neg hi] at hu; cases hu
      rw [hfl, List.length_map, hvl]
      by_cases h0 : len * ks.length = 0
      · have hnil : vs.flatten = [] := List.length_eq_zero_iff.1 (by omega)
        have hB := hcell (upd ρ H.nx ⟨a.block, if len * ks.length = 0 then 0 else a.off, len * ks.length⟩) a.off (by simp [h0])
        obtain ⟨g1, g2, g3, g4, g5⟩ := hH.push_ro hA hF hB
        refine ⟨_, _, .sl H.nx a.off len cap, g1, g2, g3, g4, g5, ?_, by rw [hlenA], .inr ⟨H.nx, a.off, _, false, ⟨cap, rfl, hlc⟩, row_push _ _ _ _ _ (.lay _), fun j hj => by rw [hnil] at hj; cases hj⟩⟩
        simp only [den, upd_self, if_pos h0, Nat.zero_add]
        obtain ⟨ab, ao, as⟩ := a
        simp only at hspot
        subst hspot
        rfl
      · have hB := hcell (upd ρ H.nx ⟨a.block, if len * ks.length = 0 then 0 else a.off, len * ks.length⟩) 0 (by simp [h0])
        obtain ⟨g1, g2, g3, g4, g5⟩ := hH.push_ro hA hF hB
        refine ⟨_, _, .sl H.nx 0 len cap, g1, g2, g3, g4, g5, ?_, by rw [hlenA], .inr ⟨H.nx, 0, _, false, ⟨cap, rfl, hlc⟩, row_push _ _ _ _ _ (.lay _), fun j hj => by rw [Nat.zero_add]⟩⟩
        simp only [den, upd_self, if_neg h0, Nat.add_zero]
        obtain ⟨ab, ao, as⟩ := a
        simp only at hspot
        subst hspot
        rfl

theorem exists_bound : ∀ l : List Nat, ∃ B, ∀ k ∈ l, k ≤ B
  | [] => ⟨0, fun _ h => (by cases h)⟩
  | a :: l => by
    obtain ⟨B, h⟩ := exists_bound l
    refine ⟨a + B, fun k hk => ?_⟩
    rcases List.mem_cons.1 hk with rfl | hk
    · omega
    · have := h k hk; omega
theorem lay_slice {H0 : Type} {enc : TypeId × Value → H0} {W : World} {base : Nat} {sp : Nat → Bool} {held : Bool} {fuel : Nat} {t e : TypeId} {ks : List TypeDesc} {m : Nat} {v : Value} {x : DataW H0 × List MemPlace}
    (hu : P.underlying t = some (.slice e)) (hk : kindsOf P m e = some ks) (hz : P.cellsOf e = ks.length) (h : DataW.trod enc P W base sp held fuel t [v] = some x) {b0 : Nat} (hok : Value.okWide P W .any b0 t v) :
    ∃ (els : List (List AV)), (∀ c ∈ els, KA ks c) ∧ els.length ≤ maxLen ∧ ∀ ρ H, HR ρ H W → AllRo H → Frees ρ H → ∃ ρ' H' u, HR ρ' H' W ∧ AllRo H' ∧ Frees ρ' H' ∧ Sub ρ ρ' ∧ Keep Non H H' ∧ den ρ' u = some v ∧ IsSlR H' u ks.length els.length els.flatten := by
  obtain ⟨B, hB⟩ := exists_bound (x.1.weights P t)
  obtain ⟨els, h1, _, h2⟩ := lay_sliceB hu hk hz h hok hB
  exact ⟨els, h1, h2⟩
/-! ### from a condition to what the call does -/
theorem contractG (hP : progOK P = true) (hfol : P.follows .mixedOrders = true) {tb : List FuncId} {gl : List (List AV)} (hg : groundG gl = true) (hsz : gl.length ≤ P.globals.size) (hK : ∀ f ∈ tb, KnownOK P gl f)
    {f : FuncId} {xs : List AV} {H : Heap} {v : AV} (hrun : WpF P tb gl f xs H fun u _ => u = v) {ρ : Rho} {W : World} {args : Array Value} (hd : DL ρ xs args.toList) (hH : HR ρ H W) (hG : GOK P ρ) (hA : AllRo H) (hF : Frees ρ H)
    {x : Value} (hx : ∀ ρ', den ρ' v = some x) : Calls P f args W fun e W' => e = .returned x ∧ Same W W' := by
  obtain ⟨n, u, H', hrun, rfl⟩ := hrun
  have hbad : callFO P tb gl n f xs H ≠ .bad := by rw [hrun]; intro h; cases h
  have := ((levelO_ok hP hfol hg hsz hK n).1 f xs H hbad).2 ρ W args hd hH hG (fun v H' _ b hb _ => hF b hb)
  refine this.mono fun e W' hp => ?_
  rw [hrun] at hp
  cases e with
  | returned y =>
    obtain ⟨v', H2, ρ', hr, hd, hHR, hE⟩ := hp
    injection hr with h1 h2
    subst h1 h2
    rw [hx ρ'] at hd
    injection hd with hd
    subst hd
    exact ⟨rfl, hE.size, fun c hc => hE.keep c hc (fun ⟨b, B, p, hB, hp, _, hw⟩ => hA b B hB hw), hE.os, hE.tape, hE.output⟩
  | panicked ch =>
    obtain ⟨v', H2, ρ', hr, _⟩ := hp
    cases hr
  | outgrown => exact hp.elim
/-! ### what is known of calls -/
def Laid (gl : List (List AV)) (H : Heap) : Prop := laidIn gl 0 H = true ∧ gl.length ≤ H.nx
theorem laidIn_keep {S : Nat → Prop} {H H' : Heap} (k : Keep S H H') : ∀ (gl : List (List AV)) (b : Nat), (∀ c, b ≤ c → c < b + gl.length → ¬ S c) → b + gl.length ≤ H.nx → laidIn gl b H = true → laidIn gl b H' = true
  | [], _, _, _, _ => rfl
  | [] :: gl, b, hs, hn, h => by
    simp only [laidIn] at h ⊢
    simp only [List.length_cons] at hs hn
    exact laidIn_keep k gl (b + 1) (fun c h1 h2 => hs c (by omega) (by omega)) (by omega) h
  | (v :: l) :: gl, b, hs, hn, h => by
    simp only [laidIn, Bool.and_eq_true] at h ⊢
    simp only [List.length_cons] at hs hn
    refine ⟨?_, laidIn_keep k gl (b + 1) (fun c h1 h2 => hs c (by omega) (by omega)) (by omega) h.2⟩
    have h1 := h.1
    split at h1
    · rename_i t n tl ro hB
      rw [k.old b _ (by omega) hB (.inl (hs b (Nat.le_refl _) (by omega)))]
      exact h1
    · cases h1
theorem Laid.keep {gl : List (List AV)} {H H' : Heap} (h : Laid gl H) (k : Keep Non H H') : Laid gl H' :=
  ⟨laidIn_keep k gl 0 (fun _ _ _ => id) (by have := h.2; omega) h.1, Nat.le_trans h.2 k.nx⟩
theorem oa_known {tb : List FuncId} {gl : List (List AV)} {l : Fm} {H : Heap} {Q : AV → Heap → Prop} {f : FuncId} (hm : memF f tb = true) (hl : Laid gl H) (q : Q (.bool true) H) : OA P tb gl (.call ⟨.value (.func f), #[], #[]⟩) l H Q :=
  oa_call rfl (show evLA [] l = some [] from rfl) rfl (wpf_known hm hl.1 q)
theorem cellsIn_self {t : Tr AV} : ∀ (l : List AV) (i : Nat), l.all groundV = true → (∀ j, j < l.length → t.get (bits (i + j)) = l[j]?) → cellsIn t l i = true
  | [], _, _, _ => rfl
  | v :: l, i, hg, h => by
    simp only [List.all_cons, Bool.and_eq_true] at hg
    have h0 := h 0 (by simp)
    rw [Nat.add_zero, List.getElem?_cons_zero] at h0
    have he : AV.eq v v = true := by
      have h1 := hg.1
      cases v <;> first | (cases h1; done) | skip
      · simp [AV.eq]
      · simp [AV.eq, ieq_eq]
      · simp [AV.eq]
    simp only [cellsIn, h0, he, Bool.true_and]
    refine cellsIn_self l (i + 1) hg.2 fun j hj => ?_
    have := h (j + 1) (by simpa using hj)
    rw [show i + (j + 1) = i + 1 + j by omega] at this
    simpa using this
theorem laidIn_H0 {gl : List (List AV)} (hg : groundG gl = true) {m : Nat} : ∀ (r : List (List AV)) (b : Nat), (∀ j l, r[j]? = some l → gl[b + j]? = some l) → laidIn r b (H0 gl m) = true
  | [], _, _ => rfl
  | [] :: r, b, h => by
    simp only [laidIn]
    refine laidIn_H0 hg r (b + 1) fun j l' hj => ?_
    have := h (j + 1) l' (by simpa using hj)
    rw [show b + (j + 1) = b + 1 + j by omega] at this
    exact this
  | (v :: l) :: r, b, h => by
    have h0 := h 0 (v :: l) rfl
    rw [Nat.add_zero] at h0
    have hB : getB (H0 gl m) b = some (.cells (layT .lf 0 (v :: l)) (v :: l).length false true) := by
      simp only [H0, getB_laidG, Nat.zero_le, if_true, Nat.sub_zero, h0]
    have hgl : (v :: l).all groundV = true := List.all_eq_true.1 hg (v :: l) (List.mem_of_getElem? h0)
    simp only [laidIn, hB, Bool.and_eq_true]
    refine ⟨cellsIn_self (v :: l) 0 hgl fun j hj => ?_, laidIn_H0 hg r (b + 1) fun j l' hj => ?_⟩
    · rw [get_layT, if_pos ⟨by omega, by omega⟩]
      congr 1
      omega
    · have := h (j + 1) l' (by simpa using hj)
      rw [show b + (j + 1) = b + 1 + j by omega] at this
      exact this
theorem laid_H0 {gl : List (List AV)} (hg : groundG gl = true) {m : Nat} (hm : gl.length ≤ m) : Laid gl (H0 gl m) :=
  ⟨laidIn_H0 hg gl 0 fun j l h => by rw [Nat.zero_add]; exact h, by rw [H0, laidG_nx]; exact hm⟩
theorem H0_ro' {gl : List (List AV)} {m : Nat} : AllRo (H0 gl m) := fun _ _ h => H0_ro h
theorem rho0_frees {W : World} {gl : List (List AV)} {m : Nat} : Frees (rho0 W m) (H0 gl m) := fun _ h => rho0_new h
end
end Eng
end Go.Proofs.YtalnmaalhocjfaaGreatDoor
namespace Go.Proofs.YtalnmaalhocjfaaGreatDoor
namespace Eng
open Go
section
variable {P : Program}

/-- types of numbers, truths, texts, structs, arrays and slices of one another -/
def closedT (P : Program) (ts : List TypeId) : Bool := ts.all fun t => match P.underlying t with
  | some .bool => true
  | some (.int _) => true
  | some .string => true
  | some (.struct fs) => fs.toList.all fun f => ts.contains f.type
  | some (.array _ e) => ts.contains e
  | some (.slice e) => ts.contains e && Nat.blt 0 (P.cellsOf e)
  | _ => false
theorem mapM_of {α β : Type} {f : α → Option β} : ∀ {l : List α} {r : List β}, r.length = l.length → (∀ (i : Nat) x, l[i]? = some x → f x = r[i]?) → l.mapM f = some r
  | [], [], _, _ => rfl
  | [], _ :: _, h, _ => by cases h
  | _ :: _, [], h, _ => by cases h
  | x :: l, y :: r, h, k => by
    have h1 := k 0 x rfl
    simp only [List.getElem?_cons_zero] at h1
    have h2 := mapM_of (f := f) (l := l) (r := r) (by simpa using h) fun i z hz => by
      have := k (i + 1) z (by simpa using hz)
      simpa using this
    simp [h1, h2]
theorem cells_grown {W W' : World} (hk : ∀ c, c < W.heap.size → W'.heap[c]? = W.heap[c]?) {base n : Nat} {a : Addr} {cs : List Value} (h : W.cells? base a n = some cs) : W'.cells? base a n = some cs := by
  obtain ⟨h1, h2⟩ := cells_get h
  unfold World.cells? at h ⊢
  split at h
  · rename_i hb
    rw [if_pos hb]
    refine mapM_of (by simpa using h1) fun i x hx => ?_
    have hi : i < n := by have := (List.getElem?_eq_some_iff.1 hx).1; simpa using this
    have hxi : x = i := by
      rw [List.getElem?_range hi] at hx
      injection hx with hx; exact hx.symm
    subst hxi
    rw [← h2 x hi]
    have hs : (W.cell? (a.add x)).isSome := by rw [h2 x hi, List.getElem?_eq_getElem (by omega)]; rfl
    have hblk : (a.add x).block < W.heap.size := by
      unfold World.cell? at hs
      split at hs
      · rename_i c _ _ hc
        exact (Array.getElem?_eq_some_iff.1 hc).1
      · cases hs
    unfold World.cell?
    rw [hk _ hblk]
  · cases h
theorem trod_same {H : Type} {enc : TypeId × Value → H} {W W' : World} {base : Nat} {held : Bool} {sp : Nat → Bool} (hk : ∀ c, c < W.heap.size → W'.heap[c]? = W.heap[c]?) {ts : List TypeId} (hc : closedT P ts = true) :
    ∀ (n : Nat) (t : TypeId) (cs : List Value) (x : DataW H × List MemPlace), t ∈ ts → DataW.trod enc P W base (fun _ => true) held n t cs = some x → (∀ p ∈ x.2, sp p.block = true) → DataW.trod enc P W' base sp held n t cs = some x
  | 0, _, _, _, _, h, _ => by simp [DataW.trod] at h
  | n + 1, t, cs, x, ht, h, hs => by
    have hct := List.all_eq_true.1 hc t ht
    split at hct
    · rename_i hu
      obtain ⟨b, rfl, rfl⟩ := DataW.trod_bool hu h
      simp only [DataW.trod, hu]
    · rename_i k hu
      obtain ⟨z, rfl, rfl, hw⟩ := DataW.trod_int hu h
      simp only [DataW.trod, hu, hw, and_self, if_true]
    · rename_i hu
      obtain ⟨s, rfl, rfl, hw⟩ := DataW.trod_string hu h
      simp only [DataW.trod, hu, hw, if_true]
    · rename_i fs hu
      obtain ⟨xs, m, hm, rfl, hlen, hfs, hel⟩ := DataW.trod_struct hu h
      injection hm with hm
      subst hm
      have hmem : ∀ (i : Nat) (f : Field), fs[i]? = some f → f.type ∈ ts := fun i f hf => by
        have := List.all_eq_true.1 hct f (Array.mem_toList_iff.2 (Array.mem_of_getElem? hf))
        simpa using this
      have hmap : fs.toList.mapM (fun f => DataW.trod enc P W' base sp held n f.type ((cs.drop f.offset).take (P.cellsOf f.type))) = some xs := by
        refine mapM_of (by simp [hfs]) fun i f hf => ?_
        have hf' : fs[i]? = some f := by simpa using hf
        have h1 := hel i f hf'
        have hi : i < xs.length := by
          rw [hfs]
          exact (Array.getElem?_eq_some_iff.1 hf').1
        rw [List.getElem?_eq_getElem hi] at h1 ⊢
        refine trod_same hk hc n _ _ _ (hmem i f hf') h1 fun p hp => hs p ?_
        exact List.mem_flatMap.2 ⟨_, List.getElem_mem hi, hp⟩
      unfold DataW.trod
      rw [hu]
      split <;> simp_all
    · rename_i k e hu
      obtain ⟨xs, m, hm, rfl, hlen, hfs, hel⟩ := DataW.trod_array hu h
      injection hm with hm
      subst hm
      have hmem : e ∈ ts := by simpa using hct
      have hmap : (List.range k).mapM (fun i => DataW.trod enc P W' base sp held n e ((cs.drop (i * P.cellsOf e)).take (P.cellsOf e))) = some xs := by
        refine mapM_of (by simp [hfs]) fun i j hj => ?_
        have hi : i < k := by have := (List.getElem?_eq_some_iff.1 hj).1; simpa using this
        rw [List.getElem?_range hi] at hj
        injection hj with hj
        subst hj
        have h1 := hel i hi
        have hi' : i < xs.length := by omega
        rw [List.getElem?_eq_getElem hi'] at h1 ⊢
        refine trod_same hk hc n _ _ _ hmem h1 fun p hp => hs p ?_
        exact List.mem_flatMap.2 ⟨_, List.getElem_mem hi', hp⟩
      unfold DataW.trod
      rw [hu]
      split <;> simp_all
    · rename_i e hu
      simp only [Bool.and_eq_true] at hct
      have hmem : e ∈ ts := by simpa using hct.1
      have hz : 0 < P.cellsOf e := by have := hct.2; rw [blt_iff] at this; simpa using this
      rcases DataW.trod_slice hu h with ⟨rfl, rfl⟩ | ⟨a, len, cap, elems, rest, m, hm, rfl, rfl, hb, hlc, hcm, hel, hget, hsp, _⟩
      · simp only [DataW.trod, hu]
      · injection hm with hm
        subst hm
        obtain ⟨hrl, hrest⟩ := hsp rfl
        have hin : ∀ y ∈ elems ++ rest, ∀ p ∈ y.2, sp p.block = true := fun y hy p hp => hs p (by
          refine List.mem_append.2 (.inr (List.mem_flatMap.2 ⟨y, hy, hp⟩)))
        have hone : ∀ (i : Nat) (y : DataW H × List MemPlace), (W.cells? base (a.add (i * P.cellsOf e)) (P.cellsOf e)).bind (DataW.trod enc P W base (fun _ => true) held n e) = some y → (∀ p ∈ y.2, sp p.block = true) →
            (W'.cells? base (a.add (i * P.cellsOf e)) (P.cellsOf e)).bind (DataW.trod enc P W' base sp held n e) = some y := fun i y hy hp => by
          rw [Option.bind_eq_some_iff] at hy ⊢
          obtain ⟨ds, h1, h2⟩ := hy
          exact ⟨ds, cells_grown hk h1, trod_same hk hc n _ _ _ hmem h2 hp⟩
        have m1 : (List.range len).mapM (fun i => (W'.cells? base (a.add (i * P.cellsOf e)) (P.cellsOf e)).bind (DataW.trod enc P W' base sp held n e)) = some elems := by
          refine mapM_of (by simp [hel]) fun i j hj => ?_
          have hi : i < len := by have := (List.getElem?_eq_some_iff.1 hj).1; simpa using this
          rw [List.getElem?_range hi] at hj
          injection hj with hj
          subst hj
          have h1 := hget i hi
          have hi' : i < elems.length := by omega
          rw [List.getElem?_eq_getElem hi'] at h1 ⊢
          exact hone i _ h1 (hin _ (List.mem_append.2 (.inl (List.getElem_mem hi'))))
        have m2 : (if sp a.block = true then (List.range (cap - len)).mapM (fun j => (W'.cells? base (a.add ((len + j) * P.cellsOf e)) (P.cellsOf e)).bind (DataW.trod enc P W' base sp held n e)) else some []) = some rest := by
          by_cases h0 : elems.length + rest.length = 0
          · have : rest = [] := List.length_eq_zero_iff.1 (by omega)
            subst this
            have : cap - len = 0 := by simpa using hrl.symm
            rw [this]
            split <;> rfl
          · have hab : sp a.block = true := by
              refine hs (.cell a.block a.off) (List.mem_append.2 (.inl ?_))
              unfold MemPlace.row
              refine List.mem_map.2 ⟨0, ?_, by simp⟩
              rw [List.mem_range]
              exact Nat.mul_pos (by omega) hz
            rw [if_pos hab]
            refine mapM_of (by simp [hrl]) fun i j hj => ?_
            have hi : i < cap - len := by have := (List.getElem?_eq_some_iff.1 hj).1; simpa using this
            rw [List.getElem?_range hi] at hj
            injection hj with hj
            subst hj
            have h1 := hrest i hi
            have hi' : i < rest.length := by omega
            rw [List.getElem?_eq_getElem hi'] at h1 ⊢
            exact hone (len + i) _ h1 (hin _ (List.mem_append.2 (.inr (List.getElem_mem hi'))))
        unfold DataW.trod
        rw [hu]
        simp only [hb, hlc, hcm, and_self, if_true, m1, m2, Option.bind_some, Option.map_some]
    · cases hct
theorem trodAll_same {H : Type} {enc : TypeId × Value → H} {W W' : World} {held : Bool} {sp : Nat → Bool} (hk : ∀ c, c < W.heap.size → W'.heap[c]? = W.heap[c]?) {cl : List TypeId} (hc : closedT P cl = true) :
    ∀ {ts : List TypeId} {vs : List Value} {ds : List (DataW H)} {ps : List MemPlace}, (∀ t ∈ ts, t ∈ cl) → DataW.TrodAll enc P W 0 (fun _ => true) held ts vs ds ps → (∀ p ∈ ps, sp p.block = true) → DataW.TrodAll enc P W' 0 sp held ts vs ds ps
  | [], [], [], _, _, h, _ => h
  | t :: ts, v :: vs, d :: ds, ps, hm, h, hs => by
    obtain ⟨p, q, ⟨n, h1⟩, h2, rfl⟩ := h
    exact ⟨p, q, ⟨n, trod_same hk hc n t _ _ (hm t (by simp)) h1 fun x hx => hs x (List.mem_append.2 (.inl hx))⟩, trodAll_same hk hc (fun u hu => hm u (by simp [hu])) h2 fun x hx => hs x (List.mem_append.2 (.inr hx)), rfl⟩
  | [], _ :: _, _, _, _, h, _ => h.elim
  | [], [], _ :: _, _, _, h, _ => h.elim
  | _ :: _, [], _, _, _, h, _ => h.elim
  | _ :: _, _ :: _, [], _, _, h, _ => h.elim
/-- an argument of a slice's type is one -/
theorem slice_cells {W : World} {b : Nat} {t e : TypeId} {v : Value} (hu : P.underlying t = some (.slice e)) (h : Value.okWide P W .any b t v) : v.cells.toList = [v] := by
  simp only [Value.okWide, hu, Cell.okWide, Cell.ok] at h
  cases v <;> first | rfl | exact h.elim
end
end Eng
end Go.Proofs.YtalnmaalhocjfaaGreatDoor
namespace Go.Proofs.YtalnmaalhocjfaaGreatDoor
namespace Eng
open Go

/-! ### rows of rows -/
theorem flat_length {α : Type} {f : α → List AV} {z : Nat} (hf : ∀ a, (f a).length = z) : ∀ l : List α, (l.flatMap f).length = l.length * z
  | [] => by simp
  | a :: l => by rw [List.flatMap_cons, List.length_append, hf a, flat_length hf l, List.length_cons, Nat.add_mul]; omega
theorem flat_chunk {α : Type} {f : α → List AV} {z : Nat} (hf : ∀ a, (f a).length = z) : ∀ (l : List α) (j : Nat) (a : α), l[j]? = some a → ((l.flatMap f).drop (j * z)).take z = f a
  | [], j, a, h => by simp at h
  | b :: l, 0, a, h => by
    simp only [List.getElem?_cons_zero, Option.some.injEq] at h
    subst h
    rw [Nat.zero_mul, List.drop_zero, List.flatMap_cons, List.take_append_of_le_length (by rw [hf b]; exact Nat.le_refl _), List.take_of_length_le (by rw [hf b]; exact Nat.le_refl _)]
  | b :: l, j + 1, a, h => by
    have e : (f b ++ l.flatMap f).drop z = l.flatMap f := by rw [← hf b]; exact List.drop_left
    rw [List.flatMap_cons, Nat.add_mul, Nat.one_mul, Nat.add_comm, ← List.drop_drop, e]
    exact flat_chunk hf l j a (by simpa using h)
theorem flat_set {α : Type} {f : α → List AV} {z : Nat} (hf : ∀ a, (f a).length = z) : ∀ (l : List α) (j o : Nat) (a a' : α) (v : AV), l[j]? = some a → o < z → f a' = (f a).set o v → (l.flatMap f).set (j * z + o) v = (l.set j a').flatMap f
  | [], j, _, a, _, _, h, _, _ => by simp at h
  | b :: l, 0, o, a, a', v, h, ho, ha => by
    simp only [List.getElem?_cons_zero, Option.some.injEq] at h
    subst h
    rw [Nat.zero_mul, Nat.zero_add, List.flatMap_cons, List.set_append_left _ _ (by rw [hf b]; exact ho), ← ha]
    rfl
  | b :: l, j + 1, o, a, a', v, h, ho, ha => by
    have e : (j + 1) * z + o = (f b).length + (j * z + o) := by rw [hf b, Nat.add_mul]; omega
    rw [e, List.flatMap_cons, List.set_append_right _ _ (by omega), Nat.add_sub_cancel_left, flat_set hf l j o a a' v (by simpa using h) ho ha]
    rfl
theorem flat_get {α : Type} {f : α → List AV} {z : Nat} (hf : ∀ a, (f a).length = z) {l : List α} {j o : Nat} {a : α} (h : l[j]? = some a) (ho : o < z) : (l.flatMap f)[j * z + o]? = (f a)[o]? := by
  have h1 := flat_chunk hf l j a h
  have h2 : (((l.flatMap f).drop (j * z)).take z)[o]? = (l.flatMap f)[j * z + o]? := by rw [List.getElem?_take, if_pos ho, List.getElem?_drop]
  rw [← h2, h1]

/-! ### parts put together -/
def fillF (cells : List AV) (plc : Nat → Option (Nat × Nat)) (l : Fm) : List (Nat × Operand) → Option (List AV)
  | [] => some cells
  | (i, x) :: r => match plc i, evA x l with
    | some (off, sz), some v => bif Nat.beq (len' v.cells) sz && Nat.blt 0 sz then (match putL cells off v.cells with | some c => fillF c plc l r | none => none) else none
    | _, _ => none
theorem fillF_ok {l : Fm} {T : Tm} (hT : FR l T) {plc plc' : Nat → Option (Nat × Nat)} (hp : ∀ i p, plc i = some p → plc' i = some p) : ∀ {ps : List (Nat × Operand)} {cells vs : List AV}, fillF cells plc l ps = some vs → fillL cells plc' T ps = some vs
  | [], _, _, h => h
  | (i, x) :: r, cells, vs, h => by
    simp only [fillF] at h
    split at h
    · rename_i off sz v h1 h2
      simp only [fillL, hp i _ h1, evA_ok hT h2]
      cases hc : (Nat.beq (len' v.cells) sz && Nat.blt 0 sz) with
      | false => rw [hc] at h; cases h
      | true =>
        rw [hc] at h
        simp only [cond_true] at h ⊢
        split at h
        · rename_i c hc2
          simp only [hc2]
          exact fillF_ok hT hp h
        · cases h
    · cases h
/-- the parts' places of a struct, as a list -/
def plcL (pl : List (Nat × Nat)) (i : Nat) : Option (Nat × Nat) := pl[i]?
def plcsOK (P : Program) (t : TypeId) : Nat → List (Nat × Nat) → Bool
  | _, [] => true
  | i, p :: r => (match structPlc P t i with | some q => decide (p = q) | none => false) && plcsOK P t (i + 1) r
theorem plcsOK_get {P : Program} {t : TypeId} : ∀ {pl : List (Nat × Nat)} {i : Nat}, plcsOK P t i pl = true → ∀ j p, pl[j]? = some p → structPlc P t (i + j) = some p
  | [], _, _, j, p, h => by simp at h
  | q :: r, i, hk, j, p, h => by
    simp only [plcsOK, Bool.and_eq_true] at hk
    cases j with
    | zero =>
      simp only [List.getElem?_cons_zero, Option.some.injEq] at h
      subst h
      have h1 := hk.1
      split at h1
      · rename_i x hx
        rw [Nat.add_zero, hx, of_decide_eq_true h1]
      · cases h1
    | succ j =>
      have := plcsOK_get hk.2 j p (by simpa using h)
      rw [show i + (j + 1) = i + 1 + j by omega]
      exact this
section
variable {P : Program} {tb : List FuncId} {gl : List (List AV)} {t e : TypeId} {x y i : Operand} {l : Fm} {H : Heap} {Q : AV → Heap → Prop} {v w : AV} {cs : List AV} {tl ro : Bool} {b n m es : Nat}
/-- a struct's type, its fields' sizes known -/
def structOK (P : Program) (t : TypeId) : Bool := match P.underlying t with | some (.struct fs) => fs.toList.all fun f => (szOf P f.type).isSome | _ => false
theorem structOK_ex {P : Program} {t : TypeId} (h : structOK P t = true) : ∃ fs, P.underlying t = some (.struct fs) ∧ (fs.toList.all fun f => (szOf P f.type).isSome) = true := by
  unfold structOK at h
  split at h
  · exact ⟨_, by assumption, h⟩
  · cases h
theorem oa_struct {z : AV} {pl : List (Nat × Nat)} {ps : Array (Nat × Operand)} {vs : List AV} (hu : structOK P t = true) (hz : zeroOf P t = some z) (hp : plcsOK P t 0 pl = true)
    (hf : fillF z.cells (plcL pl) l ps.toList = some vs) (q : Q (.agg vs) H) : OA P tb gl (.build t ps) l H Q := by
  obtain ⟨fs, h1, h2⟩ := structOK_ex hu
  refine oa_build h1 hz h2 (fun T hT => fillF_ok hT (fun i p h => ?_) hf) q
  have := plcsOK_get hp i p h
  rwa [Nat.zero_add] at this
theorem oa_newSlice {E : EI} {parts : Array (Nat × Operand)} {vs : List AV} (hE : elemI P t = some E) (hl : n * E.z < 10000) (hf : fillF (repL n E.zero.cells) (rowPlc E.z) l parts.toList = some vs) (hv : vs.length = n * E.z)
    (q : ∀ H', Keep Non H H' → IsRow H' H.nx vs false false → Q (.sl H.nx 0 n n) H') : OA P tb gl (.buildSlice t n parts) l H Q :=
  oa_buildSlice hE hl (fun _ hT => fillF_ok hT (fun _ _ h => h) hf) hv q

/-! ### stores -/
theorem layT_set {tr : Tr AV} {us : List AV} (hT : RowT tr cs) {j : Nat} (hj : j + us.length ≤ cs.length) : RowT (layT tr j us) (cs.take j ++ us ++ cs.drop (j + us.length)) ∧ (cs.take j ++ us ++ cs.drop (j + us.length)).length = cs.length := by
  have hl : (cs.take j ++ us ++ cs.drop (j + us.length)).length = cs.length := by
    simp only [List.length_append, List.length_take, List.length_drop]; omega
  refine ⟨fun k hk => ?_, hl⟩
  rw [hl] at hk
  rw [get_layT]
  by_cases h1 : j ≤ k ∧ k < j + us.length
  · rw [if_pos h1, List.append_assoc, List.getElem?_append_right (by rw [List.length_take]; omega), List.getElem?_append_left (by rw [List.length_take]; omega)]
    congr 1
    rw [List.length_take]; omega
  · rw [if_neg h1, hT k hk]
    by_cases h2 : k < j
    · rw [List.append_assoc, List.getElem?_append_left (by rw [List.length_take]; omega), List.getElem?_take, if_pos h2]
    · rw [List.getElem?_append_right (by rw [List.length_append, List.length_take]; omega), List.getElem?_drop]
      congr 1
      rw [List.length_append, List.length_take]; omega
theorem oa_storeN {us : List AV} {j k : Nat} (hz : szOf P t = some k) (hk : us.length = k) (hx : evA x l = some (.ptr b j)) (hy : evA y l = some (.agg us)) (hs : scalL us = true) (hr : IsRow H b cs tl false) (hj : j + us.length ≤ cs.length)
    (q : ∀ H', Keep (· = b) H H' → H'.nx = H.nx → IsRow H' b (cs.take j ++ us ++ cs.drop (j + us.length)) tl false → Q undefA H') : OA P tb gl (.store t x y) l H Q := by
  subst hk
  obtain ⟨hb, tr, hB, hT'⟩ := hr
  obtain ⟨h1, h2⟩ := layT_set hT' hj
  refine oa (H' := ⟨H.bl.set (bits b) (some (.cells (layT tr j us) cs.length tl false)), H.nx⟩) (fun T hT => ?_) (q _ (keep_put' hB rfl _) rfl ⟨hb, _, by rw [getB_set, if_pos rfl, h2], h1⟩)
  have hp : ∀ {β : Type} (bad : β) (k : Tr AV → β), putC tr j us bad k = k (layT tr j us) := by
    intro β bad k
    refine putC_some us tr j (fun i h1 h2 => ?_) hs
    rw [hT' i (by omega), List.getElem?_eq_getElem (by omega)]; rfl
  have hy' := evA_ok hT hy
  simp only [oper, oStore, evA_ok hT hx, hy', hz]
  rw [len'_eq]
  show (bif Nat.beq us.length us.length then storeR H b j us else .bad) = _
  simp only [Nat.beq_refl, cond_true, storeR, hB, hp, setB_eq]
/-- a whole variable -/
theorem oa_storeAll {us : List AV} {k : Nat} (hz : szOf P t = some k) (hk : us.length = k) (hx : evA x l = some (.ptr b 0)) (hy : evA y l = some (.agg us)) (hs : scalL us = true) (hr : IsRow H b cs tl false) (hj : us.length = cs.length)
    (q : ∀ H', Keep (· = b) H H' → H'.nx = H.nx → IsRow H' b us tl false → Q undefA H') : OA P tb gl (.store t x y) l H Q :=
  oa_storeN hz hk hx hy hs hr (by omega) fun H' h1 h2 h3 => q H' h1 h2 (by
    rw [List.take_zero, List.nil_append, Nat.zero_add, List.drop_of_length_le (by omega), List.append_nil] at h3
    exact h3)
theorem Own.so (h : Own H v es n cs) (hn : 0 < n) : ∃ b, v = .so b 0 n es := by
  obtain ⟨_, _, ⟨_, rfl⟩ | ⟨b, row, rfl, _⟩⟩ := h
  · omega
  · exact ⟨b, rfl⟩
/-- into a slice of the call's own -/
theorem oa_storeOwn {u : AV} {j : Nat} (hz : szOf P t = some 1) (hx : evA x l = some (.ptr b j)) (hy : evA y l = some u) (hs : scal u = true) (ho : Own H (.so b 0 n es) es n cs) (hj : j < cs.length)
    (q : ∀ H', Keep (ownB (.so b 0 n es)) H H' → H'.nx = H.nx → Own H' (.so b 0 n es) es n (cs.set j u) → Q undefA H') : OA P tb gl (.store t x y) l H Q := by
  obtain ⟨h0, h1, ⟨hv, _⟩ | ⟨b', row, hv, hr, h2, h3⟩⟩ := ho
  · cases hv
  · injection hv with hb
    subst hb
    refine oa_store1 hz hx hy hs hr (by omega) fun H' k1 k2 k3 => q H' (k1.wide fun c hc => hc) k2 ⟨by rw [List.length_set]; exact h0, h1, .inr ⟨b, _, rfl, k3, by rw [List.length_set]; exact h2, fun k hk => ?_⟩⟩
    rw [List.length_set] at hk
    rw [List.getElem?_set, List.getElem?_set]
    by_cases e : j = k
    · subst e
      rw [if_pos rfl, if_pos rfl, if_pos (by omega), if_pos hk]
    · rw [if_neg e, if_neg e]; exact h3 k hk

/-! ### truths that are known -/
section
variable {r : TypeId} {k : IntKind} {a c : Int} {d : Bool}
theorem oa_lssW (hx : evA x l = some (.int k a)) (hy : evA y l = some (.int k c)) (hw : decide (a < c) = d) (q : Q (.bool d) H) : OA P tb gl (.binOp .lss t x y r) l H Q := oa_lss hx hy (hw ▸ q)
theorem oa_leqW (hx : evA x l = some (.int k a)) (hy : evA y l = some (.int k c)) (hw : decide (a ≤ c) = d) (q : Q (.bool d) H) : OA P tb gl (.binOp .leq t x y r) l H Q := oa_leq hx hy (hw ▸ q)
theorem oa_gtrW (hx : evA x l = some (.int k a)) (hy : evA y l = some (.int k c)) (hw : decide (c < a) = d) (q : Q (.bool d) H) : OA P tb gl (.binOp .gtr t x y r) l H Q := oa_gtr hx hy (hw ▸ q)
theorem oa_geqW (hx : evA x l = some (.int k a)) (hy : evA y l = some (.int k c)) (hw : decide (c ≤ a) = d) (q : Q (.bool d) H) : OA P tb gl (.binOp .geq t x y r) l H Q := oa_geq hx hy (hw ▸ q)
theorem oa_eqlW (hx : evA x l = some (.int k a)) (hy : evA y l = some (.int k c)) (hw : decide (a = c) = d) (q : Q (.bool d) H) : OA P tb gl (.binOp .eql t x y r) l H Q := oa_eql hx hy (hw ▸ q)
theorem oa_neqW (hx : evA x l = some (.int k a)) (hy : evA y l = some (.int k c)) (hw : decide (a ≠ c) = d) (q : Q (.bool d) H) : OA P tb gl (.binOp .neq t x y r) l H Q := oa_neq hx hy (hw ▸ q)
end
theorem oa_pickT {c : Operand} {u w : AV} (hc : evA c l = some (.bool true)) (hx : evA x l = some u) (hy : evA y l = some w) (k : Q u H) : OA P tb gl (.pick c x y) l H Q := oa_pick hc hx hy k
theorem oa_pickF {c : Operand} {w : AV} (hc : evA c l = some (.bool false)) (hy : evA y l = some w) (k : Q w H) : OA P tb gl (.pick c x y) l H Q :=
  oa (fun T hT => by simp [oper, oPick, evA_ok hT hc, evA_ok hT hy, okV]) k
theorem ia_gdY {t : Tmp} {w : Bool} {d : Option Tmp} {o : Op} {its : List It} {l : Fm} {Q : Fm → Heap → Prop} (ht : lk t l = some (.bool w)) (h : OA P tb gl o l H fun v H' => IA P tb gl its (stI d v l) H' Q) : IA P tb gl (.gd t w d o :: its) l H Q :=
  ia_gd ht (fun _ => h) (fun e => by cases w <;> cases e)
theorem ia_gdN {t : Tmp} {w : Bool} {d : Option Tmp} {o : Op} {its : List It} {l : Fm} {Q : Fm → Heap → Prop} (ht : lk t l = some (.bool (!w))) (k : IA P tb gl its (stI d undefA l) H Q) : IA P tb gl (.gd t w d o :: its) l H Q :=
  ia_gd ht (fun e => by cases w <;> cases e) (fun _ => k)
theorem va_condT {x : Operand} {a b : CV} {l : Fm} {Q : Ex → Fm → Heap → Prop} (hx : evA x l = some (.bool true)) (h : VA P tb gl a l H Q) : VA P tb gl (.cond x a b) l H Q := va_cond hx (fun _ => h) (fun e => by cases e)
theorem va_condF {x : Operand} {a b : CV} {l : Fm} {Q : Ex → Fm → Heap → Prop} (hx : evA x l = some (.bool false)) (h : VA P tb gl b l H Q) : VA P tb gl (.cond x a b) l H Q := va_cond hx (fun e => by cases e) (fun _ => h)

/-! ### loads through what points -/
theorem oa_pload {o z : Nat} {p : AV} (hp : plcOf P t 0 = some ⟨o, false, z⟩) (hx : evA x l = some p) (hr : PtsTo H p cs) (hv : cs[0]? = some v) (q : Q v H) : OA P tb gl (.load t x) l H Q := by
  obtain ⟨b, i, row, tl, ro, rfl, h2, h3⟩ := hr
  have := h3 0 (List.getElem?_eq_some_iff.1 hv).1
  rw [Nat.add_zero, hv] at this
  exact oa_load1 hp hx h2 this q
/-- a field of a variable of the call's own -/
theorem IsRow.pts (h : IsRow H b cs tl ro) : PtsTo H (.ptr b 0) cs := ⟨b, 0, cs, tl, ro, rfl, h, fun j _ => by rw [Nat.zero_add]⟩
theorem oa_loadF {o z off : Nat} {v : AV} (hp : plcOf P t 0 = some ⟨o, false, z⟩) (hx : evA x l = some (.ptr b off)) (hr : IsRow H b cs tl ro) (hv : cs[off]? = some v) (q : Q v H) : OA P tb gl (.load t x) l H Q := oa_load1 hp hx hr hv q
end
end Eng
end Go.Proofs.YtalnmaalhocjfaaGreatDoor
namespace Go.Proofs.YtalnmaalhocjfaaGreatDoor
namespace Eng
open Go
mutual
theorem AV.eq_self : ∀ u : AV, AV.eq u u = true
  | .bool a => by simp [AV.eq]
  | .int j a => by simp [AV.eq, ieq_eq]
  | .str n x => by simp [AV.eq]
  | .nilp => rfl
  | .ptr b i => by simp [AV.eq]
  | .nils => rfl
  | .sl b i n c => by simp [AV.eq]
  | .so b i n c => by simp [AV.eq]
  | .se b i n c => by simp [AV.eq]
  | .sz a => by simp [AV.eq]
  | .nilm => rfl
  | .map b => by simp [AV.eq]
  | .fn f l => by simp [AV.eq, AV.eqL_self l]
  | .nilf => rfl
  | .nili => rfl
  | .ifc t x => by simp [AV.eq, AV.eq_self x]
  | .agg l => by simp [AV.eq, AV.eqL_self l]
  | .tup l => by simp [AV.eq, AV.eqL_self l]
theorem AV.eqL_self : ∀ l : List AV, AV.eqL l l = true
  | [] => rfl
  | u :: l => by simp [AV.eqL, AV.eq_self u, AV.eqL_self l]
end
section
variable {P : Program} {tb : List FuncId} {gl : List (List AV)} {t : TypeId} {x y : Operand} {l : Fm} {H : Heap} {v : AV} {cs : List AV} {tl ro : Bool} {b : Nat}
/-- a load that is asked again -/
theorem ia_ckL {k : Tmp} {its : List It} {Q : Fm → Heap → Prop} {o z i : Nat} (hp : plcOf P t 0 = some ⟨o, false, z⟩) (hx : evA x l = some (.ptr b i)) (hr : IsRow H b cs tl ro) (hv : cs[i]? = some v) (ht : lk k l = some v) (h : IA P tb gl its l H Q) : IA P tb gl (.ck k (.load t x) :: its) l H Q :=
  ia_ck (v := v) (fun T hT => ⟨H, by
    obtain ⟨_, tr, hB, hT'⟩ := hr
    have hi : i < cs.length := (List.getElem?_eq_some_iff.1 hv).1
    simp only [oper, oLoad, evA_ok hT hx, hp, loadR, hB, cond_false, hT' i hi, hv]⟩) ht (AV.eq_self v) h
theorem ia_ckP {k : Tmp} {its : List It} {Q : Fm → Heap → Prop} {o z : Nat} {p : AV} (hp : plcOf P t 0 = some ⟨o, false, z⟩) (hx : evA x l = some p) (hr : PtsTo H p cs) (hv : cs[0]? = some v) (ht : lk k l = some v) (h : IA P tb gl its l H Q) : IA P tb gl (.ck k (.load t x) :: its) l H Q := by
  obtain ⟨b, i, row, tl, ro, rfl, h2, h3⟩ := hr
  have := h3 0 (List.getElem?_eq_some_iff.1 hv).1
  rw [Nat.add_zero, hv] at this
  exact ia_ckL hp hx h2 this ht h
variable {Q : AV → Heap → Prop}
theorem oa_seqlW {r : TypeId} {p q : List UInt8} {d : Bool} (hx : evA x l = some (S p)) (hy : evA y l = some (S q)) (hw : decide (p = q) = d) (k : Q (.bool d) H) : OA P tb gl (.binOp .eql t x y r) l H Q := oa_seql hx hy (by rw [hw]; exact k)
theorem oa_sneqW {r : TypeId} {p q : List UInt8} {d : Bool} (hx : evA x l = some (S p)) (hy : evA y l = some (S q)) (hw : (!decide (p = q)) = d) (k : Q (.bool d) H) : OA P tb gl (.binOp .neq t x y r) l H Q := oa_sneq hx hy (by rw [hw]; exact k)
end
end Eng
end Go.Proofs.YtalnmaalhocjfaaGreatDoor
namespace Go.Proofs.YtalnmaalhocjfaaGreatDoor
namespace Eng
open Go
def mpL (es : List (Int × Int)) : List (AV × AV) := es.map fun e => (.int .i64 e.1, .int .i64 e.2)
def IsMap (H : Heap) (b : Nat) (es : List (Int × Int)) : Prop := b < H.nx ∧ getB H b = some (.mp (mpL es))
def lookI : List (Int × Int) → Int → Option Int
  | [], _ => none
  | e :: es, k => if e.1 = k then some e.2 else lookI es k
theorem IsMap.keep {S : Nat → Prop} {H H' : Heap} {b : Nat} {es : List (Int × Int)} (h : IsMap H b es) (k : Keep S H H') (hs : ¬ S b) : IsMap H' b es :=
  ⟨Nat.lt_of_lt_of_le h.1 k.nx, k.old b _ h.1 h.2 (.inl hs)⟩
theorem IsMap.keep0 {H H' : Heap} {b : Nat} {es : List (Int × Int)} (h : IsMap H b es) (k : Keep Non H H') : IsMap H' b es := h.keep k id
theorem findE_mpL {k : Int} : ∀ (es : List (Int × Int)) (i : Nat), (lookI es k = none → findE (.int .i64) (.int .i64 k) (mpL es) i = some none) ∧ ∀ v, lookI es k = some v → ∃ j, findE (.int .i64) (.int .i64 k) (mpL es) i = some (some (j, .int .i64 v))
  | [], i => ⟨fun _ => rfl, fun v h => (by cases h)⟩
  | (a, b) :: es, i => by
    have ih := findE_mpL (k := k) es (i + 1)
    have e : keyEq (.int .i64) (.int .i64 k) (.int .i64 a) = some (decide (k = a)) := by
      simp only [keyEq, decide_true, cond_true, ieq_eq]
      rfl
    refine ⟨fun h => ?_, fun v h => ?_⟩
    · simp only [lookI] at h
      split at h
      · cases h
      · rename_i hne
        show findE (.int .i64) (.int .i64 k) ((.int .i64 a, .int .i64 b) :: mpL es) i = _
        rw [findE, e, decide_eq_false fun h => hne h.symm]
        exact ih.1 h
    · simp only [lookI] at h
      show ∃ j, findE (.int .i64) (.int .i64 k) ((.int .i64 a, .int .i64 b) :: mpL es) i = _
      split at h
      · rename_i he
        injection h with h
        subst h
        rw [findE, e, decide_eq_true he.symm]
        exact ⟨i, rfl⟩
      · rename_i hne
        rw [findE, e, decide_eq_false fun h => hne h.symm]
        exact ih.2 v h
section
variable {P : Program} {tb : List FuncId} {gl : List (List AV)} {t kt e : TypeId} {m x y : Operand} {l : Fm} {H : Heap} {Q : AV → Heap → Prop} {b : Nat} {k v : Int} {es : List (Int × Int)}
theorem oa_makeMap (q : ∀ H', Keep Non H H' → IsMap H' H.nx [] → Q (.map H.nx) H') : OA P tb gl (.makeMap t none) l H Q :=
  oa (H' := ⟨H.bl.set (bits H.nx) (some (.mp [])), H.nx + 1⟩) (fun T _ => by simp only [oper, oMakeMap, newB_eq]) (q _ (keep_push H _) ⟨Nat.lt_succ_self _, by rw [getB_set, if_pos rfl]; rfl⟩)
theorem oa_lookI (hu : P.underlying t = some (.map kt e)) (hkt : P.underlying kt = some (.int .i64)) (hz : zeroOf P e = some (.int .i64 0)) (hm : evA m l = some (.map b)) (hx : evA x l = some (.int .i64 k)) (h : IsMap H b es)
    (q : Q (.tup [.int .i64 ((lookI es k).getD 0), .bool (lookI es k).isSome]) H) : OA P tb gl (.lookup t m x true) l H Q :=
  oa (fun T hT => by
    have hf := findE_mpL (k := k) es 0
    cases hk : lookI es k with
    | none => simp only [oper, oLookup, hu, evA_ok hT hm, evA_ok hT hx, hkt, h.2, hz, plainK, cond_true, hf.1 hk, Option.getD, Option.isSome]
    | some v =>
      obtain ⟨j, hj⟩ := hf.2 v hk
      simp only [oper, oLookup, hu, evA_ok hT hm, evA_ok hT hx, hkt, h.2, hz, plainK, cond_true, hj, Option.getD, Option.isSome]) q
theorem oa_putI (hu : P.underlying t = some (.map kt e)) (hkt : P.underlying kt = some (.int .i64)) (hm : evA m l = some (.map b)) (hx : evA x l = some (.int .i64 k)) (hy : evA y l = some (.int .i64 v)) (h : IsMap H b es) (hn : lookI es k = none)
    (q : ∀ H', Keep (· = b) H H' → H'.nx = H.nx → IsMap H' b (es ++ [(k, v)]) → Q undefA H') : OA P tb gl (.mapUpdate t m x y) l H Q :=
  oa (H' := ⟨H.bl.set (bits b) (some (.mp (mpL es ++ [(.int .i64 k, .int .i64 v)]))), H.nx⟩) (fun T hT => by
    have hf := (findE_mpL (k := k) es 0).1 hn
    simp only [oper, oMapUpdate, hu, evA_ok hT hm, evA_ok hT hx, evA_ok hT hy, hkt, h.2, plainK, cond_true, hf, setB_eq]) (q _ (keep_put' h.2 trivial _) rfl ⟨h.1, by rw [getB_set, if_pos rfl]; simp [mpL]⟩)
/-! ### functions whose results stand in memory -/
/-- what the results say -/
def resM (P : Program) (H : Heap) (l : Fm) : List ResultVar → List AV → Prop
  | [], vs => vs = []
  | .tmp a :: r, vs => ∃ v vs', lk a l = some v ∧ vs = v :: vs' ∧ resM P H l r vs'
  | .cell a t :: r, vs => ∃ b cs tl ro v vs', lk a l = some (.ptr b 0) ∧ IsRow H b cs tl ro ∧ ((∃ o, plcOf P t 0 = some ⟨o, true, cs.length⟩ ∧ v = .agg cs) ∨ ∃ o z, plcOf P t 0 = some ⟨o, false, z⟩ ∧ cs[0]? = some v) ∧ vs = v :: vs' ∧ resM P H l r vs'
theorem resM_ok {l : Fm} {T : Tm} (h : FR l T) {H : Heap} : ∀ {rs : List ResultVar} {vs : List AV}, resM P H l rs vs → resL P T H rs = some vs
  | [], _, e => by subst e; rfl
  | .tmp t :: r, vs, e => by
    obtain ⟨v, vs', h1, rfl, h2⟩ := e
    simp only [resL, resV, h t v h1, resM_ok h h2]
  | .cell a t :: r, vs, e => by
    obtain ⟨b, cs, tl, ro, v, vs', h1, ⟨_, tr, hB, hT⟩, hp, rfl, h2⟩ := e
    have hv : resV P (.cell a t) T H = some v := by
      rcases hp with ⟨o, hp, rfl⟩ | ⟨o, z, hp, hv⟩
      · have ht : takeC tr 0 cs.length = some cs := takeC_some _ _ _ rfl fun j hj => by rw [Nat.zero_add]; exact hT j hj
        simp only [resV, h a _ h1, hp, loadR, hB, cond_true, ht]
      · have h0 : 0 < cs.length := (List.getElem?_eq_some_iff.1 hv).1
        simp only [resV, h a _ h1, hp, loadR, hB, cond_false, hT 0 h0, hv]
    simp only [resL, hv, resM_ok h h2]
def leftM (P : Program) (rs : List ResultVar) (Q : AV → Heap → Prop) : Ex → Fm → Heap → Prop
  | .normal, l, H => ∃ vs, resM P H l rs vs ∧ Q (match vs with | [v] => v | vs => .tup vs) H
  | .ret, l, H => ∃ vs, resM P H l rs vs ∧ Q (match vs with | [v] => v | vs => .tup vs) H
  | _, _, _ => False
theorem faM {f : FuncId} {fn : Func} {c : Code} {v : CV} {rs : List ResultVar} {xs : List AV} {H : Heap} {Q : AV → Heap → Prop} (hf : P.funcs[f]? = some fn) (hb : fn.body = some c) (hv : viewC P c = some v) (hr : fn.results.toList = rs) (hk : memF f tb = false ∨ xs ≠ [])
    (h : VA P tb gl v (argsA 0 xs) H (leftM P rs Q)) : WpF P tb gl f xs H Q := by
  subst hr
  refine wpf hf hb hv hk ((h.run _ (argsA_FR xs)).mono fun e T' H' ⟨l', h1, h2⟩ => ?_)
  cases e with
  | normal =>
    obtain ⟨vs, h3, h4⟩ := h2
    exact ⟨vs, resM_ok h1 h3, h4⟩
  | ret =>
    obtain ⟨vs, h3, h4⟩ := h2
    exact ⟨vs, resM_ok h1 h3, h4⟩
  | _ => exact h2.elim
end
end Eng
end Go.Proofs.YtalnmaalhocjfaaGreatDoor
namespace Go.Proofs.YtalnmaalhocjfaaGreatDoor
namespace Eng
open Go
section
variable {P : Program} {tb : List FuncId} {gl : List (List AV)} {t e : TypeId} {x y i : Operand} {l : Fm} {H : Heap} {Q : AV → Heap → Prop} {v w : AV} {cs : List AV} {tl ro : Bool} {b n m es : Nat}
theorem oa_maxI {c : Call} {a b m : Int} {k : IntKind} (hc : c.callee = .builtin .max) (ha : c.args.toList = [x, y]) (hx : evA x l = some (.int k a)) (hy : evA y l = some (.int k b)) (hm : max a b = m) (q : Q (.int k m) H) : OA P tb gl (.call c) l H Q :=
  oa (fun T hT => by
    have hx' : evL [x, y] T = some [.int k a, .int k b] := evLA_ok hT (by simp only [evLA, hx, hy])
    have e : (bif ilt a b then b else a) = m := by
      rw [ilt_eq, ← hm]
      by_cases h : a < b
      · rw [decide_eq_true h, cond_true]; omega
      · rw [decide_eq_false h, cond_false]; omega
    simp only [oper, oCall, ha, hx', hc, oBuiltin, oMinMax, cond_true, e, fI_eq]) q
theorem oa_minI {c : Call} {a b m : Int} {k : IntKind} (hc : c.callee = .builtin .min) (ha : c.args.toList = [x, y]) (hx : evA x l = some (.int k a)) (hy : evA y l = some (.int k b)) (hm : min a b = m) (q : Q (.int k m) H) : OA P tb gl (.call c) l H Q :=
  oa (fun T hT => by
    have hx' : evL [x, y] T = some [.int k a, .int k b] := evLA_ok hT (by simp only [evLA, hx, hy])
    have e : (bif ilt b a then b else a) = m := by
      rw [ilt_eq, ← hm]
      by_cases h : b < a
      · rw [decide_eq_true h, cond_true]; omega
      · rw [decide_eq_false h, cond_false]; omega
    simp only [oper, oCall, ha, hx', hc, oBuiltin, oMinMax, cond_false, e, fI_eq]) q
/-- a part of a row, three bounds -/
theorem oa_cut3 {lo hi mx : Operand} {a c d o cap : Nat} (hu : P.underlying t = some (.slice e)) (hz : szOf P e = some es) (hx : evA x l = some (.sl b o n cap)) (h1 : bndA (some lo) l 0 = some a) (h2 : bndA (some hi) l n = some c) (h3 : bndA (some mx) l cap = some d)
    (hac : a ≤ c) (hcd : c ≤ d) (hd : d ≤ cap) (had : a < d) (q : Q (.sl b (o + a * es) (c - a) (d - a)) H) : OA P tb gl (.slice t x (some lo) (some hi) (some mx)) l H Q :=
  oa (fun T hT => by
    have e1 : Nat.ble a c = true := by rw [ble_iff]; simpa using hac
    have e2 : Nat.ble c d = true := by rw [ble_iff]; simpa using hcd
    have e3 : Nat.ble d cap = true := by rw [ble_iff]; simpa using hd
    have hb : Nat.beq d a = false := beq_false (by omega)
    have b1 := bndA_ok hT h1
    have b2 := bndA_ok hT h2
    have b3 := bndA_ok hT h3
    have hB : bnd3 (some lo) (some hi) (some mx) T n cap = some (a, c, d) := by
      show (match boundOf (some lo) T 0, boundOf (some hi) T n, boundOf (some mx) T cap with | some l, some h, some m => (bif Nat.ble l h && Nat.ble h m && Nat.ble m cap then some (l, h, m) else none) | _, _, _ => none) = _
      rw [b1, b2, b3]
      simp only [e1, e2, e3, Bool.and_self, cond_true]
    simp only [oper, oSlice, hu, evA_ok hT hx, hz, hB, oSliceR, hb, cond_false, fN_eq]
    rfl) q
theorem oa_indexRowO {k0 : IntKind} {j c o : Nat} {z0 : Int} (hu : P.underlying t = some (.slice e)) (hz : szOf P e = some es) (hx : evA x l = some (.sl b o n c)) (hi : evA i l = some (.int k0 z0)) (hz0 : z0 = (j : Int)) (hj : j < n) (q : Q (.ptr b (o + j * es)) H) : OA P tb gl (.indexAddr t x i) l H Q :=
  oa (fun T hT => by
    have hb : Nat.blt j n = true := by rw [blt_iff]; simpa using hj
    have hi' : ev i T = some (.int k0 (.ofNat j)) := by rw [evA_ok hT hi, hz0]; rfl
    simp only [oper, oIndexAddr, hu, evA_ok hT hx, hi', idx, hb, cond_true, hz, fN_eq]; rfl) q
/-- structs, part by part -/
theorem oa_aeql {r : TypeId} {ds : List TypeDesc} {us vs : List AV} {c : Bool} (hF : flatF P t = some ds) (hg : P.eqGuardType P.depth t = false) (hx : evA x l = some (.agg us)) (hy : evA y l = some (.agg vs)) (hc : flatEq ds us vs = some c) (q : Q (.bool c) H) : OA P tb gl (.binOp .eql t x y r) l H Q :=
  oa (fun T hT => by simp only [oper, oBin, evA_ok hT hx, evA_ok hT hy, hF, hg, cond_false, hc, eqOp, fB_eq]) q
theorem oa_aneq {r : TypeId} {ds : List TypeDesc} {us vs : List AV} {c : Bool} (hF : flatF P t = some ds) (hg : P.eqGuardType P.depth t = false) (hx : evA x l = some (.agg us)) (hy : evA y l = some (.agg vs)) (hc : flatEq ds us vs = some c) (q : Q (.bool (!c)) H) : OA P tb gl (.binOp .neq t x y r) l H Q :=
  oa (fun T hT => by simp only [oper, oBin, evA_ok hT hx, evA_ok hT hy, hF, hg, cond_false, hc, eqOp, fB_eq]) q
theorem oa_mulW {t r : TypeId} {k : IntKind} {a b c : Int} (hx : evA x l = some (.int k a)) (hy : evA y l = some (.int k b)) (hw : k.wrap (a * b) = c) (q : Q (.int k c) H) : OA P tb gl (.binOp .mul t x y r) l H Q := oa_mul hx hy (hw ▸ q)
theorem oa_mulN {t r : TypeId} {a b : Nat} (hx : evA x l = some (.int .i64 (a : Int))) (hy : evA y l = some (.int .i64 (b : Int))) (h : a * b < 9223372036854775808) (q : Q (.int .i64 ((a * b : Nat) : Int)) H) : OA P tb gl (.binOp .mul t x y r) l H Q :=
  oa_mul hx hy (by
    rw [show ((a : Int) * (b : Int)) = ((a * b : Nat) : Int) from (Int.natCast_mul a b).symm, wrap_i64 (by omega) (by omega)]
    exact q)
theorem oa_lssT {t r : TypeId} {k : IntKind} {a b : Int} (hx : evA x l = some (.int k a)) (hy : evA y l = some (.int k b)) (h : a < b) (q : Q (.bool true) H) : OA P tb gl (.binOp .lss t x y r) l H Q := oa_lssW hx hy (decide_eq_true h) q
theorem oa_lssF {t r : TypeId} {k : IntKind} {a b : Int} (hx : evA x l = some (.int k a)) (hy : evA y l = some (.int k b)) (h : ¬ (a < b)) (q : Q (.bool false) H) : OA P tb gl (.binOp .lss t x y r) l H Q := oa_lssW hx hy (decide_eq_false h) q
theorem oa_leqT {t r : TypeId} {k : IntKind} {a b : Int} (hx : evA x l = some (.int k a)) (hy : evA y l = some (.int k b)) (h : a ≤ b) (q : Q (.bool true) H) : OA P tb gl (.binOp .leq t x y r) l H Q := oa_leqW hx hy (decide_eq_true h) q
theorem oa_leqF {t r : TypeId} {k : IntKind} {a b : Int} (hx : evA x l = some (.int k a)) (hy : evA y l = some (.int k b)) (h : ¬ (a ≤ b)) (q : Q (.bool false) H) : OA P tb gl (.binOp .leq t x y r) l H Q := oa_leqW hx hy (decide_eq_false h) q
theorem oa_gtrT {t r : TypeId} {k : IntKind} {a b : Int} (hx : evA x l = some (.int k a)) (hy : evA y l = some (.int k b)) (h : b < a) (q : Q (.bool true) H) : OA P tb gl (.binOp .gtr t x y r) l H Q := oa_gtrW hx hy (decide_eq_true h) q
theorem oa_gtrF {t r : TypeId} {k : IntKind} {a b : Int} (hx : evA x l = some (.int k a)) (hy : evA y l = some (.int k b)) (h : ¬ (b < a)) (q : Q (.bool false) H) : OA P tb gl (.binOp .gtr t x y r) l H Q := oa_gtrW hx hy (decide_eq_false h) q
theorem oa_geqT {t r : TypeId} {k : IntKind} {a b : Int} (hx : evA x l = some (.int k a)) (hy : evA y l = some (.int k b)) (h : b ≤ a) (q : Q (.bool true) H) : OA P tb gl (.binOp .geq t x y r) l H Q := oa_geqW hx hy (decide_eq_true h) q
theorem oa_geqF {t r : TypeId} {k : IntKind} {a b : Int} (hx : evA x l = some (.int k a)) (hy : evA y l = some (.int k b)) (h : ¬ (b ≤ a)) (q : Q (.bool false) H) : OA P tb gl (.binOp .geq t x y r) l H Q := oa_geqW hx hy (decide_eq_false h) q
theorem oa_eqlT {t r : TypeId} {k : IntKind} {a b : Int} (hx : evA x l = some (.int k a)) (hy : evA y l = some (.int k b)) (h : a = b) (q : Q (.bool true) H) : OA P tb gl (.binOp .eql t x y r) l H Q := oa_eqlW hx hy (decide_eq_true h) q
theorem oa_eqlF {t r : TypeId} {k : IntKind} {a b : Int} (hx : evA x l = some (.int k a)) (hy : evA y l = some (.int k b)) (h : ¬ (a = b)) (q : Q (.bool false) H) : OA P tb gl (.binOp .eql t x y r) l H Q := oa_eqlW hx hy (decide_eq_false h) q
theorem oa_neqT {t r : TypeId} {k : IntKind} {a b : Int} (hx : evA x l = some (.int k a)) (hy : evA y l = some (.int k b)) (h : a ≠ b) (q : Q (.bool true) H) : OA P tb gl (.binOp .neq t x y r) l H Q := oa_neqW hx hy (decide_eq_true h) q
theorem oa_neqF {t r : TypeId} {k : IntKind} {a b : Int} (hx : evA x l = some (.int k a)) (hy : evA y l = some (.int k b)) (h : ¬ (a ≠ b)) (q : Q (.bool false) H) : OA P tb gl (.binOp .neq t x y r) l H Q := oa_neqW hx hy (decide_eq_false h) q
/-! ### what is plain, at one go -/
def plainO : Op → Fm → Option AV
  | .move x, l => evA x l
  | .assign x, l => evA x l
  | .extract x i, l => match evA x l with | some (.tup vs) => vs[i]? | _ => none
  | .unOp .not _ x, l => match evA x l with | some (.bool b) => some (.bool (!b)) | _ => none
  | _, _ => none
def plainI : List It → Fm → List It × Fm
  | .op d o :: its, l => match plainO o l with | some v => plainI its (stI d v l) | none => (.op d o :: its, l)
  | its, l => (its, l)
theorem oa_plain {o : Op} {l : Fm} {v : AV} (h : plainO o l = some v) {H : Heap} {Q : AV → Heap → Prop} (q : Q v H) : OA P tb gl o l H Q := by
  unfold plainO at h
  split at h
  · exact oa_move h q
  · exact oa_assign h q
  · split at h
    · rename_i vs hx
      exact oa_extract hx h q
    · cases h
  · split at h
    · rename_i b hx
      injection h with h
      subst h
      exact oa_not hx q
    · cases h
  · cases h
theorem ia_pl : ∀ {its : List It} {l : Fm} {its' : List It} {l' : Fm} {H : Heap} {Q : Fm → Heap → Prop}, plainI its l = (its', l') → IA P tb gl its' l' H Q → IA P tb gl its l H Q
  | .op d o :: its, l, its', l', H, Q, h, k => by
    unfold plainI at h
    split at h
    · rename_i v hv
      exact ia_op (oa_plain hv (ia_pl h k))
    · injection h with h1 h2
      subst h1 h2
      exact k
  | .gd _ _ _ _ :: _, _, _, _, _, _, h, k => by
    injection h with h1 h2
    subst h1 h2
    exact k
  | .ck _ _ :: _, _, _, _, _, _, h, k => by
    injection h with h1 h2
    subst h1 h2
    exact k
  | [], _, _, _, _, _, h, k => by
    injection h with h1 h2
    subst h1 h2
    exact k
/-- what is left, if only what follows comes about -/
def Nrm (R : Fm → Heap → Prop) : Ex → Fm → Heap → Prop
  | .normal, l, H => R l H
  | _, _, _ => False
theorem va_cut {v : CV} {Q : Ex → Fm → Heap → Prop} (R : Fm → Heap → Prop) (h : VA P tb gl v l H (Nrm R)) (k : ∀ l' H', R l' H' → Q .normal l' H') : VA P tb gl v l H Q :=
  h.mono fun e l' H' hr => by
    cases e with
    | normal => exact k l' H' hr
    | _ => exact hr.elim
theorem flatEq_int {ds : List TypeDesc} {k : IntKind} {a b : Int} {us vs : List AV} {c : Bool} (h : flatEq ds us vs = some c) : flatEq (.int k :: ds) (.int k a :: us) (.int k b :: vs) = some (decide (a = b) && c) := by
  have : ieq a b = decide (a = b) := by rw [ieq_eq]; by_cases h : a = b <;> simp [h]
  simp only [flatEq, decide_true, Bool.and_self, cond_true, h, this]
end
/-! ### facts about types, found by their types -/
class UnF (P : Program) (t : TypeId) (d : outParam TypeDesc) : Prop where h : P.underlying t = some d
class SzF (P : Program) (t : TypeId) (n : outParam Nat) : Prop where h : szOf P t = some n
class PlF (P : Program) (t : TypeId) (p : outParam Plc) : Prop where h : plcOf P t 0 = some p
class ElF (P : Program) (t : TypeId) (E : outParam EI) : Prop where h : elemI P t = some E
class ZeF (P : Program) (t : TypeId) (v : outParam AV) : Prop where h : zeroOf P t = some v
class FpF (P : Program) (s : TypeId) (f : Nat) (p : outParam Plc) : Prop where h : fieldPlc P s f = some p
class BsF (P : Program) (t : TypeId) : Prop where h : structOK P t = true
class PsF (P : Program) (t : TypeId) (l : outParam (List (Nat × Nat))) : Prop where h : plcsOK P t 0 l = true
end Eng
end Go.Proofs.YtalnmaalhocjfaaGreatDoor
