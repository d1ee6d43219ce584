/-
  THE ENGINE, part FF: what the kernel's steps mean: regions, code, functions, the whole.
-/
import Derived.Test.YtbdhainbcfobeaaGreatDoorEngFE
namespace Go.Proofs.YtbdhainbcfobeaaGreatDoor
namespace Eng
open Go
variable {P : Program}

def putd (d : Option Tmp) (v : AV) (T : Tm) : Tm := match d with | some t => T.set (bits t) (some v) | none => T
theorem putT_d {β : Type} (d : Option Tmp) (v : AV) (T : Tm) (k : Tm → β) : putT d v T k = k (putd d v T) := putT_eq d v T k
theorem dstC_ok {F : Fr} {T : Tm} (hR : Rep F T) (d : Option Tmp) (v : AV) {k : Fr → Ans} (h : runB (dstC d) v F k = .yes) : ∃ F', Rep F' (putd d v T) ∧ k F' = .yes := by
  cases d with
  | none => exact ⟨F, hR, h⟩
  | some t => exact tmpS_ok hR t v h
theorem guardC_none {ops : Array Oper} {g : Option (Nat × Bool)} {T : Tm} (h : guardC g ops.toList = none) : want ops g T = some true := by
  cases g with
  | none => rfl
  | some p => obtain ⟨j, w⟩ := p; cases h
theorem guardC_some {ops : Array Oper} {g : Option (Nat × Bool)} {F : Fr} {T : Tm} (hR : Rep F T) {b : Bx GdT} (h : guardC g ops.toList = some b) {k : Bool → Ans} (hy : runB b F k = .yes) : ∃ w, want ops g T = some w ∧ k w = .yes := by
  cases g with
  | none => cases h
  | some p =>
    obtain ⟨j, w⟩ := p
    simp only [guardC, Option.some.injEq] at h
    subst h
    simp only [want, ← Array.getElem?_toList]
    cases hd : (ops.toList[j]?).bind (·.dst) with
    | none => rw [hd] at hy; exact ⟨false, rfl, hy⟩
    | some t =>
      rw [hd] at hy
      simp only [bindB_eq, runB_mk] at hy
      obtain ⟨v, hv, hy⟩ := tmpG_ok hR t hy
      simp only [hv]
      cases v with
      | bool b => simp only [wantV, fB'_eq] at hy; exact ⟨_, rfl, hy⟩
      | _ => exact ⟨false, rfl, hy⟩
/-- one operation done -/
def Did (P : Program) (c : CallF) (ops : Array Oper) (g : Option (Nat × Bool)) (d : Option Tmp) (o : Op) (T : Tm) (H : Heap) (D : Dfr) (T' : Tm) (H' : Heap) (D' : Dfr) : Prop :=
  (want ops g T = some false ∧ T' = putd d undefA T ∧ H' = H ∧ D' = D) ∨
  (want ops g T = some true ∧ ((∃ v, oper P c o T H = .val v H' ∧ T' = putd d v T ∧ D' = D) ∨ (∃ f xs, oper P c o T H = .dfr f xs ∧ T' = putd d undefA T ∧ H' = H ∧ D' = (f, xs) :: D)))
theorem didC_ok {ops : Array Oper} {g : Option (Nat × Bool)} {d : Option Tmp} {o : Op} {F : Fr} {T : Tm} (hR : Rep F T) {cK : CallK} {c : CallF} {fo : Bx OpT} {B : Bl} {n : Nat} {D : Dfr}
    (hfo : ∀ {k : KD}, runB fo cK F B n D k = .yes → Good (oper P c o T ⟨B, n⟩) B n D k) {k : KS}
    (h : runB (operC1 (guardC g ops.toList) fo (dstC d)) cK F B n D k = .yes) : ∃ F' T' H' D', Rep F' T' ∧ Did P c ops g d o T ⟨B, n⟩ D T' H' D' ∧ k F' H'.bl H'.nx D' = .yes := by
  have go : ∀ {k : KS}, want ops g T = some true → runB fo cK F B n D (fun v B n D => runB (dstC d) v F fun T => k T B n D) = .yes → ∃ F' T' H' D', Rep F' T' ∧ Did P c ops g d o T ⟨B, n⟩ D T' H' D' ∧ k F' H'.bl H'.nx D' = .yes := by
    intro k hw h
    have := hfo h
    cases hr : oper P c o T ⟨B, n⟩ with
    | val v H =>
      rw [hr] at this
      obtain ⟨F', hF, h⟩ := dstC_ok hR d v this
      exact ⟨F', _, H, D, hF, .inr ⟨hw, .inl ⟨v, hr, rfl, rfl⟩⟩, h⟩
    | dfr f xs =>
      rw [hr] at this
      obtain ⟨F', hF, h⟩ := dstC_ok hR d undefA this
      exact ⟨F', _, ⟨B, n⟩, _, hF, .inr ⟨hw, .inr ⟨f, xs, hr, rfl, rfl, rfl⟩⟩, h⟩
    | _ => rw [hr] at this; exact this.elim
  cases hg : guardC g ops.toList with
  | none =>
    rw [hg] at h
    simp only [operC1, bindB_eq, runB_mk, tk_eq] at h
    exact go (guardC_none hg) h
  | some b =>
    rw [hg] at h
    simp only [operC1, bindB_eq, runB_mk, tk_eq] at h
    obtain ⟨w, hw, h⟩ := guardC_some hR hg h
    cases w with
    | true => exact go hw h
    | false =>
      obtain ⟨F', hF, h⟩ := dstC_ok hR d undefA h
      exact ⟨F', _, ⟨B, n⟩, D, hF, .inl ⟨hw, rfl, rfl, rfl⟩, h⟩
theorem operC_ok {ops : Array Oper} {o : Oper} {F : Fr} {T : Tm} (hR : Rep F T) {cK : CallK} {c : CallF} (hC : RC cK c) {B : Bl} {n : Nat} {D : Dfr} {k : KS} (h : runB (operC o P ops.toList) cK F B n D k = .yes) :
    ∃ F' T' H' D', Rep F' T' ∧ Did P c ops o.guard o.dst o.op T ⟨B, n⟩ D T' H' D' ∧ k F' H'.bl H'.nx D' = .yes := by
  rcases o with ⟨d, op, ty, pos, af, g⟩
  exact didC_ok hR (fun h => opC_ok hR hC op h) h
theorem Did.one {c : CallF} {ops : Array Oper} {o : Oper} {T : Tm} {H : Heap} {D : Dfr} {T' : Tm} {H' : Heap} {D' : Dfr} (h : Did P c ops o.guard o.dst o.op T H D T' H' D') (k : Next) : oneOp P c ops o k ⟨T, H, D⟩ = k ⟨T', H', D'⟩ := by
  rcases h with ⟨hw, rfl, rfl, rfl⟩ | ⟨hw, ⟨v, hv, rfl, rfl⟩ | ⟨f, xs, hv, rfl, rfl, rfl⟩⟩
  · simp only [oneOp, hw, putT_d]
  · simp only [oneOp, hw, hv, after, putT_d]
  · simp only [oneOp, hw, hv, after, putT_d]
theorem opsC_ok {ops : Array Oper} {cK : CallK} {c : CallF} (hC : RC cK c) : ∀ (l : List Oper) {F : Fr} {T : Tm}, Rep F T → ∀ {B : Bl} {n : Nat} {D : Dfr} {k : KS}, runB (opsC l P ops.toList) cK F B n D k = .yes →
    ∃ F' S', opsR P c ops l ⟨T, ⟨B, n⟩, D⟩ = .ok .normal S' ∧ Rep F' S'.T ∧ k F' S'.H.bl S'.H.nx S'.D = .yes
  | [], F, T, hR, B, n, D, k, h => ⟨F, _, rfl, hR, h⟩
  | o :: l, F, T, hR, B, n, D, k, h => by
    have e : opsC (o :: l) P ops.toList = bindB (operC o P ops.toList) fun fo => bindB (opsC l P ops.toList) fun fl => .mk fun call T B n D k => fo call T B n D fun T B n D => fl call T B n D k := rfl
    rw [e] at h
    simp only [bindB_eq, runB_mk] at h
    obtain ⟨F', T', H', D', hR', hd, h⟩ := operC_ok hR hC h
    obtain ⟨F2, S2, h2, hR2, h⟩ := opsC_ok hC l hR' h
    exact ⟨F2, S2, by rw [opsR, hd.one]; exact h2, hR2, h⟩
theorem emptyK_yes {l : Dfr} {x : Ans} : emptyK l x = .yes ↔ l = [] ∧ x = .yes := by cases l <;> simp [emptyK]
theorem eqK_ok {u v : AV} {x : Ans} (h : eqK u v x = .yes) : AV.eq u v = true ∧ x = .yes := by
  cases u with
  | bool a =>
    simp only [eqK, boolK_yes, ifK_yes] at h
    obtain ⟨b, rfl, hb, h⟩ := h
    exact ⟨by simp only [AV.eq]; exact hb, h⟩
  | int j a =>
    simp only [eqK, intK_yes, kindK_yes, ieqK_eq, ifK_yes] at h
    obtain ⟨i, b, rfl, rfl, hb, h⟩ := h
    exact ⟨by simp only [AV.eq, decide_true, Bool.true_and]; exact hb, h⟩
  | str l a =>
    simp only [eqK, strK_yes, ifK_yes] at h
    obtain ⟨i, b, rfl, hb, hc, h⟩ := h
    exact ⟨by simp only [AV.eq, hb, hc, Bool.and_self], h⟩
  | ptr l a =>
    simp only [eqK, ptrK_yes, ifK_yes] at h
    obtain ⟨i, b, rfl, hb, hc, h⟩ := h
    exact ⟨by simp only [AV.eq, hb, hc, Bool.and_self], h⟩
  | _ => simp only [eqK, ifK_yes] at h; exact h
theorem ckC_ok {ops : Array Oper} {o : Oper} {F : Fr} {T : Tm} (hR : Rep F T) {cK : CallK} {B : Bl} {n : Nat} {D : Dfr} {k : KS} (h : runB (ckC o P ops.toList) cK F B n D k = .yes) :
    ckOp P ops o ⟨T, ⟨B, n⟩, D⟩ = true ∧ k F B n D = .yes := by
  rcases o with ⟨d, op, ty, pos, af, g⟩
  have go : ∀ {x : Ans}, want ops g T = some true → runB (opC op P) noCall F B n [] (fun v _ _ E => emptyK E (runB (eqC d) F v x)) = .yes →
      ckOp P ops ⟨d, op, ty, pos, af, g⟩ ⟨T, ⟨B, n⟩, D⟩ = true ∧ x = .yes := by
    intro x hw h
    have := opC_ok hR (RC.no fun _ _ _ => .bad) op h
    simp only [ckOp, hw]
    cases hr : oper P (fun _ _ _ => .bad) op T ⟨B, n⟩ with
    | val v H =>
      rw [hr] at this
      simp only [Good, emptyK_yes] at this
      cases d with
      | none => exact ⟨rfl, this.2⟩
      | some t =>
        have := this.2
        simp only [eqC, bindB_eq, runB_mk] at this
        obtain ⟨u, hu, this⟩ := tmpG_ok hR t this
        have := eqK_ok this
        simp only [hu]
        exact this
    | dfr f xs => rw [hr] at this; simp only [Good, emptyK_yes] at this; exact absurd this.1 (by simp)
    | _ => rw [hr] at this; exact this.elim
  have h : runB (ckC1 (guardC g ops.toList) (opC op P) d) cK F B n D k = .yes := h
  cases hg : guardC g ops.toList with
  | none =>
    rw [hg] at h
    simp only [ckC1, bindB_eq, runB_mk, tk_eq] at h
    exact go (guardC_none hg) h
  | some b =>
    rw [hg] at h
    simp only [ckC1, bindB_eq, runB_mk, tk_eq] at h
    obtain ⟨w, hw, h⟩ := guardC_some hR hg h
    cases w with
    | true => exact go hw h
    | false => exact ⟨by simp only [ckOp, hw], h⟩
theorem drawC_ok {ops : Array Oper} {cK : CallK} {c : CallF} (hC : RC cK c) : ∀ (l : List Mv) {F : Fr} {T : Tm}, Rep F T → ∀ {B : Bl} {n : Nat} {D : Dfr} {k : KS}, runB (drawC l P ops.toList) cK F B n D k = .yes →
    ∃ F' S', drawR P c ops l ⟨T, ⟨B, n⟩, D⟩ = .ok .normal S' ∧ Rep F' S'.T ∧ k F' S'.H.bl S'.H.nx S'.D = .yes
  | [], F, T, hR, B, n, D, k, h => ⟨F, _, rfl, hR, h⟩
  | v :: l, F, T, hR, B, n, D, k, h => by
    have e : drawC (v :: l) P ops.toList = bindB (mvC v P ops.toList) fun fo => bindB (drawC l P ops.toList) fun fl => .mk fun call T B n D k => fo call T B n D fun T B n D => fl call T B n D k := rfl
    rw [e] at h
    simp only [bindB_eq, runB_mk] at h
    cases v with
    | ex i fin =>
      simp only [mvC, Array.getElem?_toList] at h
      cases ho : ops[i]? with
      | none => rw [ho] at h; cases h
      | some o =>
        rw [ho] at h
        simp only [optB_some] at h
        obtain ⟨F', T', H', D', hR', hd, h⟩ := operC_ok hR hC h
        obtain ⟨F2, S2, h2, hR2, h⟩ := drawC_ok hC l hR' h
        refine ⟨F2, S2, ?_, hR2, h⟩
        rcases hd with ⟨hw, rfl, rfl, rfl⟩ | ⟨hw, ⟨v, hv, rfl, rfl⟩ | ⟨f, xs, hv, rfl, rfl, rfl⟩⟩
        · simp only [drawR, ho, hw, putT_d]; exact h2
        · simp only [drawR, ho, hw, hv, putT_d]; exact h2
        · simp only [drawR, ho, hw, hv, putT_d]; exact h2
    | ck i =>
      simp only [mvC, Array.getElem?_toList] at h
      cases ho : ops[i]? with
      | none => rw [ho] at h; cases h
      | some o =>
        rw [ho] at h
        simp only [optB_some] at h
        obtain ⟨hck, h⟩ := ckC_ok hR h
        obtain ⟨F2, S2, h2, hR2, h⟩ := drawC_ok hC l hR h
        exact ⟨F2, S2, by simp only [drawR, ho, hck, cond_true]; exact h2, hR2, h⟩
theorem regC_ok {ops : Array Oper} {draw : Bool} {cK : CallK} {c : CallF} (hC : RC cK c) {F : Fr} {T : Tm} (hR : Rep F T) {B : Bl} {n : Nat} {D : Dfr} {k : KS} (h : runB (regC draw ops P) cK F B n D k = .yes) :
    ∃ F' S', regionR P c ops draw ⟨T, ⟨B, n⟩, D⟩ = .ok .normal S' ∧ Rep F' S'.T ∧ k F' S'.H.bl S'.H.nx S'.D = .yes := by
  cases draw with
  | false => exact opsC_ok hC _ hR h
  | true =>
    simp only [regC] at h
    simp only [regionR]
    cases hp : planOf P ops with
    | none => rw [hp] at h; cases h
    | some l => rw [hp] at h; exact drawC_ok hC l hR h

/-! ### code -/
/-- code, as the kernel runs it -/
def RX (eK : ExK) (ex : ExF) : Prop := ∀ c F T B n D k, Rep F T → eK c F B n D k = .yes → ∃ e F' S', ex c ⟨T, ⟨B, n⟩, D⟩ = .ok e S' ∧ Rep F' S'.T ∧ k e F' S'.H.bl S'.H.nx S'.D = .yes
theorem codeC_ok {eK : ExK} {ex : ExF} (hX : RX eK ex) {cK : CallK} {c : CallF} (hC : RC cK c) : ∀ (x : Code) {F : Fr} {T : Tm}, Rep F T → ∀ {B : Bl} {n : Nat} {D : Dfr} {k : KE}, runB (codeC x P) eK cK F B n D k = .yes →
    ∃ e F' S', stepC P c ex x ⟨T, ⟨B, n⟩, D⟩ = .ok e S' ∧ Rep F' S'.T ∧ k e F' S'.H.bl S'.H.nx S'.D = .yes := by
  intro x
  induction x with
  | skip => intro F T hR B n D k h; exact ⟨_, F, _, rfl, hR, h⟩
  | label l => intro F T hR B n D k h; exact ⟨_, F, _, rfl, hR, h⟩
  | exit id => intro F T hR B n D k h; exact ⟨_, F, _, rfl, hR, h⟩
  | ret => intro F T hR B n D k h; exact ⟨_, F, _, rfl, hR, h⟩
  | region id ops draw =>
    intro F T hR B n D k h
    have e : codeC (.region id ops draw) P = bindB (regC draw ops P) fun f => .mk fun _ call T B n D k => f call T B n D fun T B n D => k .normal T B n D := rfl
    rw [e] at h
    simp only [bindB_eq, runB_mk] at h
    obtain ⟨F', S', h1, hR', h⟩ := regC_ok hC hR h
    exact ⟨_, F', S', h1, hR', h⟩
  | seq a b iha ihb =>
    intro F T hR B n D k h
    have h : runB (codeC a P) eK cK F B n D (fun e T B n D => seqE e (runB (codeC b P) eK cK T B n D k) fun e => k e T B n D) = .yes := h
    obtain ⟨e, F', S', h1, hR', h⟩ := iha hR h
    cases e with
    | normal =>
      obtain ⟨e, F2, S2, h2, hR2, h⟩ := ihb hR' h
      exact ⟨e, F2, S2, by simp only [stepC, h1, seqK]; exact h2, hR2, h⟩
    | _ => exact ⟨_, F', S', by simp only [stepC, h1, seqK], hR', h⟩
  | cond x a b iha ihb =>
    intro F T hR B n D k h
    have e : codeC (.cond x a b) P = bindB (opnd x) fun g => .mk fun ih call T B n D k => tk (g T fun c => boolK c fun c => Bool.rec (motive := fun _ => Ans) (runB (codeC b P) ih call T B n D k) (runB (codeC a P) ih call T B n D k) c) := rfl
    rw [e] at h
    simp only [bindB_eq, runB_mk, tk_eq] at h
    obtain ⟨v, hv, h⟩ := opnd_ok hR x h
    rw [boolK_yes] at h
    obtain ⟨y, rfl, h⟩ := h
    cases y with
    | true =>
      obtain ⟨e, F', S', h1, hR', h⟩ := iha hR h
      exact ⟨e, F', S', by simp only [stepC, condK, hv]; exact h1, hR', h⟩
    | false =>
      obtain ⟨e, F', S', h1, hR', h⟩ := ihb hR h
      exact ⟨e, F', S', by simp only [stepC, condK, hv]; exact h1, hR', h⟩
  | block id b ihb =>
    intro F T hR B n D k h
    have h : runB (codeC b P) eK cK F B n D (fun e T B n D => blockE e id fun e => k e T B n D) = .yes := h
    obtain ⟨e, F', S', h1, hR', h⟩ := ihb hR h
    cases e with
    | exit i =>
      simp only [blockE] at h
      cases hi : Nat.beq i id with
      | true => rw [hi] at h; exact ⟨_, F', S', by simp only [stepC, h1, blockK, hi, cond_true], hR', h⟩
      | false => rw [hi] at h; exact ⟨_, F', S', by simp only [stepC, h1, blockK, hi, cond_false], hR', h⟩
    | _ => exact ⟨_, F', S', by simp only [stepC, h1, blockK], hR', h⟩
  | loop b ihb =>
    intro F T hR B n D k h
    have h : runB (codeC b P) eK cK F B n D (fun e T B n D => seqE e (eK (.loop b) T B n D k) fun e => k e T B n D) = .yes := h
    obtain ⟨e, F', S', h1, hR', h⟩ := ihb hR h
    cases e with
    | normal =>
      obtain ⟨e, F2, S2, h2, hR2, h⟩ := hX _ _ _ _ _ _ _ hR' h
      exact ⟨e, F2, S2, by simp only [stepC, h1, seqK]; exact h2, hR2, h⟩
    | _ => exact ⟨_, F', S', by simp only [stepC, h1, seqK], hR', h⟩
  | scope b ihb =>
    intro F T hR B n D k h
    obtain ⟨e, F', S', h1, hR', h⟩ := ihb hR h
    exact ⟨e, F', S', by simp only [stepC]; exact h1, hR', h⟩
  | _ => intro F T hR B n D k h; cases h

/-! ### functions -/
theorem argsF_ok : ∀ (xs : List AV) (i : Nat) {F : Fr} {T : Tm}, Rep F T → ∀ {k : Fr → Ans}, argsF xs i F k = .yes → ∃ F', Rep F' (layT T i xs) ∧ k F' = .yes
  | [], i, F, T, hR, k, h => ⟨F, hR, h⟩
  | v :: xs, i, F, T, hR, k, h => by
    have h : runB (tmpS i) v F (fun T => fN' (Nat.succ i) fun i => argsF xs i T k) = .yes := h
    obtain ⟨F', hR', h⟩ := tmpS_ok hR i v h
    exact argsF_ok xs (i + 1) hR' h
theorem resC1_ok {F : Fr} {T : Tm} (hR : Rep F T) {r : ResultVar} {H : Heap} {k : KV} (h : runB (resC1 P r) F H.bl k = .yes) : ∃ v, resV P r T H = some v ∧ k v = .yes := by
  cases r with
  | tmp t =>
    simp only [resC1, bindB_eq, runB_mk] at h
    exact tmpG_ok hR t h
  | cell a t =>
    simp only [resC1, bindB_eq, runB_mk] at h
    obtain ⟨v, hv, h⟩ := tmpG_ok hR a h
    obtain ⟨q, b, i, w, hq, rfl, hl, h⟩ := loadC_ok h
    exact ⟨w, by simp only [resV, hv, hq]; rw [hl H.nx], h⟩
theorem resC_ok {F : Fr} {T : Tm} (hR : Rep F T) {H : Heap} : ∀ (l : List ResultVar) {k : List AV → Ans}, runB (resC P l) F H.bl k = .yes → ∃ vs, resL P T H l = some vs ∧ k vs = .yes
  | [], k, h => ⟨[], rfl, h⟩
  | r :: l, k, h => by
    have e : resC P (r :: l) = bindB (resC1 P r) fun f => bindB (resC P l) fun g => .mk fun T B k => f T B fun v => g T B fun l => k (v :: l) := rfl
    rw [e] at h
    simp only [bindB_eq, runB_mk] at h
    obtain ⟨v, hv, h⟩ := resC1_ok hR h
    obtain ⟨vs, hvs, h⟩ := resC_ok hR l h
    exact ⟨v :: vs, by simp only [resL, hv, hvs], h⟩
theorem resA_of {T : Tm} {H : Heap} {fn : Func} {vs : List AV} (h : resL P T H fn.results.toList = some vs) : ∃ v, resA P fn T H = some v ∧ ∀ (k : KV), oneF vs k = k v := by
  rcases vs with _ | ⟨v, _ | ⟨w, l⟩⟩
  · exact ⟨_, by simp only [resA, h], fun k => rfl⟩
  · exact ⟨_, by simp only [resA, h], fun k => rfl⟩
  · exact ⟨_, by simp only [resA, h], fun k => rfl⟩
theorem opDC_ok {F : Fr} {T : Tm} (hR : Rep F T) {c : CallF} (o : Op) {B : Bl} {n : Nat} {D : Dfr} {k : KD} (h : runB (opDC o P) noCall F B n D k = .yes) :
    ∃ v H, (oper P c o T ⟨B, n⟩ = .val v H ∨ (oper P c o T ⟨B, n⟩ = .rcv ∧ v = .nili ∧ H = ⟨B, n⟩)) ∧ k v H.bl H.nx D = .yes := by
  have gen : opDC o P = (bindB (opC o P) fun fo => .mk fun call T B n D k => fo call T B n [] fun v B n E => emptyK E (k v B n D)) → ∃ v H, (oper P c o T ⟨B, n⟩ = .val v H ∨ (oper P c o T ⟨B, n⟩ = .rcv ∧ v = .nili ∧ H = ⟨B, n⟩)) ∧ k v H.bl H.nx D = .yes := by
    intro e
    rw [e] at h
    simp only [bindB_eq, runB_mk] at h
    have := opC_ok hR (RC.no c) o h
    cases hr : oper P c o T ⟨B, n⟩ with
    | val v H =>
      rw [hr] at this
      simp only [Good, emptyK_yes] at this
      exact ⟨v, H, .inl rfl, this.2⟩
    | dfr f xs =>
      rw [hr] at this
      simp only [Good, emptyK_yes] at this
      exact absurd this.1 (by simp)
    | _ => rw [hr] at this; exact this.elim
  cases o with
  | call cl =>
    rcases cl with ⟨ce, as, ts⟩
    cases ce with
    | builtin b =>
      cases b <;> first
        | exact gen rfl
        | (simp only [opDC, bindB_eq, runB_mk] at h
           obtain ⟨xs, hxs, h⟩ := opndL_ok hR _ h
           exact ⟨.nili, ⟨B, n⟩, .inr ⟨by simp only [oper, oCall, hxs, oBuiltin], rfl, rfl⟩, h⟩)
    | _ => exact gen rfl
  | _ => exact gen rfl
/-- a deferred function's operation done -/
def DidD (P : Program) (c : CallF) (ops : Array Oper) (g : Option (Nat × Bool)) (d : Option Tmp) (o : Op) (T : Tm) (H : Heap) (T' : Tm) (H' : Heap) : Prop :=
  (want ops g T = some false ∧ T' = putd d undefA T ∧ H' = H) ∨ (want ops g T = some true ∧ ∃ v, (oper P c o T H = .val v H' ∨ (oper P c o T H = .rcv ∧ v = .nili ∧ H' = H)) ∧ T' = putd d v T)
theorem operDC_ok {ops : Array Oper} {o : Oper} {F : Fr} {T : Tm} (hR : Rep F T) {c : CallF} {B : Bl} {n : Nat} {D : Dfr} {k : KS} (h : runB (operDC o P ops.toList) noCall F B n D k = .yes) :
    ∃ F' T' H', Rep F' T' ∧ DidD P c ops o.guard o.dst o.op T ⟨B, n⟩ T' H' ∧ k F' H'.bl H'.nx D = .yes := by
  rcases o with ⟨d, op, ty, pos, af, g⟩
  have h : runB (operC1 (guardC g ops.toList) (opDC op P) (dstC d)) noCall F B n D k = .yes := h
  have go : want ops g T = some true → runB (opDC op P) noCall F B n D (fun v B n D => runB (dstC d) v F fun T => k T B n D) = .yes → ∃ F' T' H', Rep F' T' ∧ DidD P c ops g d op T ⟨B, n⟩ T' H' ∧ k F' H'.bl H'.nx D = .yes := by
    intro hw h
    obtain ⟨v, H, hr, h⟩ := opDC_ok (c := c) hR op h
    obtain ⟨F', hF, h⟩ := dstC_ok hR d v h
    exact ⟨F', _, H, hF, .inr ⟨hw, v, hr, rfl⟩, h⟩
  cases hg : guardC g ops.toList with
  | none =>
    rw [hg] at h
    simp only [operC1, bindB_eq, runB_mk, tk_eq] at h
    exact go (guardC_none hg) h
  | some b =>
    rw [hg] at h
    simp only [operC1, bindB_eq, runB_mk, tk_eq] at h
    obtain ⟨w, hw, h⟩ := guardC_some hR hg h
    cases w with
    | true => exact go hw h
    | false =>
      obtain ⟨F', hF, h⟩ := dstC_ok hR d undefA h
      exact ⟨F', _, ⟨B, n⟩, hF, .inl ⟨hw, rfl, rfl⟩, h⟩
theorem opsDC_ok {ops : Array Oper} {c : CallF} : ∀ (l : List Oper) {F : Fr} {T : Tm}, Rep F T → ∀ {B : Bl} {n : Nat} {D : Dfr} {k : KS}, runB (opsDC l P ops.toList) noCall F B n D k = .yes →
    ∃ F' S', opsD P c ops l ⟨T, ⟨B, n⟩, D⟩ .none = .ok .normal S' .none ∧ Rep F' S'.T ∧ k F' S'.H.bl S'.H.nx S'.D = .yes
  | [], F, T, hR, B, n, D, k, h => ⟨F, _, rfl, hR, h⟩
  | o :: l, F, T, hR, B, n, D, k, h => by
    have e : opsDC (o :: l) P ops.toList = bindB (operDC o P ops.toList) fun fo => bindB (opsDC l P ops.toList) fun fl => .mk fun call T B n D k => fo call T B n D fun T B n D => fl call T B n D k := rfl
    rw [e] at h
    simp only [bindB_eq, runB_mk] at h
    obtain ⟨F', T', H', hR', hd, h⟩ := operDC_ok (c := c) hR h
    obtain ⟨F2, S2, h2, hR2, h⟩ := opsDC_ok (c := c) l hR' h
    refine ⟨F2, S2, ?_, hR2, h⟩
    rcases hd with ⟨hw, rfl, rfl⟩ | ⟨hw, v, hv | ⟨hv, rfl, rfl⟩, rfl⟩
    · simp only [opsD, hw, putT_d]; exact h2
    · simp only [opsD, hw, hv, putT_d]; exact h2
    · simp only [opsD, hw, hv, recov, putT_d]; exact h2
theorem codeDC_ok {eK : ExK} {ex : ExF} (hX : RX eK ex) {c : CallF} : ∀ (x : Code) {F : Fr} {T : Tm}, Rep F T → ∀ {B : Bl} {n : Nat} {D : Dfr} {k : KE}, runB (codeDC x P) eK F B n D k = .yes →
    ∃ e F' S', execD P c ex x ⟨T, ⟨B, n⟩, D⟩ .none = .ok e S' .none ∧ Rep F' S'.T ∧ k e F' S'.H.bl S'.H.nx S'.D = .yes := by
  have low : ∀ (x : Code), (∀ S u, execD P c ex x S u = liftD u (ex x S)) → ∀ {F : Fr} {T : Tm}, Rep F T → ∀ {B : Bl} {n : Nat} {D : Dfr} {k : KE}, eK x F B n D k = .yes →
      ∃ e F' S', execD P c ex x ⟨T, ⟨B, n⟩, D⟩ .none = .ok e S' .none ∧ Rep F' S'.T ∧ k e F' S'.H.bl S'.H.nx S'.D = .yes := by
    intro x hx F T hR B n D k h
    obtain ⟨e, F', S', h1, hR', h⟩ := hX _ _ _ _ _ _ _ hR h
    exact ⟨e, F', S', by rw [hx, h1]; rfl, hR', h⟩
  intro x
  induction x with
  | region id ops draw =>
    cases draw with
    | true =>
      intro F T hR B n D k h
      exact low (.region id ops true) (fun S u => rfl) hR h
    | false =>
      intro F T hR B n D k h
      have e : codeDC (.region id ops false) P = bindB (opsDC ops.toList P ops.toList) fun f => .mk fun _ T B n D k => f noCall T B n D fun T B n D => k .normal T B n D := rfl
      rw [e] at h
      simp only [bindB_eq, runB_mk] at h
      obtain ⟨F', S', h1, hR', h⟩ := opsDC_ok (c := c) _ hR h
      exact ⟨_, F', S', h1, hR', h⟩
  | seq a b iha ihb =>
    intro F T hR B n D k h
    have h : runB (codeDC a P) eK F B n D (fun e T B n D => seqE e (runB (codeDC b P) eK T B n D k) fun e => k e T B n D) = .yes := h
    obtain ⟨e, F', S', h1, hR', h⟩ := iha hR h
    cases e with
    | normal =>
      obtain ⟨e, F2, S2, h2, hR2, h⟩ := ihb hR' h
      exact ⟨e, F2, S2, by simp only [execD, h1]; exact h2, hR2, h⟩
    | _ => exact ⟨_, F', S', by simp only [execD, h1], hR', h⟩
  | cond x a b iha ihb =>
    intro F T hR B n D k h
    have e : codeDC (.cond x a b) P = bindB (opnd x) fun g => .mk fun ex T B n D k => tk (g T fun c => boolK c fun c => Bool.rec (motive := fun _ => Ans) (runB (codeDC b P) ex T B n D k) (runB (codeDC a P) ex T B n D k) c) := rfl
    rw [e] at h
    simp only [bindB_eq, runB_mk, tk_eq] at h
    obtain ⟨v, hv, h⟩ := opnd_ok hR x h
    rw [boolK_yes] at h
    obtain ⟨y, rfl, h⟩ := h
    cases y with
    | true =>
      obtain ⟨e, F', S', h1, hR', h⟩ := iha hR h
      exact ⟨e, F', S', by simp only [execD, hv]; exact h1, hR', h⟩
    | false =>
      obtain ⟨e, F', S', h1, hR', h⟩ := ihb hR h
      exact ⟨e, F', S', by simp only [execD, hv]; exact h1, hR', h⟩
  | block id b ihb => intro F T hR B n D k h; exact low _ (fun S u => rfl) hR h
  | loop b ihb => intro F T hR B n D k h; exact low _ (fun S u => rfl) hR h
  | scope b ihb => intro F T hR B n D k h; exact low _ (fun S u => rfl) hR h
  | skip => intro F T hR B n D k h; exact low _ (fun S u => rfl) hR h
  | label l => intro F T hR B n D k h; exact low _ (fun S u => rfl) hR h
  | exit id => intro F T hR B n D k h; exact low _ (fun S u => rfl) hR h
  | ret => intro F T hR B n D k h; exact low _ (fun S u => rfl) hR h
  | _ => intro F T hR B n D k h; cases h
theorem endE_yes {e : Ex} {x : Ans} : endE e x = .yes ↔ (e = .normal ∨ e = .ret) ∧ x = .yes := by cases e <;> simp [endE]
theorem dfnC_ok {eK : ExK} {ex : ExF} (hX : RX eK ex) {c : CallF} {f : FuncId} {xs : List AV} {B : Bl} {n : Nat} {k : Bl → Nat → Ans} (h : runB (dfnC P f) eK xs B n k = .yes) :
    ∃ H', (∀ ds, runDefers P c ex ((f, xs) :: ds) .ret ⟨B, n⟩ = runDefers P c ex ds .ret H') ∧ k H'.bl H'.nx = .yes := by
  simp only [dfnC] at h
  cases hf : P.funcs[f]? with
  | none => rw [hf] at h; cases h
  | some fn =>
    rw [hf] at h
    simp only [optB_some] at h
    cases hb : fn.body with
    | none => rw [hb] at h; cases h
    | some x =>
      rw [hb] at h
      simp only [optB_some, bindB_eq, runB_mk] at h
      obtain ⟨F, hR, h⟩ := argsF_ok xs 0 (Rep.fr0 .lf) h
      obtain ⟨e, F', S', h1, hR', h⟩ := codeDC_ok hX (c := c) x hR h
      simp only [endE_yes, emptyK_yes] at h
      obtain ⟨he, hD, h⟩ := h
      obtain ⟨vs, hvs, h⟩ := resC_ok hR' _ h
      obtain ⟨v, hv, _⟩ := resA_of hvs
      refine ⟨S'.H, fun ds => ?_, h⟩
      simp only [runDefers, hf, hb, argsT_eq]
      rcases he with rfl | rfl
      · have h1 : execD P c ex x ⟨layT .lf 0 xs, ⟨B, n⟩, []⟩ (upOf .ret) = .ok .normal S' .none := h1
        rw [h1]
        simp only [hD, hv, List.isEmpty_nil, Option.isSome_some, Bool.and_self, cond_true, mdOf]
      · have h1 : execD P c ex x ⟨layT .lf 0 xs, ⟨B, n⟩, []⟩ (upOf .ret) = .ok .ret S' .none := h1
        rw [h1]
        simp only [hD, hv, List.isEmpty_nil, Option.isSome_some, Bool.and_self, cond_true, mdOf]
theorem dfsF_ok {eK : ExK} {ex : ExF} (hX : RX eK ex) {c : CallF} : ∀ (ds : Dfr) {B : Bl} {n : Nat} {k : Bl → Nat → Ans}, dfsF P eK ds B n k = .yes → ∃ H', runDefers P c ex ds .ret ⟨B, n⟩ = some (.ret, H') ∧ k H'.bl H'.nx = .yes
  | [], B, n, k, h => ⟨⟨B, n⟩, rfl, h⟩
  | (f, xs) :: ds, B, n, k, h => by
    have h : runB (dfnC P f) eK xs B n (fun B n => dfsF P eK ds B n k) = .yes := h
    obtain ⟨H1, h1, h⟩ := dfnC_ok hX (c := c) h
    obtain ⟨H', h2, h⟩ := dfsF_ok hX (c := c) ds h
    exact ⟨H', by rw [h1]; exact h2, h⟩
theorem callK_ok {eK : ExK} {ex : ExF} (hX : RX eK ex) (c : CallF) : RC (callK P eK) (callB P c ex) := by
  intro f xs B n k h
  simp only [callK, fnC] at h
  cases hf : P.funcs[f]? with
  | none => rw [hf] at h; cases h
  | some fn =>
    rw [hf] at h
    simp only [optB_some] at h
    cases hb : fn.body with
    | none => rw [hb] at h; cases h
    | some x =>
      rw [hb] at h
      simp only [optB_some, bindB_eq, runB_mk] at h
      obtain ⟨F, hR, h⟩ := argsF_ok xs 0 (Rep.fr0 .lf) h
      obtain ⟨e, F', S', h1, hR', h⟩ := hX _ _ _ _ _ _ _ hR h
      rw [endE_yes] at h
      obtain ⟨he, h⟩ := h
      obtain ⟨H', h2, h⟩ := dfsF_ok hX (c := c) _ h
      obtain ⟨vs, hvs, h⟩ := resC_ok hR' _ h
      obtain ⟨v, hv, hk⟩ := resA_of hvs
      rw [hk] at h
      refine ⟨v, H', ?_, h⟩
      have hl : leave P c ex fn .ret S' = .ret v H' := by
        unfold leave
        cases hD : S'.D with
        | nil =>
          rw [hD] at h2
          have h2 : some (Md.ret, S'.H) = some (.ret, H') := h2
          injection h2 with h2
          injection h2 with _ h2
          subst h2
          simp only [hv]
        | cons d ds =>
          rw [hD] at h2
          have h2 : runDefers P c ex (d :: ds) .ret S'.H = some (.ret, H') := h2
          simp only [h2, hv]
      simp only [callB, hf, hb, argsT_eq, h1]
      rcases he with rfl | rfl
      · exact hl
      · exact hl
/-- what the kernel runs is the engine -/
theorem exF_ok : ∀ n, RX (exF P n) (exec P n)
  | 0 => fun c F T B n D k _ h => by cases h
  | n + 1 => fun c F T B m D k hR h => by
    have h : runB (codeC c P) (exF P n) (callK P (exF P n)) F B m D k = .yes := h
    exact codeC_ok (exF_ok n) (callK_ok (exF_ok n) (callF P n)) c hR h
theorem run_ok (n : Nat) : RC (callK P (exF P n)) (callF P (n + 1)) := callK_ok (exF_ok n) (callF P n)
end Eng
end Go.Proofs.YtbdhainbcfobeaaGreatDoor
