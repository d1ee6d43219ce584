/-
  THE ENGINE, part T: regions that do not draw; guards; results.
-/
import Derived.Test.YtbdhainbcfobeaaGreatDoorEngS
import Derived.Scope
namespace Go.Proofs.YtbdhainbcfobeaaGreatDoor
namespace Eng
open Go
section
variable {P : Program}

def ExR (ρ : Rho) : Ex → Exit → Prop
  | .normal, .normal => True
  | .exit i, .exit j => j = i
  | .ret, .ret => True
  | .panic v, .panic chain => ChainR ρ v chain
  | _, _ => False
theorem ChainR.mono {ρ ρ' : Rho} (s : Sub ρ ρ') {v : AV} {c : List PanicEntry} (h : ChainR ρ v c) : ChainR ρ' v c := by
  obtain ⟨x, o, h1, h2, h3⟩ := h; exact ⟨x, o, den_mono s v x h1, h2, h3⟩
theorem ExR.mono {ρ ρ' : Rho} (s : Sub ρ ρ') {e : Ex} {x : Exit} (h : ExR ρ e x) : ExR ρ' e x := by
  cases e <;> cases x <;> first | exact ChainR.mono s h | exact h | exact h.elim
/-- the state of the engine and the model's, related -/
structure Rel (P : Program) (nt : Nat) (ρ : Rho) (S : St) (a : Act) (w : World) : Prop where
  hr : HR ρ S.H w
  tr : TR ρ S.T a.tmps
  dr : DR ρ S.D a.defers
  sz : nt ≤ a.tmps.size
  gk : GOK P ρ
def Post (P : Program) (nt : Nat) (ρ : Rho) (H : Heap) (w : World) (e : Ex) (S' : St) : Exit → Act → World → Prop := fun x a' w' =>
  ∃ ρ', ExR ρ' e x ∧ Rel P nt ρ' S' a' w' ∧ Ext ρ H w ρ' S'.H w'
def opOK (P : Program) (nt : Nat) (o : Oper) : Bool := opG P o.op && (match o.dst with | some t => Nat.blt t nt | none => true)
theorem opOK.g {nt : Nat} {o : Oper} (h : opOK P nt o = true) : opG P o.op = true := by simp only [opOK, Bool.and_eq_true] at h; exact h.1
theorem opOK.d {nt : Nat} {o : Oper} (h : opOK P nt o = true) {t : Tmp} (ht : o.dst = some t) : t < nt := by
  simp only [opOK, Bool.and_eq_true, ht] at h; simpa [blt_iff] using h.2

theorem Act.tmps_put (a : Act) (d : Option Tmp) (x : Value) (i : Nat) : (a.put d x).tmps[i]? = if d = some i ∧ i < a.tmps.size then some x else a.tmps[i]? := by
  cases d with
  | none => simp [Act.put]
  | some t =>
    simp only [Act.put, Array.getElem?_setIfInBounds, Option.some.injEq]
    by_cases h : t = i
    · subst h
      by_cases h2 : t < a.tmps.size
      · simp [h2]
      · simp [h2]
    · simp [h]
theorem Act.size_put (a : Act) (d : Option Tmp) (x : Value) : (a.put d x).tmps.size = a.tmps.size := by cases d <;> simp [Act.put]
theorem Act.defers_put (a : Act) (d : Option Tmp) (x : Value) : (a.put d x).defers = a.defers := by cases d <;> rfl
theorem put_defs (a : Act) (ds : List Deferred) (d : Option Tmp) (x : Value) : ({ a with defers := ds }.put d x).tmps = (a.put d x).tmps := by cases d <;> rfl
theorem get_setT (d : Option Tmp) (v : AV) (T : Tm) (i : Nat) : (setT d v T).get (bits i) = if d = some i then some v else T.get (bits i) := by
  cases d with
  | none => simp [setT]
  | some t => simp only [setT, Tr.get_set_bits, Option.some.injEq]
theorem TR.put {ρ : Rho} {T : Tm} {a : Act} (h : TR ρ T a.tmps) {d : Option Tmp} (hd : ∀ t, d = some t → t < a.tmps.size) {v : AV} {x : Value} (hv : den ρ v = some x) : TR ρ (setT d v T) (a.put d x).tmps := by
  intro i u hu
  rw [get_setT] at hu
  rw [Act.tmps_put]
  by_cases e : d = some i
  · rw [if_pos e] at hu
    injection hu with hu; subst hu
    rw [if_pos ⟨e, hd i e⟩]
    exact ⟨x, hv, rfl⟩
  · rw [if_neg e] at hu
    rw [if_neg (fun h => e h.1)]
    exact h i u hu
theorem den_undef (ρ : Rho) : den ρ undefA = some undef := by simp [undefA, den, denL, undef]
theorem Rel.put {nt : Nat} {ρ : Rho} {S : St} {a : Act} {w : World} (h : Rel P nt ρ S a w) {d : Option Tmp} (hd : ∀ t, d = some t → t < nt) {v : AV} {x : Value} (hv : den ρ v = some x) : Rel P nt ρ ⟨setT d v S.T, S.H, S.D⟩ (a.put d x) w :=
  ⟨h.hr, h.tr.put (fun t ht => Nat.lt_of_lt_of_le (hd t ht) h.sz) hv, by rw [Act.defers_put]; exact h.dr, by rw [Act.size_put]; exact h.sz, h.gk⟩
theorem Rel.to {nt : Nat} {ρ ρ' : Rho} {S : St} {a : Act} {w w' : World} {H' : Heap} (h : Rel P nt ρ S a w) (s : Sub ρ ρ') (hr : HR ρ' H' w') : Rel P nt ρ' ⟨S.T, H', S.D⟩ a w' :=
  ⟨hr, h.tr.mono s, h.dr.mono s, h.sz, h.gk.mono s⟩

/-! ### guards -/
theorem want_wanted {ops : Array Oper} {o : Oper} {T : Tm} {ρ : Rho} {tmps : Array Value} {b : Bool}
    (hT : ∀ j w t v, o.guard = some (j, w) → (ops[j]?).bind (·.dst) = some t → T.get (bits t) = some v → ∃ x, den ρ v = some x ∧ tmps[t]? = some x) (h : want ops o.guard T = some b) :
    Region.wanted o (yielded ops tmps) = b := by
  unfold want at h
  unfold Region.wanted
  cases hg : o.guard with
  | none => rw [hg] at h; injection h
  | some jw =>
    obtain ⟨j, wv⟩ := jw
    rw [hg] at h
    simp only at h ⊢
    unfold yielded
    cases hd : (ops[j]?).bind (·.dst) with
    | none => rw [hd] at h; simp only at h; injection h with h
    | some t =>
      rw [hd] at h
      simp only at h
      cases hv : T.get (bits t) with
      | none => rw [hv] at h; cases h
      | some v =>
        rw [hv] at h
        obtain ⟨x, h1, h2⟩ := hT j wv t v hg hd hv
        simp only [Option.bind_some, h2]
        cases v
        case bool c =>
          simp only at h
          injection h with h; subst h
          have hx : x = .bool c := den_bool h1
          subst hx
          simp
        all_goals
          simp only at h
          injection h with h; subst h
          have : ∀ c, x ≠ .bool c := fun c hc => by
            subst hc
            simp only [den] at h1
            first
              | (simp at h1; done)
              | (split at h1 <;> first | (injection h1 with h1; simp at h1; done) | cases h1)
          cases x <;> first | rfl | exact absurd rfl (this _)

/-! ### regions that do not draw -/
theorem Fresh.left {ρ : Rho} {H H1 H2 : Heap} (h : Fresh ρ H H2) (k : H1.nx ≤ H2.nx) : Fresh ρ H H1 := fun b h1 h2 => h b h1 (Nat.lt_of_lt_of_le h2 k)
theorem Fresh.right {ρ ρ' : Rho} {H H1 H2 : Heap} {w w' : World} (h : Fresh ρ H H2) (x : Ext ρ H w ρ' H1 w') : Fresh ρ' H1 H2 := fun b h1 h2 => by
  rw [x.new b (.inr h1)]; exact h b (Nat.le_trans x.nx h1) h2
theorem Post.trans {nt : Nat} {ρ ρ' : Rho} {H H1 : Heap} {w w1 : World} {e : Ex} {S' : St} {x : Exit} {a' : Act} {w' : World} (hx : Ext ρ H w ρ' H1 w1) (h : Post P nt ρ' H1 w1 e S' x a' w') : Post P nt ρ H w e S' x a' w' := by
  obtain ⟨ρ2, h1, h2, h3⟩ := h
  exact ⟨ρ2, h1, h2, hx.trans h3⟩
theorem oneOp_mono {call : CallF} (hM : MC call) {ops : Array Oper} {o : Oper} {k : Next} (hk : ∀ S e S', k S = .ok e S' → S.H.nx ≤ S'.H.nx) {S S' : St} {e : Ex} (h : oneOp P call ops o k S = .ok e S') : S.H.nx ≤ S'.H.nx := by
  unfold oneOp at h
  simp only [after, putT_eq'] at h
  split at h
  · split at h
    · rename_i v H' hv
      have := oper_mono hM (.inl hv)
      exact Nat.le_trans this (hk _ _ _ h)
    · have := hk _ _ _ h; exact this
    · rename_i v H' hv
      injection h with h1 h2; subst h2
      exact oper_mono hM (.inr hv)
    · cases h
    · cases h
  · have := hk _ _ _ h; exact this
  · cases h
theorem opsR_mono {call : CallF} (hM : MC call) {ops : Array Oper} : ∀ (l : List Oper) (S : St) (e : Ex) (S' : St), opsR P call ops l S = .ok e S' → S.H.nx ≤ S'.H.nx
  | [], S, e, S', h => by simp only [opsR] at h; injection h with h1 h2; rw [h2]; exact Nat.le_refl _
  | o :: l, S, e, S', h => oneOp_mono hM (opsR_mono hM l) (by simpa only [opsR] using h)
theorem opsR_wp {call : CallF} (hC : CallOK P call) (hM : MC call) {nt : Nat} {ops : Array Oper} (hops : ∀ o ∈ ops.toList, opOK P nt o = true) : ∀ (l : List Oper) (k : Nat) (S : St) (e : Ex) (S' : St) (ρ : Rho) (a : Act) (w : World) (Q : Exit → Act → World → Prop),
    ops.toList.drop k = l → opsR P call ops l S = .ok e S' → Rel P nt ρ S a w → Fresh ρ S.H S'.H → (∀ x a' w', Post P nt ρ S.H w e S' x a' w' → Q x a' w') → wpOps P ops Q (List.range' k l.length) a w
  | [], k, S, e, S', ρ, a, w, Q, hd, h, hR, hF, hQ => by
    simp only [opsR] at h
    injection h with h1 h2; subst h1; subst h2
    exact hQ _ _ _ ⟨ρ, trivial, hR, .refl _ _ _⟩
  | o :: l, k, S, e, S', ρ, a, w, Q, hd, h, hR, hF, hQ => by
    have hk : ops[k]? = some o := by
      have : (ops.toList.drop k)[0]? = some o := by rw [hd]; rfl
      rw [List.getElem?_drop] at this
      simpa using this
    have hmem : o ∈ ops.toList := by have := List.mem_of_mem_drop (i := k) (l := ops.toList) (a := o) (by rw [hd]; simp); exact this
    have hok := hops o hmem
    have hd' : ops.toList.drop (k + 1) = l := by
      have := congrArg (List.drop 1) hd
      rw [List.drop_drop] at this
      simpa [Nat.add_comm] using this
    rw [List.length_cons, List.range'_succ]
    simp only [wpOps, hk]
    simp only [opsR, oneOp, after, putT_eq'] at h
    have hwant : ∀ b, want ops o.guard S.T = some b → Region.wanted o (yielded ops a.tmps) = b := fun b hb =>
      want_wanted (ρ := ρ) (fun j w' t v _ _ hv => hR.tr t v hv) hb
    have hdst : ∀ t, o.dst = some t → t < nt := fun t ht => opOK.d hok ht
    split at h
    · rename_i hw
      rw [hwant true hw, if_pos rfl]
      left
      obtain ⟨p1, p2, p3⟩ := oper_wp (K := wpOps P ops Q (List.range' (k + 1) l.length)) (Q := Q) hC (opOK.g hok) hR.tr hR.gk hR.hr
      split at h
      · rename_i v H' hv
        have hm := opsR_mono hM l _ _ _ h
        have hm0 := oper_mono hM (.inl hv)
        refine p1 v H' hv (hF.left hm) fun ρ' x w' e1 e2 e3 => ?_
        refine opsR_wp hC hM hops l (k + 1) _ e S' ρ' _ w' Q hd' h ?_ (hF.right e3) fun x a' w'' hp => hQ _ _ _ (hp.trans e3)
        exact (hR.to e3.sub e2).put hdst e1
      · rename_i f xs hv
        refine p2 f xs hv fun d hdd => ?_
        refine opsR_wp hC hM hops l (k + 1) _ e S' ρ _ w Q hd' h ?_ hF hQ
        have := hR.put hdst (den_undef ρ)
        exact ⟨this.hr, by rw [put_defs]; exact this.tr, by rw [Act.defers_put]; exact ⟨hdd, hR.dr⟩, by rw [Act.size_put]; exact hR.sz, hR.gk⟩
      · rename_i v H' hv
        injection h with h1 h2; subst h1; subst h2
        refine p3 v H' hv hF fun ρ' chain w' e1 e2 e3 => hQ _ _ _ ⟨ρ', e1, ?_, e3⟩
        exact hR.to e3.sub e2
      · cases h
      · cases h
    · rename_i hw
      rw [hwant false hw, if_neg (by simp)]
      exact opsR_wp hC hM hops l (k + 1) _ e S' ρ _ w Q hd' h (hR.put hdst (den_undef ρ)) hF hQ
    · cases h
end
end Eng
end Go.Proofs.YtbdhainbcfobeaaGreatDoor
