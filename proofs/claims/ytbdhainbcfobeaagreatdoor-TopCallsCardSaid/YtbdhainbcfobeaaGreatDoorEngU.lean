/-
  THE ENGINE, part U: code.
-/
import Derived.Test.YtbdhainbcfobeaaGreatDoorEngT
namespace Go.Proofs.YtbdhainbcfobeaaGreatDoor
namespace Eng
open Go
section
variable {P : Program}

/-- what is asked of the regions that draw -/
def DrawOK (P : Program) (call : CallF) : Prop := ∀ (nt : Nat) (ops : Array Oper) (l : List Mv) (S : St) (e : Ex) (S' : St) (ρ : Rho) (a : Act) (w : World),
  (∀ o ∈ ops.toList, opOK P nt o = true) → planOf P ops = some l → drawR P call ops l S = .ok e S' → Rel P nt ρ S a w → Fresh ρ S.H S'.H →
  ∀ Q : Exit → Act → World → Prop, (∀ x a' w', Post P nt ρ S.H w e S' x a' w' → Q x a' w') → wpAny P .any ops Q ops.size (Array.replicate ops.size false) a w
def codeOK (P : Program) (nt : Nat) : Code → Bool
  | .region _ ops _ => ops.toList.all (opOK P nt)
  | .seq a b => codeOK P nt a && codeOK P nt b
  | .cond x a b => gl P x && codeOK P nt a && codeOK P nt b
  | .block _ b => codeOK P nt b
  | .loop b => codeOK P nt b
  | .scope b => codeOK P nt b
  | _ => true

/-- from a loop's body on -/
def LoopFrom (P : Program) (c : Code) (Q : Exit → Act → World → Prop) (a : Act) (w : World) : Prop :=
  ∀ (b : Frame) (k : List Item) (cs : List Frame), ∃ e a' w', Q e a' w' ∧ Arrives P (lone (b.at a (.code c :: .inLoop c :: k)) cs w) b k cs e a' w'
def wpX (P : Program) (c : Code) (Q : Exit → Act → World → Prop) (a : Act) (w : World) : Prop := match c with
  | .loop b => LoopFrom P b Q a w
  | c => c.wp P Q a w
theorem wpX_wp {c : Code} {Q : Exit → Act → World → Prop} {a : Act} {w : World} (h : wpX P c Q a w) : c.wp P Q a w := by
  cases c with
  | loop b => exact fun bf k cs => let ⟨e, a', w', q, r⟩ := h bf k cs; ⟨e, a', w', q, .of_steps (.one step_loop) r⟩
  | _ => exact h
theorem loop_from {c : Code} {Q : Exit → Act → World → Prop} {a : Act} {w : World} (h : c.wp P (Exit.then (LoopFrom P c Q) Q) a w) : LoopFrom P c Q a w := by
  intro b k cs
  obtain ⟨e, a₁, w₁, hq, harr⟩ := h b (.inLoop c :: k) cs
  cases e with
  | normal =>
    obtain ⟨e₂, a₂, w₂, hq₂, harr₂⟩ := hq b k cs
    exact ⟨e₂, a₂, w₂, hq₂, .of_steps (Steps.trans harr (.one step_inLoop)) harr₂⟩
  | exit id => exact ⟨_, a₁, w₁, hq, .pass (x := .inLoop c) rfl (fun _ _ => .inl (by simp)) harr⟩
  | goto l => exact ⟨_, a₁, w₁, hq, .pass (x := .inLoop c) rfl (fun _ _ => .inl (by simp)) harr⟩
  | ret => exact ⟨_, a₁, w₁, hq, .pass (x := .inLoop c) rfl (fun _ _ => .inl (by simp)) harr⟩
  | panic ch => exact ⟨_, a₁, w₁, hq, .pass (x := .inLoop c) rfl (fun _ _ => .inl (by simp)) harr⟩
  | outgrown => exact ⟨_, a₁, w₁, hq, .pass (x := .inLoop c) rfl (fun _ _ => .inl (by simp)) harr⟩

def SoundC (P : Program) (nt : Nat) (ex : ExF) (c : Code) : Prop := ∀ (S : St) (e : Ex) (S' : St) (ρ : Rho) (a : Act) (w : World) (Q : Exit → Act → World → Prop),
  ex c S = .ok e S' → Rel P nt ρ S a w → Fresh ρ S.H S'.H → (∀ x a' w', Post P nt ρ S.H w e S' x a' w' → Q x a' w') → wpX P c Q a w
def MX (ex : ExF) : Prop := ∀ c S e S', ex c S = .ok e S' → S.H.nx ≤ S'.H.nx

theorem drawR_mono {call : CallF} (hM : MC call) {ops : Array Oper} : ∀ (l : List Mv) (S : St) (e : Ex) (S' : St), drawR P call ops l S = .ok e S' → S.H.nx ≤ S'.H.nx
  | [], S, e, S', h => by simp only [drawR] at h; injection h with h1 h2; rw [h2]; exact Nat.le_refl _
  | .ck i :: l, S, e, S', h => by
    simp only [drawR] at h
    split at h
    · obtain ⟨_, h⟩ := cond_some h (by simp)
      exact drawR_mono hM l S e S' h
    · cases h
  | .ex i f :: l, S, e, S', h => by
    simp only [drawR, putT_eq'] at h
    split at h
    · split at h
      · split at h
        · rename_i v H' hv
          have h1 := oper_mono hM (.inl hv)
          have h2 := drawR_mono hM l _ e S' h
          exact Nat.le_trans h1 h2
        · have h2 := drawR_mono hM l _ e S' h; exact h2
        · rename_i v H' hv
          obtain ⟨_, h⟩ := cond_some h (by simp)
          injection h with h1 h2; subst h2
          exact oper_mono hM (.inr hv)
        · cases h
        · cases h
      · have h2 := drawR_mono hM l _ e S' h; exact h2
      · cases h
    · cases h
theorem seqK_mono {b : St → Res} (hb : ∀ S e S', b S = .ok e S' → S.H.nx ≤ S'.H.nx) {r : Res} {n : Nat} (hr : ∀ e S', r = .ok e S' → n ≤ S'.H.nx) {e : Ex} {S' : St} (h : seqK b r = .ok e S') : n ≤ S'.H.nx := by
  unfold seqK at h
  split at h
  · rename_i S1; exact Nat.le_trans (hr _ _ rfl) (hb _ _ _ h)
  · exact hr _ _ h
theorem stepC_mono {call : CallF} (hM : MC call) {ih : ExF} (hX : MX ih) : MX (stepC P call ih) := by
  intro c
  have refl : ∀ {S : St} {e' e : Ex} {S' : St}, (Res.ok e' S) = .ok e S' → S.H.nx ≤ S'.H.nx := fun h => by injection h with h1 h2; rw [h2]; exact Nat.le_refl _
  induction c <;> intro S e S' h <;> simp only [stepC] at h
  case skip => exact refl h
  case label => exact refl h
  case exit => exact refl h
  case ret => exact refl h
  case region id ops draw =>
    unfold regionR at h
    cases draw with
    | false => exact opsR_mono hM _ _ _ _ h
    | true =>
      cases hp : planOf P ops with
      | none => rw [hp] at h; cases h
      | some l => rw [hp] at h; exact drawR_mono hM _ _ _ _ h
  case seq x y ihx ihy => exact seqK_mono ihy (fun e S' h => ihx _ _ _ h) h
  case loop b ihb => exact seqK_mono (hX _) (fun e S' h => ihb _ _ _ h) h
  case scope b ihb => exact ihb _ _ _ h
  case block id b ihb =>
    unfold blockK at h
    split at h
    · rename_i i S1 hi
      cases hb : Nat.beq i id <;> rw [hb] at h <;> simp only [cond_true, cond_false] at h <;> (injection h with h1 h2; subst h2; exact ihb _ _ _ hi)
    · exact ihb _ _ _ h
  case cond x p q ihp ihq =>
    unfold condK at h
    split at h
    · exact ihp _ _ _ h
    · exact ihq _ _ _ h
    · cases h
  all_goals cases h

/-- what follows a part, when it ends as it should -/
theorem seq_wp {nt : Nat} {ih ih' : ExF} (hX : MX ih) {b : Code} (hb : SoundC P nt ih b) {x : Code} {ρ : Rho} {S : St} {a : Act} {w : World} (hx : SoundC P nt ih' x) (hR : Rel P nt ρ S a w) {e : Ex} {S' : St} (h : seqK (ih b) (ih' x S) = .ok e S') (hF : Fresh ρ S.H S'.H)
    {Q : Exit → Act → World → Prop} (hQ : ∀ x a' w', Post P nt ρ S.H w e S' x a' w' → Q x a' w') : x.wp P (Exit.then (wpX P b Q) Q) a w := by
  unfold seqK at h
  split at h
  · rename_i S1 h1
    have hm := hX _ _ _ _ h
    refine wpX_wp (hx S .normal S1 ρ a w _ h1 hR (hF.left hm) fun y a' w' hp => ?_)
    obtain ⟨ρ', e1, e2, e3⟩ := hp
    cases y <;> first | exact e1.elim | skip
    exact hb S1 e S' ρ' a' w' Q h e2 (hF.right e3) fun x a'' w'' hp => hQ _ _ _ (hp.trans e3)
  · rename_i hne
    refine wpX_wp (hx S e S' ρ a w _ h hR hF fun y a' w' hp => ?_)
    cases y
    case normal =>
      obtain ⟨ρ', e1, _⟩ := hp
      cases e <;> first | exact (hne _ h).elim | exact e1.elim
    all_goals exact hQ _ _ _ hp
theorem stepC_wp {call : CallF} (hC : CallOK P call) (hM : MC call) (hD : DrawOK P call) (hfol : P.follows .mixedOrders = true) {nt : Nat} {ih : ExF} (hX : MX ih) (hI : ∀ c, codeOK P nt c = true → SoundC P nt ih c) : ∀ c, codeOK P nt c = true → SoundC P nt (stepC P call ih) c := by
  intro c
  have hX' := stepC_mono (P := P) hM hX
  have refl : ∀ {S : St} {e' e : Ex} {S' : St}, (Res.ok e' S) = .ok e S' → e' = e ∧ S = S' := fun h => by injection h with h1 h2; exact ⟨h1, h2⟩
  induction c <;> intro hc S e S' ρ a w Q h hR hF hQ <;> simp only [stepC] at h <;> simp only [codeOK, Bool.and_eq_true] at hc
  case skip => obtain ⟨rfl, rfl⟩ := refl h; exact wp_skip (hQ _ _ _ ⟨ρ, trivial, hR, .refl _ _ _⟩)
  case label => obtain ⟨rfl, rfl⟩ := refl h; exact wp_label (hQ _ _ _ ⟨ρ, trivial, hR, .refl _ _ _⟩)
  case exit => obtain ⟨rfl, rfl⟩ := refl h; exact wp_exit (hQ _ _ _ ⟨ρ, rfl, hR, .refl _ _ _⟩)
  case ret => obtain ⟨rfl, rfl⟩ := refl h; exact wp_ret (hQ _ _ _ ⟨ρ, trivial, hR, .refl _ _ _⟩)
  case region id ops draw =>
    have hops : ∀ o ∈ ops.toList, opOK P nt o = true := List.all_eq_true.1 hc
    unfold regionR at h
    cases draw with
    | false =>
      refine wp_region ?_
      rw [List.range_eq_range']
      have := opsR_wp hC hM hops ops.toList 0 S e S' ρ a w Q rfl h hR hF hQ
      simpa using this
    | true =>
      cases hp : planOf P ops with
      | none => rw [hp] at h; cases h
      | some l =>
        rw [hp] at h
        refine wp_region_any hfol ?_
        have hR' : Rel P nt ρ S a { w with drawn := w.drawn + 1 } := ⟨hR.hr.drew, hR.tr, hR.dr, hR.sz, hR.gk⟩
        have hx : Ext ρ S.H w ρ S.H { w with drawn := w.drawn + 1 } := .drew S.H w
        exact hD nt ops l S e S' ρ a _ hops hp h hR' hF Q fun x a' w' hp => hQ _ _ _ (hp.trans hx)
  case seq x y ihx ihy => exact wp_seq (wp_mono (seq_wp hX' (ihy hc.2) (ihx hc.1) hR h hF hQ) fun z a' w' hz => by cases z <;> first | exact hz | exact wpX_wp hz)
  case loop b ihb => exact loop_from (seq_wp hX (hI (.loop b) (by simpa [codeOK] using hc)) (ihb hc) hR h hF hQ)
  case scope b ihb =>
    refine wp_scope_straight (wpX_wp (ihb hc S e S' ρ a w _ h hR hF fun x a' w' hp => ?_))
    cases x <;> first | exact hQ _ _ _ hp | skip
    obtain ⟨ρ', e1, _⟩ := hp
    cases e <;> exact e1.elim
  case block id b ihb =>
    refine wp_block ?_
    unfold blockK at h
    split at h
    · rename_i i S1 hi
      cases hb : Nat.beq i id <;> rw [hb] at h <;> simp only [cond_true, cond_false] at h <;> injection h with h1 h2 <;> subst h1 <;> subst h2
      · refine wpX_wp (ihb hc S _ _ ρ a w _ hi hR hF fun x a' w' hp => ?_)
        cases x <;> first | exact hQ _ _ _ hp | skip
        obtain ⟨ρ', e1, e2, e3⟩ := hp
        have e1 : _ = i := e1
        subst e1
        simp only [Exit.inBlock]
        rw [if_neg (fun e => by rw [e, Nat.beq_refl] at hb; cases hb)]
        exact hQ _ _ _ ⟨ρ', rfl, e2, e3⟩
      · refine wpX_wp (ihb hc S _ _ ρ a w _ hi hR hF fun x a' w' hp => ?_)
        obtain ⟨ρ', e1, e2, e3⟩ := hp
        cases x <;> first | exact e1.elim | skip
        have e1 : _ = i := e1
        subst e1
        simp only [Exit.inBlock]
        rw [if_pos (beq_true.1 hb)]
        exact hQ _ _ _ ⟨ρ', trivial, e2, e3⟩
    · rename_i hne
      refine wpX_wp (ihb hc S _ _ ρ a w _ h hR hF fun x a' w' hp => ?_)
      cases x <;> first | exact hQ _ _ _ hp | skip
      obtain ⟨ρ', e1, e2, e3⟩ := hp
      cases e <;> first | exact (hne _ _ h).elim | exact e1.elim
  case cond x p q ihp ihq =>
    unfold condK at h
    split at h
    · rename_i hb
      have := den_bool (ev_den hR.tr hR.gk hc.1.1 hb)
      exact wp_cond_true this (wpX_wp (ihp hc.1.2 S e S' ρ a w Q h hR hF hQ))
    · rename_i hb
      have := den_bool (ev_den hR.tr hR.gk hc.1.1 hb)
      exact wp_cond_false this (wpX_wp (ihq hc.2 S e S' ρ a w Q h hR hF hQ))
    · cases h
  all_goals cases h
end
end Eng
end Go.Proofs.YtbdhainbcfobeaaGreatDoor
