/-
  THE ENGINE, part W: deferred functions, calls.
-/
import Derived.Test.YtbdhainbcfobeaaGreatDoorEngV
namespace Go.Proofs.YtbdhainbcfobeaaGreatDoor
namespace Eng
open Go
section
variable {P : Program}

def UpR (ρ : Rho) : Up → FrameMode → Prop
  | .none, .returning => True
  | .pan v, .panicking chain => ChainR ρ v chain
  | .done _, .panicking chain => ∃ x older, chain = { v := x, recovered := true, goexit := false } :: older ∧ ∀ e ∈ older, e.goexit = false
  | _, _ => False
theorem UpR.mono {ρ ρ' : Rho} (s : Sub ρ ρ') {u : Up} {m : FrameMode} (h : UpR ρ u m) : UpR ρ' u m := by
  cases u <;> cases m <;> first | exact ChainR.mono s h | exact h | exact h.elim
def PostD (P : Program) (nt : Nat) (ρ : Rho) (H : Heap) (w : World) (c₀ : Frame) (cs : List Frame) (e : Ex) (S' : St) (u' : Up) : Exit → Act → List Frame → World → Prop := fun x a' cs' w' =>
  ∃ ρ' m', ExR ρ' e x ∧ Rel P nt ρ' S' a' w' ∧ Ext ρ H w ρ' S'.H w' ∧ UpR ρ' u' m' ∧ cs' = { c₀ with mode := m' } :: cs
theorem PostD.trans {nt : Nat} {ρ ρ' : Rho} {H H1 : Heap} {w w1 : World} {c₀ : Frame} {cs : List Frame} {e : Ex} {S' : St} {u' : Up} {x : Exit} {a' : Act} {cs' : List Frame} {w' : World} (hx : Ext ρ H w ρ' H1 w1) (h : PostD P nt ρ' H1 w1 c₀ cs e S' u' x a' cs' w') :
    PostD P nt ρ H w c₀ cs e S' u' x a' cs' w' := by
  obtain ⟨ρ2, m, h1, h2, h3, h4, h5⟩ := h
  exact ⟨ρ2, m, h1, h2, hx.trans h3, h4, h5⟩
theorem opsD_mono {call : CallF} (hM : MC call) {ops : Array Oper} : ∀ (l : List Oper) (S : St) (u : Up) (e : Ex) (S' : St) (u' : Up), opsD P call ops l S u = .ok e S' u' → S.H.nx ≤ S'.H.nx
  | [], S, u, e, S', u', h => by simp only [opsD] at h; injection h with h1 h2 h3; rw [h2]; exact Nat.le_refl _
  | o :: l, S, u, e, S', u', h => by
    simp only [opsD, putT_eq'] at h
    split at h
    · split at h
      · rename_i v H' hv
        have h1 := oper_mono hM (.inl hv)
        have h2 := opsD_mono hM l _ _ _ _ _ h
        exact Nat.le_trans h1 h2
      · have h2 := opsD_mono hM l _ _ _ _ _ h; exact h2
      · rename_i v H' hv
        injection h with h1 h2 h3; subst h2
        exact oper_mono hM (.inr hv)
      · cases h
    · have h2 := opsD_mono hM l _ _ _ _ _ h; exact h2
    · cases h
theorem upon_norec {o : Oper} {a : Act} {K : Act → World → Prop} {Q : Exit → Act → World → Prop} {w : World} (h : o.wp P a w K Q) (X : Prop → World → Prop) :
    ∃ r, (execOp a.eval o).run P w = r ∧ (∀ w', r ≠ .ok .recover w') ∧ o.upon P a K Q r := by
  refine ⟨_, rfl, fun w' e => ?_, h⟩
  unfold Oper.wp at h
  rw [e] at h
  exact h
theorem opsD_wp {call : CallF} (hC : CallOK P call) (hM : MC call) {nt : Nat} {ops : Array Oper} (hops : ∀ o ∈ ops.toList, opOK P nt o = true) (c₀ : Frame) (cs : List Frame) :
    ∀ (l : List Oper) (k : Nat) (S : St) (u : Up) (e : Ex) (S' : St) (u' : Up) (ρ : Rho) (a : Act) (m : FrameMode) (w : World) (Q : Exit → Act → List Frame → World → Prop),
    ops.toList.drop k = l → opsD P call ops l S u = .ok e S' u' → Rel P nt ρ S a w → UpR ρ u m → Fresh ρ S.H S'.H → (∀ x a' cs' w', PostD P nt ρ S.H w c₀ cs e S' u' x a' cs' w' → Q x a' cs' w') →
    wpOpsS P ops Q (List.range' k l.length) a ({ c₀ with mode := m } :: cs) w
  | [], k, S, u, e, S', u', ρ, a, m, w, Q, hd, h, hR, hU, hF, hQ => by
    simp only [opsD] at h
    injection h with h1 h2 h3; subst h1; subst h2; subst h3
    exact hQ _ _ _ _ ⟨ρ, m, trivial, hR, .refl _ _ _, hU, rfl⟩
  | o :: l, k, S, u, e, S', u', ρ, a, m, w, Q, hd, h, hR, hU, hF, hQ => by
    have hk : ops[k]? = some o := by
      have : (ops.toList.drop k)[0]? = some o := by rw [hd]; rfl
      rw [List.getElem?_drop] at this
      simpa using this
    have hmem : o ∈ ops.toList := by have := List.mem_of_mem_drop (i := k) (l := ops.toList) (a := o) (by rw [hd]; simp); exact this
    have hok := hops o hmem
    have hd' : ops.toList.drop (k + 1) = l := by
      have := congrArg (List.drop 1) hd
      rw [List.drop_drop] at this
      simpa [Nat.add_comm] using this
    rw [List.length_cons, List.range'_succ]
    simp only [wpOpsS, hk]
    simp only [opsD, putT_eq'] at h
    have hwant : ∀ b, want ops o.guard S.T = some b → Region.wanted o (yielded ops a.tmps) = b := fun b hb =>
      want_wanted (ρ := ρ) (fun j w' t v _ _ hv => hR.tr t v hv) hb
    have hdst : ∀ t, o.dst = some t → t < nt := fun t ht => opOK.d hok ht
    -- what is no recover
    have lift : o.wp P a w (fun a' w' => wpOpsS P ops Q (List.range' (k + 1) l.length) a' ({ c₀ with mode := m } :: cs) w') (fun e a' w' => Q e a' ({ c₀ with mode := m } :: cs) w') →
        (match (execOp a.eval o).run P w with
          | .ok .recover w' =>
            match recoverD ({ c₀ with mode := m } :: cs) with
            | some (v, cs') => wpOpsS P ops Q (List.range' (k + 1) l.length) (a.put o.dst v) cs' w'
            | none => wpOpsS P ops Q (List.range' (k + 1) l.length) (a.put o.dst .nilIface) ({ c₀ with mode := m } :: cs) w'
          | r => o.upon P a (fun a' w' => wpOpsS P ops Q (List.range' (k + 1) l.length) a' ({ c₀ with mode := m } :: cs) w') (fun e a' w' => Q e a' ({ c₀ with mode := m } :: cs) w') r) := fun hw => by
      obtain ⟨r, hr, hne, hup⟩ := upon_norec hw (fun _ _ => True)
      rw [hr]
      split
      · rename_i w' ; exact absurd rfl (hne w')
      · exact hup
    split at h
    · rename_i hw
      rw [hwant true hw, if_pos rfl]
      obtain ⟨p1, p2, p3⟩ := oper_wp (K := fun a' w' => wpOpsS P ops Q (List.range' (k + 1) l.length) a' ({ c₀ with mode := m } :: cs) w') (Q := fun e a' w' => Q e a' ({ c₀ with mode := m } :: cs) w') hC (opOK.g hok) hR.tr hR.gk hR.hr
      split at h
      · rename_i v H' hv
        have hm := opsD_mono hM l _ _ _ _ _ h
        refine lift (p1 v H' hv (hF.left hm) fun ρ' x w' e1 e2 e3 => ?_)
        refine opsD_wp hC hM hops c₀ cs l (k + 1) _ u e S' u' ρ' _ m w' Q hd' h ?_ (hU.mono e3.sub) (hF.right e3) fun x a' cs' w'' hp => hQ _ _ _ _ (hp.trans e3)
        exact (hR.to e3.sub e2).put hdst e1
      · rename_i hv
        rw [oper_rcv hv w]
        simp only
        cases u with
        | none =>
          simp only [recov] at h
          have hnone : recoverD ({ c₀ with mode := m } :: cs) = none := by
            cases m <;> first | rfl | exact hU.elim
          rw [hnone]
          exact opsD_wp hC hM hops c₀ cs l (k + 1) _ _ e S' u' ρ _ m w Q hd' h (hR.put hdst (v := .nili) rfl) hU hF hQ
        | done v =>
          simp only [recov] at h
          have hnone : recoverD ({ c₀ with mode := m } :: cs) = none := by
            cases m <;> first | rfl | exact hU.elim | skip
            obtain ⟨x, older, rfl, _⟩ := hU
            rfl
          rw [hnone]
          exact opsD_wp hC hM hops c₀ cs l (k + 1) _ _ e S' u' ρ _ m w Q hd' h (hR.put hdst (v := .nili) rfl) hU hF hQ
        | pan v =>
          simp only [recov] at h
          cases m <;> first | exact hU.elim | skip
          obtain ⟨x, older, hx, rfl, hol⟩ := hU
          have hsome : recoverD ({ c₀ with mode := FrameMode.panicking ({ v := x, recovered := false, goexit := false } :: older) } :: cs) = some (x, { c₀ with mode := FrameMode.panicking ({ v := x, recovered := true, goexit := false } :: older) } :: cs) := rfl
          rw [hsome]
          exact opsD_wp hC hM hops c₀ cs l (k + 1) _ _ e S' u' ρ _ _ w Q hd' h (hR.put hdst hx) ⟨x, older, rfl, hol⟩ hF hQ
      · rename_i v H' hv
        injection h with h1 h2 h3; subst h1; subst h2; subst h3
        exact lift (p3 v H' hv hF fun ρ' chain w' e1 e2 e3 => hQ _ _ _ _ ⟨ρ', m, e1, hR.to e3.sub e2, e3, hU.mono e3.sub, rfl⟩)
      · cases h
    · rename_i hw
      rw [hwant false hw, if_neg (by simp)]
      exact opsD_wp hC hM hops c₀ cs l (k + 1) _ u e S' u' ρ _ m w Q hd' h (hR.put hdst (den_undef ρ)) hU hF hQ
    · cases h
theorem liftD_ok {u : Up} {r : Res} {e : Ex} {S' : St} {u' : Up} (h : liftD u r = .ok e S' u') : r = .ok e S' ∧ u' = u := by
  unfold liftD at h
  split at h
  · injection h with h1 h2 h3; subst h1; subst h2; exact ⟨rfl, h3.symm⟩
  · cases h
theorem execD_mono {call : CallF} (hM : MC call) {ex : ExF} (hX : MX ex) : ∀ (c : Code) (S : St) (u : Up) (e : Ex) (S' : St) (u' : Up), execD P call ex c S u = .ok e S' u' → S.H.nx ≤ S'.H.nx := by
  intro c
  induction c with
  | seq x y ihx ihy =>
    intro S u e S' u' h
    simp only [execD] at h
    split at h
    · rename_i S1 u1 h1; exact Nat.le_trans (ihx _ _ _ _ _ h1) (ihy _ _ _ _ _ h)
    · exact ihx _ _ _ _ _ h
  | cond c x y ihx ihy =>
    intro S u e S' u' h
    simp only [execD] at h
    split at h
    · exact ihx _ _ _ _ _ h
    · exact ihy _ _ _ _ _ h
    · cases h
  | region id ops draw =>
    intro S u e S' u' h
    cases draw
    · simp only [execD] at h; exact opsD_mono hM _ _ _ _ _ _ h
    · simp only [execD] at h; exact hX _ _ _ _ (liftD_ok h).1
  | _ =>
    intro S u e S' u' h
    simp only [execD] at h
    exact hX _ _ _ _ (liftD_ok h).1
theorem execD_wp {call : CallF} (hC : CallOK P call) (hM : MC call) {nt : Nat} {ex : ExF} (hX : MX ex) (hI : ∀ c, codeOK P nt c = true → SoundC P nt ex c) (c₀ : Frame) (cs : List Frame) : ∀ (c : Code), codeOK P nt c = true →
    ∀ (S : St) (u : Up) (e : Ex) (S' : St) (u' : Up) (ρ : Rho) (a : Act) (m : FrameMode) (w : World) (Q : Exit → Act → List Frame → World → Prop),
    execD P call ex c S u = .ok e S' u' → Rel P nt ρ S a w → UpR ρ u m → Fresh ρ S.H S'.H → (∀ x a' cs' w', PostD P nt ρ S.H w c₀ cs e S' u' x a' cs' w' → Q x a' cs' w') → c.wpS P Q a ({ c₀ with mode := m } :: cs) w := by
  have base : ∀ (c : Code), codeOK P nt c = true → ∀ (S : St) (u : Up) (e : Ex) (S' : St) (u' : Up) (ρ : Rho) (a : Act) (m : FrameMode) (w : World) (Q : Exit → Act → List Frame → World → Prop),
      liftD u (ex c S) = .ok e S' u' → Rel P nt ρ S a w → UpR ρ u m → Fresh ρ S.H S'.H → (∀ x a' cs' w', PostD P nt ρ S.H w c₀ cs e S' u' x a' cs' w' → Q x a' cs' w') → c.wpS P Q a ({ c₀ with mode := m } :: cs) w := by
    intro c hc S u e S' u' ρ a m w Q h hR hU hF hQ
    obtain ⟨h1, rfl⟩ := liftD_ok h
    refine wpS_of_wp (wpX_wp (hI c hc S e S' ρ a w _ h1 hR hF fun x a' w' hp => ?_))
    obtain ⟨ρ', e1, e2, e3⟩ := hp
    exact hQ _ _ _ _ ⟨ρ', m, e1, e2, e3, hU.mono e3.sub, rfl⟩
  intro c
  induction c with
  | seq x y ihx ihy =>
    intro hc S u e S' u' ρ a m w Q h hR hU hF hQ
    simp only [codeOK, Bool.and_eq_true] at hc
    simp only [execD] at h
    refine wpS_seq ?_
    split at h
    · rename_i S1 u1 h1
      have hm := execD_mono hM hX _ _ _ _ _ _ h
      refine ihx hc.1 S u _ S1 u1 ρ a m w _ h1 hR hU (hF.left hm) fun z a' cs' w' hp => ?_
      obtain ⟨ρ', m', e1, e2, e3, e4, rfl⟩ := hp
      cases z <;> first | exact e1.elim | skip
      exact ihy hc.2 S1 u1 e S' u' ρ' a' m' w' Q h e2 e4 (hF.right e3) fun z a'' cs'' w'' hp => hQ _ _ _ _ (hp.trans e3)
    · rename_i hne
      refine ihx hc.1 S u e S' u' ρ a m w _ h hR hU hF fun z a' cs' w' hp => ?_
      cases z
      case normal =>
        obtain ⟨ρ', m', e1, _⟩ := hp
        cases e <;> first | exact (hne _ _ h).elim | exact e1.elim
      all_goals exact hQ _ _ _ _ hp
  | cond x p q ihp ihq =>
    intro hc S u e S' u' ρ a m w Q h hR hU hF hQ
    simp only [codeOK, Bool.and_eq_true] at hc
    simp only [execD] at h
    split at h
    · rename_i hb
      have := den_bool (ev_den hR.tr hR.gk hc.1.1 hb)
      exact wpS_cond this (ihp hc.1.2 S u e S' u' ρ a m w Q h hR hU hF hQ)
    · rename_i hb
      have := den_bool (ev_den hR.tr hR.gk hc.1.1 hb)
      exact wpS_cond this (ihq hc.2 S u e S' u' ρ a m w Q h hR hU hF hQ)
    · cases h
  | region id ops draw =>
    intro hc S u e S' u' ρ a m w Q h hR hU hF hQ
    cases draw
    · simp only [execD] at h
      simp only [codeOK] at hc
      refine wpS_region ?_
      rw [List.range_eq_range']
      have := opsD_wp hC hM (List.all_eq_true.1 hc) c₀ cs ops.toList 0 S u e S' u' ρ a m w Q rfl h hR hU hF hQ
      simpa using this
    · simp only [execD] at h; exact base _ hc S u e S' u' ρ a m w Q h hR hU hF hQ
  | _ =>
    intro hc S u e S' u' ρ a m w Q h hR hU hF hQ
    simp only [execD] at h
    exact base _ hc S u e S' u' ρ a m w Q h hR hU hF hQ
end
end Eng
end Go.Proofs.YtbdhainbcfobeaaGreatDoor
