/-
  THE ENGINE, part ZB: reads in any order; a region that draws is sound.
-/
import Derived.Test.YtbdhainbcfobeaaGreatDoorEngZA
namespace Go.Proofs.YtbdhainbcfobeaaGreatDoor
namespace Eng
open Go
section
variable {P : Program} {call : CallF} {ops : Array Oper} {l : List Mv} {σ : Nat → St} {m : Nat} {nt : Nat}
variable {ρ0 : Rho} {H0 : Heap} {w0 : World} {N : Nat} {L : Nat → Prop} {q : Nat} {ρ : Rho} {a : Act} {w : World}

theorem Tra.nobad (t : Tra P call ops l σ m nt) {p i : Nat} {f : Bool} {o : Oper} (hl : l[p]? = some (.ex i f)) (ho : ops[i]? = some o) : cls P o.op ≠ .bad := by
  obtain ⟨d, h1, _, _, h4, _⟩ := walk_at l [] p i f t.walk hl
  obtain ⟨o', ho', rfl⟩ := dig_inv h1
  rw [ho] at ho'; injection ho' with ho'; subst ho'
  exact h4
theorem Tra.kinds (t : Tra P call ops l σ m nt) {k : Nat} (hk : k < m) : (σ (k + 1)).H = (σ k).H ∨
    (∃ i f o B, l[k]? = some (.ex i f) ∧ ops[i]? = some o ∧ cls P o.op = .make ∧ (σ (k + 1)).H = push (σ k).H B) ∨
    (∃ i f o, l[k]? = some (.ex i f) ∧ ops[i]? = some o ∧ cls P o.op = .loud) := by
  obtain ⟨mv, hmv⟩ := t.get hk
  cases mv with
  | ck i => exact .inl (by rw [t.stepC hk hmv])
  | ex i f =>
    obtain ⟨o, ho, _⟩ := t.ex hmv
    cases hc : cls P o.op with
    | pure => exact .inl (t.quiet hk hmv ho (.inl hc)).1
    | read => exact .inl (t.quiet hk hmv ho (.inr hc)).1
    | loud => exact .inr (.inr ⟨i, f, o, hmv, ho, hc⟩)
    | bad => exact absurd hc (t.nobad hmv ho)
    | make =>
      obtain ⟨_, ⟨_, hH⟩ | ⟨_, B, _, hH, _⟩⟩ := t.makes hk hmv ho hc
      · exact .inl hH
      · exact .inr (.inl ⟨i, f, o, B, hmv, ho, hc, hH⟩)
/-- what a ready operation waits for has been done -/
theorem Inv.bef (t : Tra P call ops l σ m nt) (I : Inv P call ops l σ m nt ρ0 H0 w0 N L q ρ a w) {i : Nat} {o : Oper} (ho : ops[i]? = some o) (hr : ∀ k ∈ needs o, L k) {j : Nat} (hb : Bf P ops j i) : L j := by
  rcases t.closed (I.clo' ho hr) hb (.inr rfl) with h | h
  · exact h
  · subst h; have := t.bf_lt _ _ hb; omega
theorem big_push (H : Heap) (B : Blk) (h : ∀ b C, getB H b = some C → b < H.nx) : Big H (push H B) := fun b C hb => by
  rw [getB_push, if_neg (by have := h b C hb; omega)]; exact hb
/-- the blocks of the engine's heap are below its next number, all along -/
def HB (H : Heap) : Prop := ∀ b C, getB H b = some C → b < H.nx

/-- from the base to a later place with no write between: the blocks are where they are said to be -/
theorem Inv.vr (t : Tra P call ops l σ m nt) (hN : (σ m).H.nx ≤ N) (I : Inv P call ops l σ m nt ρ0 H0 w0 N L q ρ a w) : ∀ r, q ≤ r → r ≤ m → (∀ k i f o, q ≤ k → k < r → l[k]? = some (.ex i f) → ops[i]? = some o → cls P o.op ≠ .loud) → VR ρ (σ r).H w ∧ HB (σ r).H := by
  intro r hr
  induction hr with
  | refl => intro _ _; exact ⟨I.hr.vr, I.hr.lt⟩
  | step hr ih =>
    rename_i k
    intro hk hno
    obtain ⟨ih, ihb⟩ := ih (by omega) fun k' i f o h1 h2 => hno k' i f o h1 (by omega)
    rcases t.kinds (k := k) (by omega) with h | ⟨i, f, o, B, hl, ho, hc, hH⟩ | ⟨i, f, o, hl, ho, hc⟩
    · rw [h]; exact ⟨ih, ihb⟩
    · rw [hH]
      have hnx1 : (σ (k + 1)).H.nx = (σ k).H.nx + 1 := by rw [hH]; rfl
      refine ⟨fun b C hb p hp => ?_, fun b C hb => ?_⟩
      · rw [getB_push] at hb
        by_cases e : b = (σ k).H.nx
        · subst e
          rw [if_pos rfl] at hb; injection hb with hb; subst hb
          have hm1 := t.Hmono q k hr (by omega)
          have hm2 := t.Hmono (k + 1) m (by omega) (Nat.le_refl _)
          obtain ⟨p', i', f', o', k1, k2, k3, k4, k5, k6, k7, k8⟩ := I.free (σ k).H.nx hm1 (by omega) (by rw [hp]; simp)
          have := nx_pos t (by omega : k < m) k2 rfl hnx1 k7 k8
          subst this
          obtain ⟨pl, g1, g2, _⟩ := I.pend k i' f' o' B k1 k2 k3 k4 k5 k6 hH
          rw [hp] at g1; injection g1 with g1; subst g1
          exact g2
        · rw [if_neg e] at hb; exact ih b C hb p hp
      · rw [getB_push] at hb
        by_cases e : b = (σ k).H.nx
        · subst e; simp [push]
        · rw [if_neg e] at hb; have := ihb b C hb; simp [push]; omega
    · exact absurd hc (hno k i f o hr (by omega) hl ho)
theorem want_restr {o : Oper} {T T' : Tm} (h : ∀ s ∈ Oper.looksAt ops o, T.get (bits s) = T'.get (bits s)) : restr (Oper.looksAt ops o) T = restr (Oper.looksAt ops o) T' := by
  generalize Oper.looksAt ops o = ts at h
  induction ts with
  | nil => rfl
  | cons u ts ih =>
    simp only [restr]
    rw [h u (by simp), ih fun s hs => h s (by simp [hs])]
/-- a read, whenever it is made -/
theorem Inv.readv (t : Tra P call ops l σ m nt) (hN : (σ m).H.nx ≤ N) (I : Inv P call ops l σ m nt ρ0 H0 w0 N L q ρ a w) {i p : Nat} {f : Bool} {o : Oper} (hi : ¬ L i) (ho : ops[i]? = some o) (hr : ∀ k ∈ needs o, L k)
    (hl : l[p]? = some (.ex i f)) (hp : p < m) (hc : cls P o.op = .read) {H' : Heap} (hw : want ops o.guard (σ p).T = some true) (hv : oper P call o.op (σ p).T (σ p).H = .val (valAt P call ops l σ p) H') :
    ∃ v, GivesIn P o a ρ w v ∧ ∀ s, o.dst = some s → v = valAt P call ops l σ p := by
  have hT := I.opnd t hi ho hr hl (Nat.le_of_lt hp)
  have hg := opOK.g (t.opk ho)
  rw [oper_restr (ops := ops)] at hv
  rcases Nat.lt_or_ge p q with hpq | hqp
  · -- it comes late: it has been looked at again after each write
    have claim : ∀ r, p ≤ r → r ≤ q → ∃ v H'', oper P call o.op (restr (Oper.looksAt ops o) (σ p).T) (σ r).H = .val v H'' ∧ ∀ s, o.dst = some s → v = valAt P call ops l σ p := by
      intro r hr1
      induction hr1 with
      | refl => intro _; exact ⟨_, H', hv, fun _ _ => rfl⟩
      | step hr1 ih =>
        rename_i k
        intro hkq
        have hqm := I.qm
        obtain ⟨v, H'', h1, h2⟩ := ih (by omega)
        rcases t.kinds (k := k) (by omega) with h | ⟨i', f', o', B, hl', ho', hc', hH⟩ | ⟨i', f', o', hl', ho', hc'⟩
        · exact ⟨v, H'', by rw [h]; exact h1, h2⟩
        · exact ⟨v, _, by rw [hH]; exact oper_ext hc (big_push _ _ (I.hb k (by omega))) h1, h2⟩
        · -- a write: the plan looks again
          have hLi' : L i' := I.below k i' f' o' (by omega) hl' ho' (.inl hc')
          have hne : i ≠ i' := fun e => hi (e ▸ hLi')
          have hpk : p < k := by
            rcases Nat.lt_or_ge p k with h | h
            · exact h
            · have : p = k := Nat.le_antisymm hr1 h
              subst this
              rw [hl] at hl'; injection hl' with hl'; injection hl' with e _; exact absurd e hne
          obtain ⟨o2, ho2, _, _, hloud, _⟩ := t.ex hl'
          rw [ho'] at ho2; injection ho2 with ho2; subst ho2
          have hck : i ∈ cksOf (l.drop (k + 1)) := by
            rcases (hloud hc' i o ho hne).1 ⟨p, hpk, f, hl⟩ with hb | hb | hb
            · exact absurd (t.closed I.clo hb hLi') hi
            · rw [hc] at hb; cases hb
            · exact hb.2
          obtain ⟨r', hr'1, hr'2⟩ := cks_at _ hck
          rw [List.getElem?_drop] at hr'1
          have hlt : ∀ s, s ≤ r' → k + 1 + s < m := by
            intro s hs
            have hle : k + 1 + s < l.length := Nat.lt_of_le_of_lt (by omega) (List.getElem?_eq_some_iff.1 hr'1).1
            rcases t.en with e | ⟨im, fm, e⟩
            · omega
            · rcases Nat.lt_or_ge (k + 1 + s) m with h | h
              · exact h
              · exfalso
                have hmk : ∃ s', s' ≤ r' ∧ m = k + 1 + s' := ⟨m - (k + 1), by omega, by omega⟩
                obtain ⟨s', hs', hm'⟩ := hmk
                have : ∃ j, l[m]? = some (.ck j) := by
                  rw [hm']
                  rcases Nat.lt_or_ge s' r' with h' | h'
                  · obtain ⟨j, hj⟩ := hr'2 s' h'; rw [List.getElem?_drop] at hj; exact ⟨j, hj⟩
                  · have : s' = r' := by omega
                    subst this; exact ⟨i, hr'1⟩
                obtain ⟨j, hj⟩ := this
                rw [e] at hj; cases hj
          have hσ : ∀ s, s ≤ r' → σ (k + 1 + s) = σ (k + 1) := by
            intro s
            induction s with
            | zero => intro _; rfl
            | succ s ihs =>
              intro hs
              obtain ⟨j, hj⟩ := hr'2 s (by omega)
              rw [List.getElem?_drop] at hj
              have := t.stepC (hlt s (by omega)) hj
              rw [show k + 1 + (s + 1) = k + 1 + s + 1 by omega, this]
              exact ihs (by omega)
          have hst := t.st _ _ (hlt r' (Nat.le_refl _)) hr'1
          have hstσ := hσ r' (Nat.le_refl _)
          -- the slots that it looks at are as they were
          obtain ⟨d, hd1, hd2, hd3⟩ := walk_ck l [] _ i t.walk hr'1
          obtain ⟨o3, ho3, rfl⟩ := dig_inv hd1
          rw [ho] at ho3; injection ho3 with ho3; subst ho3
          have hsame : ∀ s ∈ Oper.looksAt ops o, (σ (k + 1)).T.get (bits s) = (σ p).T.get (bits s) := by
            intro s hs
            by_cases hwr : ∃ p' j f' o', p' < k + 1 ∧ l[p']? = some (.ex j f') ∧ ops[j]? = some o' ∧ o'.dst = some s
            · obtain ⟨p', j, f'', o'', h3, h4, h5, h6⟩ := hwr
              have hb := hd3 j _ s (dn_iff.2 ⟨p', by omega, f'', h4⟩) (dig (P := P) h5) h6 hs
              obtain ⟨p2, h7, f2, h8⟩ := t.before hl hb
              have hpp := t.uniq h4 h8; subst hpp
              rw [t.T_new h4 h5 h6 (k + 1) (by omega) h3, t.T_new h4 h5 h6 p (by omega) h7]
            · rw [t.T_old (k + 1) (by omega) fun p' j f' o' h3 h4 h5 h6 => hwr ⟨p', j, f', o', h3, h4, h5, h6⟩,
                t.T_old p (by omega) fun p' j f' o' h3 h4 h5 h6 => hwr ⟨p', j, f', o', by omega, h4, h5, h6⟩]
          have hckop : ckOp P ops o (σ (k + 1)) = true := by
            rw [← hstσ]
            generalize σ (k + 1 + r') = S1 at hst
            generalize σ (k + 1 + r' + 1) = S2 at hst
            cases hst with
            | ck ho4 hcc => rw [ho] at ho4; injection ho4 with ho4; subst ho4; exact hcc
          unfold ckOp at hckop
          rw [want_congr hsame, hw] at hckop
          simp only at hckop
          split at hckop
          · rename_i u Hu hu
            rw [oper_call (call' := call) hc, oper_restr (ops := ops), want_restr hsame] at hu
            refine ⟨u, Hu, hu, fun s hs => ?_⟩
            rw [hs] at hckop
            simp only at hckop
            rw [t.T_new hl ho hs (k + 1) (by omega) (by omega)] at hckop
            exact (AV.eq_of _ _ hckop).symm
          · cases hckop
    obtain ⟨v, H'', h1, h2⟩ := claim q (Nat.le_of_lt hpq) (Nat.le_refl _)
    exact ⟨v, (oper_read hc hg hT I.gk I.hr.vr h1).2, h2⟩
  · -- no write lies between
    have hvr := (I.vr t hN p hqp (Nat.le_of_lt hp) fun k i' f' o' h1 h2 h3 h4 h5 => by
      have hne : i ≠ i' := fun e => by subst e; have := t.uniq hl h3; omega
      obtain ⟨o2, ho2, _, _, hloud, _⟩ := t.ex h3
      rw [h4] at ho2; injection ho2 with ho2; subst ho2
      have hnd : ¬ Dn' l k i := by rintro ⟨p', hp', f2, hf2⟩; have := t.uniq hl hf2; omega
      rcases (hloud h5 i o ho hne).2 hnd with hb | hb | hb
      · exact I.above k i' f' o' h1 h3 h4 h5 (I.bef t ho hr hb)
      · rw [hc] at hb; cases hb
      · rw [hc] at hb; cases hb).1
    exact ⟨_, (oper_read hc hg hT I.gk hvr hv).2, fun _ _ => rfl⟩
end
end Eng
end Go.Proofs.YtbdhainbcfobeaaGreatDoor
