/-
  Matchings of two rows, in plain words: sizes, the least of the greatest ones, the calls matched by them. No conditions.
-/
import Derived.Test.YtndhniapohlniaaGreatDoorTree
namespace Go.Proofs.YtndhniapohlniaaGreatDoor
/-- whether two rows have the same at two indices -/
def eqM {α : Type} [DecidableEq α] (as bs : List α) (i j : Nat) : Bool := decide (as[i]? = bs[j]?)
/-! ### sizes of greatest matchings of what begins at two indices -/
section
variable (e : Nat → Nat → Bool) (n m : Nat)
def Lm (i j : Nat) : Nat := if h : i < n ∧ j < m then (if e i j then Lm (i + 1) (j + 1) + 1 else max (Lm (i + 1) j) (Lm i (j + 1))) else 0
termination_by (n - i) + (m - j)
decreasing_by all_goals omega
end
section
variable {e : Nat → Nat → Bool} {n m : Nat}
theorem Lm_out {i j : Nat} (h : ¬ (i < n ∧ j < m)) : Lm e n m i j = 0 := by rw [Lm, dif_neg h]
theorem Lm_yes {i j : Nat} (h1 : i < n) (h2 : j < m) (h : e i j = true) : Lm e n m i j = Lm e n m (i + 1) (j + 1) + 1 := by rw [Lm, dif_pos ⟨h1, h2⟩, if_pos h]
theorem Lm_no {i j : Nat} (h1 : i < n) (h2 : j < m) (h : e i j = false) : Lm e n m i j = max (Lm e n m (i + 1) j) (Lm e n m i (j + 1)) := by rw [Lm, dif_pos ⟨h1, h2⟩, if_neg (by simp [h])]
/-- one step along one row or along both changes a size by one at most -/
theorem Lm_near : ∀ (d i j : Nat), (n - i) + (m - j) ≤ d → Lm e n m (i + 1) j ≤ Lm e n m i j ∧ Lm e n m i (j + 1) ≤ Lm e n m i j ∧ Lm e n m i j ≤ Lm e n m (i + 1) j + 1 ∧ Lm e n m i j ≤ Lm e n m i (j + 1) + 1
  | 0, i, j, hd => by
    rw [Lm_out (i := i) (j := j) (by omega), Lm_out (i := i + 1) (by omega), Lm_out (i := i) (j := j + 1) (by omega)]
    omega
  | d + 1, i, j, hd => by
    by_cases h : i < n ∧ j < m
    · obtain ⟨h1, h2⟩ := h
      have a := Lm_near d (i + 1) j (by omega)
      have b := Lm_near d i (j + 1) (by omega)
      cases he : e i j with
      | true =>
        rw [Lm_yes h1 h2 he]
        omega
      | false =>
        rw [Lm_no h1 h2 he]
        omega
    · rw [Lm_out h, Lm_out (i := i + 1) (by omega), Lm_out (i := i) (j := j + 1) (by omega)]
      omega
theorem Lm_down (i j : Nat) : Lm e n m (i + 1) j ≤ Lm e n m i j := (Lm_near _ i j (Nat.le_refl _)).1
theorem Lm_right (i j : Nat) : Lm e n m i (j + 1) ≤ Lm e n m i j := (Lm_near _ i j (Nat.le_refl _)).2.1
theorem Lm_diag (i j : Nat) : Lm e n m i j ≤ Lm e n m (i + 1) (j + 1) + 1 := by
  by_cases h : i < n ∧ j < m
  · obtain ⟨h1, h2⟩ := h
    cases he : e i j with
    | true => rw [Lm_yes h1 h2 he]; exact Nat.le_refl _
    | false =>
      rw [Lm_no h1 h2 he]
      have a := (Lm_near (e := e) (n := n) (m := m) _ (i + 1) j (Nat.le_refl _)).2.2.2
      have b := (Lm_near (e := e) (n := n) (m := m) _ i (j + 1) (Nat.le_refl _)).2.2.1
      omega
  · rw [Lm_out h]; omega
/-- the size as the greatest of three -/
theorem Lm_max {i j : Nat} (h1 : i < n) (h2 : j < m) : Lm e n m i j = (if e i j = true ∧ max (Lm e n m (i + 1) j) (Lm e n m i (j + 1)) < Lm e n m (i + 1) (j + 1) + 1 then Lm e n m (i + 1) (j + 1) + 1 else max (Lm e n m (i + 1) j) (Lm e n m i (j + 1))) := by
  have a := Lm_diag (e := e) (n := n) (m := m) i j
  have b := Lm_down (e := e) (n := n) (m := m) i j
  have c := Lm_right (e := e) (n := n) (m := m) i j
  cases he : e i j with
  | true =>
    have := Lm_yes h1 h2 he
    split
    · omega
    · rename_i h
      have h3 : ¬ max (Lm e n m (i + 1) j) (Lm e n m i (j + 1)) < Lm e n m (i + 1) (j + 1) + 1 := fun x => h ⟨rfl, x⟩
      omega
  | false =>
    have := Lm_no h1 h2 he
    rw [if_neg (by simp)]
    exact this
theorem Lm_mono {i j k h : Nat} (h1 : i ≤ k) (h2 : j ≤ h) : Lm e n m k h ≤ Lm e n m i j := by
  have a : ∀ d, Lm e n m (i + d) j ≤ Lm e n m i j := fun d => by
    induction d with
    | zero => exact Nat.le_refl _
    | succ d ih => exact Nat.le_trans (Lm_down _ _) ih
  have b : ∀ d, Lm e n m k (j + d) ≤ Lm e n m k j := fun d => by
    induction d with
    | zero => exact Nat.le_refl _
    | succ d ih => exact Nat.le_trans (Lm_right _ _) ih
  have := a (k - i)
  have h3 := b (h - j)
  rw [show i + (k - i) = k by omega] at this
  rw [show j + (h - j) = h by omega] at h3
  omega
/-- a pair with which a matching of a size begins -/
def Hit (e : Nat → Nat → Bool) (n m w k h : Nat) : Prop := k < n ∧ h < m ∧ e k h = true ∧ Lm e n m (k + 1) (h + 1) + 1 = w
instance (w k h : Nat) : Decidable (Hit e n m w k h) := by unfold Hit; infer_instance
theorem hit_some : ∀ (d i j : Nat), (n - i) + (m - j) ≤ d → 0 < Lm e n m i j → ∃ k h, i ≤ k ∧ j ≤ h ∧ Hit e n m (Lm e n m i j) k h
  | 0, i, j, hd, hp => by rw [Lm_out (by omega)] at hp; omega
  | d + 1, i, j, hd, hp => by
    by_cases h : i < n ∧ j < m
    · obtain ⟨h1, h2⟩ := h
      cases he : e i j with
      | true => exact ⟨i, j, Nat.le_refl _, Nat.le_refl _, h1, h2, he, (Lm_yes h1 h2 he).symm⟩
      | false =>
        have hn := Lm_no h1 h2 he
        by_cases hc : Lm e n m (i + 1) j = Lm e n m i j
        · obtain ⟨k, h, a, b, c⟩ := hit_some d (i + 1) j (by omega) (by omega)
          rw [hc] at c
          exact ⟨k, h, by omega, b, c⟩
        · have hc : Lm e n m i (j + 1) = Lm e n m i j := by omega
          obtain ⟨k, h, a, b, c⟩ := hit_some d i (j + 1) (by omega) (by omega)
          rw [hc] at c
          exact ⟨k, h, a, by omega, c⟩
    · rw [Lm_out h] at hp; omega
/-- what is no beginning at the first index is none of the greatest from there on -/
theorem Lm_skip {i j : Nat} (hp : 0 < Lm e n m i j) (hn : ∀ h, j ≤ h → ¬ Hit e n m (Lm e n m i j) i h) : Lm e n m (i + 1) j = Lm e n m i j := by
  obtain ⟨k, h, a, b, c⟩ := hit_some _ i j (Nat.le_refl _) hp
  rcases Nat.lt_or_ge i k with h1 | h1
  · have h2 := Lm_mono (e := e) (n := n) (m := m) (i := i + 1) (j := j) (k := k) (h := h) h1 b
    have h3 := Lm_down (e := e) (n := n) (m := m) i j
    obtain ⟨c1, c2, c3, c4⟩ := c
    have h4 := Lm_yes c1 c2 c3
    omega
  · have : k = i := by omega
    subst this
    exact absurd c (hn h b)
/-- the least pair from two indices on -/
def FirstHit (e : Nat → Nat → Bool) (n m w i j k h : Nat) : Prop := i ≤ k ∧ j ≤ h ∧ Hit e n m w k h ∧ (∀ k' h', i ≤ k' → k' < k → j ≤ h' → ¬ Hit e n m w k' h') ∧ ∀ h', j ≤ h' → h' < h → ¬ Hit e n m w k h'
theorem FirstHit.uniq {w i j k h k' h' : Nat} (a : FirstHit e n m w i j k h) (b : FirstHit e n m w i j k' h') : k = k' ∧ h = h' := by
  obtain ⟨a1, a2, a3, a4, a5⟩ := a
  obtain ⟨b1, b2, b3, b4, b5⟩ := b
  have hk : k = k' := by
    rcases Nat.lt_trichotomy k k' with x | x | x
    · exact absurd a3 (b4 k h a1 x a2)
    · exact x
    · exact absurd b3 (a4 k' h' b1 x b2)
  subst hk
  refine ⟨rfl, ?_⟩
  rcases Nat.lt_trichotomy h h' with x | x | x
  · exact absurd a3 (b5 h a2 x)
  · exact x
  · exact absurd b3 (a5 h' b2 x)
/-- a least matching of the greatest size -/
inductive LeastM (e : Nat → Nat → Bool) (n m : Nat) : Nat → Nat → List (Nat × Nat) → Prop
  | done {i j : Nat} (h : Lm e n m i j = 0) : LeastM e n m i j []
  | more {i j k h : Nat} {l : List (Nat × Nat)} (hp : 0 < Lm e n m i j) (hf : FirstHit e n m (Lm e n m i j) i j k h) (hl : LeastM e n m (k + 1) (h + 1) l) : LeastM e n m i j ((k, h) :: l)
theorem LeastM.uniq {i j : Nat} {l l' : List (Nat × Nat)} (a : LeastM e n m i j l) : LeastM e n m i j l' → l = l' := by
  induction a generalizing l' with
  | done h =>
    intro b
    cases b with
    | done _ => rfl
    | more hp _ _ => omega
  | more hp hf hl ih =>
    intro b
    cases b with
    | done h => omega
    | more hp' hf' hl' =>
      obtain ⟨rfl, rfl⟩ := hf.uniq hf'
      rw [ih hl']
/-- a first index that begins no matching is passed -/
theorem LeastM.skip {i j : Nat} {l : List (Nat × Nat)} (hp : 0 < Lm e n m i j) (hn : ∀ h, j ≤ h → ¬ Hit e n m (Lm e n m i j) i h) (a : LeastM e n m (i + 1) j l) : LeastM e n m i j l := by
  have he := Lm_skip hp hn
  cases a with
  | done h => omega
  | more hp' hf hl =>
    rw [he] at hf
    obtain ⟨a1, a2, a3, a4, a5⟩ := hf
    refine .more hp ⟨by omega, a2, a3, fun k' h' b1 b2 b3 => ?_, a5⟩ hl
    rcases Nat.lt_or_ge i k' with x | x
    · exact a4 k' h' x b2 b3
    · have : k' = i := by omega
      subst this
      exact hn h' b3
theorem LeastM.fits {i j : Nat} {l : List (Nat × Nat)} (a : LeastM e n m i j l) : (∀ p ∈ l, i ≤ p.1 ∧ p.1 < n ∧ j ≤ p.2 ∧ p.2 < m ∧ e p.1 p.2 = true) ∧ l.Pairwise (fun p q => p.1 < q.1 ∧ p.2 < q.2) := by
  induction a with
  | done h => exact ⟨fun p hp => (by cases hp), .nil⟩
  | more hp hf hl ih =>
    obtain ⟨a1, a2, ⟨b1, b2, b3, b4⟩, _, _⟩ := hf
    refine ⟨fun p hp => ?_, ?_⟩
    · rcases List.mem_cons.1 hp with rfl | hp
      · exact ⟨a1, b1, a2, b2, b3⟩
      · obtain ⟨c1, c2, c3, c4, c5⟩ := ih.1 p hp
        exact ⟨by omega, c2, by omega, c4, c5⟩
    · rw [List.pairwise_cons]
      refine ⟨fun q hq => ?_, ih.2⟩
      obtain ⟨c1, c2, c3, c4, c5⟩ := ih.1 q hq
      exact ⟨by simp only; omega, by simp only; omega⟩
theorem LeastM.len {i j : Nat} {l : List (Nat × Nat)} (a : LeastM e n m i j l) : l.length = Lm e n m i j := by
  induction a with
  | done h => rw [h]; rfl
  | more hp hf hl ih =>
    obtain ⟨_, _, ⟨_, _, _, b4⟩, _, _⟩ := hf
    rw [List.length_cons, ih, b4]
theorem Lm_le (i j : Nat) : Lm e n m i j ≤ n - i := by
  have : ∀ d i j, (n - i) + (m - j) ≤ d → Lm e n m i j ≤ n - i := by
    intro d
    induction d with
    | zero => intro i j hd; rw [Lm_out (by omega)]; omega
    | succ d ih =>
      intro i j hd
      by_cases h : i < n ∧ j < m
      · obtain ⟨h1, h2⟩ := h
        have a := ih (i + 1) (j + 1) (by omega)
        have b := ih (i + 1) j (by omega)
        have c := ih i (j + 1) (by omega)
        cases he : e i j with
        | true => rw [Lm_yes h1 h2 he]; omega
        | false => rw [Lm_no h1 h2 he]; omega
      · rw [Lm_out h]; omega
  exact this _ i j (Nat.le_refl _)
end
/-! ### the whole matching -/
/-- where the rows part -/
def Parts (e : Nat → Nat → Bool) (n m k : Nat) : Prop := k ≤ n ∧ k ≤ m ∧ (∀ i, i < k → e i i = true) ∧ (k < n → k < m → e k k = false)
theorem Parts.uniq {e : Nat → Nat → Bool} {n m k k' : Nat} (a : Parts e n m k) (b : Parts e n m k') : k = k' := by
  obtain ⟨a1, a2, a3, a4⟩ := a
  obtain ⟨b1, b2, b3, b4⟩ := b
  rcases Nat.lt_trichotomy k k' with h | h | h
  · have := a4 (by omega) (by omega); rw [b3 k h] at this; cases this
  · exact h
  · have := b4 (by omega) (by omega); rw [a3 k' h] at this; cases this
/-- the matching of two rows, and whether it is cut -/
inductive MatM (e : Nat → Nat → Bool) (n m : Nat) (limit : Int) : List (Nat × Nat) → Bool → Prop
  | cut {k : Nat} (hk : Parts e n m k) (hc : limit < ((n - k) * (m - k) : Nat) ∧ 0 < (n - k) * (m - k)) : MatM e n m limit ((List.range k).map fun i => (i, i)) true
  | all {k : Nat} {l : List (Nat × Nat)} (hk : Parts e n m k) (hc : ¬ (limit < ((n - k) * (m - k) : Nat) ∧ 0 < (n - k) * (m - k))) (hl : LeastM (fun i j => e (k + i) (k + j)) (n - k) (m - k) 0 0 l) :
      MatM e n m limit (((List.range k).map fun i => (i, i)) ++ l.map fun p => (k + p.1, k + p.2)) false
theorem MatM.uniq {e : Nat → Nat → Bool} {n m : Nat} {limit : Int} {l l' : List (Nat × Nat)} {c c' : Bool} (a : MatM e n m limit l c) (b : MatM e n m limit l' c') : l = l' ∧ c = c' := by
  cases a with
  | cut hk hc =>
    cases b with
    | cut hk' hc' => rw [hk.uniq hk']; exact ⟨rfl, rfl⟩
    | all hk' hc' hl' => rw [hk.uniq hk'] at hc; exact absurd hc hc'
  | all hk hc hl =>
    cases b with
    | cut hk' hc' => rw [hk.uniq hk'] at hc; exact absurd hc' hc
    | all hk' hc' hl' =>
      have := hk.uniq hk'
      subst this
      rw [hl.uniq hl']
      exact ⟨rfl, rfl⟩
theorem MatM.fits {e : Nat → Nat → Bool} {n m : Nat} {limit : Int} {l : List (Nat × Nat)} {c : Bool} (a : MatM e n m limit l c) : (∀ p ∈ l, p.1 < n ∧ p.2 < m ∧ e p.1 p.2 = true) ∧ l.Pairwise (fun p q => p.1 < q.1 ∧ p.2 < q.2) := by
  have pre : ∀ k, Parts e n m k → (∀ p ∈ (List.range k).map fun i => (i, i), p.1 < k ∧ p.2 < k ∧ e p.1 p.2 = true) ∧ ((List.range k).map fun i => (i, i)).Pairwise fun p q => p.1 < q.1 ∧ p.2 < q.2 := by
    intro k hk
    refine ⟨fun p hp => ?_, ?_⟩
    · obtain ⟨i, hi, rfl⟩ := List.mem_map.1 hp
      have := List.mem_range.1 hi
      exact ⟨this, this, hk.2.2.1 i this⟩
    · rw [List.pairwise_map]
      exact List.pairwise_lt_range.imp fun h => ⟨h, h⟩
  cases a with
  | cut hk hc =>
    obtain ⟨p1, p2⟩ := pre _ hk
    exact ⟨fun p hp => ⟨Nat.lt_of_lt_of_le (p1 p hp).1 hk.1, Nat.lt_of_lt_of_le (p1 p hp).2.1 hk.2.1, (p1 p hp).2.2⟩, p2⟩
  | all hk hc hl =>
    obtain ⟨p1, p2⟩ := pre _ hk
    obtain ⟨q1, q2⟩ := hl.fits
    refine ⟨fun p hp => ?_, ?_⟩
    · rcases List.mem_append.1 hp with hp | hp
      · exact ⟨Nat.lt_of_lt_of_le (p1 p hp).1 hk.1, Nat.lt_of_lt_of_le (p1 p hp).2.1 hk.2.1, (p1 p hp).2.2⟩
      · obtain ⟨q, hq, rfl⟩ := List.mem_map.1 hp
        obtain ⟨_, c2, _, c4, c5⟩ := q1 q hq
        exact ⟨by simp only; omega, by simp only; omega, c5⟩
    · rw [List.pairwise_append]
      refine ⟨p2, ?_, fun p hp q hq => ?_⟩
      · rw [List.pairwise_map]
        exact q2.imp fun h => ⟨by omega, by omega⟩
      · obtain ⟨q, hq, rfl⟩ := List.mem_map.1 hq
        have := p1 p hp
        exact ⟨by simp only; omega, by simp only; omega⟩
end Go.Proofs.YtndhniapohlniaaGreatDoor
