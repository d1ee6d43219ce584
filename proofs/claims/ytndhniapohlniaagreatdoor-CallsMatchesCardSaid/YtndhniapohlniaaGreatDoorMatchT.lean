/-
  The calls of two runs, matched: in plain words. No conditions.
-/
import Derived.Test.YtndhniapohlniaaGreatDoorKeeps3
import Derived.Test.YtndhniapohlniaaGreatDoorAlign
namespace Go.Proofs.YtndhniapohlniaaGreatDoor
open Go.Proofs.YtndhniapohlniaaGreatDoor.Eng
section
variable (A B : List Cl) (L R : List (Int × Int)) (limit : Int)
abbrev kidA (A : List Cl) (i : Nat) : List Nat := kidsT A i A.length
/-- whether two calls are of one pair -/
def evE (x y : Nat) : Bool := decide (evOf A L 2 x = evOf B R 3 y)
def kidE (i j : Nat) : Nat → Nat → Bool := eqM ((kidA A i).map (evOf A L 2)) ((kidA B j).map (evOf B R 3))
theorem kidE_ev {i j p q : Nat} (hp : p < (kidA A i).length) (hq : q < (kidA B j).length) : kidE A B L R i j p q = evE A B L R ((kidA A i).getD p 0) ((kidA B j).getD q 0) := by
  unfold kidE eqM evE
  rw [List.getElem?_map, List.getElem?_map, List.getD_eq_getElem?_getD, List.getD_eq_getElem?_getD, List.getElem?_eq_getElem hp, List.getElem?_eq_getElem hq]
  simp
def kidP (i j : Nat) (p : Nat × Nat) : Nat × Nat := ((kidA A i).getD p.1 0, (kidA B j).getD p.2 0)
/-- what is visited, one behind the other -/
inductive VisW : List (Nat × Nat) → List (Nat × Nat) → Bool → Prop
  | nil : VisW [] [] false
  | step {i j : Nat} {rest found out : List (Nat × Nat)} {c c' : Bool} (hm : MatM (kidE A B L R i j) (kidA A i).length (kidA B j).length limit found c) (hr : VisW (found.map (kidP A B i j) ++ rest) out c') : VisW ((i, j) :: rest) ((i, j) :: out) (c || c')
end
section
variable {A B : List Cl} {L R : List (Int × Int)} {limit : Int}
theorem VisW.append {a x : List (Nat × Nat)} {c : Bool} (h : VisW A B L R limit a x c) : ∀ {b y : List (Nat × Nat)} {d : Bool}, VisW A B L R limit b y d → VisW A B L R limit (a ++ b) (x ++ y) (c || d) := by
  induction h with
  | nil => intro b y d k; exact k
  | step hm hr ih =>
    intro b y d k
    have := ih k
    rw [Bool.or_assoc]
    rw [List.append_assoc] at this
    exact .step hm this
theorem VisW.uniq {a x : List (Nat × Nat)} {c : Bool} (h : VisW A B L R limit a x c) : ∀ {x' : List (Nat × Nat)} {c' : Bool}, VisW A B L R limit a x' c' → x = x' ∧ c = c' := by
  induction h with
  | nil => intro x' c' k; cases k; exact ⟨rfl, rfl⟩
  | step hm hr ih =>
    intro x' c' k
    cases k with
    | step hm' hr' =>
      obtain ⟨rfl, rfl⟩ := hm.uniq hm'
      obtain ⟨rfl, rfl⟩ := ih hr'
      exact ⟨rfl, rfl⟩
theorem mem_kidA {A : List Cl} {i x : Nat} (h : x ∈ kidA A i) : ∃ c, A[x]? = some c ∧ 0 < x ∧ c.up = (i : Int) ∧ x < A.length := by
  unfold kidA kidsT at h
  rw [List.mem_filter, List.mem_range] at h
  obtain ⟨h1, h2⟩ := h
  unfold isKid at h2
  split at h2
  · rename_i c hc
    rw [Bool.and_eq_true, decide_eq_true_eq, decide_eq_true_eq] at h2
    exact ⟨c, hc, h2.1, h2.2, h1⟩
  · cases h2
theorem kidA_sorted (A : List Cl) (i : Nat) : (kidA A i).Pairwise (· < ·) := List.Pairwise.filter _ List.pairwise_lt_range
theorem getD_of {l : List Nat} {p : Nat} (h : p < l.length) : l.getD p 0 ∈ l ∧ l[p]? = some (l.getD p 0) := by
  rw [List.getD_eq_getElem?_getD, List.getElem?_eq_getElem h]
  exact ⟨List.getElem_mem h, rfl⟩
theorem getD_lt {l : List Nat} (hs : l.Pairwise (· < ·)) {p q : Nat} (hq : q < l.length) (hpq : p < q) : l.getD p 0 < l.getD q 0 := by
  have hp : p < l.length := by omega
  rw [List.getD_eq_getElem?_getD, List.getD_eq_getElem?_getD, List.getElem?_eq_getElem hp, List.getElem?_eq_getElem hq]
  exact List.pairwise_iff_getElem.1 hs p q hp hq hpq
/-- what each pair that is visited is: asked for, or of kids of one ahead of it -/
theorem VisW.there {w out : List (Nat × Nat)} {c : Bool} (h : VisW A B L R limit w out c) : ∀ (x : Nat) q, out[x]? = some q → q ∈ w ∨
    (∃ y p, y < x ∧ out[y]? = some p ∧ (∃ d, A[q.1]? = some d ∧ d.up = (p.1 : Int)) ∧ (∃ d, B[q.2]? = some d ∧ d.up = (p.2 : Int)) ∧ evE A B L R q.1 q.2 = true) := by
  induction h with
  | nil => intro x q hq; simp at hq
  | @step i j rest found out c c' hm hr ih =>
    intro x q hq
    cases x with
    | zero =>
      simp only [List.getElem?_cons_zero, Option.some.injEq] at hq
      subst hq
      exact .inl (by simp)
    | succ x =>
      rw [List.getElem?_cons_succ] at hq
      rcases ih x q hq with h | ⟨y, p, h1, h2, h3, h4, h5⟩
      · rcases List.mem_append.1 h with h | h
        · obtain ⟨f, hf, rfl⟩ := List.mem_map.1 h
          obtain ⟨f1, f2, f3⟩ := hm.fits.1 f hf
          obtain ⟨d1, k1, _, k3, _⟩ := mem_kidA (getD_of f1).1
          obtain ⟨d2, k5, _, k7, _⟩ := mem_kidA (getD_of f2).1
          exact .inr ⟨0, (i, j), by omega, rfl, ⟨d1, k1, k3⟩, ⟨d2, k5, k7⟩, (kidE_ev A B L R f1 f2).symm.trans f3⟩
        · exact .inl (by simp [h])
      · exact .inr ⟨y + 1, p, by omega, by rw [List.getElem?_cons_succ]; exact h2, h3, h4, h5⟩
/-! ### the calls below one -/
inductive Desc (A : List Cl) (i : Nat) : Nat → Prop
  | here : Desc A i i
  | down {u x : Nat} {c : Cl} (h : Desc A i u) (hx : A[x]? = some c) (h0 : 0 < x) (hu : c.up = (u : Int)) : Desc A i x
theorem Desc.trans {A : List Cl} {i k x : Nat} (h : Desc A i k) (h' : Desc A k x) : Desc A i x := by
  induction h' with
  | here => exact h
  | down _ hx h0 hu ih => exact .down ih hx h0 hu
theorem Desc.le {A : List Cl} {n : Nat} {op : List Nat} (I : TInv n A op) {i x : Nat} (h : Desc A i x) : i ≤ x := by
  induction h with
  | here => exact Nat.le_refl _
  | down _ hx h0 hu ih =>
    obtain ⟨u, h1, h2⟩ := (I.ups _ _ hx).2 h0
    omega
def Bef (A : List Cl) (i k : Nat) : Prop := ∀ x, Desc A i x → x < k
theorem Bef.lt {A : List Cl} {i k : Nat} (h : Bef A i k) : i < k := h i .here
theorem Bef.sib {A : List Cl} {n : Nat} {op : List Nat} (I : TInv n A op) {j k : Nat} {c d : Cl} (hjk : j < k) (hj : A[j]? = some c) (hk : A[k]? = some d) (hu : c.up = d.up) : Bef A j k := by
  obtain ⟨h1, h2⟩ := I.sib j k c d hjk hj hk hu
  intro x hx
  have : ∃ cx, A[x]? = some cx ∧ cx.leave ≠ 0 ∧ cx.leave ≤ c.leave := by
    induction hx with
    | here => exact ⟨c, hj, h1, Nat.le_refl _⟩
    | down _ hx h0 hu ih =>
      obtain ⟨cu, a1, a2, a3⟩ := ih
      obtain ⟨b1, b2⟩ := I.par _ _ _ _ hx hu a1 a2
      exact ⟨_, hx, b1, by omega⟩
  obtain ⟨cx, a1, a2, a3⟩ := this
  have a4 := (I.ent x cx a1).2.2
  rcases Nat.lt_trichotomy x k with h | h | h
  · exact h
  · subst h
    rw [hk] at a1
    injection a1 with a1
    subst a1
    omega
  · have := I.inc k x d cx h hk a1
    omega
/-- what is visited rises -/
theorem VisW.rises {n m : Nat} {op op' : List Nat} (I : TInv n A op) (J : TInv m B op') {w out : List (Nat × Nat)} {c : Bool} (h : VisW A B L R limit w out c) : w.Pairwise (fun p q => Bef A p.1 q.1 ∧ Bef B p.2 q.2) →
    (∀ q ∈ out, ∃ p ∈ w, Desc A p.1 q.1 ∧ Desc B p.2 q.2) ∧ out.Pairwise fun p q => p.1 < q.1 ∧ p.2 < q.2 := by
  induction h with
  | nil => intro _; exact ⟨fun q hq => (by cases hq), .nil⟩
  | @step i j rest found out c c' hm hr ih =>
    intro hw
    rw [List.pairwise_cons] at hw
    have kidsD : ∀ p ∈ found.map (kidP A B i j), Desc A i p.1 ∧ Desc B j p.2 ∧ i < p.1 ∧ j < p.2 := by
      intro p hp
      obtain ⟨f, hf, rfl⟩ := List.mem_map.1 hp
      obtain ⟨f1, f2, f3⟩ := hm.fits.1 f hf
      obtain ⟨d1, k1, k2, k3, _⟩ := mem_kidA (getD_of f1).1
      obtain ⟨d2, k5, k6, k7, _⟩ := mem_kidA (getD_of f2).1
      obtain ⟨u1, v1, v2⟩ := (I.ups _ _ k1).2 k2
      obtain ⟨u2, v3, v4⟩ := (J.ups _ _ k5).2 k6
      exact ⟨.down .here k1 k2 k3, .down .here k5 k6 k7, by simp only [kidP]; omega, by simp only [kidP]; omega⟩
    obtain ⟨h1, h2⟩ := ih (by
      rw [List.pairwise_append]
      refine ⟨?_, hw.2, fun p hp q hq => ?_⟩
      · rw [List.pairwise_map]
        refine hm.fits.2.imp_of_mem fun {p q} hp hq hpq => ?_
        obtain ⟨p1, p2, _⟩ := hm.fits.1 p hp
        obtain ⟨q1, q2, _⟩ := hm.fits.1 q hq
        obtain ⟨d1, k1, _, k3, _⟩ := mem_kidA (getD_of p1).1
        obtain ⟨d2, k5, _, k7, _⟩ := mem_kidA (getD_of p2).1
        obtain ⟨d3, l1, _, l3, _⟩ := mem_kidA (getD_of q1).1
        obtain ⟨d4, l5, _, l7, _⟩ := mem_kidA (getD_of q2).1
        exact ⟨Bef.sib I (getD_lt (kidA_sorted A i) q1 hpq.1) k1 l1 (by omega), Bef.sib J (getD_lt (kidA_sorted B j) q2 hpq.2) k5 l5 (by omega)⟩
      · obtain ⟨a1, a2, _, _⟩ := kidsD p hp
        obtain ⟨b1, b2⟩ := hw.1 q hq
        exact ⟨fun x hx => b1 x (a1.trans hx), fun x hx => b2 x (a2.trans hx)⟩)
    refine ⟨fun q hq => ?_, ?_⟩
    · rcases List.mem_cons.1 hq with rfl | hq
      · exact ⟨_, by simp, .here, .here⟩
      · obtain ⟨p, hp, d1, d2⟩ := h1 q hq
        rcases List.mem_append.1 hp with hp | hp
        · obtain ⟨a1, a2, _, _⟩ := kidsD p hp
          exact ⟨(i, j), by simp, a1.trans d1, a2.trans d2⟩
        · exact ⟨p, by simp [hp], d1, d2⟩
    · rw [List.pairwise_cons]
      refine ⟨fun q hq => ?_, h2⟩
      obtain ⟨p, hp, d1, d2⟩ := h1 q hq
      have e1 := d1.le I
      have e2 := d2.le J
      rcases List.mem_append.1 hp with hp | hp
      · obtain ⟨_, _, a3, a4⟩ := kidsD p hp
        exact ⟨by simp only; omega, by simp only; omega⟩
      · obtain ⟨b1, b2⟩ := hw.1 p hp
        have := b1.lt
        have := b2.lt
        exact ⟨by simp only at *; omega, by simp only at *; omega⟩
/-- the kids that are matched come one behind the other -/
theorem kids_bef {n m : Nat} {op op' : List Nat} (I : TInv n A op) (J : TInv m B op') {i j : Nat} {found : List (Nat × Nat)} {c : Bool} (hm : MatM (kidE A B L R i j) (kidA A i).length (kidA B j).length limit found c) :
    (found.map (kidP A B i j)).Pairwise (fun p q => Bef A p.1 q.1 ∧ Bef B p.2 q.2) ∧ ∀ p ∈ found.map (kidP A B i j), i < p.1 ∧ j < p.2 ∧ p.1 < A.length ∧ p.2 < B.length := by
  refine ⟨?_, fun p hp => ?_⟩
  · rw [List.pairwise_map]
    refine hm.fits.2.imp_of_mem fun {p q} hp hq hpq => ?_
    obtain ⟨p1, p2, _⟩ := hm.fits.1 p hp
    obtain ⟨q1, q2, _⟩ := hm.fits.1 q hq
    obtain ⟨d1, k1, _, k3, _⟩ := mem_kidA (getD_of p1).1
    obtain ⟨d2, k5, _, k7, _⟩ := mem_kidA (getD_of p2).1
    obtain ⟨d3, l1, _, l3, _⟩ := mem_kidA (getD_of q1).1
    obtain ⟨d4, l5, _, l7, _⟩ := mem_kidA (getD_of q2).1
    exact ⟨Bef.sib I (getD_lt (kidA_sorted A i) q1 hpq.1) k1 l1 (by omega), Bef.sib J (getD_lt (kidA_sorted B j) q2 hpq.2) k5 l5 (by omega)⟩
  · obtain ⟨f, hf, rfl⟩ := List.mem_map.1 hp
    obtain ⟨f1, f2, f3⟩ := hm.fits.1 f hf
    obtain ⟨d1, k1, k2, k3, k4⟩ := mem_kidA (getD_of f1).1
    obtain ⟨d2, k5, k6, k7, k8⟩ := mem_kidA (getD_of f2).1
    obtain ⟨u1, v1, v2⟩ := (I.ups _ _ k1).2 k2
    obtain ⟨u2, v3, v4⟩ := (J.ups _ _ k5).2 k6
    exact ⟨by simp only [kidP]; omega, by simp only [kidP]; omega, k4, k8⟩
/-- how many are visited ahead of a kid -/
theorem VisW.pre_len {n m : Nat} {op op' : List Nat} (I : TInv n A op) (J : TInv m B op') {i j q : Nat} {found outq : List (Nat × Nat)} {f : Nat × Nat} {c cq : Bool} (hm : MatM (kidE A B L R i j) (kidA A i).length (kidA B j).length limit found c)
    (hf : found[q]? = some f) (h : VisW A B L R limit ((found.take q).map (kidP A B i j)) outq cq) : i + 1 + outq.length ≤ (kidP A B i j f).1 := by
  obtain ⟨h1, h2⟩ := kids_bef I J hm
  have hw : ((found.take (q + 1)).map (kidP A B i j)).Pairwise (fun p q => Bef A p.1 q.1 ∧ Bef B p.2 q.2) := h1.sublist ((List.take_sublist _ _).map _)
  rw [List.take_add_one, hf, List.map_append, List.pairwise_append] at hw
  obtain ⟨w1, _, w3⟩ := hw
  obtain ⟨r1, r2⟩ := h.rises I J w1
  have hfm := h2 (kidP A B i j f) (List.mem_map.2 ⟨f, List.mem_of_getElem? hf, rfl⟩)
  have := sorted_len' (outq.map (·.1)) (i + 1) (kidP A B i j f).1 (by rw [List.pairwise_map]; exact r2.imp fun h => h.1) (fun k hk => by
    obtain ⟨x, hx, rfl⟩ := List.mem_map.1 hk
    obtain ⟨p, hp, d1, _⟩ := r1 x hx
    have a := d1.le I
    have hp2 : p ∈ found.map (kidP A B i j) := by
      obtain ⟨g, hg, rfl⟩ := List.mem_map.1 hp
      exact List.mem_map.2 ⟨g, List.mem_of_mem_take hg, rfl⟩
    have b := (h2 p hp2).1
    have c2 := (w3 p hp (kidP A B i j f) (by simp)).1 x.1 d1
    exact ⟨by omega, c2⟩)
  rw [List.length_map] at this
  omega
/-- what is visited is there -/
theorem VisW.inside {w out : List (Nat × Nat)} {c : Bool} (h : VisW A B L R limit w out c) (hw : ∀ p ∈ w, p.1 < A.length ∧ p.2 < B.length) : ∀ q ∈ out, q.1 < A.length ∧ q.2 < B.length := by
  intro q hq
  obtain ⟨x, hx⟩ := List.getElem?_of_mem hq
  rcases h.there x q hx with h | ⟨_, _, _, _, ⟨d, h1, _⟩, ⟨d', h2, _⟩, _⟩
  · exact hw q h
  · exact ⟨(List.getElem?_eq_some_iff.1 h1).1, (List.getElem?_eq_some_iff.1 h2).1⟩
/-- how many are visited -/
theorem VisW.len {n m : Nat} {op op' : List Nat} (I : TInv n A op) (J : TInv m B op') {out : List (Nat × Nat)} {c : Bool} (h : VisW A B L R limit [(0, 0)] out c) (hA : 0 < A.length) (hB : 0 < B.length) : out.length ≤ A.length := by
  have h1 := h.inside (by simp [hA, hB])
  have h2 := (h.rises I J (by simp)).2
  have := sorted_len (op := out.map (·.1)) (n := A.length) (by rw [List.pairwise_map]; exact h2.imp fun h => h.1) (fun k hk => by obtain ⟨q, hq, rfl⟩ := List.mem_map.1 hk; exact (h1 q hq).1)
  rwa [List.length_map] at this
end
/-! ### the numbers of pairs -/
/-- numbers that are given: each of a pair, and its number one more than its place -/
theorem numT_look (ps : List (Int × Int)) : ∀ (qs : List (Int × Int)) (i : Nat) (L R : List (Int × Int)), ps.drop i = qs →
    (∀ x v, lookI L x = some v → ∃ k p, v = ((k + 1 : Nat) : Int) ∧ ps[k]? = some p ∧ p.1 = x) → (∀ x v, lookI R x = some v → ∃ k p, v = ((k + 1 : Nat) : Int) ∧ ps[k]? = some p ∧ p.2 = x) →
    (∀ x v, lookI (numT i qs L R).1 x = some v → ∃ k p, v = ((k + 1 : Nat) : Int) ∧ ps[k]? = some p ∧ p.1 = x) ∧ (∀ x v, lookI (numT i qs L R).2 x = some v → ∃ k p, v = ((k + 1 : Nat) : Int) ∧ ps[k]? = some p ∧ p.2 = x)
  | [], i, L, R, _, hL, hR => ⟨hL, hR⟩
  | p :: qs, i, L, R, hd, hL, hR => by
    have hi : ps[i]? = some p := by
      have := congrArg (fun l => l[0]?) hd
      simpa using this
    have hd' : ps.drop (i + 1) = qs := by
      have := congrArg List.tail hd
      simpa using this
    have app : ∀ (M : List (Int × Int)) (a x v : Int), lookI (M ++ [(a, v)]) x = (lookI M x).or (if a = x then some v else none) := by
      intro M
      induction M with
      | nil => intro a x v; rfl
      | cons e M ih =>
        intro a x v
        simp only [List.cons_append, lookI]
        split
        · rfl
        · exact ih a x v
    simp only [numT]
    split
    · exact numT_look ps qs (i + 1) L R hd' hL hR
    · refine numT_look ps qs (i + 1) _ _ hd' (fun x v h => ?_) fun x v h => ?_
      · rw [app] at h
        cases h0 : lookI L x with
        | some w => rw [h0] at h; exact hL x v (by rw [h0]; exact h)
        | none =>
          rw [h0, Option.none_or] at h
          split at h
          · rename_i e
            injection h with h
            exact ⟨i, p, h.symm, hi, e⟩
          · cases h
      · rw [app] at h
        cases h0 : lookI R x with
        | some w => rw [h0] at h; exact hR x v (by rw [h0]; exact h)
        | none =>
          rw [h0, Option.none_or] at h
          split at h
          · rename_i e
            injection h with h
            exact ⟨i, p, h.symm, hi, e⟩
          · cases h
/-- calls of one pair -/
theorem evE_pair {A B : List Cl} {ps : List (Int × Int)} {x y : Nat} {c d : Cl} (hc : A[x]? = some c) (hd : B[y]? = some d) (h : evE A B (numT 0 ps [] []).1 (numT 0 ps [] []).2 x y = true) : ∃ p ∈ ps, p.1 = c.proc ∧ p.2 = d.proc := by
  obtain ⟨hL, hR⟩ := numT_look ps ps 0 [] [] rfl (fun x v h => by cases h) (fun x v h => by cases h)
  have h := of_decide_eq_true h
  unfold evOf at h
  rw [hc, hd] at h
  simp only at h
  split at h
  · rename_i n hn
    split at h
    · rename_i n' hn'
      injection h with _ h
      subst h
      obtain ⟨k, p, h1, h2, h3⟩ := hL _ _ hn
      obtain ⟨k', p', h4, h5, h6⟩ := hR _ _ hn'
      obtain rfl : k = k' := by omega
      rw [h2] at h5
      injection h5 with h5
      subst h5
      exact ⟨p, List.mem_of_getElem? h2, h3, h6⟩
    · injection h with h _
      exact absurd h (by decide)
  · split at h
    · injection h with h _
      exact absurd h (by decide)
    · injection h with h _
      exact absurd h (by decide)
end Go.Proofs.YtndhniapohlniaaGreatDoor
