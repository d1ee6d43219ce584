/-
  Matched calls, the document's way, in plain words: which pairs count, rows of events. No conditions.
-/
import Derived.Test.YtndhniapohlniaaGreatDoorMatchT
import Derived.Test.YtndhniapohlniaaGreatDoorKeeps9
namespace Go.Proofs.YtndhniapohlniaaGreatDoor
open Go.Proofs.YtndhniapohlniaaGreatDoor.Eng
/-- which pairs count: those that share nothing with one ahead that counts -/
def CntP (ps : List (Int × Int)) (cs : List Bool) : Prop := ∀ (i : Nat) p b, ps[i]? = some p → cs[i]? = some b → (b = true ↔ ∀ (k : Nat) (q : Int × Int), k < i → cs[k]? = some true → ps[k]? = some q → q.1 ≠ p.1 ∧ q.2 ≠ p.2)
theorem CntP.snoc {ps : List (Int × Int)} {cs : List Bool} (h : CntP ps cs) {p : Int × Int} {b : Bool} (hp : ps[cs.length]? = some p) (hb : b = true ↔ ∀ (k : Nat) (q : Int × Int), k < cs.length → cs[k]? = some true → ps[k]? = some q → q.1 ≠ p.1 ∧ q.2 ≠ p.2) : CntP ps (cs ++ [b]) := by
  intro i p' b' hp' hb'
  rcases get_snoc hb' with h1 | ⟨rfl, rfl⟩
  · have hi := (List.getElem?_eq_some_iff.1 h1).1
    rw [h i p' b' hp' h1]
    constructor
    · intro g k q hk hc
      rw [List.getElem?_append_left (by omega)] at hc
      exact g k q hk hc
    · intro g k q hk hc
      exact g k q hk (by rw [List.getElem?_append_left (by omega)]; exact hc)
  · rw [hp] at hp'
    injection hp' with hp'
    subst hp'
    rw [hb]
    constructor
    · intro g k q hk hc
      rw [List.getElem?_append_left (by omega)] at hc
      exact g k q hk hc
    · intro g k q hk hc
      exact g k q hk (by rw [List.getElem?_append_left (by omega)]; exact hc)
theorem lookI_app (M : List (Int × Int)) (a x v : Int) : lookI (M ++ [(a, v)]) x = (lookI M x).or (if a = x then some v else none) := by
  induction M with
  | nil => rfl
  | cons e M ih =>
    simp only [List.cons_append, lookI]
    split
    · rfl
    · exact ih
/-- the numbers are those of the pairs that count -/
theorem numT_cnt {ps : List (Int × Int)} {cs : List Bool} (hC : CntP ps cs) (hl : cs.length = ps.length) : ∀ (qs : List (Int × Int)) (i : Nat) (L R : List (Int × Int)), ps.drop i = qs →
    (∀ x v, lookI L x = some v ↔ ∃ (k : Nat) (p : Int × Int), k < i ∧ v = ((k + 1 : Nat) : Int) ∧ ps[k]? = some p ∧ cs[k]? = some true ∧ p.1 = x) → (∀ x v, lookI R x = some v ↔ ∃ (k : Nat) (p : Int × Int), k < i ∧ v = ((k + 1 : Nat) : Int) ∧ ps[k]? = some p ∧ cs[k]? = some true ∧ p.2 = x) →
    (∀ x v, lookI (numT i qs L R).1 x = some v ↔ ∃ (k : Nat) (p : Int × Int), v = ((k + 1 : Nat) : Int) ∧ ps[k]? = some p ∧ cs[k]? = some true ∧ p.1 = x) ∧ (∀ x v, lookI (numT i qs L R).2 x = some v ↔ ∃ (k : Nat) (p : Int × Int), v = ((k + 1 : Nat) : Int) ∧ ps[k]? = some p ∧ cs[k]? = some true ∧ p.2 = x)
  | [], i, L, R, hd, hL, hR => by
    have hi : ps.length ≤ i := by simpa using hd
    constructor
    · intro x v
      simp only [numT]
      rw [hL]
      exact ⟨fun ⟨k, p, _, h⟩ => ⟨k, p, h⟩, fun ⟨k, p, h1, h2, h3⟩ => ⟨k, p, by have := (List.getElem?_eq_some_iff.1 h2).1; omega, h1, h2, h3⟩⟩
    · intro x v
      simp only [numT]
      rw [hR]
      exact ⟨fun ⟨k, p, _, h⟩ => ⟨k, p, h⟩, fun ⟨k, p, h1, h2, h3⟩ => ⟨k, p, by have := (List.getElem?_eq_some_iff.1 h2).1; omega, h1, h2, h3⟩⟩
  | p :: qs, i, L, R, hd, hL, hR => by
    have hi : ps[i]? = some p := by
      have := congrArg (fun l => l[0]?) hd
      simpa using this
    have hd' : ps.drop (i + 1) = qs := by
      have := congrArg List.tail hd
      simpa using this
    have hil := (List.getElem?_eq_some_iff.1 hi).1
    obtain ⟨b, hb⟩ : ∃ b, cs[i]? = some b := ⟨_, List.getElem?_eq_getElem (by omega)⟩
    have hcnt := hC i p b hi hb
    simp only [numT]
    split
    · rename_i hs
      have hbf : b = false := by
        cases b with
        | false => rfl
        | true =>
          have g := hcnt.1 rfl
          rcases hs with hs | hs
          · obtain ⟨v, hv⟩ := Option.isSome_iff_exists.1 hs
            obtain ⟨k, q, h1, _, h2, h3, h4⟩ := (hL _ _).1 hv
            exact absurd h4 (g k q h1 h3 h2).1
          · obtain ⟨v, hv⟩ := Option.isSome_iff_exists.1 hs
            obtain ⟨k, q, h1, _, h2, h3, h4⟩ := (hR _ _).1 hv
            exact absurd h4 (g k q h1 h3 h2).2
      have ext : ∀ (k : Nat), cs[k]? = some true → k < i + 1 → k < i := fun k h1 h2 => by
        by_cases e : k = i
        · rw [e, hb, hbf] at h1; cases h1
        · omega
      refine numT_cnt hC hl qs (i + 1) L R hd' (fun x v => ?_) fun x v => ?_
      · rw [hL]
        exact ⟨fun ⟨k, q, h1, h2⟩ => ⟨k, q, by omega, h2⟩, fun ⟨k, q, h1, h2, h3, h4, h5⟩ => ⟨k, q, ext k h4 h1, h2, h3, h4, h5⟩⟩
      · rw [hR]
        exact ⟨fun ⟨k, q, h1, h2⟩ => ⟨k, q, by omega, h2⟩, fun ⟨k, q, h1, h2, h3, h4, h5⟩ => ⟨k, q, ext k h4 h1, h2, h3, h4, h5⟩⟩
    · rename_i hs
      have hs1 : lookI L p.1 = none := by
        cases hh : lookI L p.1 with
        | none => rfl
        | some v => exact absurd (.inl (by rw [hh]; rfl)) hs
      have hs2 : lookI R p.2 = none := by
        cases hh : lookI R p.2 with
        | none => rfl
        | some v => exact absurd (.inr (by rw [hh]; rfl)) hs
      have hbt : b = true := hcnt.2 fun k q h1 h2 h3 => by
        refine ⟨fun e => ?_, fun e => ?_⟩
        · have := (hL p.1 ((k + 1 : Nat) : Int)).2 ⟨k, q, h1, rfl, h3, h2, e⟩
          rw [hs1] at this; cases this
        · have := (hR p.2 ((k + 1 : Nat) : Int)).2 ⟨k, q, h1, rfl, h3, h2, e⟩
          rw [hs2] at this; cases this
      subst hbt
      refine numT_cnt hC hl qs (i + 1) _ _ hd' (fun x v => ?_) fun x v => ?_
      · rw [lookI_app]
        constructor
        · intro h
          cases h0 : lookI L x with
          | some w =>
            rw [h0] at h
            obtain ⟨k, q, h1, h2⟩ := (hL x v).1 (by rw [h0]; exact h)
            exact ⟨k, q, by omega, h2⟩
          | none =>
            rw [h0, Option.none_or] at h
            split at h
            · rename_i e
              injection h with h
              exact ⟨i, p, by omega, h.symm, hi, hb, e⟩
            · cases h
        · rintro ⟨k, q, h1, h2, h3, h4, h5⟩
          by_cases e : k = i
          · subst e
            rw [hi] at h3
            injection h3 with h3
            subst h3
            rw [← h5, hs1, Option.none_or, if_pos rfl, h2]
          · rw [(hL x v).2 ⟨k, q, by omega, h2, h3, h4, h5⟩]
            rfl
      · rw [lookI_app]
        constructor
        · intro h
          cases h0 : lookI R x with
          | some w =>
            rw [h0] at h
            obtain ⟨k, q, h1, h2⟩ := (hR x v).1 (by rw [h0]; exact h)
            exact ⟨k, q, by omega, h2⟩
          | none =>
            rw [h0, Option.none_or] at h
            split at h
            · rename_i e
              injection h with h
              exact ⟨i, p, by omega, h.symm, hi, hb, e⟩
            · cases h
        · rintro ⟨k, q, h1, h2, h3, h4, h5⟩
          by_cases e : k = i
          · subst e
            rw [hi] at h3
            injection h3 with h3
            subst h3
            rw [← h5, hs2, Option.none_or, if_pos rfl, h2]
          · rw [(hR x v).2 ⟨k, q, by omega, h2, h3, h4, h5⟩]
            rfl
theorem numT_all {ps : List (Int × Int)} {cs : List Bool} (hC : CntP ps cs) (hl : cs.length = ps.length) :
    (∀ x v, lookI (numT 0 ps [] []).1 x = some v ↔ ∃ (k : Nat) (p : Int × Int), v = ((k + 1 : Nat) : Int) ∧ ps[k]? = some p ∧ cs[k]? = some true ∧ p.1 = x) ∧ (∀ x v, lookI (numT 0 ps [] []).2 x = some v ↔ ∃ (k : Nat) (p : Int × Int), v = ((k + 1 : Nat) : Int) ∧ ps[k]? = some p ∧ cs[k]? = some true ∧ p.2 = x) :=
  numT_cnt hC hl ps 0 [] [] rfl (fun x v => ⟨fun h => (by cases h), fun ⟨k, p, h, _⟩ => absurd h (Nat.not_lt_zero _)⟩) (fun x v => ⟨fun h => (by cases h), fun ⟨k, p, h, _⟩ => absurd h (Nat.not_lt_zero _)⟩)
/-- an event, as far as the pairs have been looked at -/
def evF (ps : List (Int × Int)) (cs : List Bool) (sel : Int × Int → Int) (alone proc : Int) : Nat → Int × Int
  | 0 => (alone, proc)
  | k + 1 => if cs[k]? = some true ∧ (ps[k]?).map sel = some proc then (1, (k : Int)) else evF ps cs sel alone proc k
theorem evF_spec {ps : List (Int × Int)} {cs : List Bool} {sel : Int × Int → Int} {alone proc : Int} : ∀ n, (∃ (k : Nat) (p : Int × Int), k < n ∧ ps[k]? = some p ∧ cs[k]? = some true ∧ sel p = proc ∧ evF ps cs sel alone proc n = (1, (k : Int))) ∨
    ((∀ (k : Nat) (p : Int × Int), k < n → ps[k]? = some p → cs[k]? = some true → sel p ≠ proc) ∧ evF ps cs sel alone proc n = (alone, proc))
  | 0 => .inr ⟨fun k p h => absurd h (Nat.not_lt_zero _), rfl⟩
  | n + 1 => by
    simp only [evF]
    split
    · rename_i h
      obtain ⟨p, hp, hs⟩ := Option.map_eq_some_iff.1 h.2
      exact .inl ⟨n, p, by omega, hp, h.1, hs, rfl⟩
    · rename_i h
      rcases evF_spec (ps := ps) (cs := cs) (sel := sel) (alone := alone) (proc := proc) n with ⟨k, p, h1, h2⟩ | ⟨h1, h2⟩
      · exact .inl ⟨k, p, by omega, h2⟩
      · refine .inr ⟨fun k p hk hp hc hs => ?_, h2⟩
        by_cases e : k = n
        · subst e
          exact h ⟨hc, by rw [hp]; simp [hs]⟩
        · exact h1 k p (by omega) hp hc hs
def procOf (A : List Cl) (x : Nat) : Int := match A[x]? with | some c => c.proc | none => 0
def evR (A : List Cl) (ps : List (Int × Int)) (cs : List Bool) (sel : Int × Int → Int) (alone : Int) (x : Nat) : Int × Int := evF ps cs sel alone (procOf A x) ps.length
theorem evR_L {A : List Cl} {ps : List (Int × Int)} {cs : List Bool} (hC : CntP ps cs) (hl : cs.length = ps.length) {x : Nat} (hx : x < A.length) :
    (∃ k : Nat, evR A ps cs (·.1) 8 x = (1, (k : Int)) ∧ evOf A (numT 0 ps [] []).1 2 x = (1, ((k + 1 : Nat) : Int))) ∨ (evR A ps cs (·.1) 8 x = (8, procOf A x) ∧ evOf A (numT 0 ps [] []).1 2 x = (2, procOf A x)) := by
  have hA := List.getElem?_eq_getElem hx
  have hpo : procOf A x = A[x].proc := by simp [procOf, hA]
  obtain ⟨hL, _⟩ := numT_all hC hl
  unfold evR
  rcases evF_spec (ps := ps) (cs := cs) (sel := (·.1)) (alone := 8) (proc := procOf A x) ps.length with ⟨k, p, h1, h2, h3, h4, h5⟩ | ⟨h1, h2⟩
  · refine .inl ⟨k, h5, ?_⟩
    have := (hL (procOf A x) ((k + 1 : Nat) : Int)).2 ⟨k, p, rfl, h2, h3, h4⟩
    rw [hpo] at this
    simp only [evOf, hA, this]
  · refine .inr ⟨h2, ?_⟩
    have : lookI (numT 0 ps [] []).1 (procOf A x) = none := by
      cases hh : lookI (numT 0 ps [] []).1 (procOf A x) with
      | none => rfl
      | some v =>
        obtain ⟨k, p, _, g2, g3, g4⟩ := (hL _ _).1 hh
        exact absurd g4 (h1 k p (List.getElem?_eq_some_iff.1 g2).1 g2 g3)
    rw [hpo] at this ⊢
    simp only [evOf, hA, this]
theorem evR_R {A : List Cl} {ps : List (Int × Int)} {cs : List Bool} (hC : CntP ps cs) (hl : cs.length = ps.length) {x : Nat} (hx : x < A.length) :
    (∃ k : Nat, evR A ps cs (·.2) 9 x = (1, (k : Int)) ∧ evOf A (numT 0 ps [] []).2 3 x = (1, ((k + 1 : Nat) : Int))) ∨ (evR A ps cs (·.2) 9 x = (9, procOf A x) ∧ evOf A (numT 0 ps [] []).2 3 x = (3, procOf A x)) := by
  have hA := List.getElem?_eq_getElem hx
  have hpo : procOf A x = A[x].proc := by simp [procOf, hA]
  obtain ⟨_, hL⟩ := numT_all hC hl
  unfold evR
  rcases evF_spec (ps := ps) (cs := cs) (sel := (·.2)) (alone := 9) (proc := procOf A x) ps.length with ⟨k, p, h1, h2, h3, h4, h5⟩ | ⟨h1, h2⟩
  · refine .inl ⟨k, h5, ?_⟩
    have := (hL (procOf A x) ((k + 1 : Nat) : Int)).2 ⟨k, p, rfl, h2, h3, h4⟩
    rw [hpo] at this
    simp only [evOf, hA, this]
  · refine .inr ⟨h2, ?_⟩
    have : lookI (numT 0 ps [] []).2 (procOf A x) = none := by
      cases hh : lookI (numT 0 ps [] []).2 (procOf A x) with
      | none => rfl
      | some v =>
        obtain ⟨k, p, _, g2, g3, g4⟩ := (hL _ _).1 hh
        exact absurd g4 (h1 k p (List.getElem?_eq_some_iff.1 g2).1 g2 g3)
    rw [hpo] at this ⊢
    simp only [evOf, hA, this]
/-- the document's rows are the same where the program's are -/
theorem rows_same {A B : List Cl} {ps : List (Int × Int)} {cs : List Bool} (hC : CntP ps cs) (hl : cs.length = ps.length) (i j : Nat) :
    eqM ((kidA A i).map (evR A ps cs (·.1) 8)) ((kidA B j).map (evR B ps cs (·.2) 9)) = kidE A B (numT 0 ps [] []).1 (numT 0 ps [] []).2 i j := by
  funext p q
  unfold kidE eqM
  rw [decide_eq_decide, List.getElem?_map, List.getElem?_map, List.getElem?_map, List.getElem?_map]
  cases hp : (kidA A i)[p]? with
  | none =>
    cases hq : (kidA B j)[q]? with
    | none => simp
    | some y => simp
  | some x =>
    cases hq : (kidA B j)[q]? with
    | none => simp
    | some y =>
      obtain ⟨_, _, _, _, hx⟩ := mem_kidA (List.mem_of_getElem? hp)
      obtain ⟨_, _, _, _, hy⟩ := mem_kidA (List.mem_of_getElem? hq)
      simp only [Option.map_some, Option.some.injEq]
      rcases evR_L hC hl hx with ⟨k, h1, h2⟩ | ⟨h1, h2⟩ <;> rcases evR_R hC hl hy with ⟨k', h3, h4⟩ | ⟨h3, h4⟩ <;> rw [h1, h2, h3, h4] <;> simp <;> omega
/-- the first calls are of one pair -/
theorem firstP_iff {A B : List Cl} {ps : List (Int × Int)} {cs : List Bool} (hC : CntP ps cs) (hl : cs.length = ps.length) {c d : Cl} (hc : A[0]? = some c) (hd : B[0]? = some d) :
    FirstP A B (numT 0 ps [] []).1 (numT 0 ps [] []).2 ↔ ∃ (k : Nat) (p : Int × Int), ps[k]? = some p ∧ cs[k]? = some true ∧ p.1 = c.proc ∧ p.2 = d.proc := by
  obtain ⟨hL, hR⟩ := numT_all hC hl
  constructor
  · rintro ⟨c', d', x, h1, h2, h3, h4⟩
    rw [hc] at h1
    rw [hd] at h2
    injection h1 with h1
    injection h2 with h2
    subst h1 h2
    obtain ⟨k, p, e1, e2, e3, e4⟩ := (hL _ _).1 h3
    obtain ⟨k', p', e5, e6, e7, e8⟩ := (hR _ _).1 h4
    obtain rfl : k = k' := by omega
    rw [e2] at e6
    injection e6 with e6
    subst e6
    exact ⟨k, p, e2, e3, e4, e8⟩
  · rintro ⟨k, p, h1, h2, h3, h4⟩
    exact ⟨c, d, ((k + 1 : Nat) : Int), hc, hd, (hL _ _).2 ⟨k, p, rfl, h1, h2, h3⟩, (hR _ _).2 ⟨k, p, rfl, h1, h2, h4⟩⟩
/-- how many are visited, from any calls on -/
theorem VisW.len2 {A B : List Cl} {L R : List (Int × Int)} {limit : Int} {n m : Nat} {op op' : List Nat} (I : TInv n A op) (J : TInv m B op') {w out : List (Nat × Nat)} {c : Bool} (h : VisW A B L R limit w out c)
    (hw : w.Pairwise fun p q => Bef A p.1 q.1 ∧ Bef B p.2 q.2) (hin : ∀ p ∈ w, p.1 < A.length ∧ p.2 < B.length) : out.length ≤ A.length := by
  have h1 := h.inside hin
  have h2 := (h.rises I J hw).2
  have := sorted_len (op := out.map (·.1)) (n := A.length) (by rw [List.pairwise_map]; exact h2.imp fun h => h.1) (fun k hk => by obtain ⟨q, hq, rfl⟩ := List.mem_map.1 hk; exact (h1 q hq).1)
  rwa [List.length_map] at this
end Go.Proofs.YtndhniapohlniaaGreatDoor
