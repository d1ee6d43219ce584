/-
  THE ENGINE, part Q: what a plan's check says; the trace of a region that draws.
-/
import Derived.Test.YtbdhainbcfobeaaGreatDoorEngP
namespace Go.Proofs.YtbdhainbcfobeaaGreatDoor
namespace Eng
open Go

/-! ### what waits for what -/
theorem fold_bits (f : Nat → Nat) (b : Nat) : ∀ (ns : List Nat) (m : Nat), (ns.foldl (fun m n => m ||| 2 ^ n ||| f n) m).testBit b = (m.testBit b || ns.any fun n => decide (n = b) || (f n).testBit b)
  | [], m => by simp
  | n :: ns, m => by
    rw [List.foldl_cons, fold_bits f b ns]
    simp only [Nat.testBit_or, Nat.testBit_two_pow, List.any_cons, Bool.or_assoc]
theorem reach_pre : ∀ (ds : List ON) (acc : List Nat), (reach ds acc).take acc.length = acc ∧ (reach ds acc).length = acc.length + ds.length
  | [], acc => by simp [reach]
  | d :: ds, acc => by
    obtain ⟨h1, h2⟩ := reach_pre ds (acc ++ [d.ns.foldl (fun m n => m ||| 2 ^ n ||| acc.getD n 0) 0])
    rw [reach]
    refine ⟨?_, by rw [h2]; simp; omega⟩
    have := congrArg (List.take acc.length) h1
    rw [List.take_take] at this
    simpa using this
theorem reach_get : ∀ (ds : List ON) (acc : List Nat) (i : Nat) (d : ON), ds[i]? = some d →
    (reach ds acc)[acc.length + i]? = some (d.ns.foldl (fun m n => m ||| 2 ^ n ||| ((reach ds acc).take (acc.length + i)).getD n 0) 0)
  | [], acc, i, d, h => by simp at h
  | e :: ds, acc, 0, d, h => by
    simp at h; subst h
    rw [reach]
    obtain ⟨h1, h2⟩ := reach_pre ds (acc ++ [e.ns.foldl (fun m n => m ||| 2 ^ n ||| acc.getD n 0) 0])
    have h3 : ((reach ds (acc ++ [e.ns.foldl (fun m n => m ||| 2 ^ n ||| acc.getD n 0) 0])).take acc.length) = acc := by
      have := congrArg (List.take acc.length) h1
      rw [List.take_take] at this
      simpa using this
    rw [Nat.add_zero, h3]
    have h4 : ((reach ds (acc ++ [e.ns.foldl (fun m n => m ||| 2 ^ n ||| acc.getD n 0) 0])).take (acc ++ [e.ns.foldl (fun m n => m ||| 2 ^ n ||| acc.getD n 0) 0]).length)[acc.length]? = some (e.ns.foldl (fun m n => m ||| 2 ^ n ||| acc.getD n 0) 0) := by
      rw [h1]; simp
    rw [List.getElem?_take, if_pos (by simp)] at h4
    exact h4
  | e :: ds, acc, i + 1, d, h => by
    rw [reach]
    have := reach_get ds (acc ++ [e.ns.foldl (fun m n => m ||| 2 ^ n ||| acc.getD n 0) 0]) i d (by simpa using h)
    have e1 : (acc ++ [e.ns.foldl (fun m n => m ||| 2 ^ n ||| acc.getD n 0) 0]).length + i = acc.length + (i + 1) := by simp; omega
    rw [e1] at this
    exact this
theorem bef_iff {ds : List ON} (he : edgesOk ds = true) {i j : Nat} {d : ON} (hj : ds[j]? = some d) : bef (reach ds []) i j = true ↔ ∃ k ∈ d.ns, k = i ∨ bef (reach ds []) i k = true := by
  have h := reach_get ds [] j d hj
  simp only [List.length_nil, Nat.zero_add] at h
  unfold bef
  rw [List.getD_eq_getElem?_getD, h, Option.getD_some, fold_bits]
  simp only [Nat.zero_testBit, Bool.false_or, List.any_eq_true, Bool.or_eq_true, decide_eq_true_iff]
  have hlt : ∀ k ∈ d.ns, k < j := by
    unfold edgesOk at he
    rw [List.all_eq_true] at he
    have hjl : j < ds.length := (List.getElem?_eq_some_iff.1 hj).1
    have := he j (List.mem_range.2 hjl)
    rw [hj] at this
    simp only [List.all_eq_true, blt_iff, decide_eq_true_iff] at this
    exact this
  have hg : ∀ k ∈ d.ns, ((reach ds []).take j).getD k 0 = (reach ds []).getD k 0 := fun k hk => by
    rw [List.getD_eq_getElem?_getD, List.getElem?_take, if_pos (hlt k hk), ← List.getD_eq_getElem?_getD]
  constructor
  · rintro ⟨k, hk, h⟩
    exact ⟨k, hk, by rcases h with h | h; exact .inl h; rw [hg k hk] at h; exact .inr h⟩
  · rintro ⟨k, hk, h⟩
    exact ⟨k, hk, by rcases h with h | h; exact .inl h; rw [hg k hk]; exact .inr h⟩
theorem edge_lt {ds : List ON} (he : edgesOk ds = true) {j k : Nat} {d : ON} (hj : ds[j]? = some d) (hk : k ∈ d.ns) : k < j := by
  unfold edgesOk at he
  rw [List.all_eq_true] at he
  have := he j (List.mem_range.2 (List.getElem?_eq_some_iff.1 hj).1)
  rw [hj] at this
  simp only [List.all_eq_true, blt_iff, decide_eq_true_iff] at this
  exact this k hk
/-- what is closed under the edges is closed under what they reach -/
theorem bef_closed {ds : List ON} (he : edgesOk ds = true) {L : Nat → Prop} (hc : ∀ j d k, L j → ds[j]? = some d → k ∈ d.ns → L k) :
    ∀ j i, bef (reach ds []) i j = true → L j → L i := by
  intro j
  induction j using Nat.strongRecOn with
  | _ j ih =>
    intro i hb hj
    have hjl : j < ds.length := by
      rcases Nat.lt_or_ge j ds.length with h | h
      · exact h
      · have h2 := (reach_pre ds []).2
        simp at h2
        unfold bef at hb
        rw [List.getD_eq_getElem?_getD, List.getElem?_eq_none (by omega)] at hb
        simp at hb
    obtain ⟨k, hk, h⟩ := (bef_iff he (List.getElem?_eq_getElem hjl)).1 hb
    have hkL := hc j _ k hj (List.getElem?_eq_getElem hjl) hk
    rcases h with h | h
    · exact h ▸ hkL
    · exact ih k (edge_lt he (List.getElem?_eq_getElem hjl) hk) i h hkL

/-! ### the plan's walk -/
def Dn (done : List Nat) (l : List Mv) (p j : Nat) : Prop := j ∈ done ∨ ∃ p', p' < p ∧ ∃ f, l[p']? = some (.ex j f)
theorem Dn.cons_ck {done : List Nat} {l : List Mv} {p j i : Nat} : Dn done (.ck i :: l) (p + 1) j ↔ Dn done l p j := by
  unfold Dn
  constructor
  · rintro (h | ⟨p', hp, f, hf⟩)
    · exact .inl h
    · cases p' with
      | zero => simp at hf
      | succ p' => exact .inr ⟨p', by omega, f, by simpa using hf⟩
  · rintro (h | ⟨p', hp, f, hf⟩)
    · exact .inl h
    · exact .inr ⟨p' + 1, by omega, f, by simpa using hf⟩
theorem Dn.cons_ex {done : List Nat} {l : List Mv} {p j i : Nat} {f : Bool} : Dn done (.ex i f :: l) (p + 1) j ↔ Dn (i :: done) l p j := by
  unfold Dn
  constructor
  · rintro (h | ⟨p', hp, f, hf⟩)
    · exact .inl (List.mem_cons_of_mem _ h)
    · cases p' with
      | zero => simp at hf; exact .inl (by simp [hf])
      | succ p' => exact .inr ⟨p', by omega, f, by simpa using hf⟩
  · rintro (h | ⟨p', hp, f, hf⟩)
    · rcases List.mem_cons.1 h with h | h
      · exact .inr ⟨0, by omega, f, by simp [h]⟩
      · exact .inl h
    · exact .inr ⟨p' + 1, by omega, f, by simpa using hf⟩
theorem Dn.zero {done : List Nat} {l : List Mv} {j : Nat} : Dn done l 0 j ↔ j ∈ done := by simp [Dn]
theorem clOf_eq {ds : List ON} {i : Nat} {d : ON} (h : ds[i]? = some d) : clOf ds i = d.cl := by simp [clOf, h]
theorem walk_at {ds : List ON} {rs : List Nat} : ∀ (l : List Mv) (done : List Nat) (p i : Nat) (fin : Bool), walk ds rs l done = true → l[p]? = some (.ex i fin) →
    ∃ d, ds[i]? = some d ∧ ¬ Dn done l p i ∧ (∀ k ∈ d.ns, Dn done l p k) ∧ d.cl ≠ .bad ∧
      (d.cl = .loud → ∀ j, j < ds.length → j ≠ i → (Dn done l p j → bef rs j i = true ∨ clOf ds j = .pure ∨ (clOf ds j = .read ∧ j ∈ cksOf (l.drop (p + 1)))) ∧
        (¬ Dn done l p j → bef rs i j = true ∨ clOf ds j = .pure ∨ clOf ds j = .make)) ∧
      (fin = true → ∀ j, j < ds.length → j ≠ i → Dn done l p j ∨ bef rs i j = true)
  | [], done, p, i, fin, _, h => by simp at h
  | .ck k :: l, done, 0, i, fin, _, h => by simp at h
  | .ck k :: l, done, p + 1, i, fin, hw, h => by
    simp only [walk, Bool.and_eq_true] at hw
    obtain ⟨d, h1, h2, h3, h4, h5, h6⟩ := walk_at l done p i fin hw.2 (by simpa using h)
    simp only [Dn.cons_ck, List.drop_succ_cons]
    exact ⟨d, h1, h2, h3, h4, h5, h6⟩
  | .ex k f :: l, done, p + 1, i, fin, hw, h => by
    simp only [walk] at hw
    split at hw
    · simp only [Bool.and_eq_true] at hw
      obtain ⟨d, h1, h2, h3, h4, h5, h6⟩ := walk_at l (k :: done) p i fin hw.2 (by simpa using h)
      simp only [Dn.cons_ex, List.drop_succ_cons]
      exact ⟨d, h1, h2, h3, h4, h5, h6⟩
    · cases hw
  | .ex k f :: l, done, 0, i, fin, hw, h => by
    simp only [List.getElem?_cons_zero, Option.some.injEq, Mv.ex.injEq] at h
    obtain ⟨rfl, rfl⟩ := h
    simp only [walk] at hw
    split at hw
    · rename_i d hd
      simp only [Bool.and_eq_true, Bool.not_eq_true', Bool.or_eq_true, List.all_eq_true, List.mem_range, decide_eq_true_iff, List.contains_eq_mem, decide_eq_false_iff_not, isN, beq_true] at hw
      obtain ⟨⟨⟨⟨⟨h1, h2⟩, h3⟩, h4⟩, h5⟩, _⟩ := hw
      refine ⟨d, hd, by rwa [Dn.zero], fun k hk => by rw [Dn.zero]; exact h2 k hk, h3, fun hl j hj hne => ?_, fun hf j hj hne => ?_⟩
      · rcases h4 with h4 | h4
        · exact absurd hl h4
        · have h4 := (h4 j hj).resolve_left hne
          rw [Dn.zero]
          by_cases hm : j ∈ done
          · simp only [hm, decide_true, cond_true, Bool.or_eq_true, Bool.and_eq_true, decide_eq_true_iff] at h4
            refine ⟨fun _ => ?_, fun hn => absurd hm hn⟩
            rcases h4 with (h | h) | h
            · exact .inl h
            · exact .inr (.inl h)
            · exact .inr (.inr (by simpa using h))
          · simp only [hm, decide_false, cond_false, Bool.or_eq_true, decide_eq_true_iff] at h4
            refine ⟨fun hn => absurd hn hm, fun _ => ?_⟩
            rcases h4 with (h | h) | h
            · exact .inl h
            · exact .inr (.inl h)
            · exact .inr (.inr h)
      · rcases h5 with h5 | h5
        · rw [hf] at h5; cases h5
        · rw [Dn.zero]
          rcases h5 j hj with (h | h) | h
          · exact absurd h hne
          · exact .inl h
          · exact .inr h
    · cases hw
theorem walk_ck {ds : List ON} {rs : List Nat} : ∀ (l : List Mv) (done : List Nat) (p i : Nat), walk ds rs l done = true → l[p]? = some (.ck i) →
    ∃ d, ds[i]? = some d ∧ Dn done l p i ∧ ∀ j e t, Dn done l p j → ds[j]? = some e → e.dst = some t → t ∈ d.looks → bef rs j i = true
  | [], done, p, i, _, h => by simp at h
  | .ex k f :: l, done, 0, i, _, h => by simp at h
  | .ck k :: l, done, p + 1, i, hw, h => by
    simp only [walk, Bool.and_eq_true] at hw
    obtain ⟨d, h1, h2, h3⟩ := walk_ck l done p i hw.2 (by simpa using h)
    simp only [Dn.cons_ck]
    exact ⟨d, h1, h2, h3⟩
  | .ex k f :: l, done, p + 1, i, hw, h => by
    simp only [walk] at hw
    split at hw
    · simp only [Bool.and_eq_true] at hw
      obtain ⟨d, h1, h2, h3⟩ := walk_ck l (k :: done) p i hw.2 (by simpa using h)
      simp only [Dn.cons_ex]
      exact ⟨d, h1, h2, h3⟩
    · cases hw
  | .ck k :: l, done, 0, i, hw, h => by
    simp only [List.getElem?_cons_zero, Option.some.injEq, Mv.ck.injEq] at h
    subst h
    simp only [walk, Bool.and_eq_true] at hw
    obtain ⟨hw, _⟩ := hw
    split at hw
    · rename_i d hd
      simp only [Bool.and_eq_true, Bool.not_eq_true', Bool.or_eq_true, List.all_eq_true, List.mem_range, decide_eq_true_iff, List.contains_eq_mem, decide_eq_false_iff_not] at hw
      obtain ⟨h1, h2⟩ := hw
      refine ⟨d, hd, by rwa [Dn.zero], fun j e t hj he ht hl => ?_⟩
      rw [Dn.zero] at hj
      have h3 := h2 j (List.getElem?_eq_some_iff.1 he).1
      rw [he] at h3
      simp only [Option.bind_some, ht, Bool.not_eq_true', decide_eq_false_iff_not] at h3
      rcases h3 with (h3 | h3) | h3
      · exact absurd hj h3
      · exact h3
      · exact absurd hl h3
    · cases hw
theorem walk_all {ds : List ON} {rs : List Nat} : ∀ (l : List Mv) (done : List Nat), walk ds rs l done = true → ∀ i, i < ds.length → Dn done l l.length i
  | [], done, hw, i, hi => by
    simp only [walk, List.all_eq_true, List.mem_range, List.contains_eq_mem, decide_eq_true_iff] at hw
    exact .inl (hw i hi)
  | .ck k :: l, done, hw, i, hi => by
    simp only [walk, Bool.and_eq_true] at hw
    rw [List.length_cons, Dn.cons_ck]
    exact walk_all l done hw.2 i hi
  | .ex k f :: l, done, hw, i, hi => by
    simp only [walk] at hw
    split at hw
    · simp only [Bool.and_eq_true] at hw
      rw [List.length_cons, Dn.cons_ex]
      exact walk_all l (k :: done) hw.2 i hi
    · cases hw
theorem cks_at {j : Nat} : ∀ (l : List Mv), j ∈ cksOf l → ∃ r : Nat, l[r]? = some (Mv.ck j) ∧ ∀ r' : Nat, r' < r → ∃ k, l[r']? = some (Mv.ck k)
  | [], h => by simp [cksOf] at h
  | .ex _ _ :: _, h => by simp [cksOf] at h
  | .ck k :: l, h => by
    simp only [cksOf, List.mem_cons] at h
    rcases h with h | h
    · exact ⟨0, by simp [h], fun r' hr => by omega⟩
    · obtain ⟨r, h1, h2⟩ := cks_at l h
      refine ⟨r + 1, by simpa using h1, fun r' hr => ?_⟩
      cases r' with
      | zero => exact ⟨k, by simp⟩
      | succ r' => obtain ⟨k', hk⟩ := h2 r' (by omega); exact ⟨k', by simpa using hk⟩
/-- two operations: ordered, or apart; never the same slot -/
theorem pair_at {ds : List ON} {rs : List Nat} (h : pairsOk ds rs = true) {i j : Nat} {a b : ON} (hij : i < j) (hi : ds[i]? = some a) (hj : ds[j]? = some b) :
    (∀ t, a.dst = some t → b.dst ≠ some t) ∧ (bef rs i j = true ∨ ((∀ t, a.dst = some t → t ∉ b.looks) ∧ ∀ t, b.dst = some t → t ∉ a.looks)) := by
  unfold pairsOk at h
  rw [List.all_eq_true] at h
  have h := h j (List.mem_range.2 (List.getElem?_eq_some_iff.1 hj).1)
  rw [List.all_eq_true] at h
  have h := h i (List.mem_range.2 hij)
  rw [hi, hj] at h
  simp only [pairOk] at h
  split at h
  · rename_i t u ha hb
    simp only [Bool.and_eq_true, Bool.not_eq_true', Bool.or_eq_true, List.contains_eq_mem, decide_eq_false_iff_not] at h
    have hne : t ≠ u := fun e => by subst e; simp at h
    rw [ha, hb]
    refine ⟨fun x hx hy => hne ((Option.some.inj hx).trans (Option.some.inj hy).symm), ?_⟩
    rcases h.2 with h | h
    · exact .inl h
    · exact .inr ⟨fun x hx => Option.some.inj hx ▸ h.1, fun x hx => Option.some.inj hx ▸ h.2⟩
  · rename_i t ha hb
    simp only [Bool.not_eq_true', Bool.or_eq_true, List.contains_eq_mem, decide_eq_false_iff_not] at h
    rw [ha, hb]
    refine ⟨fun x _ hy => (by cases hy), ?_⟩
    rcases h with h | h
    · exact .inl h
    · exact .inr ⟨fun x hx => Option.some.inj hx ▸ h, fun x hx => by cases hx⟩
  · rename_i t ha hb
    simp only [Bool.not_eq_true', Bool.or_eq_true, List.contains_eq_mem, decide_eq_false_iff_not] at h
    rw [ha, hb]
    refine ⟨fun x hx => (by cases hx), ?_⟩
    rcases h with h | h
    · exact .inl h
    · exact .inr ⟨fun x hx => (by cases hx), fun x hx => (by cases hx; exact h)⟩
  · rename_i ha hb
    rw [ha, hb]
    exact ⟨fun x hx => (by cases hx), .inr ⟨fun x hx => (by cases hx), fun x hx => (by cases hx)⟩⟩
end Eng
end Go.Proofs.YtbdhainbcfobeaaGreatDoor
