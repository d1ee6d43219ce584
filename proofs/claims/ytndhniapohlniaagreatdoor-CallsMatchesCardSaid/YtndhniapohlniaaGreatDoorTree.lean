/-
  The calls of a run's ticks, in plain words: they nest, and those made in one do not overlap. No conditions.
-/
import GoSem.ClaimJoined
namespace Go.Proofs.YtndhniapohlniaaGreatDoor
structure Tk where
  kind : Int
  proc : Int
  mark : Int
  depth : Int
structure Cl where
  proc : Int
  enter : Nat
  leave : Nat
  up : Int
def stepT (i : Nat) (t : Tk) (out : List Cl) (op : List Nat) : Option (List Cl × List Nat) := match op.getLast? with
  | none => if 0 < i then none else if t.kind = 1 ∧ t.depth = 1 then some (out ++ [⟨t.proc, i + 1, 0, -1⟩], op ++ [out.length]) else none
  | some u => if t.kind = 1 then (if t.depth = (op.length : Int) + 1 then some (out ++ [⟨t.proc, i + 1, 0, (u : Int)⟩], op ++ [out.length]) else none)
    else match out[u]? with
      | some c => if (t.kind = 2 ∨ t.kind = 3) ∧ t.depth = (op.length : Int) ∧ t.proc = c.proc then (if t.kind = 3 then some (out.set u ⟨c.proc, c.enter, i + 1, c.up⟩, op.dropLast) else some (out, op)) else none
      | none => none
def runT : Nat → List Tk → List Cl → List Nat → Option (List Cl × List Nat)
  | _, [], out, op => some (out, op)
  | i, t :: r, out, op => match stepT i t out op with
    | some (out, op) => runT (i + 1) r out op
    | none => none
def treeT (l : List Tk) : Option (List Cl) := match runT 0 l [] [] with
  | some (out, _) => if out = [] then none else some out
  | none => none
structure TInv (i : Nat) (out : List Cl) (op : List Nat) : Prop where
  ent : ∀ (k : Nat) c, out[k]? = some c → c.enter ≤ i ∧ 0 < c.enter ∧ (c.leave = 0 ∨ c.enter < c.leave ∧ c.leave ≤ i)
  inc : ∀ (j k : Nat) c d, j < k → out[j]? = some c → out[k]? = some d → c.enter < d.enter
  ups : ∀ (k : Nat) c, out[k]? = some c → (k = 0 → c.up = -1) ∧ (0 < k → ∃ u : Nat, c.up = u ∧ u < k)
  opn : ∀ k, k ∈ op ↔ ∃ c, out[k]? = some c ∧ c.leave = 0
  sor : op.Pairwise (· < ·)
  cha : ∀ (k : Nat) c, k ∈ op → out[k]? = some c → 0 < k → ∃ u : Nat, c.up = u ∧ u ∈ op
  par : ∀ (k : Nat) c (u : Nat) d, out[k]? = some c → c.up = u → out[u]? = some d → d.leave ≠ 0 → c.leave ≠ 0 ∧ c.leave < d.leave
  sib : ∀ (j k : Nat) c d, j < k → out[j]? = some c → out[k]? = some d → c.up = d.up → c.leave ≠ 0 ∧ c.leave ≤ d.enter
  len : out.length ≤ i
theorem TInv.init : TInv 0 [] [] := by
  refine ⟨?_, ?_, ?_, ?_, .nil, ?_, ?_, ?_, Nat.le_refl _⟩ <;> simp
theorem last_max {op : List Nat} {u : Nat} (hs : op.Pairwise (· < ·)) (hu : op.getLast? = some u) : ∀ k ∈ op, k ≤ u := by
  intro k hk
  rw [List.getLast?_eq_some_iff] at hu
  obtain ⟨pre, rfl⟩ := hu
  rw [List.pairwise_append] at hs
  rcases List.mem_append.1 hk with h | h
  · exact Nat.le_of_lt (hs.2.2 k h u (by simp))
  · simp at h; omega
theorem sorted_len' : ∀ (op : List Nat) (lo n : Nat), op.Pairwise (· < ·) → (∀ k ∈ op, lo ≤ k ∧ k < n) → op.length ≤ n - lo
  | [], _, _, _, _ => Nat.zero_le _
  | a :: r, lo, n, hs, hl => by
    rw [List.pairwise_cons] at hs
    have h1 := hl a (by simp)
    have := sorted_len' r (a + 1) n hs.2 fun k hk => ⟨hs.1 k hk, (hl k (by simp [hk])).2⟩
    rw [List.length_cons]
    omega
theorem sorted_len {op : List Nat} {n : Nat} (hs : op.Pairwise (· < ·)) (hl : ∀ k ∈ op, k < n) : op.length ≤ n := sorted_len' op 0 n hs fun k hk => ⟨Nat.zero_le _, hl k hk⟩
theorem get_snoc {α : Type} {out : List α} {x c : α} {k : Nat} (h : (out ++ [x])[k]? = some c) : out[k]? = some c ∨ (k = out.length ∧ c = x) := by
  rw [List.getElem?_append] at h
  by_cases hk : k < out.length
  · rw [if_pos hk] at h; exact .inl h
  · rw [if_neg hk] at h
    have := (List.getElem?_eq_some_iff.1 h).1
    simp at this
    have hk2 : k = out.length := by omega
    subst hk2
    simp at h
    exact .inr ⟨rfl, h.symm⟩
theorem TInv.enter {i : Nat} {out : List Cl} {op : List Nat} (I : TInv i out op) {c0 : Cl} (h1 : c0.enter = i + 1) (h2 : c0.leave = 0) (hup : (out = [] ∧ c0.up = -1) ∨ ∃ u : Nat, c0.up = u ∧ op.getLast? = some u) : TInv (i + 1) (out ++ [c0]) (op ++ [out.length]) := by
  have hlt : ∀ {k : Nat} {c : Cl}, out[k]? = some c → k < out.length := fun h => (List.getElem?_eq_some_iff.1 h).1
  have hopl : ∀ k ∈ op, k < out.length := fun k hk => by obtain ⟨c, h, _⟩ := (I.opn k).1 hk; exact hlt h
  have hulast : ∀ u : Nat, op.getLast? = some u → u ∈ op := fun u h => List.mem_of_getLast? h
  refine ⟨fun k c h => ?_, fun j k c d hjk hj hk => ?_, fun k c h => ?_, fun k => ⟨fun hk => ?_, fun ⟨c, h, hc⟩ => ?_⟩, ?_, fun k c hk h hpos => ?_, fun k c u d h hu hd hl => ?_, fun j k c d hjk hj hk he => ?_, ?_⟩
  · have q := get_snoc h; clear h; rcases q with h | ⟨rfl, rfl⟩
    · obtain ⟨a, b, e⟩ := I.ent k c h
      exact ⟨by omega, b, e.imp id fun e => ⟨e.1, by omega⟩⟩
    · exact ⟨by omega, by omega, .inl h2⟩
  · have q := get_snoc hk; clear hk; rcases q with hk | ⟨rfl, rfl⟩
    · have q := get_snoc hj; clear hj; rcases q with hj | ⟨rfl, rfl⟩
      · exact I.inc j k c d hjk hj hk
      · have := hlt hk; omega
    · have q := get_snoc hj; clear hj; rcases q with hj | ⟨rfl, rfl⟩
      · have := (I.ent j c hj).1; omega
      · omega
  · have q := get_snoc h; clear h; rcases q with h | ⟨rfl, rfl⟩
    · exact I.ups k c h
    · refine ⟨fun h0 => ?_, fun h0 => ?_⟩
      · rcases hup with ⟨_, h⟩ | ⟨u, _, hu⟩
        · exact h
        · have := hopl u (hulast u hu); omega
      · rcases hup with ⟨rfl, _⟩ | ⟨u, hu1, hu⟩
        · simp at h0
        · exact ⟨u, hu1, hopl u (hulast u hu)⟩
  · rcases List.mem_append.1 hk with hk | hk
    · obtain ⟨c, h, hc⟩ := (I.opn k).1 hk
      exact ⟨c, by rw [List.getElem?_append_left (hlt h)]; exact h, hc⟩
    · simp at hk; subst hk
      exact ⟨c0, by simp, h2⟩
  · have q := get_snoc h; clear h; rcases q with h | ⟨rfl, rfl⟩
    · exact List.mem_append.2 (.inl ((I.opn k).2 ⟨c, h, hc⟩))
    · simp
  · rw [List.pairwise_append]
    exact ⟨I.sor, by simp, fun a ha b hb => by simp at hb; subst hb; exact hopl a ha⟩
  · have q := get_snoc h; clear h; rcases q with h | ⟨rfl, rfl⟩
    · have hk' : k ∈ op := by
        rcases List.mem_append.1 hk with hk | hk
        · exact hk
        · simp at hk; have := hlt h; omega
      obtain ⟨u, a, b⟩ := I.cha k c hk' h hpos
      exact ⟨u, a, List.mem_append.2 (.inl b)⟩
    · rcases hup with ⟨rfl, _⟩ | ⟨u, hu1, hu⟩
      · simp at hpos
      · exact ⟨u, hu1, List.mem_append.2 (.inl (hulast u hu))⟩
  · have q := get_snoc hd; clear hd; rcases q with hd | ⟨rfl, rfl⟩
    · have q := get_snoc h; clear h; rcases q with h | ⟨rfl, rfl⟩
      · exact I.par k c u d h hu hd hl
      · exfalso
        rcases hup with ⟨rfl, _⟩ | ⟨v, hv1, hv⟩
        · simp at hd
        · have : u = v := by omega
          subst this
          obtain ⟨d', h3, h4⟩ := (I.opn u).1 (hulast u hv)
          rw [hd] at h3; injection h3 with h3; subst h3
          exact hl h4
    · exact absurd h2 hl
  · have q := get_snoc hk; clear hk; rcases q with hk | ⟨rfl, rfl⟩
    · have q := get_snoc hj; clear hj; rcases q with hj | ⟨rfl, rfl⟩
      · exact I.sib j k c d hjk hj hk he
      · have := hlt hk; omega
    · have q := get_snoc hj; clear hj; rcases q with hj | ⟨rfl, rfl⟩
      · rcases hup with ⟨rfl, _⟩ | ⟨u, hu1, hu⟩
        · simp at hj
        · have hne : c.leave ≠ 0 := fun h0 => by
            have hjo := (I.opn j).2 ⟨c, hj, h0⟩
            have hle := last_max I.sor hu j hjo
            have hups := I.ups j c hj
            rcases Nat.eq_zero_or_pos j with hz | hz
            · have := hups.1 hz; omega
            · obtain ⟨v, hv, hvj⟩ := hups.2 hz
              omega
          have := (I.ent j c hj).2.2
          exact ⟨hne, by omega⟩
      · omega
  · have := I.len; simp; omega
theorem get_set {out : List Cl} {u k : Nat} {x c : Cl} (h : (out.set u x)[k]? = some c) : (k = u ∧ c = x) ∨ (k ≠ u ∧ out[k]? = some c) := by
  rw [List.getElem?_set] at h
  by_cases e : u = k
  · subst e
    rw [if_pos rfl] at h
    split at h
    · injection h with h; exact .inl ⟨rfl, h.symm⟩
    · cases h
  · rw [if_neg e] at h; exact .inr ⟨fun h => e h.symm, h⟩
theorem TInv.left {i : Nat} {out : List Cl} {op : List Nat} (I : TInv i out op) {u : Nat} {c0 : Cl} (hu : op.getLast? = some u) (h0 : out[u]? = some c0) : TInv (i + 1) (out.set u ⟨c0.proc, c0.enter, i + 1, c0.up⟩) op.dropLast := by
  have hlt : ∀ {k : Nat} {c : Cl}, out[k]? = some c → k < out.length := fun h => (List.getElem?_eq_some_iff.1 h).1
  have hmem : u ∈ op := List.mem_of_getLast? hu
  have hz : c0.leave = 0 := by
    obtain ⟨d, h3, h4⟩ := (I.opn u).1 hmem
    rw [h0] at h3; injection h3 with h3; subst h3; exact h4
  obtain ⟨pre, hpre⟩ := List.getLast?_eq_some_iff.1 hu
  have hdl : op.dropLast = pre := by rw [hpre, List.dropLast_concat]
  have hsor := I.sor
  rw [hpre, List.pairwise_append] at hsor
  have hprelt : ∀ k ∈ pre, k < u := fun k hk => hsor.2.2 k hk u (by simp)
  have hmo : ∀ k, k ∈ op ↔ k ∈ pre ∨ k = u := fun k => by rw [hpre]; simp
  have hself : ∀ {x : Cl}, (out.set u x)[u]? = some x := fun {x} => by rw [List.getElem?_set, if_pos rfl, if_pos (hlt h0)]
  have hother : ∀ {k : Nat} {x c : Cl}, k ≠ u → out[k]? = some c → (out.set u x)[k]? = some c := fun {k x c} hk h => by rw [List.getElem?_set, if_neg (fun e => hk e.symm)]; exact h
  rw [hdl]
  refine ⟨fun k c h => ?_, fun j k c d hjk hj hk => ?_, fun k c h => ?_, fun k => ⟨fun hk => ?_, fun ⟨c, h, hc⟩ => ?_⟩, hsor.1, fun k c hk h hpos => ?_, fun k c v d h hv hd hl => ?_, fun j k c d hjk hj hk he => ?_, ?_⟩
  · have q := get_set h; clear h; rcases q with ⟨rfl, rfl⟩ | ⟨_, h⟩
    · obtain ⟨a, b, _⟩ := I.ent k c0 h0
      exact ⟨by simp; omega, b, .inr ⟨by simp; omega, by simp⟩⟩
    · obtain ⟨a, b, e⟩ := I.ent k c h
      exact ⟨by omega, b, e.imp id fun e => ⟨e.1, by omega⟩⟩
  · have q1 := get_set hj; have q2 := get_set hk; clear hj hk; rcases q1 with ⟨rfl, rfl⟩ | ⟨_, hj⟩ <;> rcases q2 with ⟨rfl, rfl⟩ | ⟨_, hk⟩
    · omega
    · exact I.inc j k c0 d hjk h0 hk
    · exact I.inc j k c c0 hjk hj h0
    · exact I.inc j k c d hjk hj hk
  · have q := get_set h; clear h; rcases q with ⟨rfl, rfl⟩ | ⟨_, h⟩
    · exact I.ups k c0 h0
    · exact I.ups k c h
  · have hne : k ≠ u := fun e => by subst e; have := hprelt k hk; omega
    obtain ⟨c, h, hc⟩ := (I.opn k).1 ((hmo k).2 (.inl hk))
    exact ⟨c, hother hne h, hc⟩
  · have q := get_set h; clear h; rcases q with ⟨rfl, rfl⟩ | ⟨hne, h⟩
    · simp at hc
    · rcases (hmo k).1 ((I.opn k).2 ⟨c, h, hc⟩) with h | h
      · exact h
      · exact absurd h hne
  · have hne : k ≠ u := fun e => by subst e; have := hprelt k hk; omega
    have q := get_set h; clear h; rcases q with ⟨rfl, rfl⟩ | ⟨_, h⟩
    · exact absurd rfl hne
    · obtain ⟨v, a, b⟩ := I.cha k c ((hmo k).2 (.inl hk)) h hpos
      refine ⟨v, a, ?_⟩
      rcases (hmo v).1 b with hb | rfl
      · exact hb
      · obtain ⟨v', a', hb⟩ := (I.ups k c h).2 hpos
        have := hprelt k hk; omega
  · have q := get_set hd; clear hd; rcases q with ⟨rfl, rfl⟩ | ⟨hvu, hd⟩
    · -- a child of the one that is left
      have q := get_set h; clear h; rcases q with ⟨rfl, rfl⟩ | ⟨hne, h⟩
      · exfalso
        rcases Nat.eq_zero_or_pos k with h1 | h1
        · have := (I.ups k c0 h0).1 h1; simp at hv; omega
        · obtain ⟨v', a', hb⟩ := (I.ups k c0 h0).2 h1; simp at hv; omega
      · have hvk : v < k := by
          rcases Nat.eq_zero_or_pos k with h1 | h1
          · have := (I.ups k c h).1 h1; omega
          · obtain ⟨v', a', hb⟩ := (I.ups k c h).2 h1; omega
        have hnz : c.leave ≠ 0 := fun e => by
          have := last_max I.sor hu k ((I.opn k).2 ⟨c, h, e⟩); omega
        have := (I.ent k c h).2.2
        exact ⟨hnz, by simp; omega⟩
    · have q := get_set h; clear h; rcases q with ⟨rfl, rfl⟩ | ⟨hne, h⟩
      · exfalso
        have h1 : 0 < k := by
          rcases Nat.eq_zero_or_pos k with h1 | h1
          · have := (I.ups k c0 h0).1 h1; simp at hv; omega
          · exact h1
        obtain ⟨v', a', hb⟩ := I.cha k c0 hmem h0 h1
        have : v' = v := by simp at hv; omega
        subst this
        obtain ⟨d', h3, h4⟩ := (I.opn v').1 hb
        rw [hd] at h3; injection h3 with h3; subst h3
        exact hl h4
      · exact I.par k c v d h hv hd hl
  · have q1 := get_set hj; have q2 := get_set hk; clear hj hk; rcases q1 with ⟨rfl, rfl⟩ | ⟨_, hj⟩ <;> rcases q2 with ⟨rfl, rfl⟩ | ⟨_, hk⟩
    · omega
    · exact absurd hz (I.sib j k c0 d hjk h0 hk he).1
    · exact I.sib j k c c0 hjk hj h0 he
    · exact I.sib j k c d hjk hj hk he
  · have := I.len; simp; omega
theorem TInv.still {i : Nat} {out : List Cl} {op : List Nat} (I : TInv i out op) : TInv (i + 1) out op :=
  ⟨fun k c h => by obtain ⟨a, b, e⟩ := I.ent k c h; exact ⟨by omega, b, e.imp id fun e => ⟨e.1, by omega⟩⟩, I.inc, I.ups, I.opn, I.sor, I.cha, I.par, I.sib, by have := I.len; omega⟩
theorem TInv.step {i : Nat} {t : Tk} {out out' : List Cl} {op op' : List Nat} (I : TInv i out op) (h : stepT i t out op = some (out', op')) : TInv (i + 1) out' op' := by
  unfold stepT at h
  split at h
  · rename_i hop
    split at h
    · cases h
    · rename_i hi
      split at h
      · injection h with h
        injection h with e1 e2
        subst e1 e2
        have hout : out = [] := by have := I.len; exact List.length_eq_zero_iff.1 (by omega)
        exact I.enter rfl rfl (.inl ⟨hout, rfl⟩)
      · cases h
  · rename_i u hop
    split at h
    · split at h
      · injection h with h
        injection h with e1 e2
        subst e1 e2
        exact I.enter rfl rfl (.inr ⟨u, rfl, hop⟩)
      · cases h
    · split at h
      · rename_i c hc
        split at h
        · split at h
          · injection h with h
            injection h with e1 e2
            subst e1 e2
            exact I.left hop hc
          · injection h with h
            injection h with e1 e2
            subst e1 e2
            exact I.still
        · cases h
      · cases h
theorem TInv.run : ∀ (l : List Tk) (i : Nat) (out out' : List Cl) (op op' : List Nat), TInv i out op → runT i l out op = some (out', op') → TInv (i + l.length) out' op'
  | [], i, out, out', op, op', I, h => by
    injection h with h
    injection h with e1 e2
    subst e1 e2
    exact I
  | t :: l, i, out, out', op, op', I, h => by
    simp only [runT] at h
    split at h
    · rename_i o1 p1 hs
      have := TInv.run l (i + 1) o1 out' p1 op' (I.step hs) h
      rw [List.length_cons, show i + (l.length + 1) = i + 1 + l.length by omega]
      exact this
    · cases h
theorem treeT_inv {l : List Tk} {out : List Cl} (h : treeT l = some out) : out ≠ [] ∧ ∃ op, TInv l.length out op := by
  unfold treeT at h
  split at h
  · rename_i o p hr
    split at h
    · cases h
    · rename_i hne
      injection h with h
      subst h
      refine ⟨hne, p, ?_⟩
      have := TInv.run l 0 [] o [] p .init hr
      rwa [Nat.zero_add] at this
  · cases h
end Go.Proofs.YtndhniapohlniaaGreatDoor
