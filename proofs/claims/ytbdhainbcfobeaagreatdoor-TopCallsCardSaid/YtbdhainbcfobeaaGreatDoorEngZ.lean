/-
  THE ENGINE, part Z: what stays true while a region that draws is run in any order.
-/
import Derived.Test.YtbdhainbcfobeaaGreatDoorEngY
namespace Go.Proofs.YtbdhainbcfobeaaGreatDoor
namespace Eng
open Go
section
variable {P : Program} {call : CallF} {ops : Array Oper} {l : List Mv} {σ : Nat → St} {m : Nat} {nt : Nat}

/-- no block lies at a place -/
def off (ρ : Rho) (H : Heap) (c : Nat) : Prop := ∀ b B q, getB H b = some B → ρ b = some q → q.blk ≠ c
def push (H : Heap) (B : Blk) : Heap := ⟨H.bl.set (bits H.nx) (some B), H.nx + 1⟩
theorem getB_push (H : Heap) (B : Blk) (c : Nat) : getB (push H B) c = if c = H.nx then some B else getB H c := getB_new H B c
structure Mid (ρ0 : Rho) (H0 : Heap) (w0 : World) (ρ : Rho) (H : Heap) (w : World) (N : Nat) : Prop where
  sub : Sub ρ0 ρ
  new : ∀ b, b < H0.nx ∨ N ≤ b → ρ b = ρ0 b
  nx : H0.nx ≤ H.nx
  size : w0.heap.size ≤ w.heap.size
  keep : ∀ c, c < w0.heap.size → ¬ own ρ0 H0 c → w.heap[c]? = w0.heap[c]?
  own : ∀ c, own ρ H c → own ρ0 H0 c ∨ w0.heap.size ≤ c
  ro : ∀ b B, getB H b = some B → ¬ wr B → getB H0 b = some B
  os : w.os = w0.os
  tape : w.tape = w0.tape
  output : w.output = w0.output
theorem HR.blk_of {ρ : Rho} {H : Heap} {w : World} (h : HR ρ H w) {b : Nat} {B : Blk} {p : Pl} (hb : getB H b = some B) (hp : ρ b = some p) : BlkOK ρ w p B ∧ p.blk < w.heap.size := by
  obtain ⟨q, hq, hB⟩ := h.blk b B hb
  rw [hp] at hq; injection hq with hq; subst hq
  refine ⟨hB, ?_⟩
  cases B with
  | mp es => obtain ⟨_, _, h1, _⟩ := hB; exact lt_of_some h1
  | cells t n tl ro => obtain ⟨_, _, _, h1, _⟩ := hB; exact lt_of_some h1
theorem chg_push {w w' : World} {o : Obj} (hw : w'.heap = w.heap.push o) : Chg w w' (fun _ _ => False) := ⟨by rw [hw]; simp, fun k hk => .inl (by rw [hw, Array.getElem?_push, if_neg (by omega)])⟩
theorem HR.grow {ρ ρ' : Rho} {H : Heap} {w w' : World} {o : Obj} (h : HR ρ H w) (s : Sub ρ ρ') (hw : w'.heap = w.heap.push o) : HR ρ' H w' := by
  have old : ∀ {b B p}, getB H b = some B → ρ' b = some p → ρ b = some p := fun {b B p} hb hp => by
    obtain ⟨q, hq, _⟩ := h.blk b B hb
    rw [s b q hq] at hp; injection hp with hp; subst hp; exact hq
  refine ⟨fun b B hb => ?_, fun b b' B B' p p' k i hne hb hb' hp hp' h1 h2 => h.apart b b' B B' p p' k i hne hb hb' (old hb hp) (old hb' hp') h1 h2, h.lt⟩
  obtain ⟨q, hq, hB⟩ := h.blk b B hb
  exact ⟨q, s b q hq, hB.keep s (chg_push hw) (fun _ _ _ => id)⟩
theorem HR.commit {ρ : Rho} {H : Heap} {w : World} {B : Blk} {p : Pl} (h : HR ρ H w) (hp : ρ H.nx = some p) (hB : BlkOK ρ w p B) (ho : off ρ H p.blk) : HR ρ (push H B) w := by
  refine ⟨fun b C hb => ?_, fun b b' C C' q q' k i hne hb hb' hq hq' h1 h2 => ?_, fun b C hb => ?_⟩
  · rw [getB_push] at hb
    by_cases e : b = H.nx
    · subst e; rw [if_pos rfl] at hb; injection hb with hb; subst hb; exact ⟨p, hp, hB⟩
    · rw [if_neg e] at hb; exact h.blk b C hb
  · rw [getB_push] at hb hb'
    have e1 := claims_blk h1
    have e2 := claims_blk h2
    by_cases e : b = H.nx
    · subst e
      rw [if_neg (Ne.symm hne)] at hb'
      rw [hp] at hq; injection hq with hq; subst hq
      exact ho b' C' q' hb' hq' (by omega)
    · rw [if_neg e] at hb
      by_cases e' : b' = H.nx
      · subst e'
        rw [hp] at hq'; injection hq' with hq'; subst hq'
        exact ho b C q hb hq (by omega)
      · rw [if_neg e'] at hb'
        exact h.apart b b' C C' q q' k i hne hb hb' hq hq' h1 h2
  · rw [getB_push] at hb
    by_cases e : b = H.nx
    · subst e; simp [push]
    · rw [if_neg e] at hb; have := h.lt b C hb; simp [push]; omega

structure Inv (P : Program) (call : CallF) (ops : Array Oper) (l : List Mv) (σ : Nat → St) (m nt : Nat) (ρ0 : Rho) (H0 : Heap) (w0 : World) (N : Nat) (L : Nat → Prop) (q : Nat) (ρ : Rho) (a : Act) (w : World) : Prop where
  qm : q ≤ m
  below : ∀ p i f o, p < q → l[p]? = some (.ex i f) → ops[i]? = some o → cls P o.op = .loud ∨ cls P o.op = .make → L i
  above : ∀ p i f o, q ≤ p → l[p]? = some (.ex i f) → ops[i]? = some o → cls P o.op = .loud → ¬ L i
  posn : ∀ j, L j → ∃ p f, p < m ∧ l[p]? = some (.ex j f)
  clo : Clo ops L
  hr : HR ρ (σ q).H w
  gk : GOK P ρ
  dr : DR ρ (σ q).D a.defers
  vals : ∀ p j f o t, L j → p < m → l[p]? = some (.ex j f) → ops[j]? = some o → o.dst = some t → ∃ x, den ρ (valAt P call ops l σ p) = some x ∧ a.tmps[t]? = some x
  rest : ∀ t v, (σ 0).T.get (bits t) = some v → (∀ j o, L j → ops[j]? = some o → o.dst ≠ some t) → ∃ x, den ρ v = some x ∧ a.tmps[t]? = some x
  sz : nt ≤ a.tmps.size
  pend : ∀ p i f o B, q ≤ p → p < m → l[p]? = some (.ex i f) → ops[i]? = some o → cls P o.op = .make → L i → (σ (p + 1)).H = push (σ p).H B →
    ∃ pl, ρ (σ p).H.nx = some pl ∧ BlkOK ρ w pl B ∧ off ρ (σ q).H pl.blk ∧ pl.blk < w.heap.size ∧ w0.heap.size ≤ pl.blk
  diff : ∀ b b' pl pl', (σ q).H.nx ≤ b → b < N → (σ q).H.nx ≤ b' → b' < N → b ≠ b' → ρ b = some pl → ρ b' = some pl' → pl.blk ≠ pl'.blk
  free : ∀ b, (σ q).H.nx ≤ b → b < N → ρ b ≠ none → ∃ p i f o, q ≤ p ∧ p < m ∧ l[p]? = some (.ex i f) ∧ ops[i]? = some o ∧ cls P o.op = .make ∧ L i ∧ (σ p).H.nx = b ∧ (σ (p + 1)).H.nx = b + 1
  mid : Mid ρ0 H0 w0 ρ (σ q).H w N
  hb : ∀ r, r < q → ∀ b C, getB (σ r).H b = some C → b < (σ r).H.nx

variable {ρ0 : Rho} {H0 : Heap} {w0 : World} {N : Nat} {L : Nat → Prop} {q : Nat} {ρ : Rho} {a : Act} {w : World}

/-- The base moves on over what has been done, or is quiet. -/
theorem Inv.adv (t : Tra P call ops l σ m nt) (hN : (σ m).H.nx ≤ N) (I : Inv P call ops l σ m nt ρ0 H0 w0 N L q ρ a w) (hq : q < m)
    (hL : ∀ i f o, l[q]? = some (.ex i f) → ops[i]? = some o → cls P o.op = .loud ∨ cls P o.op = .make → L i) : Inv P call ops l σ m nt ρ0 H0 w0 N L (q + 1) ρ a w := by
  have hbelow : ∀ p i f o, p < q + 1 → l[p]? = some (.ex i f) → ops[i]? = some o → cls P o.op = .loud ∨ cls P o.op = .make → L i := fun p i f o hp hl ho hc => by
    by_cases e : p = q
    · subst e; exact hL i f o hl ho hc
    · exact I.below p i f o (by omega) hl ho hc
  have hb' : ∀ r, r < q + 1 → ∀ b C, getB (σ r).H b = some C → b < (σ r).H.nx := fun r hr => by
    by_cases e : r = q
    · subst e; exact I.hr.lt
    · exact I.hb r (by omega)
  have same : (σ (q + 1)).H = (σ q).H → (σ (q + 1)).D = (σ q).D → Inv P call ops l σ m nt ρ0 H0 w0 N L (q + 1) ρ a w := fun hH hD => by
    refine ⟨by omega, hbelow, fun p i f o hp => I.above p i f o (by omega), I.posn, I.clo, by rw [hH]; exact I.hr, I.gk, by rw [hD]; exact I.dr, I.vals, I.rest, I.sz,
      fun p i f o B hp => by rw [hH]; exact I.pend p i f o B (by omega), by rw [hH]; exact I.diff, fun b hb hbN hne => ?_, by rw [hH]; exact I.mid, hb'⟩
    rw [hH] at hb
    obtain ⟨p, i, f, o, h1, h2, h3, h4, h5, h6, h7, h8⟩ := I.free b hb hbN hne
    have : p ≠ q := fun e => by subst e; rw [hH] at h8; omega
    exact ⟨p, i, f, o, by omega, h2, h3, h4, h5, h6, h7, h8⟩
  obtain ⟨mv, hmv⟩ := t.get hq
  cases mv with
  | ck i => have := t.stepC hq hmv; exact same (by rw [this]) (by rw [this])
  | ex i f =>
    obtain ⟨o, ho, _⟩ := t.ex hmv
    cases hc : cls P o.op with
    | pure => obtain ⟨h1, h2⟩ := t.quiet hq hmv ho (.inl hc); exact same h1 h2
    | read => obtain ⟨h1, h2⟩ := t.quiet hq hmv ho (.inr hc); exact same h1 h2
    | loud => exact absurd (hL i f o hmv ho (.inl hc)) (I.above q i f o (Nat.le_refl _) hmv ho hc)
    | bad =>
      exfalso
      obtain ⟨d, h1, _, _, h4, _⟩ := walk_at l [] q i f t.walk hmv
      obtain ⟨o', ho', rfl⟩ := dig_inv h1
      rw [ho] at ho'; injection ho' with ho'; subst ho'
      exact h4 hc
    | make =>
      obtain ⟨hD, ⟨_, hH⟩ | ⟨_, B, hwr, hH, _⟩⟩ := t.makes hq hmv ho hc
      · exact same hH hD
      · have hH : (σ (q + 1)).H = push (σ q).H B := hH
        have hLi := hL i f o hmv ho (.inr hc)
        obtain ⟨pl, g1, g2, g3, g4, g5⟩ := I.pend q i f o B (Nat.le_refl _) hq hmv ho hc hLi hH
        have hnx : (σ (q + 1)).H.nx = (σ q).H.nx + 1 := by rw [hH]; rfl
        have hnN : (σ q).H.nx < N := by
          have := t.Hmono (q + 1) m (by omega) (Nat.le_refl _); omega
        refine ⟨by omega, hbelow, fun p i f o hp => I.above p i f o (by omega), I.posn, I.clo, by rw [hH]; exact I.hr.commit g1 g2 g3, I.gk, by rw [hD]; exact I.dr, I.vals, I.rest, I.sz,
          fun p i' f' o' B' hp hpm hl' ho' hc' hL' hB' => ?_, fun b b' pl pl' h1 h2 h3 h4 => I.diff b b' pl pl' (by omega) h2 (by omega) h4, fun b hb hbN hne => ?_, ?_, hb'⟩
        · obtain ⟨pl', k1, k2, k3, k4, k5⟩ := I.pend p i' f' o' B' (by omega) hpm hl' ho' hc' hL' hB'
          refine ⟨pl', k1, k2, fun b C r hb hr => ?_, k4, k5⟩
          rw [hH, getB_push] at hb
          by_cases e : b = (σ q).H.nx
          · subst e
            rw [g1] at hr; injection hr with hr; subst hr
            have hm1 := t.Hmono (q + 1) p (by omega) (by omega)
            have hm2 := t.Hmono (p + 1) m (by omega) (Nat.le_refl _)
            have hm3 : (σ (p + 1)).H.nx = (σ p).H.nx + 1 := by rw [hB']; rfl
            exact I.diff _ _ _ _ (Nat.le_refl _) hnN (by omega) (by omega) (by omega) g1 k1
          · rw [if_neg e] at hb; exact k3 b C r hb hr
        · obtain ⟨p, i', f', o', h1, h2, h3, h4, h5, h6, h7, h8⟩ := I.free b (by omega) hbN hne
          have : p ≠ q := fun e => by subst e; omega
          exact ⟨p, i', f', o', by omega, h2, h3, h4, h5, h6, h7, h8⟩
        · have M := I.mid
          refine ⟨M.sub, M.new, by have := M.nx; omega, M.size, M.keep, ?_, ?_, M.os, M.tape, M.output⟩
          · rintro c ⟨b, C, r, hb, hr, hrc, hwC⟩
            rw [hH, getB_push] at hb
            by_cases e : b = (σ q).H.nx
            · subst e; rw [g1] at hr; injection hr with hr; subst hr; exact .inr (hrc ▸ g5)
            · rw [if_neg e] at hb; exact M.own c ⟨b, C, r, hb, hr, hrc, hwC⟩
          · intro b C hb hwC
            rw [hH, getB_push] at hb
            by_cases e : b = (σ q).H.nx
            · subst e; rw [if_pos rfl] at hb; injection hb with hb; subst hb; exact absurd hwr hwC
            · rw [if_neg e] at hb; exact M.ro b C hb hwC
theorem Inv.advTo (t : Tra P call ops l σ m nt) (hN : (σ m).H.nx ≤ N) : ∀ (r : Nat), q ≤ r → r ≤ m → Inv P call ops l σ m nt ρ0 H0 w0 N L q ρ a w →
    (∀ p i f o, q ≤ p → p < r → l[p]? = some (.ex i f) → ops[i]? = some o → cls P o.op = .loud ∨ cls P o.op = .make → L i) → Inv P call ops l σ m nt ρ0 H0 w0 N L r ρ a w := by
  intro r hr
  induction hr with
  | refl => intro _ I _; exact I
  | step hr ih =>
    rename_i k
    intro hk I hL
    exact (ih (by omega) I fun p i f o h1 h2 => hL p i f o h1 (by omega)).adv t hN (by omega) fun i f o => hL k i f o hr (by omega)

/-! ### what an operation that is ready looks at -/
theorem Inv.opnd (t : Tra P call ops l σ m nt) (I : Inv P call ops l σ m nt ρ0 H0 w0 N L q ρ a w) {i p : Nat} {f : Bool} {o : Oper} (hi : ¬ L i) (ho : ops[i]? = some o) (hr : ∀ k ∈ needs o, L k) (hl : l[p]? = some (.ex i f)) (hp : p ≤ m) :
    TR ρ (restr (Oper.looksAt ops o) (σ p).T) a.tmps := by
  have hLi : Clo ops (fun j => L j ∨ j = i) := fun j o' k hj ho' hk => by
    rcases hj with hj | rfl
    · exact .inl (I.clo j o' k hj ho' hk)
    · rw [ho] at ho'; injection ho' with ho'; subst ho'; exact .inl (hr k hk)
  have hbi : ∀ j, Bf P ops j i → L j := fun j hb => by
    rcases t.closed hLi hb (.inr rfl) with h | h
    · exact h
    · subst h; have := t.bf_lt _ _ hb; omega
  have hib : ∀ j, Bf P ops i j → ¬ L j := fun j hb hj => hi (t.closed I.clo hb hj)
  intro s v hv
  rw [get_restr] at hv
  by_cases hs : s ∈ Oper.looksAt ops o
  · rw [if_pos hs] at hv
    by_cases hw : ∃ p' j f' o', p' < p ∧ l[p']? = some (.ex j f') ∧ ops[j]? = some o' ∧ o'.dst = some s
    · obtain ⟨p', j, f', o', h1, h2, h3, h4⟩ := hw
      have hne : j ≠ i := fun e => by subst e; have := t.uniq h2 hl; omega
      rw [t.T_new h2 h3 h4 p hp h1] at hv
      injection hv with hv; subst hv
      have hLj : L j := by
        rcases (t.pair h3 ho hne).2 with hb | hb | ⟨hb, _⟩
        · exact hbi j hb
        · exfalso
          obtain ⟨p2, h5, f2, h6⟩ := t.before h2 hb
          have := t.uniq h6 hl; omega
        · exact absurd hs (hb s h4)
      exact I.vals p' j f' o' s hLj (by omega) h2 h3 h4
    · rw [t.T_old p hp fun p' j f' o' h1 h2 h3 h4 => hw ⟨p', j, f', o', h1, h2, h3, h4⟩] at hv
      refine I.rest s v hv fun j o' hj ho' hd => ?_
      have hne : j ≠ i := fun e => by subst e; exact hi hj
      rcases (t.pair ho' ho hne).2 with hb | hb | ⟨hb, _⟩
      · obtain ⟨p', h1, f', h2⟩ := t.before hl hb
        exact hw ⟨p', j, f', o', h1, h2, ho', hd⟩
      · exact hib j hb hj
      · exact hb s hd hs
  · rw [if_neg hs] at hv; cases hv
theorem Inv.wanted (t : Tra P call ops l σ m nt) (I : Inv P call ops l σ m nt ρ0 H0 w0 N L q ρ a w) {i p : Nat} {f : Bool} {o : Oper} (hi : ¬ L i) (ho : ops[i]? = some o) (hr : ∀ k ∈ needs o, L k) (hl : l[p]? = some (.ex i f)) (hp : p ≤ m) {b : Bool}
    (h : want ops o.guard (σ p).T = some b) : Region.wanted o (yielded ops a.tmps) = b :=
  want_wanted (ρ := ρ) (fun j wv s v hg hd hv => I.opnd t hi ho hr hl hp s v (by rw [get_restr, if_pos (looks_guard hg hd)]; exact hv)) h
end
end Eng
end Go.Proofs.YtbdhainbcfobeaaGreatDoor
