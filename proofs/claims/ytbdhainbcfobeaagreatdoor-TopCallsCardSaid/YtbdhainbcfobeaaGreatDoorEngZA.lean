/-
  THE ENGINE, part ZA: the steps of a region that draws.
-/
import Derived.Test.YtbdhainbcfobeaaGreatDoorEngZ
namespace Go.Proofs.YtbdhainbcfobeaaGreatDoor
namespace Eng
open Go
section
variable {P : Program} {call : CallF} {ops : Array Oper} {l : List Mv} {σ : Nat → St} {m : Nat} {nt : Nat}
variable {ρ0 : Rho} {H0 : Heap} {w0 : World} {N : Nat} {L : Nat → Prop} {q : Nat} {ρ : Rho} {a : Act} {w : World}

/-- the slots after a step -/
theorem Inv.step_vals (t : Tra P call ops l σ m nt) (I : Inv P call ops l σ m nt ρ0 H0 w0 N L q ρ a w) {i p : Nat} {f : Bool} {o : Oper} (hi : ¬ L i) (ho : ops[i]? = some o) (hl : l[p]? = some (.ex i f)) {ρ' : Rho} (s : Sub ρ ρ') {x : Value}
    (hx : ∀ t', o.dst = some t' → den ρ' (valAt P call ops l σ p) = some x) {a' : Act} (ha : a'.tmps = (a.put o.dst x).tmps) :
    (∀ p' j f' o' t', (L j ∨ j = i) → p' < m → l[p']? = some (.ex j f') → ops[j]? = some o' → o'.dst = some t' → ∃ y, den ρ' (valAt P call ops l σ p') = some y ∧ a'.tmps[t']? = some y) ∧
    (∀ t' v, (σ 0).T.get (bits t') = some v → (∀ j o', (L j ∨ j = i) → ops[j]? = some o' → o'.dst ≠ some t') → ∃ y, den ρ' v = some y ∧ a'.tmps[t']? = some y) ∧ nt ≤ a'.tmps.size := by
  rw [ha]
  refine ⟨fun p' j f' o' t' hj hp' hl' ho' ht' => ?_, fun t' v hv hn => ?_, by rw [Act.size_put]; exact I.sz⟩
  · rw [Act.tmps_put]
    by_cases e : j = i
    · subst e
      rw [ho] at ho'; injection ho' with ho'; subst ho'
      have := t.uniq hl hl'
      subst this
      rw [if_pos ⟨ht', Nat.lt_of_lt_of_le (opOK.d (t.opk ho) ht') I.sz⟩]
      exact ⟨x, hx t' ht', rfl⟩
    · have hLj := hj.resolve_right e
      obtain ⟨y, h1, h2⟩ := I.vals p' j f' o' t' hLj hp' hl' ho' ht'
      rw [if_neg (fun h => (t.pair ho' ho e).1 t' ht' h.1)]
      exact ⟨y, den_mono s _ y h1, h2⟩
  · obtain ⟨y, h1, h2⟩ := I.rest t' v hv fun j o' hj ho' => hn j o' (.inl hj) ho'
    rw [Act.tmps_put, if_neg (fun h => hn i o (.inr rfl) ho h.1)]
    exact ⟨y, den_mono s _ y h1, h2⟩
theorem Inv.clo' (I : Inv P call ops l σ m nt ρ0 H0 w0 N L q ρ a w) {i : Nat} {o : Oper} (ho : ops[i]? = some o) (hr : ∀ k ∈ needs o, L k) : Clo ops (fun j => L j ∨ j = i) := fun j o' k hj ho' hk => by
  rcases hj with hj | rfl
  · exact .inl (I.clo j o' k hj ho' hk)
  · rw [ho] at ho'; injection ho' with ho'; subst ho'; exact .inl (hr k hk)
/-- a step that leaves the world as it is -/
theorem Inv.quiet (t : Tra P call ops l σ m nt) (I : Inv P call ops l σ m nt ρ0 H0 w0 N L q ρ a w) {i p : Nat} {f : Bool} {o : Oper} (hi : ¬ L i) (ho : ops[i]? = some o) (hr : ∀ k ∈ needs o, L k) (hl : l[p]? = some (.ex i f)) (hp : p < m) {x : Value}
    (hx : ∀ t', o.dst = some t' → den ρ (valAt P call ops l σ p) = some x) (hc1 : cls P o.op ≠ .loud) (hc2 : cls P o.op = .make → (σ (p + 1)).H = (σ p).H) : Inv P call ops l σ m nt ρ0 H0 w0 N (fun j => L j ∨ j = i) q ρ (a.put o.dst x) w := by
  obtain ⟨v1, v2, v3⟩ := I.step_vals t hi ho hl (.refl ρ) hx rfl
  refine ⟨I.qm, fun p' j f' o' h1 h2 h3 h4 => .inl (I.below p' j f' o' h1 h2 h3 h4), fun p' j f' o' h1 h2 h3 h4 h5 => ?_, fun j hj => ?_, I.clo' ho hr, I.hr, I.gk, by rw [Act.defers_put]; exact I.dr, v1, v2, v3,
    fun p' j f' o' B h1 h2 h3 h4 h5 h6 h7 => ?_, I.diff, fun b h1 h2 h3 => ?_, I.mid, I.hb⟩
  · rcases h5 with h5 | rfl
    · exact I.above p' j f' o' h1 h2 h3 h4 h5
    · rw [ho] at h3; injection h3 with h3; subst h3; exact hc1 h4
  · rcases hj with hj | rfl
    · exact I.posn j hj
    · exact ⟨p, f, hp, hl⟩
  · rcases h6 with h6 | rfl
    · exact I.pend p' j f' o' B h1 h2 h3 h4 h5 h6 h7
    · exfalso
      rw [ho] at h4; injection h4 with h4; subst h4
      have := t.uniq hl h3; subst this
      have h8 := hc2 h5
      rw [h8] at h7
      have := congrArg Heap.nx h7
      simp [push] at this
  · obtain ⟨p', j, f', o', k1, k2, k3, k4, k5, k6, k7⟩ := I.free b h1 h2 h3
    exact ⟨p', j, f', o', k1, k2, k3, k4, k5, .inl k6, k7⟩
/-- what has come early lies apart -/
theorem Inv.pend_of (t : Tra P call ops l σ m nt) (I : Inv P call ops l σ m nt ρ0 H0 w0 N L q ρ a w) {b : Nat} {pl : Pl} (h1 : (σ q).H.nx ≤ b) (h2 : b < N) (h3 : ρ b = some pl) :
    off ρ (σ q).H pl.blk ∧ pl.blk < w.heap.size ∧ w0.heap.size ≤ pl.blk := by
  obtain ⟨p, i, f, o, k1, k2, k3, k4, k5, k6, k7, k8⟩ := I.free b h1 h2 (by rw [h3]; simp)
  obtain ⟨_, ⟨_, hH⟩ | ⟨_, B, _, hH, _⟩⟩ := t.makes k2 k3 k4 k5
  · rw [hH] at k8; omega
  · obtain ⟨pl', g1, _, g3, g4, g5⟩ := I.pend p i f o B k1 k2 k3 k4 k5 k6 hH
    rw [k7, h3] at g1; injection g1 with g1; subst g1
    exact ⟨g3, g4, g5⟩
theorem nx_pos (t : Tra P call ops l σ m nt) {p p' b : Nat} (hp : p < m) (hp' : p' < m) (h1 : (σ p).H.nx = b) (h2 : (σ (p + 1)).H.nx = b + 1) (h3 : (σ p').H.nx = b) (h4 : (σ (p' + 1)).H.nx = b + 1) : p = p' := by
  rcases Nat.lt_trichotomy p p' with h | h | h
  · have := t.Hmono (p + 1) p' (by omega) (by omega); omega
  · exact h
  · have := t.Hmono (p' + 1) p (by omega) (by omega); omega
theorem push_inj {H : Heap} {B B' : Blk} (h : push H B = push H B') : B = B' := by
  have h1 : getB (push H B) H.nx = some B := by rw [getB_push, if_pos rfl]
  have h2 : getB (push H B') H.nx = some B' := by rw [getB_push, if_pos rfl]
  rw [h, h2] at h1
  injection h1 with h1; exact h1.symm
/-- memory is made, early or in its turn -/
theorem Inv.made (t : Tra P call ops l σ m nt) (hN : (σ m).H.nx ≤ N) (I : Inv P call ops l σ m nt ρ0 H0 w0 N L q ρ a w) {i p : Nat} {f : Bool} {o : Oper} (hi : ¬ L i) (ho : ops[i]? = some o) (hr : ∀ k ∈ needs o, L k) (hl : l[p]? = some (.ex i f)) (hp : p < m)
    (hc : cls P o.op = .make) {B : Blk} (hwr : wr B) (hH : (σ (p + 1)).H = push (σ p).H B) {x : Value} {w' : World} {obj : Obj} {lim : Nat} (hheap : w'.heap = w.heap.push obj) (hos : w'.os = w.os) (htp : w'.tape = w.tape) (hout : w'.output = w.output)
    (hden : ∀ ρ', Sub ρ ρ' → ρ' (σ p).H.nx = some ⟨w.heap.size, 0, lim⟩ → den ρ' (valAt P call ops l σ p) = some x)
    (hblk : ∀ ρ' w'', Sub ρ ρ' → w''.heap[w.heap.size]? = some obj → BlkOK ρ' w'' ⟨w.heap.size, 0, lim⟩ B) :
    Inv P call ops l σ m nt ρ0 H0 w0 N (fun j => L j ∨ j = i) q (upd ρ (σ p).H.nx ⟨w.heap.size, 0, lim⟩) (a.put o.dst x) w' := by
  have hqp : q ≤ p := by
    rcases Nat.lt_or_ge p q with h | h
    · exact absurd (I.below p i f o h hl ho (.inr hc)) hi
    · exact h
  have hnx1 : (σ (p + 1)).H.nx = (σ p).H.nx + 1 := by rw [hH]; rfl
  have hidN : (σ p).H.nx < N := by have := t.Hmono (p + 1) m (by omega) (Nat.le_refl _); omega
  have hqid : (σ q).H.nx ≤ (σ p).H.nx := t.Hmono q p hqp (by omega)
  have hfree : ρ (σ p).H.nx = none := by
    cases hn : ρ (σ p).H.nx with
    | none => rfl
    | some pl =>
      exfalso
      obtain ⟨p', i', f', o', k1, k2, k3, k4, k5, k6, k7, k8⟩ := I.free (σ p).H.nx hqid hidN (by rw [hn]; simp)
      have := nx_pos t hp k2 rfl hnx1 k7 k8
      subst this
      rw [hl] at k3; injection k3 with k3; injection k3 with k3 _; subst k3
      exact hi k6
  have hs : Sub ρ (upd ρ (σ p).H.nx ⟨w.heap.size, 0, lim⟩) := .upd hfree
  have hself : upd ρ (σ p).H.nx ⟨w.heap.size, 0, lim⟩ (σ p).H.nx = some ⟨w.heap.size, 0, lim⟩ := upd_self _ _ _
  have hsz : w'.heap.size = w.heap.size + 1 := by rw [hheap]; simp
  have hold : ∀ {b C r}, getB (σ q).H b = some C → upd ρ (σ p).H.nx ⟨w.heap.size, 0, lim⟩ b = some r → ρ b = some r := fun {b C r} hb hr' => by
    obtain ⟨r0, h0, _⟩ := I.hr.blk b C hb
    rw [hs b r0 h0] at hr'; injection hr' with hr'; subst hr'; exact h0
  obtain ⟨v1, v2, v3⟩ := I.step_vals t hi ho hl hs (fun _ _ => hden _ hs hself) (a' := a.put o.dst x) rfl
  refine ⟨I.qm, fun p' j f' o' h1 h2 h3 h4 => .inl (I.below p' j f' o' h1 h2 h3 h4), fun p' j f' o' h1 h2 h3 h4 h5 => ?_, fun j hj => ?_, I.clo' ho hr, I.hr.grow hs hheap, I.gk.mono hs, by rw [Act.defers_put]; exact I.dr.mono hs, v1, v2, v3,
    fun p' j f' o' B' h1 h2 h3 h4 h5 h6 h7 => ?_, fun b b' pl pl' h1 h2 h3 h4 hne hb hb' => ?_, fun b h1 h2 h3 => ?_, ?_, I.hb⟩
  · rcases h5 with h5 | rfl
    · exact I.above p' j f' o' h1 h2 h3 h4 h5
    · rw [ho] at h3; injection h3 with h3; subst h3; rw [hc] at h4; cases h4
  · rcases hj with hj | rfl
    · exact I.posn j hj
    · exact ⟨p, f, hp, hl⟩
  · by_cases e : p' = p
    · subst e
      rw [hH] at h7
      have := push_inj h7
      subst this
      refine ⟨_, hself, hblk _ w' hs (by rw [hheap]; simp), fun b C r hb hr' => ?_, by rw [hsz]; show w.heap.size < _; omega, I.mid.size⟩
      have := (I.hr.blk_of hb (hold hb hr')).2
      show r.blk ≠ w.heap.size; omega
    · have hj : L j := by
        rcases h6 with h6 | rfl
        · exact h6
        · exact absurd (t.uniq h3 hl) e
      obtain ⟨pl, g1, g2, g3, g4, g5⟩ := I.pend p' j f' o' B' h1 h2 h3 h4 h5 hj h7
      exact ⟨pl, hs _ _ g1, g2.keep hs (chg_push hheap) (fun _ _ _ => id), fun b C r hb hr' => g3 b C r hb (hold hb hr'), by omega, g5⟩
  · have cases' : ∀ {b pl}, (σ q).H.nx ≤ b → b < N → upd ρ (σ p).H.nx ⟨w.heap.size, 0, lim⟩ b = some pl → (b = (σ p).H.nx ∧ pl.blk = w.heap.size) ∨ (ρ b = some pl ∧ pl.blk < w.heap.size) := fun {b pl} h1 h2 hb => by
      by_cases e : b = (σ p).H.nx
      · subst e; rw [hself] at hb; injection hb with hb; subst hb; exact .inl ⟨rfl, rfl⟩
      · rw [upd_ne e] at hb; exact .inr ⟨hb, (I.pend_of t h1 h2 hb).2.1⟩
    rcases cases' h1 h2 hb with ⟨e1, e2⟩ | ⟨e1, e2⟩ <;> rcases cases' h3 h4 hb' with ⟨e3, e4⟩ | ⟨e3, e4⟩
    · omega
    · omega
    · omega
    · exact I.diff b b' pl pl' h1 h2 h3 h4 hne e1 e3
  · by_cases e : b = (σ p).H.nx
    · subst e; exact ⟨p, i, f, o, hqp, hp, hl, ho, hc, .inr rfl, rfl, hnx1⟩
    · rw [upd_ne e] at h3
      obtain ⟨p', j, f', o', k1, k2, k3, k4, k5, k6, k7⟩ := I.free b h1 h2 h3
      exact ⟨p', j, f', o', k1, k2, k3, k4, k5, .inl k6, k7⟩
  · have M := I.mid
    refine ⟨M.sub.trans hs, fun b hb => ?_, M.nx, by have := M.size; omega, fun c hc' hno => ?_, ?_, M.ro, by rw [hos]; exact M.os, by rw [htp]; exact M.tape, by rw [hout]; exact M.output⟩
    · have := M.nx
      rw [upd_ne (by omega)]; exact M.new b hb
    · have := M.size
      rw [hheap, Array.getElem?_push, if_neg (by omega)]
      exact M.keep c hc' hno
    · rintro c ⟨b, C, r, hb, hr', hrc, hwC⟩
      exact M.own c ⟨b, C, r, hb, hold hb hr', hrc, hwC⟩
theorem BlkOK.same {ρ ρ' : Rho} {w w' : World} {p : Pl} {B : Blk} (h : BlkOK ρ w p B) (s : Sub ρ ρ') (hk : w'.heap[p.blk]? = w.heap[p.blk]?) : BlkOK ρ' w' p B := by
  cases B with
  | mp es =>
    obtain ⟨es', k, h1, h2, h3⟩ := h
    exact ⟨es', k, by rw [hk]; exact h1, h2.mono s, h3.mono s⟩
  | cells t n tl ro =>
    obtain ⟨cs, e, fz, h1, h2, h3, h4, h5⟩ := h
    refine ⟨cs, e, fz, by rw [hk]; exact h1, h2, h3, h4, fun i v hv => ?_⟩
    obtain ⟨a, x, b, d⟩ := h5 i v hv
    exact ⟨a, x, den_mono s v x b, d⟩
/-- what writes, in its turn -/
theorem Inv.loud (t : Tra P call ops l σ m nt) (hN : (σ m).H.nx ≤ N) {i p : Nat} (I : Inv P call ops l σ m nt ρ0 H0 w0 N L p ρ a w) {f : Bool} {o : Oper} (hi : ¬ L i) (ho : ops[i]? = some o) (hr : ∀ k ∈ needs o, L k) (hl : l[p]? = some (.ex i f)) (hp : p < m)
    (hc : cls P o.op = .loud) {x : Value} {ρ' : Rho} {w' : World} {a' : Act} (hx : den ρ' (valAt P call ops l σ p) = some x) (hh : HR ρ' (σ (p + 1)).H w') (he : Ext ρ (σ p).H w ρ' (σ (p + 1)).H w')
    (ha : a'.tmps = (a.put o.dst x).tmps) (hd : DR ρ' (σ (p + 1)).D a'.defers) : Inv P call ops l σ m nt ρ0 H0 w0 N (fun j => L j ∨ j = i) (p + 1) ρ' a' w' := by
  obtain ⟨v1, v2, v3⟩ := I.step_vals t hi ho hl he.sub (fun _ _ => hx) ha
  have hnew : ∀ b, (σ (p + 1)).H.nx ≤ b → ρ' b = ρ b := fun b hb => he.new b (.inr hb)
  have hm1 := t.Hmono p (p + 1) (by omega) (by omega)
  have hm2 := t.Hmono (p + 1) m (by omega) (Nat.le_refl _)
  refine ⟨by omega, fun p' j f' o' h1 h2 h3 h4 => ?_, fun p' j f' o' h1 h2 h3 h4 h5 => ?_, fun j hj => ?_, I.clo' ho hr, hh, I.gk.mono he.sub, hd, v1, v2, v3,
    fun p' j f' o' B' h1 h2 h3 h4 h5 h6 h7 => ?_, fun b b' pl pl' h1 h2 h3 h4 hne hb hb' => ?_, fun b h1 h2 h3 => ?_, ?_, fun r hr => if e : r = p then e ▸ I.hr.lt else I.hb r (by omega)⟩
  · by_cases e : p' = p
    · subst e; rw [hl] at h2; injection h2 with h2; injection h2 with h2 _; exact .inr h2.symm
    · exact .inl (I.below p' j f' o' (by omega) h2 h3 h4)
  · rcases h5 with h5 | rfl
    · exact I.above p' j f' o' (by omega) h2 h3 h4 h5
    · have := t.uniq hl h2; omega
  · rcases hj with hj | rfl
    · exact I.posn j hj
    · exact ⟨p, f, hp, hl⟩
  · have hj : L j := by
      rcases h6 with h6 | rfl
      · exact h6
      · have := t.uniq hl h3; omega
    obtain ⟨pl, g1, g2, g3, g4, g5⟩ := I.pend p' j f' o' B' (by omega) h2 h3 h4 h5 hj h7
    have hid := t.Hmono (p + 1) p' h1 (by omega)
    have hno : ¬ own ρ (σ p).H pl.blk := by rintro ⟨b, C, r, hb, hr', hrc, _⟩; exact g3 b C r hb hr' hrc
    refine ⟨pl, by rw [hnew _ hid]; exact g1, g2.same he.sub (he.keep _ g4 hno), fun b C r hb hr' hrc => ?_, Nat.lt_of_lt_of_le g4 he.size, g5⟩
    by_cases hwC : wr C
    · rcases he.own pl.blk ⟨b, C, r, hb, hr', hrc, hwC⟩ with h | h
      · exact hno h
      · omega
    · have hb' := he.ro b C hb hwC
      obtain ⟨r0, h0, _⟩ := I.hr.blk b C hb'
      rw [he.sub b r0 h0] at hr'; injection hr' with hr'; subst hr'
      exact g3 b C r0 hb' h0 hrc
  · rw [hnew b h1] at hb; rw [hnew b' h3] at hb'
    exact I.diff b b' pl pl' (by omega) h2 (by omega) h4 hne hb hb'
  · rw [hnew b h1] at h3
    obtain ⟨p', j, f', o', k1, k2, k3, k4, k5, k6, k7⟩ := I.free b (by omega) h2 h3
    have : p' ≠ p := fun e => by
      subst e
      rw [hl] at k3; injection k3 with k3; injection k3 with k3 _; subst k3
      rw [ho] at k4; injection k4 with k4; subst k4
      rw [hc] at k5; cases k5
    exact ⟨p', j, f', o', by omega, k2, k3, k4, k5, .inl k6, k7⟩
  · have M := I.mid
    refine ⟨M.sub.trans he.sub, fun b hb => ?_, Nat.le_trans M.nx hm1, Nat.le_trans M.size he.size, fun c hc' hno => ?_, fun c hc' => ?_, fun b B hb hwB => M.ro b B (he.ro b B hb hwB) hwB, he.os.trans M.os, he.tape.trans M.tape, he.output.trans M.output⟩
    · have := M.nx
      rw [he.new b (by omega)]; exact M.new b hb
    · rw [he.keep c (Nat.lt_of_lt_of_le hc' M.size) (fun h => by rcases M.own c h with h | h; exact hno h; omega)]
      exact M.keep c hc' hno
    · rcases he.own c hc' with h | h
      · exact M.own c h
      · exact .inr (Nat.le_trans M.size h)
end
end Eng
end Go.Proofs.YtbdhainbcfobeaaGreatDoor
