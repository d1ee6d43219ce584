/-
  THE ENGINE, part ZC: a region that draws is sound; the whole is sound.
-/
import Derived.Test.YtbdhainbcfobeaaGreatDoorEngZB
namespace Go.Proofs.YtbdhainbcfobeaaGreatDoor
namespace Eng
open Go
section
variable {P : Program} {call : CallF} {ops : Array Oper} {l : List Mv} {σ : Nat → St} {m : Nat} {nt : Nat}
variable {ρ0 : Rho} {H0 : Heap} {w0 : World} {N : Nat} {L : Nat → Prop} {q : Nat} {ρ : Rho} {a : Act} {w : World}

/-- how many are not listed -/
def left (listed : Array Bool) : Nat → Nat
  | 0 => 0
  | n + 1 => (if listed.getD n false = true then 0 else 1) + left listed n
theorem getD_set {listed : Array Bool} {i j : Nat} (hi : i < listed.size) : (listed.setIfInBounds i true).getD j false = true ↔ (listed.getD j false = true ∨ j = i) := by
  by_cases e : i = j
  · subst e; simp [hi]
  · rw [getD_set_ne false e]; simp [Ne.symm e]
theorem left_set {listed : Array Bool} {i : Nat} (hi : i < listed.size) (hn : listed.getD i false ≠ true) : ∀ n, left (listed.setIfInBounds i true) n + (if i < n then 1 else 0) = left listed n
  | 0 => by simp [left]
  | n + 1 => by
    have ih := left_set hi hn n
    simp only [left]
    have h := getD_set (listed := listed) (j := n) hi
    by_cases e : n = i
    · subst e
      rw [if_pos (h.2 (.inr rfl)), if_neg hn, if_pos (by omega)]
      rw [if_neg (by omega)] at ih
      omega
    · have : (listed.setIfInBounds i true).getD n false = true ↔ listed.getD n false = true := by rw [h]; simp [e]
      by_cases hl : listed.getD n false = true
      · rw [if_pos (this.2 hl), if_pos hl]
        by_cases h2 : i < n
        · rw [if_pos h2] at ih; rw [if_pos (by omega)]; omega
        · rw [if_neg h2] at ih; rw [if_neg (by omega)]; omega
      · rw [if_neg (fun h => hl (this.1 h)), if_neg hl]
        by_cases h2 : i < n
        · rw [if_pos h2] at ih; rw [if_pos (by omega)]; omega
        · rw [if_neg h2] at ih; rw [if_neg (by omega)]; omega
theorem left_zero {listed : Array Bool} : ∀ n, left listed n = 0 → ∀ j, j < n → listed.getD j false = true
  | 0, _, j, hj => by omega
  | n + 1, h, j, hj => by
    simp only [left] at h
    by_cases e : j = n
    · subst e
      by_cases hl : listed.getD j false = true
      · exact hl
      · rw [if_neg hl] at h; omega
    · exact left_zero n (by omega) j (by omega)
theorem left_rep (k : Nat) : ∀ n, left (Array.replicate k false) n ≤ n
  | 0 => Nat.le_refl _
  | n + 1 => by
    have := left_rep k n
    simp only [left]
    split <;> omega
theorem Mid.ext {H1 : Heap} (h : Mid ρ0 H0 w0 ρ H1 w H1.nx) : Ext ρ0 H0 w0 ρ H1 w := ⟨h.sub, h.new, h.nx, h.size, h.keep, h.own, h.ro, h.os, h.tape, h.output⟩
theorem get_clearD (s : Tmp) : ∀ (os : List Oper) (T : Tm), (clearD os T).get (bits s) = if ∃ o ∈ os, o.dst = some s then none else T.get (bits s)
  | [], T => by simp [clearD]
  | o :: os, T => by
    rw [clearD, get_clearD s os]
    by_cases h : ∃ o ∈ os, o.dst = some s
    · rw [if_pos h, if_pos]
      obtain ⟨o', h1, h2⟩ := h; exact ⟨o', by simp [h1], h2⟩
    · rw [if_neg h]
      cases hd : o.dst with
      | none =>
        rw [if_neg]
        rintro ⟨o', h1, h2⟩
        rcases List.mem_cons.1 h1 with rfl | h1
        · rw [hd] at h2; cases h2
        · exact h ⟨o', h1, h2⟩
      | some t =>
        simp only [Tr.get_set_bits]
        by_cases e : t = s
        · rw [if_pos e, if_pos ⟨o, by simp, by rw [hd, e]⟩]
        · rw [if_neg e, if_neg]
          rintro ⟨o', h1, h2⟩
          rcases List.mem_cons.1 h1 with rfl | h1
          · rw [hd] at h2; injection h2 with h2; exact e h2
          · exact h ⟨o', h1, h2⟩
theorem pan_loud {o : Op} {T : Tm} {H H' : Heap} {v : AV} (h : oper P call o T H = .pan v H') : cls P o = .loud := by
  by_cases h2 : ∃ c, o = .call c
  · obtain ⟨c, rfl⟩ := h2
    simp only [oper] at h
    obtain ⟨ca, cb, cc⟩ := c
    rcases oCall_cases (P := P) (call := call) (c := ⟨ca, cb, cc⟩) (T := T) (H := H) with k | ⟨_, t, u, _, hb, _, e⟩ | ⟨ys, f', g, l, _, hc, _, e⟩ | ⟨_, e⟩
    · rw [h] at k; exact k.elim
    · simp only at hb; subst hb; simp [cls]
    · simp only at hc; subst hc; simp [cls]
    · rw [e] at h; cases h
  · by_cases h1 : ∃ c, o = .defer c
    · obtain ⟨c, rfl⟩ := h1; simp [cls]
    · by_cases h3 : ∃ x, o = .panic x
      · obtain ⟨x, rfl⟩ := h3; simp [cls]
      · have k := oper_MR (P := P) (call := call) (o := o) (fun c e => h2 ⟨c, e⟩) (fun c e => h1 ⟨c, e⟩) (fun x e => h3 ⟨x, e⟩) (T := T) (H := H)
        rw [h] at k; exact k.elim
/-- to a write's place: all that it waits for has been done -/
theorem Inv.toLoud (t : Tra P call ops l σ m nt) (hN : (σ m).H.nx ≤ N) (I : Inv P call ops l σ m nt ρ0 H0 w0 N L q ρ a w) {i p : Nat} {f : Bool} {o : Oper} (hi : ¬ L i) (ho : ops[i]? = some o) (hr : ∀ k ∈ needs o, L k) (hl : l[p]? = some (.ex i f)) (hp : p ≤ m) (hqp : q ≤ p)
    (hc : cls P o.op = .loud) : Inv P call ops l σ m nt ρ0 H0 w0 N L p ρ a w := by
  refine I.advTo t hN p hqp hp fun p' i' f' o' h1 h2 h3 h4 h5 => ?_
  have hne : i' ≠ i := fun e => by subst e; have := t.uniq hl h3; omega
  obtain ⟨o2, ho2, _, _, hloud, _⟩ := t.ex hl
  rw [ho] at ho2; injection ho2 with ho2; subst ho2
  rcases (hloud hc i' o' h4 hne).1 ⟨p', h2, f', h3⟩ with hb | hb | hb
  · exact I.bef t ho hr hb
  · rcases h5 with h5 | h5 <;> rw [h5] at hb <;> cases hb
  · rcases h5 with h5 | h5 <;> rw [h5] at hb <;> cases hb.1
theorem Inv.fresh (t : Tra P call ops l σ m nt) (hN : (σ m).H.nx ≤ N) {p : Nat} (I : Inv P call ops l σ m nt ρ0 H0 w0 N L p ρ a w) {i : Nat} {f : Bool} {o : Oper} (ho : ops[i]? = some o) (hl : l[p]? = some (.ex i f)) (hc : cls P o.op = .loud) {H' : Heap} (hH : H'.nx ≤ N)
    (hn : p < m → H'.nx ≤ (σ (p + 1)).H.nx) : Fresh ρ (σ p).H H' := by
  intro b h1 h2
  cases hb : ρ b with
  | none => rfl
  | some pl =>
    exfalso
    obtain ⟨p', i', f', o', k1, k2, k3, k4, k5, k6, k7, k8⟩ := I.free b h1 (by omega) (by rw [hb]; simp)
    have hne : p' ≠ p := fun e => by
      subst e
      rw [hl] at k3; injection k3 with k3; injection k3 with k3 _; subst k3
      rw [ho] at k4; injection k4 with k4; subst k4
      rw [hc] at k5; cases k5
    have := hn (by omega)
    have := t.Hmono (p + 1) p' (by omega) (by omega)
    omega

theorem draw_any (hC : CallOK P call) (t : Tra P call ops l σ m nt) {e : Ex} {S' : St} (hfin : (m = l.length ∧ e = .normal ∧ S' = σ m) ∨
       (∃ i o v H', l[m]? = some (.ex i true) ∧ ops[i]? = some o ∧ want ops o.guard (σ m).T = some true ∧ oper P call o.op (σ m).T (σ m).H = .pan v H' ∧ e = .panic v ∧ S' = ⟨clearD ops.toList (σ m).T, H', (σ m).D⟩))
    (hN : (σ m).H.nx ≤ S'.H.nx) {Q : Exit → Act → World → Prop} (hQ : ∀ x a' w', Post P nt ρ0 H0 w0 e S' x a' w' → Q x a' w') : ∀ (fuel : Nat) (listed : Array Bool) (q : Nat) (ρ : Rho) (a : Act) (w : World), listed.size = ops.size → left listed ops.size ≤ fuel →
    Inv P call ops l σ m nt ρ0 H0 w0 S'.H.nx (fun j => listed.getD j false = true) q ρ a w → wpAny P .any ops Q fuel listed a w := by
  -- all done
  have done : ∀ (listed : Array Bool) (q : Nat) (ρ : Rho) (a : Act) (w : World), (∀ j, j < ops.size → listed.getD j false = true) → Inv P call ops l σ m nt ρ0 H0 w0 S'.H.nx (fun j => listed.getD j false = true) q ρ a w → Q .normal a w := by
    intro listed q ρ a w hall I
    have hex : ∀ {p i : Nat} {f : Bool}, l[p]? = some (Mv.ex i f) → listed.getD i false = true := fun {p i f} hl => by
      obtain ⟨o, ho, _⟩ := t.ex hl
      exact hall i (Array.getElem?_eq_some_iff.1 ho).1
    rcases hfin with ⟨_, rfl, rfl⟩ | ⟨i, o, v, H', hl, _⟩
    · have I' := I.advTo t hN m I.qm (Nat.le_refl _) fun p i f o _ _ hl _ _ => hex hl
      refine hQ _ _ _ ⟨ρ, trivial, ⟨I'.hr, fun s v hv => ?_, I'.dr, I'.sz, I'.gk⟩, I'.mid.ext⟩
      by_cases hw : ∃ p j f o, p < m ∧ l[p]? = some (.ex j f) ∧ ops[j]? = some o ∧ o.dst = some s
      · obtain ⟨p, j, f, o, h1, h2, h3, h4⟩ := hw
        rw [t.T_new h2 h3 h4 m (Nat.le_refl _) h1] at hv
        injection hv with hv; subst hv
        exact I'.vals p j f o s (hex h2) h1 h2 h3 h4
      · rw [t.T_old m (Nat.le_refl _) fun p j f o h1 h2 h3 h4 => hw ⟨p, j, f, o, h1, h2, h3, h4⟩] at hv
        refine I'.rest s v hv fun j o hj ho hd => ?_
        obtain ⟨p, f, hp, hl⟩ := I'.posn j hj
        exact hw ⟨p, j, f, o, hp, hl, ho, hd⟩
    · exfalso
      obtain ⟨p, f, hp, hl'⟩ := I.posn i (hex hl)
      have := t.uniq hl hl'; omega
  -- none is ready: all are done
  have none_ready : ∀ (listed : Array Bool), listed.size = ops.size → Region.ready .any ops listed = [] → ∀ j, j < ops.size → listed.getD j false = true := by
    intro listed hsz hr j
    induction j using Nat.strongRecOn with
    | _ j ih =>
      intro hj
      cases hl : listed.getD j false with
      | true => rfl
      | false =>
        exfalso
        have : j ∈ Region.ready .any ops listed := by
          rw [mem_ready]
          refine ⟨?_, ops[j], Array.getElem?_eq_getElem hj, fun e he hb => ?_⟩
          · have hjl : j < listed.size := by omega
            simpa [hjl] using hl
          · have hk : e.on ∈ needs ops[j] := by
              unfold needs
              exact List.mem_map.2 ⟨e, List.mem_filter.2 ⟨Array.mem_toList_iff.2 he, hb⟩, rfl⟩
            have := edge_lt t.edges (dig (P := P) (Array.getElem?_eq_getElem hj)) hk
            exact ih _ this (by omega)
        rw [hr] at this; cases this
  intro fuel
  induction fuel with
  | zero =>
    intro listed q ρ a w hsz hleft I
    have hall := left_zero ops.size (by omega : left listed ops.size = 0)
    refine ⟨?_, done listed q ρ a w hall I⟩
    rw [List.eq_nil_iff_forall_not_mem]
    intro j hj
    obtain ⟨h1, o, ho, _⟩ := mem_ready.1 hj
    have hj := (Array.getElem?_eq_some_iff.1 ho).1
    have h2 := hall j hj
    have hjl : j < listed.size := by omega
    simp [hjl] at h1 h2
    rw [h1] at h2; cases h2
  | succ fuel ih =>
    intro listed q ρ a w hsz hleft I
    refine ⟨fun hr => done listed q ρ a w (none_ready listed hsz hr) I, fun i hi => ?_⟩
    obtain ⟨h1, o, ho, hall⟩ := mem_ready.1 hi
    have hin := (Array.getElem?_eq_some_iff.1 ho).1
    have hil : i < listed.size := by omega
    have hiL : ¬ listed.getD i false = true := by simp [hil] at h1 ⊢; exact h1
    have hr : ∀ k ∈ needs o, listed.getD k false = true := fun k hk => by
      unfold needs at hk
      obtain ⟨e, he, rfl⟩ := List.mem_map.1 hk
      obtain ⟨he1, he2⟩ := List.mem_filter.1 he
      exact hall e (Array.mem_toList_iff.1 he1) he2
    have hg := opOK.g (t.opk ho)
    -- the rest
    have next : ∀ (q' : Nat) (ρ' : Rho) (a' : Act) (w' : World), Inv P call ops l σ m nt ρ0 H0 w0 S'.H.nx (fun j => listed.getD j false = true ∨ j = i) q' ρ' a' w' → wpAny P .any ops Q fuel (listed.setIfInBounds i true) a' w' := by
      intro q' ρ' a' w' I'
      refine ih _ q' ρ' a' w' (by simpa using hsz) ?_ ?_
      · have := left_set hil hiL ops.size
        rw [if_pos hin] at this; omega
      · have : (fun j => (listed.setIfInBounds i true).getD j false = true) = fun j => listed.getD j false = true ∨ j = i := by
          funext j; exact propext (getD_set hil)
        rw [this]; exact I'
    -- where it stands in the plan
    obtain ⟨p, hpl, f, hl⟩ : Dn' l l.length i := dn_iff.1 (walk_all l [] t.walk i (by rw [dig_len]; exact hin))
    unfold wpOp
    rw [ho]
    simp only
    have hpm : p ≤ m := by
      rcases hfin with ⟨h, _⟩ | ⟨i', o', v, H', hl', ho', _⟩
      · omega
      · rcases Nat.lt_or_ge m p with h | h
        · exfalso
          have hne : i ≠ i' := fun e => by subst e; have := t.uniq hl hl'; omega
          obtain ⟨o2, ho2, _, _, _, hf⟩ := t.ex hl'
          rcases hf rfl i hin hne with ⟨p2, hp2, f2, hl2⟩ | hb
          · have := t.uniq hl hl2; omega
          · obtain ⟨p2, f2, hp2, hl2⟩ := I.posn i' (I.bef t ho hr hb)
            have := t.uniq hl' hl2; omega
        · exact h
    have hT := I.opnd t hiL ho hr hl hpm
    have hqp : cls P o.op = .loud → q ≤ p := fun hc => by
      rcases Nat.lt_or_ge p q with h | h
      · exact absurd (I.below p i f o h hl ho (.inl hc)) hiL
      · exact h
    rcases Nat.lt_or_eq_of_le hpm with hp | rfl
    · have hstep := t.st p _ hp hl
      have hval : ∀ v H', want ops o.guard (σ p).T = some true → oper P call o.op (σ p).T (σ p).H = .val v H' → valAt P call ops l σ p = v := fun v H' hw hv => by
        unfold valAt; rw [hl]; simp only [ho, hw, hv]
      have hundef : (want ops o.guard (σ p).T = some false ∨ ∃ g xs, want ops o.guard (σ p).T = some true ∧ oper P call o.op (σ p).T (σ p).H = .dfr g xs) → valAt P call ops l σ p = undefA := fun h => by
        unfold valAt; rw [hl]; simp only [ho]
        rcases h with h | ⟨g, xs, h, h'⟩
        · rw [h]
        · rw [h, h']
      generalize hS' : σ (p + 1) = S1 at hstep
      cases hstep with
      | skip ho' hw =>
        rw [ho] at ho'; injection ho' with ho'; subst ho'
        rw [I.wanted t hiL ho hr hl hpm hw, if_neg (by simp)]
        have hx : den ρ (valAt P call ops l σ p) = some undef := by rw [hundef (.inl hw)]; exact den_undef ρ
        by_cases hc : cls P o.op = .loud
        · have I1 := I.toLoud t hN hiL ho hr hl hpm (hqp hc) hc
          refine next (p + 1) ρ _ w (I1.loud t hN hiL ho hr hl hp hc hx ?_ ?_ rfl ?_)
          · rw [hS']; exact I1.hr
          · rw [hS']; exact .refl _ _ _
          · rw [hS', Act.defers_put]; exact I1.dr
        · exact next q ρ _ w (I.quiet t hiL ho hr hl hp (fun _ _ => hx) hc fun _ => by rw [hS'])
      | dfr ho' hw hv =>
        rename_i g xs
        rw [ho] at ho'; injection ho' with ho'; subst ho'
        rw [I.wanted t hiL ho hr hl hpm hw, if_pos rfl]
        left
        have hx : den ρ (valAt P call ops l σ p) = some undef := by rw [hundef (.inr ⟨g, xs, hw, hv⟩)]; exact den_undef ρ
        have hc : cls P o.op = .loud := by
          by_cases h1 : ∃ c, o.op = .defer c
          · obtain ⟨c, hoc⟩ := h1; rw [hoc]; simp [cls]
          · exfalso
            by_cases h2 : ∃ c, o.op = .call c
            · obtain ⟨c, hoc⟩ := h2
              rw [hoc] at hv
              simp only [oper] at hv
              rcases oCall_cases (P := P) (call := call) (c := c) (T := (σ p).T) (H := (σ p).H) with k | ⟨_, t, u, _, _, _, e⟩ | ⟨ys, f', g, l, _, _, _, e⟩ | ⟨_, e⟩
              · rw [hv] at k; exact k
              · rw [e] at hv; cases hv
              · rw [e] at hv; unfold ofCall at hv; split at hv <;> cases hv
              · rw [e] at hv; cases hv
            · by_cases h3 : ∃ x, o.op = .panic x
              · obtain ⟨x, hox⟩ := h3
                rw [hox] at hv
                simp only [oper] at hv
                rcases oPanic_cases (x := x) (T := (σ p).T) (H := (σ p).H) with e | ⟨t, u, _, e⟩ <;> rw [e] at hv <;> cases hv
              · have k := oper_MR (P := P) (call := call) (o := o.op) (fun c e => h2 ⟨c, e⟩) (fun c e => h1 ⟨c, e⟩) (fun x e => h3 ⟨x, e⟩) (T := (σ p).T) (H := (σ p).H)
                rw [hv] at k; exact k
        have I1 := I.toLoud t hN hiL ho hr hl hpm (hqp hc) hc
        rw [oper_restr (ops := ops)] at hv
        refine (oper_wp hC hg hT I.gk I1.hr).2.1 _ _ hv fun d hd => ?_
        refine next (p + 1) ρ _ w (I1.loud t hN hiL ho hr hl hp hc hx ?_ ?_ ?_ ?_)
        · rw [hS']; exact I1.hr
        · rw [hS']; exact .refl _ _ _
        · exact put_defs _ _ _ _
        · rw [hS', Act.defers_put]; exact ⟨hd, I1.dr⟩
      | val ho' hw hv =>
        rename_i v H'
        rw [ho] at ho'; injection ho' with ho'; subst ho'
        rw [I.wanted t hiL ho hr hl hpm hw, if_pos rfl]
        left
        have hve := hval v H' hw hv
        have hH' : (σ (p + 1)).H = H' := by rw [hS']
        cases hc : cls P o.op with
        | bad => exact absurd hc (t.nobad hl ho)
        | pure =>
          rw [oper_restr (ops := ops)] at hv
          obtain ⟨_, x, hx, hrun⟩ := oper_pure hc hg hT I.gk (σ p).H v H' hv
          unfold Oper.wp
          rw [hrun w]
          exact next q ρ _ w (I.quiet t hiL ho hr hl hp (fun _ _ => by rw [hve]; exact hx) (by rw [hc]; simp) fun h => by rw [hc] at h; cases h)
        | read =>
          have hv2 : oper P call o.op (σ p).T (σ p).H = .val (valAt P call ops l σ p) H' := by rw [hve]; exact hv
          obtain ⟨u, ⟨x, hx, hrun⟩, hu⟩ := I.readv t hN hiL ho hr hl hp hc hw hv2
          unfold Oper.wp
          rw [hrun]
          exact next q ρ _ w (I.quiet t hiL ho hr hl hp (fun s hs => by rw [← hu s hs]; exact hx) (by rw [hc]; simp) fun h => by rw [hc] at h; cases h)
        | make =>
          rw [oper_restr (ops := ops)] at hv
          obtain ⟨B, hB, hwr, hmk⟩ := oper_make hc hg hT I.gk hv
          obtain ⟨x, w', obj, lim, hrun, hheap, hos, htp, hout, hden, hblk⟩ := hmk w
          unfold Oper.wp
          rw [hrun]
          exact next q _ _ w' (I.made t hN hiL ho hr hl hp hc hwr (by rw [hH']; exact hB) hheap hos htp hout (fun ρ' h1 h2 => by rw [hve]; exact hden ρ' h1 h2) hblk)
        | loud =>
          have I1 := I.toLoud t hN hiL ho hr hl hpm (hqp hc) hc
          have hmm := t.Hmono (p + 1) m (by omega) (Nat.le_refl _)
          have hfr : Fresh ρ (σ p).H H' := I1.fresh t hN ho hl hc (by rw [← hH']; omega) fun _ => by rw [hH']; exact Nat.le_refl _
          rw [oper_restr (ops := ops)] at hv
          refine (oper_wp hC hg hT I.gk I1.hr).1 v H' hv hfr fun ρ' x w' e1 e2 e3 => ?_
          refine next (p + 1) ρ' _ w' (I1.loud t hN hiL ho hr hl hp hc (by rw [hve]; exact e1) (by rw [hH']; exact e2) (by rw [hH']; exact e3) rfl ?_)
          rw [Act.defers_put]
          have : (σ (p + 1)).D = (σ p).D := by rw [hS']
          rw [this]
          exact I1.dr.mono e3.sub
    · -- the panic
      rcases hfin with ⟨h, _⟩ | ⟨i', o', v, H', hl', ho', hw, hv, rfl, rfl⟩
      · omega
      · rw [hl] at hl'; injection hl' with hl'; injection hl' with e1 _; subst e1
        rw [ho] at ho'; injection ho' with ho'; subst ho'
        rw [I.wanted t hiL ho hr hl hpm hw, if_pos rfl]
        left
        have hc := pan_loud hv
        have I1 := I.toLoud t hN hiL ho hr hl hpm (hqp hc) hc
        have hfr : Fresh ρ (σ p).H H' := I1.fresh t hN ho hl hc (Nat.le_refl _) fun h => by omega
        rw [oper_restr (ops := ops)] at hv
        refine (oper_wp hC hg hT I.gk I1.hr).2.2 v H' hv hfr fun ρ' chain w' e1 e2 e3 => hQ _ _ _ ⟨ρ', e1, ⟨e2, fun s u hu => ?_, I1.dr.mono e3.sub, I.sz, I.gk.mono e3.sub⟩, ?_⟩
        · rw [get_clearD] at hu
          by_cases hex : ∃ o ∈ ops.toList, o.dst = some s
          · rw [if_pos hex] at hu; cases hu
          · rw [if_neg hex] at hu
            have hno : ∀ (j : Nat) (o' : Oper), ops[j]? = some o' → o'.dst ≠ some s := fun j o' hj hd => hex ⟨o', Array.mem_toList_iff.2 (Array.mem_of_getElem? hj), hd⟩
            rw [t.T_old p hpm fun p' j f' o' _ _ h3 => hno j o' h3] at hu
            obtain ⟨y, h1, h2⟩ := I.rest s u hu fun j o' _ hj => hno j o' hj
            exact ⟨y, den_mono e3.sub _ y h1, h2⟩
        · have M := I1.mid
          have hm1 := e3.nx
          refine ⟨M.sub.trans e3.sub, fun b hb => ?_, Nat.le_trans M.nx hm1, Nat.le_trans M.size e3.size, fun c hc' hno => ?_, fun c hc' => ?_, fun b B hb hwB => M.ro b B (e3.ro b B hb hwB) hwB, e3.os.trans M.os, e3.tape.trans M.tape, e3.output.trans M.output⟩
          · have := M.nx
            have hb' : b < (σ p).H.nx ∨ H'.nx ≤ b := by rcases hb with hb | hb; exact .inl (by omega); exact .inr hb
            rw [e3.new b hb']; exact M.new b hb
          · rw [e3.keep c (Nat.lt_of_lt_of_le hc' M.size) (fun h => by rcases M.own c h with h | h; exact hno h; omega)]
            exact M.keep c hc' hno
          · rcases e3.own c hc' with h | h
            · exact M.own c h
            · exact .inr (Nat.le_trans M.size h)
theorem draw_ok (hC : CallOK P call) (hM : MC call) : DrawOK P call := by
  intro nt ops l S e S' ρ a w hops hpl h hR hF Q hQ
  have hok : planOK (digest P ops) (reach (digest P ops) []) l = true := by
    unfold planOf at hpl
    simp only at hpl
    split at hpl
    · rename_i pos _
      cases hb : planOK (digest P ops) (reach (digest P ops) []) pos with
      | true => rw [hb] at hpl; simp at hpl; subst hpl; exact hb
      | false => rw [hb] at hpl; cases hpl
    · cases hpl
  obtain ⟨σ, m, h0, hle, hst, hfin⟩ := drawR_trace l S e S' h
  have t : Tra P call ops l σ m nt := ⟨hok, hst, hle, by
    rcases hfin with ⟨h, _⟩ | ⟨i, o, v, H', hl, _⟩
    · exact .inl h
    · exact .inr ⟨i, true, hl⟩, hops, hM⟩
  have hN : (σ m).H.nx ≤ S'.H.nx := by
    rcases hfin with ⟨_, _, rfl⟩ | ⟨i, o, v, H', _, _, _, hv, _, rfl⟩
    · exact Nat.le_refl _
    · exact oper_mono hM (.inr hv)
  subst h0
  have hno : ∀ j, ¬ (Array.replicate ops.size false).getD j false = true := fun j h => by
    simp [Array.getElem?_replicate] at h
    split at h <;> simp at h
  refine draw_any (ρ0 := ρ) (H0 := (σ 0).H) (w0 := w) hC t hfin hN hQ ops.size _ 0 ρ a w (by simp) (left_rep _ _) ?_
  refine ⟨Nat.zero_le _, fun p i f o h => by omega, fun p i f o _ _ _ _ => hno i, fun j hj => absurd hj (hno j), fun j o k hj => absurd hj (hno j), hR.hr, hR.gk, hR.dr, fun p j f o t hj => absurd hj (hno j), fun t v hv _ => hR.tr t v hv, hR.sz,
    fun p i f o B _ _ _ _ _ hj => absurd hj (hno i), fun b b' pl pl' h1 h2 _ _ _ hb => ?_, fun b h1 h2 h3 => absurd (hF b h1 h2) h3, ⟨.refl ρ, fun _ _ => rfl, Nat.le_refl _, Nat.le_refl _, fun _ _ _ => rfl, fun _ h => .inl h, fun _ _ h _ => h, rfl, rfl, rfl⟩, fun r h => by omega⟩
  rw [hF b h1 h2] at hb; cases hb
end
/-- THE ENGINE IS SOUND. -/
theorem level_ok {P : Program} (hP : progOK P = true) (hfol : P.follows .mixedOrders = true) : ∀ n, CallOK P (callF P n) ∧ MC (callF P n) ∧ MX (exec P n) ∧ ∀ nt c, codeOK P nt c = true → SoundC P nt (exec P n) c
  | 0 => by
    refine ⟨fun f xs H h => absurd rfl h, fun f xs H => trivial, fun c S e S' h => ?_, fun nt c _ S e S' ρ a w Q h => ?_⟩
    · cases h
    · cases h
  | n + 1 => by
    obtain ⟨h1, h2, h3, h4⟩ := level_ok hP hfol n
    have g1 := callB_ok hP h1 h2 h3 h4
    have g2 := callB_mono (P := P) h2 h3
    exact ⟨g1, g2, stepC_mono g2 h3, fun nt c hc => stepC_wp g1 g2 (draw_ok g1 g2) hfol h3 (h4 nt) c hc⟩
end Eng
end Go.Proofs.YtbdhainbcfobeaaGreatDoor
