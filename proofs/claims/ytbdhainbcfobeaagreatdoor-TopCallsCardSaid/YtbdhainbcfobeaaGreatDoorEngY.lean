/-
  THE ENGINE, part Y: the trace of a region that draws: its slots and its heap.
-/
import Derived.Test.YtbdhainbcfobeaaGreatDoorEngX
namespace Go.Proofs.YtbdhainbcfobeaaGreatDoor
namespace Eng
open Go
section
variable {P : Program} {call : CallF} {ops : Array Oper} {l : List Mv} {σ : Nat → St} {m : Nat} {nt : Nat}

theorem dig {i : Nat} {o : Oper} (h : ops[i]? = some o) : (digest P ops)[i]? = some ⟨cls P o.op, needs o, o.dst, Oper.looksAt ops o⟩ := by
  simp [digest, h]
theorem dig_inv {i : Nat} {d : ON} (h : (digest P ops)[i]? = some d) : ∃ o, ops[i]? = some o ∧ d = ⟨cls P o.op, needs o, o.dst, Oper.looksAt ops o⟩ := by
  simp only [digest, List.getElem?_map, Array.getElem?_toList] at h
  cases ho : ops[i]? with
  | none => rw [ho] at h; cases h
  | some o => rw [ho] at h; simp at h; exact ⟨o, rfl, h.symm⟩
theorem dig_len : (digest P ops).length = ops.size := by simp [digest]

/-- a region's trace -/
structure Tra (P : Program) (call : CallF) (ops : Array Oper) (l : List Mv) (σ : Nat → St) (m : Nat) (nt : Nat) : Prop where
  ok : planOK (digest P ops) (reach (digest P ops) []) l = true
  st : ∀ r mv, r < m → l[r]? = some mv → Step P call ops mv (σ r) (σ (r + 1))
  le : m ≤ l.length
  en : m = l.length ∨ ∃ i f, l[m]? = some (.ex i f)
  op : ∀ o ∈ ops.toList, opOK P nt o = true
  mc : MC call
/-- one waits for the other -/
def Bf (P : Program) (ops : Array Oper) (i j : Nat) : Prop := bef (reach (digest P ops) []) i j = true
/-- the value at a place of the plan -/
def valAt (P : Program) (call : CallF) (ops : Array Oper) (l : List Mv) (σ : Nat → St) (p : Nat) : AV := match l[p]? with
  | some (.ex i _) => (match ops[i]? with
    | some o => (match want ops o.guard (σ p).T with
      | some true => (match oper P call o.op (σ p).T (σ p).H with | .val v _ => v | _ => undefA)
      | _ => undefA)
    | none => undefA)
  | _ => undefA

theorem Tra.edges (h : Tra P call ops l σ m nt) : edgesOk (digest P ops) = true := by have := h.ok; simp only [planOK, Bool.and_eq_true] at this; exact this.1.1
theorem Tra.pairs (h : Tra P call ops l σ m nt) : pairsOk (digest P ops) (reach (digest P ops) []) = true := by have := h.ok; simp only [planOK, Bool.and_eq_true] at this; exact this.1.2
theorem Tra.walk (h : Tra P call ops l σ m nt) : walk (digest P ops) (reach (digest P ops) []) l [] = true := by have := h.ok; simp only [planOK, Bool.and_eq_true] at this; exact this.2
theorem Tra.opk (h : Tra P call ops l σ m nt) {i : Nat} {o : Oper} (ho : ops[i]? = some o) : opOK P nt o = true := h.op o (Array.mem_toList_iff.2 (Array.mem_of_getElem? ho))
/-- what has been done ahead of a place of the plan -/
def Dn' (l : List Mv) (p j : Nat) : Prop := ∃ p', p' < p ∧ ∃ f, l[p']? = some (.ex j f)
theorem dn_iff {p j : Nat} : Dn [] l p j ↔ Dn' l p j := by simp [Dn, Dn']
theorem Tra.ex (h : Tra P call ops l σ m nt) {p i : Nat} {f : Bool} (hp : l[p]? = some (.ex i f)) : ∃ o, ops[i]? = some o ∧ ¬ Dn' l p i ∧ (∀ k ∈ needs o, Dn' l p k) ∧
    (cls P o.op = .loud → ∀ j o', ops[j]? = some o' → j ≠ i → (Dn' l p j → Bf P ops j i ∨ cls P o'.op = .pure ∨ (cls P o'.op = .read ∧ j ∈ cksOf (l.drop (p + 1)))) ∧
        (¬ Dn' l p j → Bf P ops i j ∨ cls P o'.op = .pure ∨ cls P o'.op = .make)) ∧
    (f = true → ∀ j, j < ops.size → j ≠ i → Dn' l p j ∨ Bf P ops i j) := by
  obtain ⟨d, h1, h2, h3, h4, h5, h6⟩ := walk_at l [] p i f h.walk hp
  obtain ⟨o, ho, rfl⟩ := dig_inv h1
  simp only [dn_iff] at h2 h3 h5 h6
  refine ⟨o, ho, h2, h3, fun hl j o' hj hne => ?_, fun hf j hj hne => h6 hf j (by rw [dig_len]; exact hj) hne⟩
  have := h5 hl j (by rw [dig_len]; exact (Array.getElem?_eq_some_iff.1 hj).1) hne
  rw [clOf_eq (dig (P := P) hj)] at this
  exact this
theorem Tra.uniq (h : Tra P call ops l σ m nt) {p p' i : Nat} {f f' : Bool} (h1 : l[p]? = some (.ex i f)) (h2 : l[p']? = some (.ex i f')) : p = p' := by
  rcases Nat.lt_trichotomy p p' with hlt | he | hlt
  · obtain ⟨_, _, hn, _⟩ := h.ex h2; exact absurd ⟨p, hlt, f, h1⟩ hn
  · exact he
  · obtain ⟨_, _, hn, _⟩ := h.ex h1; exact absurd ⟨p', hlt, f', h2⟩ hn
theorem Tra.bf_lt (h : Tra P call ops l σ m nt) : ∀ j i, Bf P ops i j → i < j := by
  intro j
  induction j using Nat.strongRecOn with
  | _ j ih =>
    intro i hb
    have hjl : j < (digest P ops).length := by
      rcases Nat.lt_or_ge j (digest P ops).length with h' | h'
      · exact h'
      · have h2 := (reach_pre (digest P ops) []).2
        simp at h2
        unfold Bf bef at hb
        rw [List.getD_eq_getElem?_getD, List.getElem?_eq_none (by omega)] at hb
        simp at hb
    obtain ⟨k, hk, h'⟩ := (bef_iff h.edges (List.getElem?_eq_getElem hjl)).1 hb
    have hkj := edge_lt h.edges (List.getElem?_eq_getElem hjl) hk
    rcases h' with rfl | h'
    · exact hkj
    · have := ih k hkj i h'; omega
/-- a set that is closed under the edges -/
def Clo (ops : Array Oper) (L : Nat → Prop) : Prop := ∀ j o k, L j → ops[j]? = some o → k ∈ needs o → L k
theorem Tra.closed (h : Tra P call ops l σ m nt) {L : Nat → Prop} (hc : Clo ops L) {i j : Nat} (hb : Bf P ops i j) (hj : L j) : L i := by
  refine bef_closed h.edges (fun j d k hj hd hk => ?_) j i hb hj
  obtain ⟨o, ho, rfl⟩ := dig_inv hd
  exact hc j o k hj ho hk
theorem Dn'.mono {p p' j : Nat} (h : Dn' l p j) (hp : p ≤ p') : Dn' l p' j := by obtain ⟨q, h1, f, h2⟩ := h; exact ⟨q, by omega, f, h2⟩
theorem Tra.clo_dn (h : Tra P call ops l σ m nt) (p : Nat) : Clo ops (Dn' l p) := by
  rintro j o k ⟨p', hp, f, hf⟩ ho hk
  obtain ⟨o', ho', _, hn, _⟩ := h.ex hf
  rw [ho] at ho'; injection ho' with ho'; subst ho'
  exact (hn k hk).mono (by omega)
/-- what one waits for is done ahead of it -/
theorem Tra.before (h : Tra P call ops l σ m nt) {p i j : Nat} {f : Bool} (hp : l[p]? = some (.ex i f)) (hb : Bf P ops j i) : Dn' l p j := by
  have hc : Clo ops (Dn' l (p + 1)) := h.clo_dn (p + 1)
  obtain ⟨p', h1, f', h2⟩ := h.closed hc hb ⟨p, by omega, f, hp⟩
  rcases Nat.lt_or_ge p' p with hlt | hge
  · exact ⟨p', hlt, f', h2⟩
  · have : p' = p := by omega
    subst this
    rw [hp] at h2; injection h2 with h2; injection h2 with h2 _; subst h2
    have := h.bf_lt _ _ hb; omega
/-- two operations: ordered, or apart; never the same slot -/
theorem Tra.pair (h : Tra P call ops l σ m nt) {i j : Nat} {o o' : Oper} (hi : ops[i]? = some o) (hj : ops[j]? = some o') (hne : i ≠ j) :
    (∀ t, o.dst = some t → o'.dst ≠ some t) ∧ (Bf P ops i j ∨ Bf P ops j i ∨ ((∀ t, o.dst = some t → t ∉ Oper.looksAt ops o') ∧ ∀ t, o'.dst = some t → t ∉ Oper.looksAt ops o)) := by
  rcases Nat.lt_or_gt_of_ne hne with hlt | hgt
  · obtain ⟨h1, h2⟩ := pair_at h.pairs hlt (dig (P := P) hi) (dig (P := P) hj)
    exact ⟨h1, h2.elim .inl fun h => .inr (.inr h)⟩
  · obtain ⟨h1, h2⟩ := pair_at h.pairs hgt (dig (P := P) hj) (dig (P := P) hi)
    exact ⟨fun t ht he => h1 t he ht, h2.elim (fun h => .inr (.inl h)) fun h => .inr (.inr ⟨h.2, h.1⟩)⟩

/-! ### the slots -/
theorem Tra.stepT (h : Tra P call ops l σ m nt) {p i : Nat} {f : Bool} {o : Oper} (hp : p < m) (hl : l[p]? = some (.ex i f)) (ho : ops[i]? = some o) : (σ (p + 1)).T = setT o.dst (valAt P call ops l σ p) (σ p).T := by
  have hs := h.st p _ hp hl
  unfold valAt
  rw [hl]
  simp only [ho]
  generalize σ (p + 1) = S' at hs
  generalize σ p = S at hs
  cases hs with
  | skip ho' hw => rw [ho] at ho'; injection ho' with ho'; subst ho'; simp only [hw]
  | val ho' hw hv => rw [ho] at ho'; injection ho' with ho'; subst ho'; simp only [hw, hv]
  | dfr ho' hw hv => rw [ho] at ho'; injection ho' with ho'; subst ho'; simp only [hw, hv]
theorem Tra.stepC (h : Tra P call ops l σ m nt) {p i : Nat} (hp : p < m) (hl : l[p]? = some (.ck i)) : σ (p + 1) = σ p := by
  have hs := h.st p _ hp hl
  generalize σ (p + 1) = S' at hs
  generalize σ p = S at hs
  cases hs; rfl
theorem Tra.get (h : Tra P call ops l σ m nt) {p : Nat} (hp : p < m) : ∃ mv, l[p]? = some mv := ⟨_, List.getElem?_eq_getElem (Nat.lt_of_lt_of_le hp h.le)⟩
theorem Tra.T_old (h : Tra P call ops l σ m nt) {t : Tmp} : ∀ r, r ≤ m → (∀ p j f o, p < r → l[p]? = some (.ex j f) → ops[j]? = some o → o.dst ≠ some t) → (σ r).T.get (bits t) = (σ 0).T.get (bits t)
  | 0, _, _ => rfl
  | r + 1, hr, hn => by
    have ih := h.T_old r (by omega) fun p j f o hp => hn p j f o (by omega)
    obtain ⟨mv, hmv⟩ := h.get (p := r) (by omega)
    cases mv with
    | ck i => rw [h.stepC (by omega) hmv]; exact ih
    | ex i f =>
      obtain ⟨o, ho, _⟩ := h.ex hmv
      rw [h.stepT (by omega) hmv ho, get_setT, if_neg (hn r i f o (by omega) hmv ho)]
      exact ih
theorem Tra.T_new (h : Tra P call ops l σ m nt) {t : Tmp} {p j : Nat} {f : Bool} {o : Oper} (hl : l[p]? = some (.ex j f)) (ho : ops[j]? = some o) (ht : o.dst = some t) : ∀ r, r ≤ m → p < r → (σ r).T.get (bits t) = some (valAt P call ops l σ p)
  | 0, _, hp => by omega
  | r + 1, hr, hp => by
    obtain ⟨mv, hmv⟩ := h.get (p := r) (by omega)
    by_cases he : p = r
    · subst he
      rw [h.stepT (by omega) hl ho, get_setT, if_pos ht]
    · have ih := h.T_new hl ho ht r (by omega) (by omega)
      cases mv with
      | ck i => rw [h.stepC (by omega) hmv]; exact ih
      | ex i f' =>
        obtain ⟨o', ho', hn, _⟩ := h.ex hmv
        have hne : j ≠ i := fun e => hn ⟨p, by omega, f, e ▸ hl⟩
        rw [h.stepT (by omega) hmv ho', get_setT, if_neg ((h.pair ho ho' hne).1 t ht)]
        exact ih

/-! ### the part of the slots that is looked at -/
def restr : List Tmp → Tm → Tm
  | [], _ => .lf
  | t :: ts, T => match T.get (bits t) with
    | some v => (restr ts T).set (bits t) (some v)
    | none => restr ts T
theorem get_restr (T : Tm) (t : Tmp) : ∀ ts : List Tmp, (restr ts T).get (bits t) = if t ∈ ts then T.get (bits t) else none
  | [] => by simp [restr, Tr.get_lf]
  | u :: ts => by
    have ih := get_restr T t ts
    simp only [restr]
    by_cases hu : u = t
    · subst hu
      split
      · rename_i v hv; rw [Tr.get_set_bits, if_pos rfl, if_pos (by simp), hv]
      · rename_i hv
        rw [ih, if_pos (List.mem_cons_self ..)]
        split
        · rfl
        · exact hv.symm
    · have hm : (t ∈ u :: ts) = (t ∈ ts) := by simp [Ne.symm hu]
      split
      · rw [Tr.get_set_bits, if_neg hu, ih]; simp only [hm]
      · rw [ih]; simp only [hm]
theorem looks_op {o : Oper} {t : Tmp} (h : .tmp t ∈ o.op.operands) : t ∈ Oper.looksAt ops o :=
  List.mem_append_left _ (List.mem_filterMap.2 ⟨.tmp t, by simpa using h, rfl⟩)
theorem looks_guard {o : Oper} {j : Nat} {wv : Bool} {t : Tmp} (hg : o.guard = some (j, wv)) (h : (ops[j]?).bind (·.dst) = some t) : t ∈ Oper.looksAt ops o := by
  refine List.mem_append_right _ ?_
  rw [hg]
  simp [h]
theorem oper_restr {o : Oper} {T : Tm} {call' : CallF} : oper P call' o.op T = oper P call' o.op (restr (Oper.looksAt ops o) T) :=
  oper_congr fun t ht => by rw [get_restr, if_pos (looks_op ht)]
theorem want_congr {o : Oper} {T T' : Tm} (h : ∀ t ∈ Oper.looksAt ops o, T.get (bits t) = T'.get (bits t)) : want ops o.guard T = want ops o.guard T' := by
  unfold want
  cases hg : o.guard with
  | none => rfl
  | some jw =>
    obtain ⟨j, wv⟩ := jw
    simp only
    cases hd : (ops[j]?).bind (·.dst) with
    | none => rfl
    | some t => simp only; rw [h t (looks_guard hg hd)]
theorem oper_call {call call' : CallF} {o : Op} (hcl : cls P o = .read) {T : Tm} {H : Heap} : oper P call o T H = oper P call' o T H := by
  cases o <;> simp only [cls] at hcl <;> simp only [oper]
  case call c =>
    unfold oCall
    split
    · split
      · rfl
      · rename_i f hf
        obtain ⟨ca, cb, cc⟩ := c
        simp only at hf; subst hf; simp only [cls] at hcl; cases hcl
      · rfl
    · rfl
mutual
theorem AV.eq_of : ∀ (u v : AV), AV.eq u v = true → u = v
  | .bool a, v, h => by cases v <;> simp [AV.eq] at h; subst h; rfl
  | .int j a, v, h => by cases v <;> simp [AV.eq, ieq_eq] at h; obtain ⟨rfl, rfl⟩ := h; rfl
  | .str n x, v, h => by cases v <;> simp [AV.eq] at h; obtain ⟨rfl, rfl⟩ := h; rfl
  | .nilp, v, h => by cases v <;> simp [AV.eq] at h; rfl
  | .ptr b i, v, h => by cases v <;> simp [AV.eq] at h; obtain ⟨rfl, rfl⟩ := h; rfl
  | .nils, v, h => by cases v <;> simp [AV.eq] at h; rfl
  | .sl b i n c, v, h => by cases v <;> simp [AV.eq] at h; obtain ⟨⟨⟨rfl, rfl⟩, rfl⟩, rfl⟩ := h; rfl
  | .so b i n c, v, h => by cases v <;> simp [AV.eq] at h; obtain ⟨⟨⟨rfl, rfl⟩, rfl⟩, rfl⟩ := h; rfl
  | .se b i n c, v, h => by cases v <;> simp [AV.eq] at h; obtain ⟨⟨⟨rfl, rfl⟩, rfl⟩, rfl⟩ := h; rfl
  | .nilm, v, h => by cases v <;> simp [AV.eq] at h; rfl
  | .map b, v, h => by cases v <;> simp [AV.eq] at h; subst h; rfl
  | .fn f l, v, h => by cases v <;> simp [AV.eq] at h; obtain ⟨rfl, h⟩ := h; rw [AV.eqL_of _ _ h]
  | .nilf, v, h => by cases v <;> simp [AV.eq] at h; rfl
  | .nili, v, h => by cases v <;> simp [AV.eq] at h; rfl
  | .ifc t x, v, h => by cases v <;> simp [AV.eq] at h; obtain ⟨rfl, h⟩ := h; rw [AV.eq_of _ _ h]
  | .agg l, v, h => by cases v <;> simp [AV.eq] at h; rw [AV.eqL_of _ _ h]
  | .tup l, v, h => by cases v <;> simp [AV.eq] at h; rw [AV.eqL_of _ _ h]
theorem AV.eqL_of : ∀ (l m : List AV), AV.eqL l m = true → l = m
  | [], m, h => by cases m <;> simp [AV.eqL] at h; rfl
  | u :: l, m, h => by cases m <;> simp [AV.eqL] at h; rw [AV.eq_of _ _ h.1, AV.eqL_of _ _ h.2]
end

/-! ### the heap along the plan -/
theorem Tra.Hmono (h : Tra P call ops l σ m nt) : ∀ r r', r ≤ r' → r' ≤ m → (σ r).H.nx ≤ (σ r').H.nx := by
  intro r r' hr
  induction hr with
  | refl => intro _; exact Nat.le_refl _
  | step hr ih =>
    rename_i k
    intro hk
    refine Nat.le_trans (ih (by omega)) ?_
    obtain ⟨mv, hmv⟩ := h.get (p := k) (by omega)
    have hs := h.st k mv (by omega) hmv
    generalize σ (k + 1) = S' at hs
    generalize σ k = S at hs
    cases hs with
    | ck => exact Nat.le_refl _
    | skip => exact Nat.le_refl _
    | val _ _ hv => exact oper_mono h.mc (.inl hv)
    | dfr => exact Nat.le_refl _
/-- a quiet place: the heap stays, and what is deferred -/
theorem Tra.quiet (h : Tra P call ops l σ m nt) {p i : Nat} {f : Bool} {o : Oper} (hp : p < m) (hl : l[p]? = some (.ex i f)) (ho : ops[i]? = some o) (hc : cls P o.op = .pure ∨ cls P o.op = .read) : (σ (p + 1)).H = (σ p).H ∧ (σ (p + 1)).D = (σ p).D := by
  have hs := h.st p _ hp hl
  generalize σ (p + 1) = S' at hs
  generalize σ p = S at hs
  cases hs with
  | skip => exact ⟨rfl, rfl⟩
  | val ho' hw hv =>
    rw [ho] at ho'; injection ho' with ho'; subst ho'
    refine ⟨?_, rfl⟩
    rcases hc with hc | hc
    · have := oper_any (H2 := S.H) hc hv; rw [hv] at this; injection this
    · have := oper_ext (H2 := S.H) hc (fun _ _ h => h) hv; rw [hv] at this; injection this
  | dfr ho' hw hv =>
    exfalso
    rw [ho] at ho'; injection ho' with ho'; subst ho'
    by_cases h1 : ∃ c, o.op = .defer c
    · obtain ⟨c, hoc⟩ := h1; rw [hoc] at hc; rcases hc with hc | hc <;> simp [cls] at hc
    · by_cases h2 : ∃ c, o.op = .call c
      · obtain ⟨c, hoc⟩ := h2
        rw [hoc] at hv
        simp only [oper] at hv
        rcases oCall_cases (P := P) (call := call) (c := c) (T := S.T) (H := S.H) with k | ⟨_, t, u, _, _, _, e⟩ | ⟨ys, f', g, l, _, _, _, e⟩ | ⟨_, e⟩
        · rw [hv] at k; exact k
        · rw [e] at hv; cases hv
        · rw [e] at hv; unfold ofCall at hv; split at hv <;> cases hv
        · rw [e] at hv; cases hv
      · by_cases h3 : ∃ x, o.op = .panic x
        · obtain ⟨x, hox⟩ := h3; rw [hox] at hc; rcases hc with hc | hc <;> simp [cls] at hc
        · have k := oper_MR (P := P) (call := call) (o := o.op) (fun c e => h2 ⟨c, e⟩) (fun c e => h1 ⟨c, e⟩) (fun x e => h3 ⟨x, e⟩) (T := S.T) (H := S.H)
          rw [hv] at k; exact k
/-- where memory is made: a block is pushed, or nothing -/
theorem Tra.makes (h : Tra P call ops l σ m nt) {p i : Nat} {f : Bool} {o : Oper} (hp : p < m) (hl : l[p]? = some (.ex i f)) (ho : ops[i]? = some o) (hc : cls P o.op = .make) : (σ (p + 1)).D = (σ p).D ∧
    ((want ops o.guard (σ p).T = some false ∧ (σ (p + 1)).H = (σ p).H) ∨
     (want ops o.guard (σ p).T = some true ∧ ∃ B, wr B ∧ (σ (p + 1)).H = ⟨(σ p).H.bl.set (bits (σ p).H.nx) (some B), (σ p).H.nx + 1⟩ ∧ oper P call o.op (σ p).T (σ p).H = .val (valAt P call ops l σ p) (σ (p + 1)).H)) := by
  have hs := h.st p _ hp hl
  have hval : ∀ v H', want ops o.guard (σ p).T = some true → oper P call o.op (σ p).T (σ p).H = .val v H' → valAt P call ops l σ p = v := fun v H' hw hv => by
    unfold valAt; rw [hl]; simp only [ho, hw, hv]
  generalize σ (p + 1) = S' at hs
  cases hs with
  | skip ho' hw => rw [ho] at ho'; injection ho' with ho'; subst ho'; exact ⟨rfl, .inl ⟨hw, rfl⟩⟩
  | val ho' hw hv =>
    rw [ho] at ho'; injection ho' with ho'; subst ho'
    obtain ⟨B, h1, h2⟩ := oper_push hc hv
    exact ⟨rfl, .inr ⟨hw, B, h1, h2, by rw [hval _ _ hw hv]; exact hv⟩⟩
  | dfr ho' hw hv =>
    exfalso
    rw [ho] at ho'; injection ho' with ho'; subst ho'
    by_cases h1 : ∃ c, o.op = .defer c
    · obtain ⟨c, hoc⟩ := h1; rw [hoc] at hc; simp [cls] at hc
    · by_cases h2 : ∃ c, o.op = .call c
      · obtain ⟨c, hoc⟩ := h2
        rw [hoc] at hv
        simp only [oper] at hv
        rcases oCall_cases (P := P) (call := call) (c := c) (T := (σ p).T) (H := (σ p).H) with k | ⟨_, t, u, _, _, _, e⟩ | ⟨ys, f', g, l, _, _, _, e⟩ | ⟨_, e⟩
        · rw [hv] at k; exact k
        · rw [e] at hv; cases hv
        · rw [e] at hv; unfold ofCall at hv; split at hv <;> cases hv
        · rw [e] at hv; cases hv
      · by_cases h3 : ∃ x, o.op = .panic x
        · obtain ⟨x, hox⟩ := h3; rw [hox] at hc; simp [cls] at hc
        · have k := oper_MR (P := P) (call := call) (o := o.op) (fun c e => h2 ⟨c, e⟩) (fun c e => h1 ⟨c, e⟩) (fun x e => h3 ⟨x, e⟩) (T := (σ p).T) (H := (σ p).H)
          rw [hv] at k; exact k
end
end Eng
end Go.Proofs.YtbdhainbcfobeaaGreatDoor
