/-
  THE ENGINE, part FD: what the kernel's steps mean: memory, rows, maps.
-/
import Derived.Test.YtbdhainbcfobeaaGreatDoorEngFC
namespace Go.Proofs.YtbdhainbcfobeaaGreatDoor
namespace Eng
open Go
variable {P : Program}

/-! ### memory -/
theorem loadC_ok {p : Option Plc} {v : AV} {B : Bl} {n : Nat} {k : KH} (h : runB (loadC p) v B n k = .yes) :
    ∃ q b i w, p = some q ∧ v = .ptr b i ∧ (∀ m, loadR ⟨B, m⟩ b i q.agg q.sz = .val w ⟨B, m⟩) ∧ k w B n = .yes := by
  rcases p with _ | ⟨off, _ | _, z⟩
  · cases h
  · replace h : ptrK v (fun b i => blkK B b fun K => cellsK K fun t _ _ _ => getK (path i) t fun v => k v B n) = .yes := h
    simp only [ptrK_yes] at h
    obtain ⟨b, i, rfl, h⟩ := h
    obtain ⟨K, hK, h⟩ := blkK_yes h
    simp only [cellsK_yes, path_eq, getK_eq, optK_yes] at h
    obtain ⟨t, s, tl, ro, rfl, w, hw, h⟩ := h
    exact ⟨_, b, i, w, rfl, rfl, fun m => by simp only [loadR, hK m, cond_false, hw], h⟩
  · replace h : ptrK v (fun b i => blkK B b fun K => cellsK K fun t _ _ _ => takeK z t i fun l => k (.agg l) B n) = .yes := h
    simp only [ptrK_yes] at h
    obtain ⟨b, i, rfl, h⟩ := h
    obtain ⟨K, hK, h⟩ := blkK_yes h
    simp only [cellsK_yes, takeK_yes] at h
    obtain ⟨t, s, tl, ro, rfl, w, hw, h⟩ := h
    exact ⟨_, b, i, .agg w, rfl, rfl, fun m => by simp only [loadR, hK m, cond_true, hw], h⟩
theorem storeC_ok {z : Option Nat} {a v : AV} {B : Bl} {n : Nat} {k : KH} (h : runB (storeC z) a v B n k = .yes) :
    ∃ m b i B', z = some m ∧ a = .ptr b i ∧ Nat.beq (len' v.cells) m = true ∧ storeR ⟨B, n⟩ b i v.cells = .val undefA ⟨B', n⟩ ∧ k undefA B' n = .yes := by
  rcases z with _ | z
  · cases h
  · replace h : ptrK a (fun b i => cellsOf v fun l => lenK l 0 fun m => ifK (Nat.beq m z)
      (blkK B b fun K => cellsK K fun t sz tl ro => ifK ro .no (putK l t i fun t => setBK (.cells t sz tl false) b B fun B => k undefA B n)) .no) = .yes := h
    simp only [ptrK_yes, cellsOf_eq, lenK_eq, ifK_yes, Nat.zero_add] at h
    obtain ⟨b, i, rfl, hl, h⟩ := h
    obtain ⟨K, hK, h⟩ := blkK_yes h
    simp only [cellsK_yes, ifK_no] at h
    obtain ⟨t, s, tl, ro, rfl, rfl, h⟩ := h
    obtain ⟨t', ht, h⟩ := putK_ok _ _ _ h
    rw [setBK_eq] at h
    exact ⟨z, b, i, _, rfl, rfl, hl, by simp only [storeR, hK n, ht, setB_eq], h⟩
theorem newK_ok {v : AV} {B : Bl} {n : Nat} {k : KH} (h : newK v B n k = .yes) : ∃ B', newR ⟨B, n⟩ v.cells = .val (.ptr n 0) ⟨B', n + 1⟩ ∧ k (.ptr n 0) B' (n + 1) = .yes := by
  simp only [newK, cellsOf_eq, layK_eq, lenK_eq, pushK_eq, Nat.zero_add] at h
  exact ⟨_, by simp only [newR, layC_eq, fN_eq, newB_eq], h⟩
theorem addrC_ok {p : Option Plc} {v : AV} {k : KV} (h : runB (addrC p) v k = .yes) : ∃ q b i, p = some q ∧ v = .ptr b i ∧ Nat.beq q.sz 0 = false ∧ k (.ptr b (Nat.add i q.off)) = .yes := by
  rcases p with _ | ⟨off, g, z⟩
  · cases h
  · replace h : runB (ifB (Nat.beq z 0) (.mk noP1) (.mk fun v k => ptrK v fun b i => fN' (Nat.add i off) fun j => k (.ptr b j))) v k = .yes := h
    cases hz : Nat.beq z 0 with
    | true => rw [hz] at h; cases h
    | false =>
      rw [hz] at h
      simp only [ifB_false, runB_mk, ptrK_yes, fN'_eq] at h
      obtain ⟨b, i, rfl, h⟩ := h
      exact ⟨_, b, i, rfl, rfl, hz, h⟩
theorem idxK_yes {v : AV} {n : Nat} {k : Nat → Ans} : idxK v n k = .yes ↔ ∃ j i, v = .int j (.ofNat i) ∧ Nat.blt i n = true ∧ k i = .yes := by
  simp only [idxK, intK_yes, natK_yes, ifK_yes]
  constructor
  · rintro ⟨j, i, rfl, m, rfl, hb, h⟩; exact ⟨j, m, rfl, hb, h⟩
  · rintro ⟨j, m, rfl, hb, h⟩; exact ⟨j, _, rfl, m, rfl, hb, h⟩
theorem idxRow_yes {v : AV} {k : Nat → Nat → Nat → Ans} : idxRow v k = .yes ↔ (∃ b o n c, v = .sl b o n c ∧ k b o n = .yes) ∨ (∃ b o n c, v = .so b o n c ∧ k b o n = .yes) := by
  cases v <;> constructor <;> intro h <;> first
    | exact .inl ⟨_, _, _, _, rfl, h⟩
    | exact .inr ⟨_, _, _, _, rfl, h⟩
    | (cases h; done)
    | (rcases h with ⟨_, _, _, _, e, h⟩ | ⟨_, _, _, _, e, h⟩ <;> cases e <;> exact h)

/-! ### looks that the clean operations share -/
theorem partC_ok {p : Option Plc} {v : AV} {k : KV} (h : runB (partC p) v k = .yes) : ∃ q l w, p = some q ∧ v = .agg l ∧ partL l q = some w ∧ k w = .yes := by
  rcases p with _ | ⟨off, _ | _, z⟩
  · cases h
  · replace h : aggK v (fun l => nthK off l k) = .yes := h
    simp only [aggK_yes, nthK_eq, optK_yes] at h
    obtain ⟨l, rfl, w, hw, h⟩ := h
    exact ⟨_, l, w, rfl, rfl, hw, h⟩
  · replace h : aggK v (fun l => dropK off l fun l => takeLK z l fun l => k (.agg l)) = .yes := h
    simp only [aggK_yes, dropK_eq, takeLK_eq] at h
    obtain ⟨l, rfl, h⟩ := h
    exact ⟨_, l, _, rfl, rfl, rfl, h⟩

/-! ### builds -/
theorem fillC_ok {F : Fr} {T : Tm} (hR : Rep F T) {plc : Nat → Option (Nat × Nat)} : ∀ (ps : List (Nat × Operand)) (l : List AV) {k : List AV → Ans}, runB (fillC plc ps) F l k = .yes → ∃ r, fillL l plc T ps = some r ∧ k r = .yes
  | [], l, k, h => ⟨l, rfl, h⟩
  | (i, x) :: ps, l, k, h => by
    have e : fillC plc ((i, x) :: ps) = optB (plc i) fillNo fun q => Prod.rec (motive := fun _ => Bx FillT) (fun off sz => fN' off fun off => fN' sz fun sz => bindB (opnd x) fun g => bindB (fillC plc ps) fun f =>
        ifB (Nat.blt 0 sz) (.mk fun T l k => g T fun v => cellsOf v fun vs => lenK vs 0 fun m => ifK (Nat.beq m sz) (putLK vs off l fun l => f T l k) .no) (.mk fillNo)) q := rfl
    rw [e] at h
    cases hq : plc i with
    | none => rw [hq] at h; cases h
    | some q =>
      obtain ⟨off, sz⟩ := q
      rw [hq] at h
      simp only [optB_some, fN'_eq, bindB_eq] at h
      cases hz : Nat.blt 0 sz with
      | false => rw [hz] at h; cases h
      | true =>
        rw [hz] at h
        simp only [ifB_true, runB_mk, cellsOf_eq, lenK_eq, Nat.zero_add] at h
        obtain ⟨v, hv, h⟩ := opnd_ok hR x h
        rw [ifK_yes] at h
        obtain ⟨hl, h⟩ := h
        obtain ⟨r, hr, h⟩ := putLK_ok _ _ _ h
        obtain ⟨r', hr', h⟩ := fillC_ok hR ps _ h
        exact ⟨r', by simp only [fillL, hq, hv, hl, hz, hr, Bool.and_self, cond_true, hr'], h⟩
/-! ### slices -/
theorem boundC_ok {F : Fr} {T : Tm} (hR : Rep F T) {x : Option Operand} {d : Nat} {k : Nat → Ans} (h : runB (boundC x) F d k = .yes) : ∃ n, boundOf x T d = some n ∧ k n = .yes := by
  cases x with
  | none => exact ⟨d, rfl, h⟩
  | some x =>
    simp only [boundC, bindB_eq, runB_mk] at h
    obtain ⟨v, hv, h⟩ := opnd_ok hR x h
    rw [natV_yes] at h
    obtain ⟨n, hn, h⟩ := h
    exact ⟨n, by simp only [boundOf, hv, hn], h⟩
def hiOf (hi mx : Option Operand) (T : Tm) (len : Nat) : Option Nat := match hi, mx with | none, some _ => none | hi, _ => boundOf hi T len
theorem bnd3_eq (lo hi mx : Option Operand) (T : Tm) (len cap : Nat) : bnd3 lo hi mx T len cap = match boundOf lo T 0, hiOf hi mx T len, boundOf mx T cap with
  | some l, some h, some m => bif Nat.ble l h && Nat.ble h m && Nat.ble m cap then some (l, h, m) else none
  | _, _, _ => none := rfl
theorem bnd_key {T : Tm} {hi mx : Option Operand} {len u : Nat} (h1 : hi = none → mx = none) (h2 : boundOf hi T len = some u) : hiOf hi mx T len = some u := by
  cases hi with
  | none => rw [h1 rfl]; exact h2
  | some x => cases mx <;> exact h2
theorem bnd3C_ok {F : Fr} {T : Tm} (hR : Rep F T) {lo hi mx : Option Operand} {len cap : Nat} {k : Nat → Nat → Nat → Ans} (h : runB (bnd3C lo hi mx) F len cap k = .yes) : ∃ l u m, bnd3 lo hi mx T len cap = some (l, u, m) ∧ k l u m = .yes := by
  have hc : hi = none → mx = none := by
    intro h1
    subst h1
    cases mx with
    | none => rfl
    | some mx => simp only [bnd3C, bindB_eq, ifB_false, runB_mk] at h; cases h
  have e : bnd3C lo hi mx = bindB (boundC lo) fun fl => bindB (boundC hi) fun fh => bindB (boundC mx) fun fm =>
      .mk fun T len cap k => fl T 0 fun l => fh T len fun h => fm T cap fun m => ifK (Nat.ble l h) (ifK (Nat.ble h m) (ifK (Nat.ble m cap) (k l h m) .no) .no) .no := by
    cases hi <;> cases mx <;> first | rfl | (exact absurd (hc rfl) (by simp))
  rw [e] at h
  simp only [bindB_eq, runB_mk] at h
  obtain ⟨l, hl, h⟩ := boundC_ok hR h
  obtain ⟨u, hu, h⟩ := boundC_ok hR h
  obtain ⟨m, hm, h⟩ := boundC_ok hR h
  simp only [ifK_yes] at h
  obtain ⟨h1, h2, h3, h⟩ := h
  refine ⟨l, u, m, ?_, h⟩
  simp only [bnd3_eq, hl, hm, bnd_key hc hu, h1, h2, h3, Bool.and_self, cond_true]
theorem rowK_ok {b o z l h m : Nat} {k : KV} (hk : rowK b o z l h m k = .yes) : ∃ v, (∀ H, oSliceR b o z (some (l, h, m)) H = .val v H) ∧ k v = .yes := by
  simp only [rowK, fN'_eq] at hk
  refine ⟨_, fun H => ?_, hk⟩
  simp only [oSliceR, fN_eq]
  cases Nat.beq m l <;> rfl
theorem openK_ok {b o z kn l h m : Nat} {k : KV} (hk : openK b o z kn l h k = .yes) : ∃ v, (∀ H, oSliceO b o z kn (some (l, h, m)) H = .val v H) ∧ k v = .yes := by
  simp only [openK, fN'_eq] at hk
  simp only [oSliceO, fN_eq]
  cases hb : Nat.blt l kn <;> rw [hb] at hk <;> exact ⟨_, fun H => rfl, hk⟩
theorem knownK_ok {B : Bl} {b o es : Nat} {k : Nat → Ans} (h : knownK B b o es k = .yes) : ∃ n, (∀ m, knownC ⟨B, m⟩ b o es = some n) ∧ k n = .yes := by
  obtain ⟨K, hK, h⟩ := blkK_yes h
  simp only [cellsK_yes, ifK_yes, fN'_eq] at h
  obtain ⟨t, s, tl, ro, rfl, h1, h2, h⟩ := h
  exact ⟨_, fun m => by simp only [knownC, hK m, h1, h2, Bool.and_self, cond_true], h⟩
theorem strCellsK_eq : ∀ (n x : Nat) (k : List AV → Ans), strCellsK n x k = k (strCells n x)
  | 0, x, k => rfl
  | n + 1, x, k => by
    show fN' (Nat.mod x 256) (fun c => fN' (Nat.div x 256) fun y => strCellsK n y fun l => k (.int .u8 (.ofNat c) :: l)) = _
    simp only [fN'_eq, strCellsK_eq n, strCells, fN_eq]
theorem elemsK_ok {v : AV} {es : Nat} {B : Bl} {k : KE2} (h : elemsK v es B k = .yes) : ∃ n l, (∀ m, elemsOf ⟨B, m⟩ v es = some (n, l)) ∧ k n l = .yes := by
  cases v with
  | nils => exact ⟨0, [], fun _ => rfl, h⟩
  | se _ _ _ _ => exact ⟨0, [], fun _ => rfl, h⟩
  | str n x =>
    simp only [elemsK, ifK_yes, strCellsK_eq] at h
    exact ⟨n, _, fun _ => by simp only [elemsOf, h.1, cond_true], h.2⟩
  | sl b o n c =>
    simp only [elemsK] at h
    obtain ⟨K, hK, h⟩ := blkK_yes h
    simp only [cellsK_yes, fN'_eq, takeK_yes] at h
    obtain ⟨t, s, tl, ro, rfl, l, hl, h⟩ := h
    exact ⟨n, l, fun m => by simp only [elemsOf, hK m, hl], h⟩
  | so b o n z =>
    simp only [elemsK, ifK_yes] at h
    obtain ⟨hz, h⟩ := h
    obtain ⟨K, hK, h⟩ := blkK_yes h
    simp only [cellsK_yes, fN'_eq, takeK_yes] at h
    obtain ⟨t, s, tl, ro, rfl, l, hl, h⟩ := h
    exact ⟨n, l, fun m => by simp only [elemsOf, hz, cond_true, hK m, hl], h⟩
  | _ => cases h
/-- a result with memory -/
def GoodH (r : OR) (k : KH) : Prop := match r with | .val v H => k v H.bl H.nx = .yes | _ => False
theorem newOpenK_ok {n es : Nat} {l : List AV} {B : Bl} {x : Nat} {k : KH} (h : newOpenK n es l B x k = .yes) : GoodH (newOpen ⟨B, x⟩ n es l) k := by
  simp only [newOpenK, ifK_yes, layK_eq, fN'_eq, pushK_eq] at h
  have hl : Nat.blt n limit = true := h.1
  simp only [newOpen, hl, Bool.not_true, cond_false, layC_eq, fN_eq, newB_eq]
  exact h.2
theorem appendK_ok {s : AV} {es m : Nat} {l : List AV} {B : Bl} {x : Nat} {k : KH} (h : appendK s es m l B x k = .yes) : GoodH (appendR ⟨B, x⟩ s es m l) k := by
  cases s with
  | nils =>
    simp only [appendK] at h
    simp only [appendR]
    cases hm : Nat.beq m 0 <;> rw [hm] at h
    · exact newOpenK_ok h
    · exact h
  | sl b o n c =>
    simp only [appendK, fN'_eq] at h
    obtain ⟨K, hK, h⟩ := blkK_yes h
    simp only [cellsK_yes] at h
    obtain ⟨t, sz, tl, ro, rfl, h⟩ := h
    simp only [appendR, hK x]
    cases hc : Nat.ble (Nat.add n m) c <;> rw [hc] at h
    · simp only [ifK_false, takeK_yes, appK_eq] at h
      obtain ⟨old, ho, h⟩ := h
      simp only [cond_false, ho]
      exact newOpenK_ok h
    · simp only [ifK_true, ifK_no] at h
      obtain ⟨rfl, h⟩ := h
      obtain ⟨t', ht, h⟩ := putK_ok _ _ _ h
      simp only [setBK_eq] at h
      simp only [cond_true, ht, setB_eq, fN_eq]
      exact h
  | so b o n z =>
    simp only [appendK, fN'_eq, ifK_yes] at h
    obtain ⟨hz, h⟩ := h
    obtain ⟨K, hK, h⟩ := blkK_yes h
    simp only [cellsK_yes, ifK_no] at h
    obtain ⟨t, sz, tl, ro, rfl, rfl, h⟩ := h
    simp only [appendR, hz, cond_true, hK x]
    cases hc : Nat.ble (Nat.add o (Nat.mul (Nat.add n m) es)) sz <;> rw [hc] at h
    · simp only [ifK_false, ifK_yes, scalLK_yes] at h
      obtain ⟨htl, h1, h2, h3, h⟩ := h
      have h3 : Nat.blt (Nat.add n m) limit = true := h3
      simp only [cond_false, htl, h1, h2, h3, Bool.and_self, cond_true]
      cases h0 : Nat.beq o 0 <;> rw [h0] at h
      · simp only [ifK_false, takeK_yes, goneK_eq, appK_eq] at h
        obtain ⟨old, ho, h⟩ := h
        simp only [cond_false, ho, setB_eq]
        exact newOpenK_ok h
      · simp only [ifK_true, goneK_eq, layK_eq, pushK_eq] at h
        simp only [cond_true, setB_eq, layC_eq, fN_eq, newB_eq]
        exact h
    · simp only [ifK_true] at h
      obtain ⟨t', ht, h⟩ := putK_ok _ _ _ h
      simp only [setBK_eq] at h
      simp only [cond_true, ht, setB_eq, fN_eq]
      exact h
  | se b o w z =>
    simp only [appendK, ifK_yes, ifK_no, scalLK_yes] at h
    obtain ⟨hz, hm, hs, h⟩ := h
    obtain ⟨K, hK, h⟩ := blkK_yes h
    simp only [cellsK_yes, ifK_yes, ifK_no, goneK_eq] at h
    obtain ⟨t, sz, tl, ro, rfl, rfl, rfl, h⟩ := h
    simp only [appendR, hz, hm, hs, Bool.not_false, Bool.and_self, cond_true, hK x, setB_eq]
    exact newOpenK_ok h
  | _ => cases h
theorem oneK_yes {l : List AV} {k : AV → Ans} : oneK l k = .yes ↔ ∃ v, l = [v] ∧ k v = .yes := by
  rcases l with _ | ⟨v, _ | ⟨w, l⟩⟩
  · constructor
    · intro h; cases h
    · rintro ⟨v, hv, _⟩; cases hv
  · constructor
    · intro h; exact ⟨v, rfl, h⟩
    · rintro ⟨u, hu, h⟩; cases hu; exact h
  · constructor
    · intro h; cases h
    · rintro ⟨v, hv, _⟩; cases hv
theorem twoK_yes {l : List AV} {k : AV → AV → Ans} : twoK l k = .yes ↔ ∃ v w, l = [v, w] ∧ k v w = .yes := by
  cases l with
  | nil =>
    constructor
    · intro h; cases h
    · rintro ⟨v, w, hv, _⟩; cases hv
  | cons v l =>
    have e : twoK (v :: l) k = oneK l fun w => k v w := rfl
    rw [e, oneK_yes]
    constructor
    · rintro ⟨w, rfl, h⟩; exact ⟨v, w, rfl, h⟩
    · rintro ⟨v', w, hl, h⟩; cases hl; exact ⟨w, rfl, h⟩
theorem appendC1_ok {E : EI} {xs : List AV} {B : Bl} {n : Nat} {k : KH} (h : runB (appendC1 E) xs B n k = .yes) : ∃ s x, xs = [s, x] ∧ GoodH (appS E s x ⟨B, n⟩) k := by
  simp only [appendC1, fN'_eq, runB_mk, twoK_yes] at h
  obtain ⟨s, x, rfl, h⟩ := h
  obtain ⟨m, l, hl, h⟩ := elemsK_ok h
  rw [ifK_yes] at h
  have h1 : Nat.blt m limit = true := h.1
  refine ⟨s, x, rfl, ?_⟩
  simp only [appS, hl, h1, cond_true]
  exact appendK_ok h.2
theorem appendC_ok {ts : List TypeId} {xs : List AV} {B : Bl} {n : Nat} {k : KH} (h : runB (appendC P ts) xs B n k = .yes) : GoodH (oAppend P ts xs ⟨B, n⟩) k := by
  rcases ts with _ | ⟨t, _ | ⟨u, _ | ⟨w, ts⟩⟩⟩
  · cases h
  · cases h
  · simp only [appendC] at h
    cases hE : elemI P t with
    | none => rw [hE] at h; cases h
    | some E =>
      rw [hE] at h
      simp only [optB_some] at h
      cases hu : P.underlying u with
      | none => rw [hu] at h; cases h
      | some d =>
        rw [hu] at h
        cases d with
        | slice e => obtain ⟨s, x, rfl, h2⟩ := appendC1_ok h; simp only [oAppend, hE, hu]; exact h2
        | string => obtain ⟨s, x, rfl, h2⟩ := appendC1_ok h; simp only [oAppend, hE, hu]; exact h2
        | _ => cases h
  · cases h
theorem minK_eq (m n : Nat) (k : Nat → Ans) : minK m n k = k (Nat.min m n) := by
  simp only [minK]
  cases h : Nat.ble m n with
  | true =>
    have : m ≤ n := by simpa [ble_iff] using h
    show k m = _
    rw [show Nat.min m n = min m n from rfl, Nat.min_eq_left this]
  | false =>
    have : ¬ m ≤ n := by simpa [ble_iff] using h
    show k n = _
    rw [show Nat.min m n = min m n from rfl, Nat.min_eq_right (by omega)]
theorem copyK_ok {b o n es m : Nat} {l : List AV} {B : Bl} {x : Nat} {k : KH} (h : copyK b o n es m l B x k = .yes) : GoodH (copyR ⟨B, x⟩ b o n es m l) k := by
  obtain ⟨K, hK, h⟩ := blkK_yes h
  simp only [cellsK_yes, ifK_no, minK_eq, fN'_eq, takeLK_eq] at h
  obtain ⟨t, sz, tl, ro, rfl, rfl, h⟩ := h
  obtain ⟨t', ht, h⟩ := putK_ok _ _ _ h
  rw [setBK_eq] at h
  simp only [copyR, hK x, fN_eq, ht, setB_eq]
  exact h
theorem copyC_ok {ts : List TypeId} {xs : List AV} {B : Bl} {n : Nat} {k : KH} (h : runB (copyC P ts) xs B n k = .yes) : GoodH (oCopy P ts xs ⟨B, n⟩) k := by
  rcases ts with _ | ⟨t, _ | ⟨u, _ | ⟨w, ts⟩⟩⟩
  · cases h
  · cases h
  · simp only [copyC] at h
    cases hE : elemI P t with
    | none => rw [hE] at h; cases h
    | some E =>
      rw [hE] at h
      simp only [optB_some, fN'_eq, runB_mk, twoK_yes] at h
      obtain ⟨d, x, rfl, h⟩ := h
      obtain ⟨m, l, hl, h⟩ := elemsK_ok h
      cases d with
      | sl b o n' c => simp only [oCopy, hE, hl]; exact copyK_ok h
      | so b o n' z =>
        simp only [copyV, ifK_yes] at h
        simp only [oCopy, hE, hl, h.1, cond_true]
        exact copyK_ok h.2
      | nils => simp only [oCopy, hE, hl]; exact h
      | _ => cases h
  · cases h
theorem lenC_ok {ts : List TypeId} {xs : List AV} {B : Bl} {n : Nat} {k : KH} (h : runB (lenC P ts) xs B n k = .yes) : GoodH (oLen P ts xs ⟨B, n⟩) k := by
  rcases ts with _ | ⟨t, _ | ⟨u, ts⟩⟩
  · cases h
  · simp only [lenC, bindB_eq, runB_mk, oneK_yes] at h
    obtain ⟨v, rfl, h⟩ := h
    cases hd : P.underlying t with
    | none => rw [hd] at h; cases h
    | some d =>
      rw [hd] at h
      cases d with
      | string =>
        simp only [lenV, runB_mk, strK_yes] at h
        obtain ⟨l, x, rfl, h⟩ := h
        simp only [oLen, hd]; exact h
      | array m e => simp only [oLen, hd]; cases v <;> exact h
      | slice e => cases v <;> first | (cases h; done) | (simp only [oLen, hd]; exact h)
      | map a b =>
        cases v with
        | nilm => simp only [oLen, hd]; exact h
        | map b =>
          simp only [lenV, runB_mk] at h
          obtain ⟨K, hK, h⟩ := blkK_yes h
          simp only [mpK_yes, fN'_eq] at h
          obtain ⟨es, rfl, h⟩ := h
          simp only [oLen, hd, hK n]; exact h
        | _ => cases h
      | _ => cases h
  · cases h
theorem oCap_heap {ts : List TypeId} {xs : List AV} {H H1 : Heap} {v : AV} (h : oCap P ts xs H = .val v H1) (H2 : Heap) : oCap P ts xs H2 = .val v H2 := by
  unfold oCap at h ⊢
  split at h
  · split at h <;> first | (injection h with h1 h2; simp_all; done) | (cases h; done)
  · cases h
theorem oMinMax_heap {mx : Bool} {xs : List AV} {H H1 : Heap} {v : AV} (h : oMinMax mx xs H = .val v H1) (H2 : Heap) : oMinMax mx xs H2 = .val v H2 := by
  unfold oMinMax at h ⊢
  simp only [fI_eq] at h ⊢
  split at h
  · injection h with h1 h2; rw [h1]
  · cases h
theorem builtC_ok {b : Builtin} {ts : List TypeId} {xs : List AV} {B : Bl} {n : Nat} {k : KH} (h : runB (builtC P b ts) xs B n k = .yes) : GoodH (oBuiltin P b ts xs ⟨B, n⟩) k := by
  cases b with
  | append => exact appendC_ok h
  | copy => exact copyC_ok h
  | len => exact lenC_ok h
  | cap =>
    simp only [builtC, runB_mk, orK, orV_yes] at h
    obtain ⟨v, H1, h1, h⟩ := h
    simp only [oBuiltin, oCap_heap h1]; exact h
  | min =>
    simp only [builtC, runB_mk, orK, orV_yes] at h
    obtain ⟨v, H1, h1, h⟩ := h
    simp only [oBuiltin, oMinMax_heap h1]; exact h
  | max =>
    simp only [builtC, runB_mk, orK, orV_yes] at h
    obtain ⟨v, H1, h1, h⟩ := h
    simp only [oBuiltin, oMinMax_heap h1]; exact h
  | _ => cases h
/-! ### maps -/
theorem keyV_ok {d : Option TypeDesc} {v : AV} {x : Ans} (h : keyV (keyT d) v x = .yes) : ∃ d', d = some d' ∧ plainK d' = true ∧ x = .yes ∧ ((∃ j, d' = .int j) ∧ (∃ j n, v = .int j n) ∨ d' = .string ∧ ∃ l y, v = .str l y) := by
  rcases d with _ | d
  · cases h
  · cases d with
    | int j =>
      replace h : intK v (fun _ _ => x) = .yes := h
      rw [intK_yes] at h
      obtain ⟨i, n, rfl, h⟩ := h
      exact ⟨_, rfl, rfl, h, .inl ⟨⟨_, rfl⟩, _, _, rfl⟩⟩
    | string =>
      replace h : strK v (fun _ _ => x) = .yes := h
      rw [strK_yes] at h
      obtain ⟨l, y, rfl, h⟩ := h
      exact ⟨_, rfl, rfl, h, .inr ⟨rfl, _, _, rfl⟩⟩
    | _ => cases h
theorem keyEqK_ok {d : TypeDesc} {a b : AV} {k : Bool → Ans} (hd : (∃ j, d = .int j) ∧ (∃ j n, a = .int j n) ∨ d = .string ∧ ∃ l y, a = .str l y) (h : keyEqK a b k = .yes) : ∃ c, keyEq d a b = some c ∧ k c = .yes := by
  rcases hd with ⟨⟨j, rfl⟩, i, n, rfl⟩ | ⟨rfl, l, y, rfl⟩
  · simp only [keyEqK, intK_yes, kindK_yes, ieqK_eq] at h
    obtain ⟨i', n', rfl, rfl, h⟩ := h
    exact ⟨_, by simp only [keyEq, decide_true, cond_true], h⟩
  · simp only [keyEqK, strK_yes, strEqK_eq] at h
    obtain ⟨m, z, rfl, h⟩ := h
    exact ⟨_, rfl, h⟩
theorem findK_ok {d : TypeDesc} {a : AV} (hd : (∃ j, d = .int j) ∧ (∃ j n, a = .int j n) ∨ d = .string ∧ ∃ l y, a = .str l y) : ∀ (l : List (AV × AV)) (i : Nat) {k : Nat → AV → Ans} {x : Ans}, findK l i a k x = .yes →
    (findE d a l i = some none ∧ x = .yes) ∨ (∃ j v, findE d a l i = some (some (j, v)) ∧ k j v = .yes)
  | [], i, k, x, h => .inl ⟨rfl, h⟩
  | (b, v) :: l, i, k, x, h => by
    replace h : keyEqK a b (fun c => Bool.rec (motive := fun _ => Ans) (fN' (Nat.succ i) fun i => findK l i a k x) (k i v) c) = .yes := h
    obtain ⟨c, hc, h⟩ := keyEqK_ok hd h
    cases c with
    | true => exact .inr ⟨i, v, by simp only [findE, hc], h⟩
    | false =>
      rcases findK_ok hd l (i + 1) h with ⟨h1, h2⟩ | ⟨j, w, h1, h2⟩
      · exact .inl ⟨by simp only [findE, hc]; exact h1, h2⟩
      · exact .inr ⟨j, w, by simp only [findE, hc]; exact h1, h2⟩
theorem setEK_eq : ∀ (i : Nat) (a v : AV) (l : List (AV × AV)) (k : List (AV × AV) → Ans), setEK i a v l k = k (setE l i a v)
  | 0, a, v, [], k => rfl
  | 0, a, v, x :: l, k => rfl
  | i + 1, a, v, [], k => rfl
  | i + 1, a, v, x :: l, k => setEK_eq i a v l _
theorem addEK_eq : ∀ (l : List (AV × AV)) (a v : AV) (k : List (AV × AV) → Ans), addEK l a v k = k (l ++ [(a, v)])
  | [], a, v, k => rfl
  | x :: l, a, v, k => addEK_eq l a v _
theorem packK_ok : ∀ (l : List AV) {k : Nat → Ans}, packK l k = .yes → ∃ x, packA l = some x ∧ k x = .yes
  | [], k, h => ⟨0, rfl, h⟩
  | v :: l, k, h => by
    replace h : intK v (fun j i => kindK j .u8 (natK i fun c => ifK (Nat.blt c 256) (packK l fun x => fN' (Nat.add c (Nat.mul 256 x)) k) .no)) = .yes := h
    simp only [intK_yes, kindK_yes, natK_yes, ifK_yes] at h
    obtain ⟨j, n, rfl, rfl, c, rfl, hc, h⟩ := h
    obtain ⟨x, hx, h⟩ := packK_ok l h
    exact ⟨_, by simp only [packA, hx, hc, cond_true], h⟩
end Eng
end Go.Proofs.YtbdhainbcfobeaaGreatDoor
