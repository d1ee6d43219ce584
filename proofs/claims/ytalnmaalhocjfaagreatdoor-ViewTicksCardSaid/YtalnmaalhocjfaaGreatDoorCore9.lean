/-
  THE ENGINE, part WK: nested arguments: slices of structs that hold texts and slices, laid as blocks that nobody writes.
-/
import Derived.Test.YtalnmaalhocjfaaGreatDoorCore8
namespace Go.Proofs.YtalnmaalhocjfaaGreatDoor
namespace Eng
open Go
section
variable {P : Program} {W : World} {α β γ : Type}

/-! ### what can be laid -/
/-- data that may be laid behind any memory, so that they stand for 'a' -/
def Lays (W : World) (R : Heap → List AV → α → Prop) (cs : List Value) (a : α) : Prop :=
  ∀ ρ H, HR ρ H W → AllRo H → Frees ρ H → ∃ ρ' H' c, HR ρ' H' W ∧ AllRo H' ∧ Frees ρ' H' ∧ Sub ρ ρ' ∧ Keep Non H H' ∧ DL ρ' c cs ∧ R H' c a
theorem lays_of {R : Heap → List AV → α → Prop} {cs : List Value} {c : List AV} {a : α} (h : ∀ ρ, DL ρ c cs) (hr : ∀ H, R H c a) : Lays W R cs a :=
  fun ρ H h1 h2 h3 => ⟨ρ, H, c, h1, h2, h3, .refl ρ, .refl _ _, h ρ, hr H⟩
theorem Lays.append {R : Heap → List AV → α → Prop} {S : Heap → List AV → β → Prop} {T : Heap → List AV → γ → Prop} {cs ds : List Value} {a : α} {b : β} {g : γ} (h : Lays W R cs a) (k : Lays W S ds b)
    (hu : ∀ H H' c, R H c a → Keep Non H H' → R H' c a) (hT : ∀ H c d, R H c a → S H d b → T H (c ++ d) g) : Lays W T (cs ++ ds) g := by
  intro ρ H h1 h2 h3
  obtain ⟨ρ1, H1, c, g1, g2, g3, g4, g5, g6, g7⟩ := h ρ H h1 h2 h3
  obtain ⟨ρ2, H2, d, e1, e2, e3, e4, e5, e6, e7⟩ := k ρ1 H1 g1 g2 g3
  exact ⟨ρ2, H2, c ++ d, e1, e2, e3, g4.trans e4, g5.trans0 e5, (g6.mono e4).append e6, hT _ _ _ (hu _ _ _ g7 e5) e7⟩
theorem Lays.imp {R : Heap → List AV → α → Prop} {S : Heap → List AV → β → Prop} {cs : List Value} {a : α} {b : β} (h : Lays W R cs a) (hT : ∀ H c, R H c a → S H c b) : Lays W S cs b := by
  intro ρ H h1 h2 h3
  obtain ⟨ρ1, H1, c, g1, g2, g3, g4, g5, g6, g7⟩ := h ρ H h1 h2 h3
  exact ⟨ρ1, H1, c, g1, g2, g3, g4, g5, g6, hT _ _ g7⟩
/-- two lists side by side -/
inductive F2 {α β : Type} (R : α → β → Prop) : List α → List β → Prop
  | nil : F2 R [] []
  | cons {a : α} {b : β} {l : List α} {m : List β} : R a b → F2 R l m → F2 R (a :: l) (b :: m)
theorem F2.length {R : α → β → Prop} {l : List α} {m : List β} (h : F2 R l m) : l.length = m.length := by
  induction h with
  | nil => rfl
  | cons _ _ ih => simp [ih]
theorem F2.snoc {R : α → β → Prop} {l : List α} {m : List β} {a : α} {b : β} (h : F2 R l m) (k : R a b) : F2 R (l ++ [a]) (m ++ [b]) := by
  induction h with
  | nil => exact .cons k .nil
  | cons h _ ih => exact .cons h ih
theorem F2.imp {R S : α → β → Prop} {l : List α} {m : List β} (h : F2 R l m) (k : ∀ a b, R a b → S a b) : F2 S l m := by
  induction h with
  | nil => exact .nil
  | cons h _ ih => exact .cons (k _ _ h) ih
theorem F2.get {R : α → β → Prop} {l : List α} {m : List β} (h : F2 R l m) : ∀ (i : Nat) (a : α), l[i]? = some a → ∃ b, m[i]? = some b ∧ R a b := by
  induction h with
  | nil => intro i a h; simp at h
  | cons h _ ih =>
    intro i a hi
    cases i with
    | zero => simp only [List.getElem?_cons_zero, Option.some.injEq] at hi; subst hi; exact ⟨_, rfl, h⟩
    | succ i => simpa using ih i a (by simpa using hi)
theorem F2.get' {R : α → β → Prop} {l : List α} {m : List β} (h : F2 R l m) : ∀ (i : Nat) (b : β), m[i]? = some b → ∃ a, l[i]? = some a ∧ R a b := by
  induction h with
  | nil => intro i a h; simp at h
  | cons h _ ih =>
    intro i a hi
    cases i with
    | zero => simp only [List.getElem?_cons_zero, Option.some.injEq] at hi; subst hi; exact ⟨_, rfl, h⟩
    | succ i => simpa using ih i a (by simpa using hi)
theorem F2.flat {ρ : Rho} {l : List (List AV)} {m : List (List Value)} (h : F2 (DL ρ) l m) : DL ρ l.flatten m.flatten := by
  induction h with
  | nil => exact .nil
  | cons h _ ih => rw [List.flatten_cons, List.flatten_cons]; exact h.append ih
/-- a slice of such things, each of so many cells -/
def IsLs (R : Heap → List AV → α → Prop) (z : Nat) (H : Heap) (v : AV) (as : List α) : Prop := ∃ els : List (List AV), IsSlR H v z as.length els.flatten ∧ F2 (R H) els as ∧ ∀ c ∈ els, c.length = z
theorem IsLs.keep {R : Heap → List AV → α → Prop} {z : Nat} {H H' : Heap} {v : AV} {as : List α} (h : IsLs R z H v as) (k : Keep Non H H') (hu : ∀ c, ∀ a ∈ as, R H c a → R H' c a) : IsLs R z H' v as := by
  obtain ⟨els, h1, h2, h3⟩ := h
  refine ⟨els, h1.keep k, ?_, h3⟩
  clear h1 h3
  induction h2 with
  | nil => exact .nil
  | cons h _ ih => exact .cons (hu _ _ (by simp) h) (ih fun c a ha => hu c a (by simp [ha]))
theorem lays_list {R : Heap → List AV → α → Prop} (hu : ∀ H H' c a, R H c a → Keep Non H H' → R H' c a) {vs : List (List Value)} {as : List α} (h : F2 (Lays W R) vs as) :
    ∀ ρ H, HR ρ H W → AllRo H → Frees ρ H → ∃ ρ' H' cs, HR ρ' H' W ∧ AllRo H' ∧ Frees ρ' H' ∧ Sub ρ ρ' ∧ Keep Non H H' ∧ F2 (DL ρ') cs vs ∧ F2 (R H') cs as := by
  induction h with
  | nil => exact fun ρ H h1 h2 h3 => ⟨ρ, H, [], h1, h2, h3, .refl ρ, .refl _ _, .nil, .nil⟩
  | cons h _ ih =>
    intro ρ H h1 h2 h3
    obtain ⟨ρ1, H1, c, g1, g2, g3, g4, g5, g6, g7⟩ := h ρ H h1 h2 h3
    obtain ⟨ρ2, H2, d, e1, e2, e3, e4, e5, e6, e7⟩ := ih ρ1 H1 g1 g2 g3
    exact ⟨ρ2, H2, c :: d, e1, e2, e3, g4.trans e4, g5.trans0 e5, .cons (g6.mono e4) e6, .cons (hu _ _ _ _ g7 e5) e7⟩
theorem flat_getV {c : Array Value} {z : Nat} : ∀ (us : List (List Value)) (off : Nat), (∀ (i : Nat) ds, us[i]? = some ds → ds.length = z ∧ ∀ j, j < z → c[off + (i * z + j)]? = ds[j]?) → us.flatten.length = us.length * z ∧ ∀ (k : Nat) y, us.flatten[k]? = some y → c[off + k]? = some y
  | [], _, _ => ⟨by simp, fun k y h => by simp at h⟩
  | d :: us, off, h => by
    obtain ⟨h1, h2⟩ := h 0 d rfl
    obtain ⟨h3, h4⟩ := flat_getV us (off + z) fun i ds hi => by
      obtain ⟨g1, g2⟩ := h (i + 1) ds (by simpa using hi)
      refine ⟨g1, fun j hj => ?_⟩
      have := g2 j hj
      rw [Nat.add_mul, Nat.one_mul] at this
      rw [show off + z + (i * z + j) = off + (i * z + z + j) by omega]
      exact this
    refine ⟨by rw [List.flatten_cons, List.length_append, h3, h1, List.length_cons, Nat.add_mul]; omega, fun k y hy => ?_⟩
    rw [List.flatten_cons, List.getElem?_append] at hy
    by_cases hk : k < d.length
    · rw [if_pos hk] at hy
      have := h2 k (by omega)
      rw [Nat.zero_mul, Nat.zero_add] at this
      rw [this]; exact hy
    · rw [if_neg hk] at hy
      have := h4 _ y hy
      rw [show off + z + (k - d.length) = off + k by omega] at this
      exact this
theorem cell_at {w : World} {a : Addr} {v : Value} (h : w.cell? a = some v) : a.spot = none ∧ ∃ c e fz, w.heap[a.block]? = some (.cells c e fz) ∧ c[a.off]? = some v := by
  unfold World.cell? at h
  split at h
  · rename_i h1 h2
    split at h
    · cases h
    · rename_i hs
      exact ⟨by cases ha : a.spot <;> simp_all, _, _, _, h2, h⟩
  · cases h
theorem lays_slice {H0 : Type} {enc : TypeId × Value → H0} {base : Nat} {held : Bool} {fuel : Nat} {t e : TypeId} {z B : Nat} {cs : List Value} {x : DataW H0 × List MemPlace} {R : Heap → List AV → α → Prop} {Q : α → Prop}
    (hup : ∀ H H' c a, R H c a → Keep Non H H' → R H' c a) (hu : P.underlying t = some (.slice e)) (hz : P.cellsOf e = z) (hz0 : 0 < z) (hby : 0 < P.bytesOf e)
    (h : DataW.trod enc P W base (fun _ => true) held fuel t cs = some x) (hB : ∀ k ∈ x.1.weights P t, k ≤ B)
    (hel : ∀ n ds y, fuel = n + 1 → DataW.trod enc P W base (fun _ => true) held n e ds = some y → (∀ k ∈ y.1.weights P e, k ≤ B) → ∃ a, Q a ∧ Lays W R ds a) :
    ∃ as : List α, (∀ a ∈ as, Q a) ∧ as.length ≤ B ∧ Lays W (fun H c as => ∃ v, c = [v] ∧ IsLs R z H v as) cs as := by
  rcases DataW.trod_slice hu h with ⟨rfl, _⟩ | ⟨a, len, cap, elems, rest, n, hn, rfl, rfl, _, hlc, hcm, hlen, hget, hsp, _⟩
  · exact ⟨[], fun _ h => (by cases h), Nat.zero_le _, lays_of (c := [.nils]) (fun ρ => .cons rfl .nil) fun H => ⟨_, rfl, [], ⟨by simp, .inl ⟨.inl rfl, rfl⟩⟩, .nil, fun _ h => (by cases h)⟩⟩
  · obtain ⟨hrl, hrest⟩ := hsp rfl
    simp only [DataW.weights, hu] at hB
    have hBl : len ≤ B := by
      have h1 := hB _ (List.mem_cons_self ..)
      rw [List.length_map, List.length_map, hlen, hrl] at h1
      have h2 : (len + (cap - len)) * 1 ≤ (len + (cap - len)) * P.bytesOf e := Nat.mul_le_mul_left _ hby
      omega
    -- a cell that is there
    have hblk : ∀ k, ∀ ds, W.cells? base (a.add (k * z)) z = some ds → (k * z = 0 → a.spot = none) ∧ ∃ c ce fz, W.heap[a.block]? = some (.cells c ce fz) ∧ ds.length = z ∧ ∀ j, j < z → c[a.off + (k * z + j)]? = ds[j]? := by
      intro k ds hds
      obtain ⟨h1, h2⟩ := cells_get hds
      have h3 := h2 0 hz0
      rw [List.getElem?_eq_getElem (by omega)] at h3
      have h3' : W.cell? (a.add (k * z)) = some (ds[0]'(by omega)) := h3
      obtain ⟨hs, c, ce, fz, hc, _⟩ := cell_at h3'
      have hbl : (a.add (k * z)).block = a.block := by unfold Addr.add; split <;> rfl
      rw [hbl] at hc
      refine ⟨fun h0 => by rw [h0] at hs; exact hs, c, ce, fz, hc, h1, fun j hj => ?_⟩
      have h4 := h2 j hj
      rw [List.getElem?_eq_getElem (by omega)] at h4 ⊢
      obtain ⟨_, c', ce', fz', hc', h5⟩ := cell_at h4
      have hbl' : ((a.add (k * z)).add j).block = a.block := by unfold Addr.add; split <;> split <;> rfl
      have hof' : ((a.add (k * z)).add j).off = a.off + (k * z + j) := by
        unfold Addr.add
        by_cases h0 : k * z = 0
        · by_cases hj0 : j = 0
          · simp [h0, hj0]
          · simp [h0, hj0]
        · by_cases hj0 : j = 0
          · simp [h0, hj0]
          · simp [h0, hj0, Nat.add_assoc]
      rw [hbl', hc] at hc'
      injection hc' with hc'
      injection hc' with hc' _ _
      subst hc'
      rw [hof'] at h5
      exact h5
    -- all elements
    have hlist : ∀ k, k ≤ len → ∃ (vs : List (List Value)) (as : List α), vs.length = k ∧ F2 (Lays W R) vs as ∧ (∀ a ∈ as, Q a) ∧ ∀ (i : Nat) ds, vs[i]? = some ds → W.cells? base (a.add (i * z)) z = some ds := by
      intro k
      induction k with
      | zero => exact fun _ => ⟨[], [], rfl, .nil, fun _ h => (by cases h), fun i cs h => (by simp at h)⟩
      | succ k ih =>
        intro hk
        obtain ⟨vs, as, h1, h2, h3, h4⟩ := ih (by omega)
        have h5 := hget k (by omega)
        rw [List.getElem?_eq_getElem (by omega), Option.bind_eq_some_iff, hz] at h5
        obtain ⟨ds, h6, h7⟩ := h5
        obtain ⟨b, hq, hl⟩ := hel n ds _ hn h7 fun w hw => hB w (List.mem_cons_of_mem _ (List.mem_append.2 (.inl (mem_weightsAll (List.mem_map.2 ⟨elems[k], List.getElem_mem (by omega), rfl⟩) hw))))
        refine ⟨vs ++ [ds], as ++ [b], by simp [h1], h2.snoc hl, fun c hc => ?_, fun i d hd => ?_⟩
        · rcases List.mem_append.1 hc with hc | hc
          · exact h3 c hc
          · rw [List.mem_singleton.1 hc]; exact hq
        · rw [List.getElem?_append] at hd
          by_cases hi : i < vs.length
          · rw [if_pos hi] at hd; exact h4 i d hd
          · rw [if_neg hi] at hd
            have hi' : i = k := by
              have := (List.getElem?_eq_some_iff.1 hd).1
              simp at this
              omega
            subst hi'
            rw [h1, Nat.sub_self] at hd
            simp only [List.getElem?_cons_zero, Option.some.injEq] at hd
            subst hd
            exact h6
    obtain ⟨vs, as, hvl, hF, hQ, hvc⟩ := hlist len (Nat.le_refl _)
    have hal : as.length = len := by rw [← hF.length, hvl]
    refine ⟨as, hQ, by omega, fun ρ H h1 h2 h3 => ?_⟩
    obtain ⟨ρ1, H1, els, g1, g2, g3, g4, g5, g6, g7⟩ := lays_list hup hF ρ H h1 h2 h3
    by_cases hc0 : cap = 0
    · have hl0 : len = 0 := by omega
      subst hc0
      subst hl0
      have hvs : vs = [] := List.length_eq_zero_iff.1 hvl
      have has : as = [] := List.length_eq_zero_iff.1 hal
      subst hvs
      subst has
      cases g6
      exact ⟨ρ1, H1, [.sz a], g1, g2, g3, g4, g5, .cons rfl .nil, _, rfl, [], ⟨by simp, .inl ⟨.inr ⟨a, rfl⟩, rfl⟩⟩, g7, fun _ h => (by cases h)⟩
    · -- the block is there
      obtain ⟨hspot, c, ce, fz, hc⟩ : a.spot = none ∧ ∃ c ce fz, W.heap[a.block]? = some (.cells c ce fz) := by
        by_cases hl0 : len = 0
        · have h5 := hrest 0 (by omega)
          rw [List.getElem?_eq_getElem (by omega), Option.bind_eq_some_iff, hz] at h5
          obtain ⟨ds, h6, _⟩ := h5
          have h6 : W.cells? base (a.add (0 * z)) z = some ds := by simpa [hl0] using h6
          obtain ⟨e1, c, ce, fz, e2, _⟩ := hblk 0 ds h6
          exact ⟨e1 (by simp), c, ce, fz, e2⟩
        · have h5 := hget 0 (by omega)
          rw [List.getElem?_eq_getElem (by omega), Option.bind_eq_some_iff, hz] at h5
          obtain ⟨ds, h6, _⟩ := h5
          obtain ⟨e1, c, ce, fz, e2, _⟩ := hblk 0 ds h6
          exact ⟨e1 (by simp), c, ce, fz, e2⟩
      obtain ⟨hfl, hfg⟩ := flat_getV (c := c) (z := z) vs a.off fun i ds hi => by
        obtain ⟨_, c', ce', fz', hc', e1, e2⟩ := hblk i ds (hvc i ds hi)
        rw [hc] at hc'
        injection hc' with hc'
        injection hc' with hc' _ _
        subst hc'
        exact ⟨e1, e2⟩
      have hDL := g6.flat
      have hlenA : els.flatten.length = len * z := by rw [hDL.length, hfl, hvl]
      have helz : ∀ d ∈ els, d.length = z := fun d hd => by
        obtain ⟨i, hi⟩ := List.getElem?_of_mem hd
        obtain ⟨v, hv, hdl⟩ := g6.get i d hi
        obtain ⟨_, _, _, _, _, e1, _⟩ := hblk i v (hvc i v hv)
        rw [hdl.length, e1]
      by_cases hl0 : len = 0
      · have hnil : els.flatten = [] := List.length_eq_zero_iff.1 (by rw [hlenA, hl0]; simp)
        have hB : CellsOK (upd ρ1 H1.nx ⟨a.block, 0, 0⟩) W ⟨a.block, 0, 0⟩ (layT .lf 0 ([] : List AV)) 0 true := ⟨c, ce, fz, hc, Nat.le_refl _, Nat.zero_le _, fun h => (by cases h), fun i u hu => by
          rw [get_layT, if_neg (by simp), Tr.get_lf] at hu
          cases hu⟩
        obtain ⟨e1, e2, e3, e4, e5⟩ := g1.push_ro g2 g3 hB
        refine ⟨_, _, [.sl H1.nx a.off len cap], e1, e2, e3, g4.trans e4, g5.trans0 e5, .cons ?_ .nil, _, rfl, els, ⟨by rw [hlenA, hal], .inr ⟨H1.nx, a.off, [], false, ⟨cap, by rw [hal], by omega⟩, row_push _ _ _ _ _ (.lay _), fun j hj => by rw [hnil] at hj; cases hj⟩⟩, g7.imp fun c a h => hup _ _ _ _ h e5, helz⟩
        simp only [den, upd_self, Nat.zero_add]
        obtain ⟨ab, ao, as⟩ := a
        simp only at hspot
        subst hspot
        rfl
      · have hpos : 0 < len * z := Nat.mul_pos (by omega) hz0
        have hB : CellsOK (upd ρ1 H1.nx ⟨a.block, a.off, len * z⟩) W ⟨a.block, a.off, len * z⟩ (layT .lf 0 els.flatten) els.flatten.length true := by
          refine ⟨c, ce, fz, hc, Nat.le_of_eq hlenA, ?_, fun h => (by cases h), fun i u hu => ?_⟩
          · have hy : vs.flatten[len * z - 1]? = some (vs.flatten[len * z - 1]'(by rw [hfl, hvl]; omega)) := List.getElem?_eq_getElem _
            have := hfg _ _ hy
            have := (Array.getElem?_eq_some_iff.1 this).1
            show a.off + len * z ≤ c.size
            omega
          · rw [get_layT, Tr.get_lf] at hu
            by_cases hi : 0 ≤ i ∧ i < 0 + els.flatten.length
            · rw [if_pos hi, Nat.sub_zero] at hu
              obtain ⟨y, hy, hd⟩ := hDL.get hu
              exact ⟨by omega, y, den_mono (.upd (g3 _ (Nat.le_refl _))) _ _ hd, hfg _ _ hy⟩
            · rw [if_neg hi] at hu; cases hu
        obtain ⟨e1, e2, e3, e4, e5⟩ := g1.push_ro g2 g3 hB
        refine ⟨_, _, [.sl H1.nx 0 len cap], e1, e2, e3, g4.trans e4, g5.trans0 e5, .cons ?_ .nil, _, rfl, els, ⟨by rw [hlenA, hal], .inr ⟨H1.nx, 0, _, false, ⟨cap, by rw [hal], by omega⟩, row_push _ _ _ _ _ (.lay _), fun j hj => by rw [Nat.zero_add]⟩⟩, g7.imp fun c a h => hup _ _ _ _ h e5, helz⟩
        simp only [den, upd_self, Nat.add_zero]
        obtain ⟨ab, ao, as⟩ := a
        simp only at hspot
        subst hspot
        rfl

/-! ### programs -/
def rB : Nat := 140737488351232
def ok64 (n : Int) : Prop := -9223372036854775808 ≤ n ∧ n < 9223372036854775808
inductive Exp where
  | mk (kind : Int) (name : List UInt8) (num : Int) (l : List Exp)
inductive Stm where
  | mk (kind : Int) (name proc : List UInt8) (num : Int) (e : List Exp) (body els : List Stm)
structure Prm where
  name : List UInt8
  type : Int
structure Prc where
  name : List UInt8
  params : List Prm
  type : Int
  body : List Stm
def Exp.kind : Exp → Int | .mk k _ _ _ => k
def Exp.name : Exp → List UInt8 | .mk _ s _ _ => s
def Exp.num : Exp → Int | .mk _ _ n _ => n
def Exp.l : Exp → List Exp | .mk _ _ _ l => l
def Stm.kind : Stm → Int | .mk k _ _ _ _ _ _ => k
def Stm.name : Stm → List UInt8 | .mk _ s _ _ _ _ _ => s
def Stm.proc : Stm → List UInt8 | .mk _ _ s _ _ _ _ => s
def Stm.num : Stm → Int | .mk _ _ _ n _ _ _ => n
def Stm.e : Stm → List Exp | .mk _ _ _ _ e _ _ => e
def Stm.body : Stm → List Stm | .mk _ _ _ _ _ b _ => b
def Stm.els : Stm → List Stm | .mk _ _ _ _ _ _ b => b
mutual
def szE : Exp → Nat
  | .mk _ _ _ l => szEs l + 1
def szEs : List Exp → Nat
  | [] => 0
  | e :: l => szE e + szEs l + 1
end
mutual
def szS : Stm → Nat
  | .mk _ _ _ _ _ b d => szSs b + szSs d + 1
def szSs : List Stm → Nat
  | [] => 0
  | e :: l => szS e + szSs l + 1
end
theorem szEs_mem {e : Exp} : ∀ {l : List Exp}, e ∈ l → szE e < szEs l
  | [], h => by cases h
  | x :: l, h => by
    simp only [szEs]
    rcases List.mem_cons.1 h with rfl | h
    · omega
    · have := szEs_mem h; omega
theorem szSs_mem {e : Stm} : ∀ {l : List Stm}, e ∈ l → szS e < szSs l
  | [], h => by cases h
  | x :: l, h => by
    simp only [szSs]
    rcases List.mem_cons.1 h with rfl | h
    · omega
    · have := szSs_mem h; omega
/-- an expression's cells -/
inductive IsE : Heap → List AV → Exp → Prop
  | mk {H : Heap} {k n : Int} {s : List UInt8} {l : List Exp} {v : AV} (hk : ok64 k) (hn : ok64 n) (hs : s.length ≤ rB) (hl : l.length ≤ rB) (els : List (List AV)) (h : IsSlR H v 4 l.length els.flatten) (hz : ∀ c ∈ els, c.length = 4)
      (he : els.length = l.length) (ha : ∀ (i : Nat) c e, els[i]? = some c → l[i]? = some e → IsE H c e) : IsE H [.int .i64 k, S s, .int .i64 n, v] (.mk k s n l)
theorem F2.of {R : α → β → Prop} : ∀ {l : List α} {m : List β}, l.length = m.length → (∀ (i : Nat) a b, l[i]? = some a → m[i]? = some b → R a b) → F2 R l m
  | [], [], _, _ => .nil
  | _ :: _, [], h, _ => by cases h
  | [], _ :: _, h, _ => by cases h
  | _ :: _, _ :: _, h, k => .cons (k 0 _ _ rfl rfl) (F2.of (by simpa using h) fun i a b h1 h2 => k (i + 1) a b (by simpa using h1) (by simpa using h2))
theorem IsE.keep {H H' : Heap} {c : List AV} {e : Exp} (h : IsE H c e) (k : Keep Non H H') : IsE H' c e := by
  induction h with
  | mk hk hn hs hl els h hz he _ ih => exact .mk hk hn hs hl els (h.keep k) hz he fun i c e h1 h2 => ih i c e h1 h2
theorem IsE.out {H : Heap} {c : List AV} {e : Exp} (h : IsE H c e) : ∃ v, c = [.int .i64 e.kind, S e.name, .int .i64 e.num, v] ∧ ok64 e.kind ∧ ok64 e.num ∧ e.name.length ≤ rB ∧ e.l.length ≤ rB ∧ IsLs IsE 4 H v e.l := by
  cases h with
  | mk hk hn hs hl els h hz he ha => exact ⟨_, rfl, hk, hn, hs, hl, els, h, .of he ha, hz⟩
theorem IsE.of {H : Heap} {k n : Int} {s : List UInt8} {l : List Exp} {v : AV} (hk : ok64 k) (hn : ok64 n) (hs : s.length ≤ rB) (hl : l.length ≤ rB) (h : IsLs IsE 4 H v l) : IsE H [.int .i64 k, S s, .int .i64 n, v] (.mk k s n l) := by
  obtain ⟨els, h1, h2, h3⟩ := h
  refine .mk hk hn hs hl els h1 h3 h2.length fun i c e hc he => ?_
  obtain ⟨e', h4, h5⟩ := h2.get i c hc
  rw [he] at h4
  injection h4 with h4
  subst h4
  exact h5
/-- a statement's cells -/
inductive IsS : Heap → List AV → Stm → Prop
  | mk {H : Heap} {k n : Int} {s p : List UInt8} {l : List Exp} {b d : List Stm} {v w u : AV} (hk : ok64 k) (hn : ok64 n) (hs : s.length ≤ rB) (hp : p.length ≤ rB) (hl : l.length ≤ rB) (hb : b.length ≤ rB) (hd : d.length ≤ rB) (he : IsLs IsE 4 H v l)
      (xs ys : List (List AV)) (h : IsSlR H w 7 b.length xs.flatten) (hz : ∀ c ∈ xs, c.length = 7) (hx : xs.length = b.length) (ha : ∀ (i : Nat) c e, xs[i]? = some c → b[i]? = some e → IsS H c e)
      (h' : IsSlR H u 7 d.length ys.flatten) (hz' : ∀ c ∈ ys, c.length = 7) (hy : ys.length = d.length) (ha' : ∀ (i : Nat) c e, ys[i]? = some c → d[i]? = some e → IsS H c e) :
      IsS H [.int .i64 k, S s, S p, .int .i64 n, v, w, u] (.mk k s p n l b d)
theorem IsS.keep {H H' : Heap} {c : List AV} {e : Stm} (h : IsS H c e) (k : Keep Non H H') : IsS H' c e := by
  induction h with
  | mk hk hn hs hp hl hb hd he xs ys h hz hx _ h' hz' hy _ ih ih' =>
    exact .mk hk hn hs hp hl hb hd (he.keep k fun c a _ h => h.keep k) xs ys (h.keep k) hz hx (fun i c e h1 h2 => ih i c e h1 h2) (h'.keep k) hz' hy (fun i c e h1 h2 => ih' i c e h1 h2)
theorem IsS.out {H : Heap} {c : List AV} {e : Stm} (h : IsS H c e) : ∃ v w u, c = [.int .i64 e.kind, S e.name, S e.proc, .int .i64 e.num, v, w, u] ∧ ok64 e.kind ∧ ok64 e.num ∧ e.name.length ≤ rB ∧ e.proc.length ≤ rB ∧ e.e.length ≤ rB ∧ e.body.length ≤ rB ∧ e.els.length ≤ rB ∧
    IsLs IsE 4 H v e.e ∧ IsLs IsS 7 H w e.body ∧ IsLs IsS 7 H u e.els := by
  cases h with
  | mk hk hn hs hp hl hb hd he xs ys h hz hx ha h' hz' hy ha' => exact ⟨_, _, _, rfl, hk, hn, hs, hp, hl, hb, hd, he, ⟨xs, h, .of hx ha, hz⟩, ⟨ys, h', .of hy ha', hz'⟩⟩
theorem IsS.of {H : Heap} {k n : Int} {s p : List UInt8} {l : List Exp} {b d : List Stm} {v w u : AV} (hk : ok64 k) (hn : ok64 n) (hs : s.length ≤ rB) (hp : p.length ≤ rB) (hl : l.length ≤ rB) (hb : b.length ≤ rB) (hd : d.length ≤ rB) (he : IsLs IsE 4 H v l)
    (h : IsLs IsS 7 H w b) (h' : IsLs IsS 7 H u d) : IsS H [.int .i64 k, S s, S p, .int .i64 n, v, w, u] (.mk k s p n l b d) := by
  obtain ⟨xs, h1, h2, h3⟩ := h
  obtain ⟨ys, g1, g2, g3⟩ := h'
  refine .mk hk hn hs hp hl hb hd he xs ys h1 h3 h2.length (fun i c e hc he => ?_) g1 g3 g2.length (fun i c e hc he => ?_)
  · obtain ⟨e', h4, h5⟩ := h2.get i c hc
    rw [he] at h4
    injection h4 with h4
    subst h4
    exact h5
  · obtain ⟨e', h4, h5⟩ := g2.get i c hc
    rw [he] at h4
    injection h4 with h4
    subst h4
    exact h5
def IsPm (_ : Heap) (c : List AV) (p : Prm) : Prop := c = [S p.name, .int .i64 p.type] ∧ p.name.length ≤ rB ∧ ok64 p.type
def IsPc (H : Heap) (c : List AV) (p : Prc) : Prop := ∃ v w, c = [S p.name, v, .int .i64 p.type, w] ∧ p.name.length ≤ rB ∧ ok64 p.type ∧ p.params.length ≤ rB ∧ p.body.length ≤ rB ∧ IsLs IsPm 2 H v p.params ∧ IsLs IsS 7 H w p.body
theorem IsPc.keep {H H' : Heap} {c : List AV} {p : Prc} (h : IsPc H c p) (k : Keep Non H H') : IsPc H' c p := by
  obtain ⟨v, w, h1, h2, h3, h4, h5, h6, h7⟩ := h
  exact ⟨v, w, h1, h2, h3, h4, h5, h6.keep k fun _ _ _ h => h, h7.keep k fun _ _ _ h => h.keep k⟩
/-- a program's value -/
def IsPg (H : Heap) (v : AV) (p : List Prc) : Prop := p.length ≤ rB ∧ ∃ u, v = .agg [u] ∧ IsLs IsPc 4 H u p
theorem IsPg.keep {H H' : Heap} {v : AV} {p : List Prc} (h : IsPg H v p) (k : Keep Non H H') : IsPg H' v p := by
  obtain ⟨h0, u, h1, h2⟩ := h
  exact ⟨h0, u, h1, h2.keep k fun _ _ _ h => h.keep k⟩
theorem IsLs.len {R : Heap → List AV → α → Prop} {z : Nat} {H : Heap} {v : AV} {as : List α} (h : IsLs R z H v as) : ∃ els : List (List AV), IsSl H v z as.length els.flatten ∧ F2 (R H) els as ∧ ∀ c ∈ els, c.length = z := by
  obtain ⟨els, h1, h2, h3⟩ := h
  exact ⟨els, h1.sl, h2, h3⟩
theorem flat_elem {z : Nat} : ∀ {els : List (List AV)}, (∀ c ∈ els, c.length = z) → ∀ (i : Nat) c, els[i]? = some c → (els.flatten.drop (i * z)).take z = c
  | [], _, i, c, h => by simp at h
  | d :: els, hz, 0, c, h => by
    simp only [List.getElem?_cons_zero, Option.some.injEq] at h
    subst h
    have := hz d (by simp)
    simp [← this]
  | d :: els, hz, i + 1, c, h => by
    have hd := hz d (by simp)
    have := flat_elem (fun c hc => hz c (List.mem_cons_of_mem _ hc)) i c (by simpa using h)
    rw [List.flatten_cons, show (i + 1) * z = d.length + i * z by rw [hd, Nat.add_mul]; omega, List.drop_length_add_append]
    exact this

/-! ### programs that are laid -/
/-- a struct's fields: their types, where they lie, of how many cells; and of how many cells it is -/
def structAs (P : Program) (t : TypeId) (l : List (TypeId × Nat × Nat)) (n : Nat) : Bool := Nat.beq (P.cellsOf t) n && match P.underlying t with | some (.struct fs) => decide (fs.toList.map (fun f => (f.type, f.offset, P.cellsOf f.type)) = l) | _ => false
theorem trod_structAs {H0 : Type} {enc : TypeId × Value → H0} {base fuel n : Nat} {held : Bool} {sp : Nat → Bool} {t : TypeId} {cs : List Value} {x : DataW H0 × List MemPlace} {l : List (TypeId × Nat × Nat)} (h : structAs P t l n = true) (ht : DataW.trod enc P W base sp held fuel t cs = some x) :
    ∃ (xs : List (DataW H0 × List MemPlace)) (m : Nat), fuel = m + 1 ∧ cs.length = n ∧ xs.length = l.length ∧ ∀ (i : Nat) ty off c, l[i]? = some (ty, off, c) →
      DataW.trod enc P W base sp held m ty ((cs.drop off).take c) = xs[i]? ∧ ∀ y, xs[i]? = some y → ∀ k ∈ y.1.weights P ty, k ∈ x.1.weights P t := by
  simp only [structAs, Bool.and_eq_true] at h
  obtain ⟨h0, h⟩ := h
  split at h
  · rename_i fs hu
    have h := of_decide_eq_true h
    subst h
    obtain ⟨xs, m, rfl, rfl, hlen, hfs, hel⟩ := DataW.trod_struct hu ht
    refine ⟨xs, m, rfl, by rw [hlen]; exact beq_true.1 h0, by simpa using hfs, fun i ty off c hi => ?_⟩
    rw [List.getElem?_map] at hi
    cases hf : fs.toList[i]? with
    | none => rw [hf] at hi; cases hi
    | some f =>
      rw [hf] at hi
      simp only [Option.map_some, Option.some.injEq, Prod.mk.injEq] at hi
      obtain ⟨rfl, rfl, rfl⟩ := hi
      refine ⟨hel i f (by simpa using hf), fun y hy k hk => ?_⟩
      simp only [DataW.weights, hu]
      exact mem_weightsEach (i := i) (by rw [List.getElem?_map, hf]; rfl) (by rw [List.getElem?_map, hy]; rfl) hk
  · cases h
theorem agg_of {b : Nat} {t : TypeId} {l : List (TypeId × Nat × Nat)} {n : Nat} {v : Value} (h : structAs P t l n = true) (hok : Value.okWide P W .any b t v) : ∃ cs : Array Value, v = .agg cs := by
  simp only [structAs, Bool.and_eq_true] at h
  obtain ⟨h0, h⟩ := h
  split at h
  · rename_i fs hu
    simp only [Value.okWide, hu] at hok
    obtain ⟨cs, h, _⟩ := hok
    exact ⟨cs, h⟩
  · cases h
theorem ok64_of {n : Int} (h : (Lit.int .i64 n).wf = true) : ok64 n := by
  simp [Lit.wf, IntKind.min, IntKind.max, IntKind.signed, IntKind.bits] at h
  unfold ok64
  omega
theorem trod_i64 {H0 : Type} {enc : TypeId × Value → H0} {base fuel : Nat} {held : Bool} {sp : Nat → Bool} {t : TypeId} {c : Value} {x : DataW H0 × List MemPlace} (hu : P.underlying t = some (.int .i64)) (ht : DataW.trod enc P W base sp held fuel t [c] = some x) : ∃ n, ok64 n ∧ c = .int .i64 n := by
  obtain ⟨n, h, _, hw⟩ := DataW.trod_int hu ht
  injection h with h _
  exact ⟨n, ok64_of hw, h⟩
theorem trod_str {H0 : Type} {enc : TypeId × Value → H0} {base fuel B : Nat} {held : Bool} {sp : Nat → Bool} {t : TypeId} {c : Value} {x : DataW H0 × List MemPlace} (hu : P.underlying t = some .string) (ht : DataW.trod enc P W base sp held fuel t [c] = some x) (hB : ∀ k ∈ x.1.weights P t, k ≤ B) :
    ∃ s : List UInt8, s.length ≤ B ∧ ∀ ρ, den ρ (S s) = some c := by
  obtain ⟨s, h, rfl, hs⟩ := DataW.trod_string hu ht
  injection h with h _
  subst h
  exact ⟨s.data.toList, hB _ (by simp [DataW.weights]), fun ρ => (isKind.av (d := .string) (v := .string s) ⟨s, rfl, hs⟩ ρ).1⟩
structure PgT (P : Program) (tE tEs tS tSs tM tMs tC tCs tG ti tn ts : TypeId) : Prop where
  e : structAs P tE [(ti, 0, 1), (ts, 1, 1), (tn, 2, 1), (tEs, 3, 1)] 4 = true
  s : structAs P tS [(ti, 0, 1), (ts, 1, 1), (ts, 2, 1), (tn, 3, 1), (tEs, 4, 1), (tSs, 5, 1), (tSs, 6, 1)] 7 = true
  m : structAs P tM [(ts, 0, 1), (ti, 1, 1)] 2 = true
  c : structAs P tC [(ts, 0, 1), (tMs, 1, 1), (ti, 2, 1), (tSs, 3, 1)] 4 = true
  g : structAs P tG [(tCs, 0, 1)] 1 = true
  i : P.underlying ti = some (.int .i64)
  n : P.underlying tn = some (.int .i64)
  str : P.underlying ts = some .string
  es : P.underlying tEs = some (.slice tE)
  ss : P.underlying tSs = some (.slice tS)
  ms : P.underlying tMs = some (.slice tM)
  cs : P.underlying tCs = some (.slice tC)
  by_ : Nat.blt 0 (P.bytesOf tE) && Nat.blt 0 (P.bytesOf tS) && Nat.blt 0 (P.bytesOf tM) && Nat.blt 0 (P.bytesOf tC) = true
theorem cells_as {t : TypeId} {l : List (TypeId × Nat × Nat)} {n : Nat} (h : structAs P t l n = true) : P.cellsOf t = n := by
  simp only [structAs, Bool.and_eq_true] at h
  exact beq_true.1 h.1
section
variable {tE tEs tS tSs tM tMs tC tCs tG ti tn ts : TypeId} {H0 : Type} {enc : TypeId × Value → H0} {base : Nat} {held : Bool}
theorem PgT.by4 (T : PgT P tE tEs tS tSs tM tMs tC tCs tG ti tn ts) : 0 < P.bytesOf tE ∧ 0 < P.bytesOf tS ∧ 0 < P.bytesOf tM ∧ 0 < P.bytesOf tC := by
  have := T.by_
  simp only [Bool.and_eq_true, blt_iff, decide_eq_true_eq] at this
  exact ⟨this.1.1.1, this.1.1.2, this.1.2, this.2⟩
theorem lay_exp (T : PgT P tE tEs tS tSs tM tMs tC tCs tG ti tn ts) : ∀ (fuel : Nat) (cs : List Value) (x : DataW H0 × List MemPlace), DataW.trod enc P W base (fun _ => true) held fuel tE cs = some x → (∀ k ∈ x.1.weights P tE, k ≤ rB) → ∃ e, Lays W IsE cs e := by
  intro fuel
  induction fuel using Nat.strongRecOn with
  | ind fuel ih =>
    intro cs x h hB
    obtain ⟨xs, m, rfl, hlen, hxl, hel⟩ := trod_structAs T.e h
    match cs, hlen, xs, hxl with
    | [c0, c1, c2, c3], _, [x0, x1, x2, x3], _ =>
      obtain ⟨f0, _⟩ := hel 0 _ _ _ rfl
      obtain ⟨f1, w1⟩ := hel 1 _ _ _ rfl
      obtain ⟨f2, _⟩ := hel 2 _ _ _ rfl
      obtain ⟨f3, w3⟩ := hel 3 _ _ _ rfl
      obtain ⟨k, hk, rfl⟩ := trod_i64 T.i (show DataW.trod enc P W base (fun _ => true) held m ti [c0] = some x0 from f0)
      obtain ⟨s, hs, hd⟩ := trod_str T.str (show DataW.trod enc P W base (fun _ => true) held m ts [c1] = some x1 from f1) fun k hk => hB k (w1 x1 rfl k hk)
      obtain ⟨n, hn, rfl⟩ := trod_i64 T.n (show DataW.trod enc P W base (fun _ => true) held m tn [c2] = some x2 from f2)
      obtain ⟨l, _, hl, hL⟩ := lays_slice (R := IsE) (Q := fun _ => True) (fun _ _ _ _ h k => h.keep k) T.es (cells_as T.e) (by decide) T.by4.1 (show DataW.trod enc P W base (fun _ => true) held m tEs [c3] = some x3 from f3) (fun k hk => hB k (w3 x3 rfl k hk))
        fun n ds y hn hy hw => (ih n (by omega) ds y hy hw).imp fun a h => ⟨trivial, h⟩
      exact ⟨.mk k s n l, Lays.append (R := fun _ c (_ : Unit) => c = [.int .i64 k, S s, .int .i64 n]) (a := ()) (cs := [.int .i64 k, c1, .int .i64 n]) (ds := [c3]) (lays_of (fun ρ => DL.cons rfl (.cons (hd ρ) (.cons rfl .nil))) fun _ => rfl) hL (fun _ _ _ h _ => h)
        fun H c d h1 ⟨v, h2, h3⟩ => by subst h1 h2; exact .of hk hn hs hl h3⟩
theorem lay_exps (T : PgT P tE tEs tS tSs tM tMs tC tCs tG ti tn ts) {fuel : Nat} {cs : List Value} {x : DataW H0 × List MemPlace} (h : DataW.trod enc P W base (fun _ => true) held fuel tEs cs = some x) (hB : ∀ k ∈ x.1.weights P tEs, k ≤ rB) :
    ∃ l : List Exp, l.length ≤ rB ∧ Lays W (fun H c l => ∃ v, c = [v] ∧ IsLs IsE 4 H v l) cs l := by
  obtain ⟨l, _, h⟩ := lays_slice (R := IsE) (Q := fun _ => True) (fun _ _ _ _ h k => h.keep k) T.es (cells_as T.e) (by decide) T.by4.1 h hB fun n ds y _ hy hw => (lay_exp T n ds y hy hw).imp fun a h => ⟨trivial, h⟩
  exact ⟨l, h⟩
theorem lay_stm (T : PgT P tE tEs tS tSs tM tMs tC tCs tG ti tn ts) : ∀ (fuel : Nat) (cs : List Value) (x : DataW H0 × List MemPlace), DataW.trod enc P W base (fun _ => true) held fuel tS cs = some x → (∀ k ∈ x.1.weights P tS, k ≤ rB) → ∃ e, Lays W IsS cs e := by
  intro fuel
  induction fuel using Nat.strongRecOn with
  | ind fuel ih =>
    intro cs x h hB
    obtain ⟨xs, m, rfl, hlen, hxl, hel⟩ := trod_structAs T.s h
    match cs, hlen, xs, hxl with
    | [c0, c1, c2, c3, c4, c5, c6], _, [x0, x1, x2, x3, x4, x5, x6], _ =>
      obtain ⟨f0, _⟩ := hel 0 _ _ _ rfl
      obtain ⟨f1, w1⟩ := hel 1 _ _ _ rfl
      obtain ⟨f2, w2⟩ := hel 2 _ _ _ rfl
      obtain ⟨f3, _⟩ := hel 3 _ _ _ rfl
      obtain ⟨f4, w4⟩ := hel 4 _ _ _ rfl
      obtain ⟨f5, w5⟩ := hel 5 _ _ _ rfl
      obtain ⟨f6, w6⟩ := hel 6 _ _ _ rfl
      obtain ⟨k, hk, rfl⟩ := trod_i64 T.i (show DataW.trod enc P W base (fun _ => true) held m ti [c0] = some x0 from f0)
      obtain ⟨s, hs, hd⟩ := trod_str T.str (show DataW.trod enc P W base (fun _ => true) held m ts [c1] = some x1 from f1) fun k hk => hB k (w1 x1 rfl k hk)
      obtain ⟨p, hp, hdp⟩ := trod_str T.str (show DataW.trod enc P W base (fun _ => true) held m ts [c2] = some x2 from f2) fun k hk => hB k (w2 x2 rfl k hk)
      obtain ⟨n, hn, rfl⟩ := trod_i64 T.n (show DataW.trod enc P W base (fun _ => true) held m tn [c3] = some x3 from f3)
      obtain ⟨l, hl, hL⟩ := lay_exps T (show DataW.trod enc P W base (fun _ => true) held m tEs [c4] = some x4 from f4) fun k hk => hB k (w4 x4 rfl k hk)
      obtain ⟨b, _, hb, hM⟩ := lays_slice (R := IsS) (Q := fun _ => True) (fun _ _ _ _ h k => h.keep k) T.ss (cells_as T.s) (by decide) T.by4.2.1 (show DataW.trod enc P W base (fun _ => true) held m tSs [c5] = some x5 from f5) (fun k hk => hB k (w5 x5 rfl k hk))
        fun n ds y hn hy hw => (ih n (by omega) ds y hy hw).imp fun a h => ⟨trivial, h⟩
      obtain ⟨d, _, hdl, hN⟩ := lays_slice (R := IsS) (Q := fun _ => True) (fun _ _ _ _ h k => h.keep k) T.ss (cells_as T.s) (by decide) T.by4.2.1 (show DataW.trod enc P W base (fun _ => true) held m tSs [c6] = some x6 from f6) (fun k hk => hB k (w6 x6 rfl k hk))
        fun n ds y hn hy hw => (ih n (by omega) ds y hy hw).imp fun a h => ⟨trivial, h⟩
      have h56 : Lays W (fun H c (_ : Unit) => ∃ w u, c = [w, u] ∧ IsLs IsS 7 H w b ∧ IsLs IsS 7 H u d) ([c5] ++ [c6]) () := hM.append hN (fun _ _ _ ⟨v, h, h1⟩ k => ⟨v, h, h1.keep k fun _ _ _ h => h.keep k⟩) fun H c e ⟨v, h1, h2⟩ ⟨u, h3, h4⟩ => by subst h1 h3; exact ⟨v, u, rfl, h2, h4⟩
      have h456 : Lays W (fun H c (_ : Unit) => ∃ v w u, c = [v, w, u] ∧ IsLs IsE 4 H v l ∧ IsLs IsS 7 H w b ∧ IsLs IsS 7 H u d) ([c4] ++ ([c5] ++ [c6])) () := hL.append h56 (fun _ _ _ ⟨v, h, h1⟩ k => ⟨v, h, h1.keep k fun _ _ _ h => h.keep k⟩) fun H c e ⟨v, h1, h2⟩ ⟨w, u, h3, h4⟩ => by subst h1 h3; exact ⟨v, w, u, rfl, h2, h4⟩
      exact ⟨.mk k s p n l b d, Lays.append (R := fun _ c (_ : Unit) => c = [.int .i64 k, S s, S p, .int .i64 n]) (a := ()) (cs := [.int .i64 k, c1, c2, .int .i64 n]) (ds := [c4] ++ ([c5] ++ [c6]))
        (lays_of (fun ρ => DL.cons rfl (.cons (hd ρ) (.cons (hdp ρ) (.cons rfl .nil)))) fun _ => rfl) h456 (fun _ _ _ h _ => h) fun H c e h1 ⟨v, w, u, h2, h3, h4, h5⟩ => by subst h1 h2; exact .of hk hn hs hp hl hb hdl h3 h4 h5⟩
theorem lay_stms (T : PgT P tE tEs tS tSs tM tMs tC tCs tG ti tn ts) {fuel : Nat} {cs : List Value} {x : DataW H0 × List MemPlace} (h : DataW.trod enc P W base (fun _ => true) held fuel tSs cs = some x) (hB : ∀ k ∈ x.1.weights P tSs, k ≤ rB) :
    ∃ l : List Stm, l.length ≤ rB ∧ Lays W (fun H c l => ∃ v, c = [v] ∧ IsLs IsS 7 H v l) cs l := by
  obtain ⟨l, _, h⟩ := lays_slice (R := IsS) (Q := fun _ => True) (fun _ _ _ _ h k => h.keep k) T.ss (cells_as T.s) (by decide) T.by4.2.1 h hB fun n ds y _ hy hw => (lay_stm T n ds y hy hw).imp fun a h => ⟨trivial, h⟩
  exact ⟨l, h⟩
theorem lay_prms (T : PgT P tE tEs tS tSs tM tMs tC tCs tG ti tn ts) {fuel : Nat} {cs : List Value} {x : DataW H0 × List MemPlace} (h : DataW.trod enc P W base (fun _ => true) held fuel tMs cs = some x) (hB : ∀ k ∈ x.1.weights P tMs, k ≤ rB) :
    ∃ l : List Prm, l.length ≤ rB ∧ Lays W (fun H c l => ∃ v, c = [v] ∧ IsLs IsPm 2 H v l) cs l := by
  obtain ⟨l, _, h⟩ := lays_slice (R := IsPm) (Q := fun _ => True) (fun _ _ _ _ h _ => h) T.ms (cells_as T.m) (by decide) T.by4.2.2.1 h hB fun n ds y _ hy hw => by
    obtain ⟨xs, m, rfl, hlen, hxl, hel⟩ := trod_structAs T.m hy
    match ds, hlen, xs, hxl with
    | [c0, c1], _, [x0, x1], _ =>
      obtain ⟨f0, w0⟩ := hel 0 _ _ _ rfl
      obtain ⟨f1, _⟩ := hel 1 _ _ _ rfl
      obtain ⟨s, hs, hd⟩ := trod_str T.str (show DataW.trod enc P W base (fun _ => true) held m ts [c0] = some x0 from f0) fun k hk => hw k (w0 x0 rfl k hk)
      obtain ⟨k, hk, rfl⟩ := trod_i64 T.i (show DataW.trod enc P W base (fun _ => true) held m ti [c1] = some x1 from f1)
      exact ⟨⟨s, k⟩, trivial, lays_of (c := [S s, .int .i64 k]) (fun ρ => DL.cons (hd ρ) (.cons rfl .nil)) fun _ => ⟨rfl, hs, hk⟩⟩
  exact ⟨l, h⟩
theorem lay_prc (T : PgT P tE tEs tS tSs tM tMs tC tCs tG ti tn ts) {fuel : Nat} {cs : List Value} {x : DataW H0 × List MemPlace} (h : DataW.trod enc P W base (fun _ => true) held fuel tC cs = some x) (hB : ∀ k ∈ x.1.weights P tC, k ≤ rB) : ∃ p, Lays W IsPc cs p := by
  obtain ⟨xs, m, rfl, hlen, hxl, hel⟩ := trod_structAs T.c h
  match cs, hlen, xs, hxl with
  | [c0, c1, c2, c3], _, [x0, x1, x2, x3], _ =>
    obtain ⟨f0, w0⟩ := hel 0 _ _ _ rfl
    obtain ⟨f1, w1⟩ := hel 1 _ _ _ rfl
    obtain ⟨f2, _⟩ := hel 2 _ _ _ rfl
    obtain ⟨f3, w3⟩ := hel 3 _ _ _ rfl
    obtain ⟨s, hs, hd⟩ := trod_str T.str (show DataW.trod enc P W base (fun _ => true) held m ts [c0] = some x0 from f0) fun k hk => hB k (w0 x0 rfl k hk)
    obtain ⟨l, hl, hL⟩ := lay_prms T (show DataW.trod enc P W base (fun _ => true) held m tMs [c1] = some x1 from f1) fun k hk => hB k (w1 x1 rfl k hk)
    obtain ⟨k, hk, rfl⟩ := trod_i64 T.i (show DataW.trod enc P W base (fun _ => true) held m ti [c2] = some x2 from f2)
    obtain ⟨b, hb, hM⟩ := lay_stms T (show DataW.trod enc P W base (fun _ => true) held m tSs [c3] = some x3 from f3) fun k hk => hB k (w3 x3 rfl k hk)
    have h23 : Lays W (fun H c (_ : Unit) => ∃ w, c = [.int .i64 k, w] ∧ IsLs IsS 7 H w b) ([.int .i64 k] ++ [c3]) () := Lays.append (R := fun _ c (_ : Unit) => c = [.int .i64 k]) (a := ()) (lays_of (fun ρ => DL.cons rfl .nil) fun _ => rfl) hM (fun _ _ _ h _ => h) fun H c e h1 ⟨v, h2, h3⟩ => by subst h1 h2; exact ⟨v, rfl, h3⟩
    have h123 : Lays W (fun H c (_ : Unit) => ∃ v w, c = [v, .int .i64 k, w] ∧ IsLs IsPm 2 H v l ∧ IsLs IsS 7 H w b) ([c1] ++ ([.int .i64 k] ++ [c3])) () := hL.append h23 (fun _ _ _ ⟨v, h, h1⟩ k => ⟨v, h, h1.keep k fun _ _ _ h => h⟩) fun H c e ⟨v, h1, h2⟩ ⟨w, h3, h4⟩ => by subst h1 h3; exact ⟨v, w, rfl, h2, h4⟩
    exact ⟨⟨s, l, k, b⟩, Lays.append (R := fun _ c (_ : Unit) => c = [S s]) (a := ()) (cs := [c0]) (ds := [c1] ++ ([.int .i64 k] ++ [c3])) (lays_of (fun ρ => DL.cons (hd ρ) .nil) fun _ => rfl) h123 (fun _ _ _ h _ => h) fun H c e h1 ⟨v, w, h2, h3, h4⟩ => by subst h1 h2; exact ⟨v, w, rfl, hs, hk, hl, hb, h3, h4⟩⟩
/-- a program, as an argument -/
theorem lay_prog (T : PgT P tE tEs tS tSs tM tMs tC tCs tG ti tn ts) {fuel b : Nat} {v : Value} {x : DataW H0 × List MemPlace} (h : DataW.trod enc P W base (fun _ => true) held fuel tG v.cells.toList = some x) (hok : Value.okWide P W .any b tG v) (hB : ∀ k ∈ x.1.weights P tG, k ≤ rB) :
    ∃ p : List Prc, ∀ ρ H, HR ρ H W → AllRo H → Frees ρ H → ∃ ρ' H' u, HR ρ' H' W ∧ AllRo H' ∧ Frees ρ' H' ∧ Sub ρ ρ' ∧ Keep Non H H' ∧ den ρ' u = some v ∧ IsPg H' u p := by
  obtain ⟨cs, rfl⟩ := agg_of T.g hok
  obtain ⟨xs, m, rfl, hlen, hxl, hel⟩ := trod_structAs T.g h
  obtain ⟨cs⟩ := cs
  match cs, hlen, xs, hxl with
  | [c0], _, [x0], _ =>
    obtain ⟨f0, w0⟩ := hel 0 _ _ _ rfl
    obtain ⟨p, _, hp, hL⟩ := lays_slice (R := IsPc) (Q := fun _ => True) (fun _ _ _ _ h k => h.keep k) T.cs (cells_as T.c) (by decide) T.by4.2.2.2 (show DataW.trod enc P W base (fun _ => true) held m tCs [c0] = some x0 from f0) (fun k hk => hB k (w0 x0 rfl k hk))
      fun n ds y _ hy hw => (lay_prc T hy hw).imp fun a h => ⟨trivial, h⟩
    refine ⟨p, fun ρ H h1 h2 h3 => ?_⟩
    obtain ⟨ρ1, H1, c, g1, g2, g3, g4, g5, g6, v, rfl, g7⟩ := hL ρ H h1 h2 h3
    refine ⟨ρ1, H1, .agg [v], g1, g2, g3, g4, g5, ?_, hp, v, rfl, g7⟩
    simp only [den, show denL ρ1 [v] = some [c0] from g6]
end
end
end Eng
end Go.Proofs.YtalnmaalhocjfaaGreatDoor
