/-
  THE ENGINE, part TA: from a run of the engine to what the model's call does; the variables that are laid.
-/
import Derived.Test.YtbdhainbcfobeaaGreatDoorEngZC
import Derived.Test.YtbdhainbcfobeaaGreatDoorEngFF
import Derived.OpenShut
import Derived.FnData
import GoSem.ClaimJoined
namespace Go.Proofs.YtbdhainbcfobeaaGreatDoor
namespace Eng
open Go
variable {P : Program}

/-! ### a run's meaning -/
theorem contract_of_run (hP : progOK P = true) (hfol : P.follows .mixedOrders = true) {n : Nat} {f : FuncId} {xs : List AV} {H H' : Heap} {v : AV} (hrun : callF P n f xs H = .ret v H')
    {ρ : Rho} {W : World} {args : Array Value} (hm : DL ρ xs args.toList) (hH : HR ρ H W) (hG : GOK P ρ) (hnew : ∀ b, H.nx ≤ b → ρ b = none) (hro : ∀ b B, getB H b = some B → ¬ wr B) {x : Value} (hx : ∀ ρ', den ρ' v = some x) :
    Calls P f args W fun e W' => e = .returned x ∧ W.keptBut W' (fun _ => False) := by
  have hbad : callF P n f xs H ≠ .bad := by rw [hrun]; intro h; cases h
  have := ((level_ok hP hfol n).1 f xs H hbad).2 ρ W args hm hH hG (fun v H' _ b hb _ => hnew b hb)
  refine this.mono fun e W' hp => ?_
  rw [hrun] at hp
  cases e with
  | returned y =>
    obtain ⟨v', H2, ρ', hr, hd, hHR, hE⟩ := hp
    injection hr with h1 h2
    subst h1 h2
    rw [hx ρ'] at hd
    injection hd with hd
    subst hd
    refine ⟨rfl, hE.os, hE.output, fun i hi => ?_⟩
    have hk := hE.keep i hi (fun ⟨b, B, p, hB, hp, hc, hw⟩ => hro b B hB hw)
    rw [hk]
    cases hc : W.heap[i]? with
    | none => rfl
    | some o =>
      cases o with
      | cells c t fr => exact ⟨rfl, rfl, rfl, fun _ _ => rfl⟩
      | map es k => exact .inr ⟨rfl, rfl⟩
      | _ => rfl
  | panicked ch =>
    obtain ⟨v', H2, ρ', hr, _⟩ := hp
    cases hr
  | outgrown => exact hp.elim

/-! ### flat data -/
def catA (f : DataW Unit → Option (List AV)) (z : Nat) : List (DataW Unit) → Option (List AV)
  | [] => some []
  | d :: ds => match f d, catA f z ds with
    | some l, some r => if l.length = z then some (l ++ r) else none
    | _, _ => none
def catS (P : Program) (f : TypeId → DataW Unit → Option (List AV)) : Nat → List Field → List (DataW Unit) → Option (List AV)
  | _, [], [] => some []
  | off, x :: fs, d :: ds => match f x.type d, catS P f (off + P.cellsOf x.type) fs ds with
    | some l, some r => if x.offset = off ∧ l.length = P.cellsOf x.type then some (l ++ r) else none
    | _, _ => none
  | _, _, _ => none
def flatD (P : Program) : Nat → TypeId → DataW Unit → Option (List AV)
  | 0, _, _ => none
  | n + 1, t, d => match P.underlying t, d with
    | some .bool, .lit (.bool b) => some [.bool b]
    | some (.int k), .lit (.int _ z) => some [.int k z]
    | some .string, .lit (.string bs) => some [.str bs.length (packL bs)]
    | some (.array m e), .agg ds => if P.cellsOf t = m * P.cellsOf e then catA (flatD P n e) (P.cellsOf e) ds else none
    | some (.struct fs), .agg ds => match catS P (flatD P n) 0 fs.toList ds with
      | some l => if l.length = P.cellsOf t then some l else none
      | none => none
    | _, _ => none
theorem take_drop_succ {α : Type} (cs : List α) (i z : Nat) : (cs.drop ((i + 1) * z)).take z = ((cs.drop z).drop (i * z)).take z := by
  rw [List.drop_drop]
  congr 2
  rw [Nat.add_mul, Nat.one_mul, Nat.add_comm]
theorem catA_ok {ρ : Rho} {f : DataW Unit → Option (List AV)} {z : Nat} : ∀ (ds : List (DataW Unit)) (l : List AV) (cs : List Value), catA f z ds = some l → cs.length = ds.length * z →
    (∀ (i : Nat) d l, ds[i]? = some d → f d = some l → DL ρ l ((cs.drop (i * z)).take z)) → DL ρ l cs
  | [], l, cs, h, hl, _ => by
    injection h with h
    subst h
    have : cs = [] := List.length_eq_zero_iff.1 (by simpa using hl)
    subst this
    exact .nil
  | d :: ds, l, cs, h, hl, hd => by
    simp only [catA] at h
    split at h
    · rename_i l0 r h0 hr
      split at h
      · rename_i hz
        injection h with h
        subst h
        have h1 := hd 0 d l0 rfl h0
        simp only [Nat.zero_mul, List.drop_zero] at h1
        have h2 := catA_ok ds r (cs.drop z) hr (by rw [List.length_drop, hl, List.length_cons, Nat.add_mul]; omega) (fun i d l hi hf => by
          rw [← take_drop_succ]
          exact hd (i + 1) d l (by simpa using hi) hf)
        have := h1.append h2
        rwa [List.take_append_drop] at this
      · cases h
    · cases h
theorem catS_ok {ρ : Rho} {f : TypeId → DataW Unit → Option (List AV)} {cs : List Value} : ∀ (fs : List Field) (ds : List (DataW Unit)) (off : Nat) (l : List AV), catS P f off fs ds = some l → cs.length = off + l.length →
    (∀ (i : Nat) (x : Field) d l, fs[i]? = some x → ds[i]? = some d → f x.type d = some l → DL ρ l ((cs.drop x.offset).take (P.cellsOf x.type))) → DL ρ l (cs.drop off)
  | [], [], off, l, h, hl, _ => by
    injection h with h
    subst h
    rw [List.drop_eq_nil_of_le (by simp at hl; omega)]
    exact .nil
  | [], _ :: _, _, _, h, _, _ => by cases h
  | _ :: _, [], _, _, h, _, _ => by cases h
  | x :: fs, d :: ds, off, l, h, hl, hd => by
    simp only [catS] at h
    split at h
    · rename_i l0 r h0 hr
      split at h
      · rename_i hz
        injection h with h
        subst h
        have h1 := hd 0 x d l0 rfl rfl h0
        rw [hz.1] at h1
        rw [List.length_append] at hl
        have h2 := catS_ok fs ds _ r hr (by omega) (fun i x d l hi hj hf => hd (i + 1) x d l (by simpa using hi) (by simpa using hj) hf)
        have := h1.append h2
        rw [← List.drop_drop, List.take_append_drop] at this
        exact this
      · cases h
    · cases h
theorem flatD_ok {ρ : Rho} {w : World} {base : Nat} {sp : Nat → Bool} {held : Bool} : ∀ (n : Nat) (t : TypeId) (d : DataW Unit) (l : List AV), flatD P n t d = some l →
    ∀ (fuel : Nat) (cs : List Value) (ps : List MemPlace), DataW.trod (fun _ => ()) P w base sp held fuel t cs = some (d, ps) → DL ρ l cs
  | 0, _, _, _, h, _, _, _, _ => by cases h
  | n + 1, t, d, l, h, fuel, cs, ps, ht => by
    simp only [flatD] at h
    split at h
    · rename_i b hu
      obtain ⟨c, rfl, hx⟩ := DataW.trod_bool hu ht
      injection hx with hx _
      injection h with h
      cases hx; subst h
      exact .cons rfl .nil
    · rename_i k j z hu
      obtain ⟨c, rfl, hx, _⟩ := DataW.trod_int hu ht
      injection hx with hx _
      injection h with h
      cases hx; subst h
      exact .cons rfl .nil
    · rename_i bs hu
      obtain ⟨c, rfl, hx, _⟩ := DataW.trod_string hu ht
      injection hx with hx _
      injection h with h
      cases hx; subst h
      have : unpack c.data.toList.length (packL c.data.toList) = c := by
        have h := unpack_pack c
        have e : c.size = c.data.toList.length := Array.length_toList.symm
        rw [e] at h
        exact h
      exact .cons (show den ρ (.str c.data.toList.length (packL c.data.toList)) = some (.string c) by rw [den, this]) .nil
    · rename_i m e ds hu
      split at h
      · rename_i hz
        obtain ⟨xs, k, rfl, hx, hlen, hm, hel⟩ := DataW.trod_array hu ht
        injection hx with hx _
        injection hx with hx
        subst hx
        refine catA_ok _ _ _ h (by rw [hlen, hz, List.length_map, hm]) (fun i d l hi hf => ?_)
        rw [List.getElem?_map] at hi
        cases hxi : xs[i]? with
        | none => rw [hxi] at hi; cases hi
        | some y =>
          rw [hxi] at hi
          simp only [Option.map_some, Option.some.injEq] at hi
          have him : i < m := by rw [← hm]; exact (List.getElem?_eq_some_iff.1 hxi).1
          have := hel i him
          rw [hxi] at this
          obtain ⟨y1, y2⟩ := y
          simp only at hi
          subst hi
          exact flatD_ok n e _ l hf _ _ _ this
      · cases h
    · rename_i fs ds hu
      split at h
      · rename_i l0 h0
        split at h
        · rename_i hz
          injection h with h
          subst h
          obtain ⟨xs, k, rfl, hx, hlen, hm, hel⟩ := DataW.trod_struct hu ht
          injection hx with hx _
          injection hx with hx
          subst hx
          refine catS_ok (P := P) fs.toList _ 0 _ h0 (by rw [hlen]; omega) (fun i x d l hi hj hf => ?_)
          rw [List.getElem?_map] at hj
          cases hxi : xs[i]? with
          | none => rw [hxi] at hj; cases hj
          | some y =>
            rw [hxi] at hj
            simp only [Option.map_some, Option.some.injEq] at hj
            have := hel i x (by simpa using hi)
            rw [hxi] at this
            obtain ⟨y1, y2⟩ := y
            simp only at hj
            subst hj
            exact flatD_ok n _ _ l hf _ _ _ this
        · cases h
      · cases h
    · cases h

/-! ### the memory that is laid -/
def laidG : List (List AV) → Nat → Heap → Heap
  | [], _, H => H
  | l :: r, i, H => laidG r (Nat.succ i) (layC .lf 0 l fun t => setB H i (some (.cells t (len' l) false true)) fun H => H)
theorem getB_laidG : ∀ (gl : List (List AV)) (i : Nat) (H : Heap) (b : Nat), getB (laidG gl i H) b = if i ≤ b then (match gl[b - i]? with | some l => some (.cells (layT .lf 0 l) l.length false true) | none => getB H b) else getB H b
  | [], i, H, b => by simp [laidG]
  | l :: r, i, H, b => by
    simp only [laidG, layC_eq, setB_eq]
    rw [getB_laidG r]
    rw [getB_set, len'_eq]
    by_cases h1 : i + 1 ≤ b
    · rw [if_pos (show Nat.succ i ≤ b from h1), if_pos (by omega : i ≤ b)]
      have : b - i = (b - (i + 1)) + 1 := by omega
      rw [this, List.getElem?_cons_succ]
      show (match r[b - (i + 1)]? with | some l => _ | none => _) = _
      cases r[b - (i + 1)]? with
      | none => simp [show ¬ i = b by omega]
      | some l => rfl
    · rw [if_neg (show ¬ Nat.succ i ≤ b from h1)]
      by_cases h2 : i = b
      · subst h2
        simp
      · rw [if_neg h2, if_neg (by omega)]
theorem laidG_nx : ∀ (gl : List (List AV)) (i : Nat) (H : Heap), (laidG gl i H).nx = H.nx
  | [], _, _ => rfl
  | l :: r, i, H => by simp only [laidG, layC_eq, setB_eq]; rw [laidG_nx r]
def H0 (gl : List (List AV)) (m : Nat) : Heap := laidG gl 0 ⟨.lf, m⟩
theorem getB_H0 {gl : List (List AV)} {m b : Nat} {B : Blk} (h : getB (H0 gl m) b = some B) : ∃ l, gl[b]? = some l ∧ B = .cells (layT .lf 0 l) l.length false true := by
  have : getB (⟨.lf, m⟩ : Heap) b = none := by simp [getB, Tr.get_lf]
  simp only [H0, getB_laidG, this] at h
  simp only [Nat.zero_le, if_true, Nat.sub_zero] at h
  cases hl : gl[b]? with
  | none => rw [hl] at h; cases h
  | some l => rw [hl] at h; injection h with h; exact ⟨l, rfl, h.symm⟩
def rho0 (W : World) (m : Nat) : Rho := fun b => if b < m then some ⟨b, 0, match W.heap[b]? with | some (.cells c _ _) => c.size | _ => 0⟩ else none
theorem H0_ro {gl : List (List AV)} {m b : Nat} {B : Blk} (h : getB (H0 gl m) b = some B) : ¬ wr B := by
  obtain ⟨l, _, rfl⟩ := getB_H0 h
  simp [wr]
theorem H0_HR {gl : List (List AV)} {m : Nat} {W : World} (hm : gl.length ≤ m) (hgl : ∀ (b : Nat) l, gl[b]? = some l → ∃ c t fz, W.heap[b]? = some (.cells c t fz) ∧ DL (rho0 W m) l c.toList) : HR (rho0 W m) (H0 gl m) W where
  blk b B h := by
    obtain ⟨l, hl, rfl⟩ := getB_H0 h
    obtain ⟨c, t, fz, hc, hd⟩ := hgl b l hl
    have hb : b < m := Nat.lt_of_lt_of_le (List.getElem?_eq_some_iff.1 hl).1 hm
    refine ⟨⟨b, 0, c.size⟩, by simp [rho0, hb, hc], c, t, fz, hc, ?_, ?_, fun h => by simp at h, fun i v hv => ?_⟩
    · have := hd.length; simp at this; simp [this]
    · simp
    · rw [get_layT] at hv
      have hv : (if i < l.length then l[i]? else none) = some v := by simpa [Tr.get_lf] using hv
      by_cases hi : i < l.length
      · rw [if_pos hi] at hv
        obtain ⟨x, hx, hxd⟩ := hd.get hv
        exact ⟨hi, x, hxd, by simpa using hx⟩
      · rw [if_neg hi] at hv; cases hv
  apart b b' B B' p p' k i hne hB hB' hp hp' hc := by
    obtain ⟨l, hl, rfl⟩ := getB_H0 hB
    obtain ⟨l', hl', rfl⟩ := getB_H0 hB'
    simp only [rho0] at hp hp'
    split at hp
    · injection hp with hp
      split at hp'
      · injection hp' with hp'
        subst hp hp'
        rintro ⟨h1, _⟩
        have h2 := hc.1
        simp only at h1 h2
        exact hne (h2.trans h1.symm)
      · cases hp'
    · cases hp
  lt b B h := by
    obtain ⟨l, hl, rfl⟩ := getB_H0 h
    rw [H0, laidG_nx]
    exact Nat.lt_of_lt_of_le (List.getElem?_eq_some_iff.1 hl).1 hm
theorem rho0_G {W : World} {m : Nat} (h : P.globals.size ≤ m) : GOK P (rho0 W m) := fun g hg => ⟨_, by simp only [rho0]; rw [if_pos (Nat.lt_of_lt_of_le hg h)]⟩
theorem rho0_new {W : World} {gl : List (List AV)} {m b : Nat} (h : (H0 gl m).nx ≤ b) : rho0 W m b = none := by
  rw [H0, laidG_nx] at h
  simp only [rho0]
  rw [if_neg (by simpa using h)]
end Eng
end Go.Proofs.YtbdhainbcfobeaaGreatDoor
