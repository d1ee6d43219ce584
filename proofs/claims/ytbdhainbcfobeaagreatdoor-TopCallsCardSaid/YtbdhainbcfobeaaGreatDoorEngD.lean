/-
  THE ENGINE, part D: what its values and its memory stand for in the model's.
-/
import Derived.Test.YtbdhainbcfobeaaGreatDoorEngC
import Derived.Below
import Derived.Laws.IdiomCopy
namespace Go.Proofs.YtbdhainbcfobeaaGreatDoor
namespace Eng
open Go

/-- where a block lies: the model's block, from which cell on, how many cells are its own (spare ones among them) -/
structure Pl where
  blk : Nat
  off : Nat
  lim : Nat
abbrev Rho := Nat → Option Pl

mutual
def den (ρ : Rho) : AV → Option Value
  | .bool b => some (.bool b)
  | .int k n => some (.int k n)
  | .str l x => some (.string (unpack l x))
  | .nilp => some (.pointer none)
  | .ptr b o => match ρ b with | some p => some (.pointer (some ⟨p.blk, p.off + o, none⟩)) | none => none
  | .nils => some (.slice none 0 0)
  | .sl b o n c => match ρ b with | some p => some (.slice (some ⟨p.blk, p.off + o, none⟩) n c) | none => none
  | .so b o n z => match ρ b with | some p => some (.slice (some ⟨p.blk, p.off + o, none⟩) n ((p.lim - o) / z)) | none => none
  | .se b o was z => match ρ b with | some p => some (.slice (some ⟨p.blk, p.off + (if (p.lim - o) / z = 0 then was else o), none⟩) 0 ((p.lim - o) / z)) | none => none
  | .nilm => some (.map none)
  | .map b => match ρ b with | some p => some (.map (some p.blk)) | none => none
  | .fn f l => match denL ρ l with | some l => some (.func (.func f) #[] l.toArray) | none => none
  | .nilf => some .nilFunc
  | .nili => some .nilIface
  | .ifc t v => match den ρ v with | some v => some (.iface t v) | none => none
  | .agg l => match denL ρ l with | some l => some (.agg l.toArray) | none => none
  | .tup l => match denL ρ l with | some l => some (.tuple l.toArray) | none => none
def denL (ρ : Rho) : List AV → Option (List Value)
  | [] => some []
  | v :: l => match den ρ v, denL ρ l with | some v, some l => some (v :: l) | _, _ => none
end

def Sub (ρ ρ' : Rho) : Prop := ∀ b p, ρ b = some p → ρ' b = some p
theorem Sub.refl (ρ : Rho) : Sub ρ ρ := fun _ _ h => h
theorem Sub.trans {a b c : Rho} (h : Sub a b) (k : Sub b c) : Sub a c := fun x p e => k x p (h x p e)

mutual
theorem den_mono {ρ ρ' : Rho} (s : Sub ρ ρ') : ∀ (v : AV) (x : Value), den ρ v = some x → den ρ' v = some x
  | .bool _, _, h | .int _ _, _, h | .str _ _, _, h | .nilp, _, h | .nils, _, h | .nilm, _, h | .nilf, _, h | .nili, _, h => by simpa [den] using h
  | .ptr b o, x, h | .sl b o _ _, x, h | .so b o _ _, x, h | .se b o _ _, x, h | .map b, x, h => by
    simp only [den] at h ⊢
    split at h
    · rename_i p hp; rw [s _ _ hp]; exact h
    · cases h
  | .fn f l, x, h | .agg l, x, h | .tup l, x, h => by
    simp only [den] at h ⊢
    split at h
    · rename_i m hm; rw [denL_mono s l m hm]; exact h
    · cases h
  | .ifc t v, x, h => by
    simp only [den] at h ⊢
    split at h
    · rename_i m hm; rw [den_mono s v m hm]; exact h
    · cases h
theorem denL_mono {ρ ρ' : Rho} (s : Sub ρ ρ') : ∀ (l : List AV) (m : List Value), denL ρ l = some m → denL ρ' l = some m
  | [], _, h => by simpa [denL] using h
  | v :: l, m, h => by
    simp only [denL] at h ⊢
    split at h
    · rename_i x r hx hr; rw [den_mono s v x hx, denL_mono s l r hr]; exact h
    · cases h
end

/-- cell by cell -/
def DL (ρ : Rho) (l : List AV) (m : List Value) : Prop := denL ρ l = some m
theorem DL.nil {ρ : Rho} : DL ρ [] [] := rfl
theorem DL.cons {ρ : Rho} {v : AV} {x : Value} {l : List AV} {m : List Value} (h : den ρ v = some x) (k : DL ρ l m) : DL ρ (v :: l) (x :: m) := by
  unfold DL at *; simp [denL, h, k]
theorem DL.uncons {ρ : Rho} {v : AV} {l : List AV} {m : List Value} (h : DL ρ (v :: l) m) : ∃ x r, m = x :: r ∧ den ρ v = some x ∧ DL ρ l r := by
  unfold DL at *
  simp only [denL] at h
  split at h
  · rename_i x r hx hr; injection h with h; exact ⟨x, r, h.symm, hx, hr⟩
  · cases h
theorem DL.eq_nil {ρ : Rho} {m : List Value} (h : DL ρ [] m) : m = [] := by unfold DL at h; simp [denL] at h; exact h
theorem DL.mono {ρ ρ' : Rho} {l : List AV} {m : List Value} (h : DL ρ l m) (s : Sub ρ ρ') : DL ρ' l m := denL_mono s l m h
theorem DL.length {ρ : Rho} : ∀ {l : List AV} {m : List Value}, DL ρ l m → l.length = m.length
  | [], _, h => by rw [h.eq_nil]; rfl
  | v :: l, m, h => by obtain ⟨x, r, rfl, _, h2⟩ := h.uncons; simp [h2.length]
theorem DL.get {ρ : Rho} : ∀ {l : List AV} {m : List Value} {i : Nat} {v : AV}, DL ρ l m → l[i]? = some v → ∃ x, m[i]? = some x ∧ den ρ v = some x
  | [], _, _, _, _, h => by simp at h
  | u :: l, m, i, v, h, hi => by
    obtain ⟨x, r, rfl, h1, h2⟩ := h.uncons
    cases i with
    | zero => simp at hi; subst hi; exact ⟨x, rfl, h1⟩
    | succ i => simpa using h2.get (by simpa using hi)
theorem DL.of {ρ : Rho} : ∀ {l : List AV} {m : List Value}, l.length = m.length → (∀ (i : Nat) v, l[i]? = some v → ∃ x, m[i]? = some x ∧ den ρ v = some x) → DL ρ l m
  | [], [], _, _ => .nil
  | [], _ :: _, h, _ => by simp at h
  | _ :: _, [], h, _ => by simp at h
  | v :: l, x :: m, h, k => by
    obtain ⟨y, hy, hd⟩ := k 0 v rfl
    simp at hy; subst hy
    exact .cons hd (.of (by simpa using h) fun i u hu => by simpa using k (i + 1) u (by simpa using hu))
theorem DL.append {ρ : Rho} : ∀ {l : List AV} {m : List Value} {l' : List AV} {m' : List Value}, DL ρ l m → DL ρ l' m' → DL ρ (l ++ l') (m ++ m')
  | [], _, _, _, h, k => by rw [h.eq_nil]; exact k
  | v :: l, m, _, _, h, k => by obtain ⟨x, r, rfl, h1, h2⟩ := h.uncons; exact .cons h1 (h2.append k)
theorem DL.take {ρ : Rho} {l : List AV} {m : List Value} (h : DL ρ l m) (n : Nat) : DL ρ (l.take n) (m.take n) :=
  .of (by simp [h.length]) fun i v hv => by
    rw [List.getElem?_take] at hv ⊢
    by_cases hi : i < n
    · rw [if_pos hi] at hv ⊢; exact h.get hv
    · rw [if_neg hi] at hv; cases hv
theorem DL.drop {ρ : Rho} {l : List AV} {m : List Value} (h : DL ρ l m) (n : Nat) : DL ρ (l.drop n) (m.drop n) :=
  .of (by simp [h.length]) fun i v hv => by
    rw [List.getElem?_drop] at hv ⊢
    exact h.get hv
theorem den_cells {ρ : Rho} {v : AV} {x : Value} (h : den ρ v = some x) : DL ρ v.cells x.cells.toList := by
  cases v <;> simp only [den] at h <;> (try (split at h <;> try (cases h; done))) <;> injection h with h <;> subst h <;>
    first
      | exact DL.cons (by simp_all [den]) .nil
      | (rename_i m hm; simpa [AV.cells, Value.cells, DL] using hm)

/-! ### memory -/
def CellsOK (ρ : Rho) (w : World) (p : Pl) (t : Tr AV) (n : Nat) (ro : Bool) : Prop :=
  ∃ c e fz, w.heap[p.blk]? = some (.cells c e fz) ∧ n ≤ p.lim ∧ p.off + p.lim ≤ c.size ∧
    (ro = false → ∀ i, i < p.lim → ¬ (fz.1 ≤ p.off + i ∧ p.off + i < fz.2)) ∧
    ∀ i v, t.get (bits i) = some v → i < n ∧ ∃ x, den ρ v = some x ∧ c[p.off + i]? = some x
def MapOK (ρ : Rho) (w : World) (p : Pl) (es : List (AV × AV)) : Prop :=
  ∃ es' k, w.heap[p.blk]? = some (.map es' k) ∧ DL ρ (es.map (·.1)) (es'.toList.map (·.key)) ∧ DL ρ (es.map (·.2)) (es'.toList.map (·.val))
def BlkOK (ρ : Rho) (w : World) (p : Pl) : Blk → Prop
  | .cells t n _ ro => CellsOK ρ w p t n ro
  | .mp es => MapOK ρ w p es
def claims (p : Pl) : Blk → Nat → Nat → Prop
  | .cells _ n tl _, k, i => p.blk = k ∧ ∃ j, i = p.off + j ∧ (j < n ∨ (tl = true ∧ j < p.lim))
  | .mp _, k, _ => p.blk = k
def wr : Blk → Prop
  | .cells _ _ _ ro => ro = false
  | .mp _ => True
structure HR (ρ : Rho) (H : Heap) (w : World) : Prop where
  blk : ∀ b B, getB H b = some B → ∃ p, ρ b = some p ∧ BlkOK ρ w p B
  apart : ∀ b b' B B' p p' k i, b ≠ b' → getB H b = some B → getB H b' = some B' → ρ b = some p → ρ b' = some p' → claims p B k i → ¬ claims p' B' k i
  lt : ∀ b B, getB H b = some B → b < H.nx
/-- the blocks that have a place are where they are said to be: enough for what reads -/
def VR (ρ : Rho) (H : Heap) (w : World) : Prop := ∀ b B, getB H b = some B → ∀ p, ρ b = some p → BlkOK ρ w p B
theorem VR.at {ρ : Rho} {H : Heap} {w : World} (h : VR ρ H w) {b : Nat} {B : Blk} {p : Pl} (hB : getB H b = some B) (hp : ρ b = some p) : ∃ q, ρ b = some q ∧ BlkOK ρ w q B := ⟨p, hp, h b B hB p hp⟩
theorem HR.vr {ρ : Rho} {H : Heap} {w : World} (h : HR ρ H w) : VR ρ H w := fun b B hB p hp => by
  obtain ⟨q, hq, k⟩ := h.blk b B hB
  rw [hp] at hq; injection hq with hq; subst hq; exact k
def own (ρ : Rho) (H : Heap) (c : Nat) : Prop := ∃ b B p, getB H b = some B ∧ ρ b = some p ∧ p.blk = c ∧ wr B
structure Ext (ρ : Rho) (H : Heap) (w : World) (ρ' : Rho) (H' : Heap) (w' : World) : Prop where
  sub : Sub ρ ρ'
  new : ∀ b, b < H.nx ∨ H'.nx ≤ b → ρ' b = ρ b
  nx : H.nx ≤ H'.nx
  size : w.heap.size ≤ w'.heap.size
  keep : ∀ c, c < w.heap.size → ¬ own ρ H c → w'.heap[c]? = w.heap[c]?
  own : ∀ c, own ρ' H' c → own ρ H c ∨ w.heap.size ≤ c
  ro : ∀ b B, getB H' b = some B → ¬ wr B → getB H b = some B
  os : w'.os = w.os
  tape : w'.tape = w.tape
  output : w'.output = w.output
theorem Ext.refl (ρ : Rho) (H : Heap) (w : World) : Ext ρ H w ρ H w :=
  ⟨.refl ρ, fun _ _ => rfl, Nat.le_refl _, Nat.le_refl _, fun _ _ _ => rfl, fun _ h => .inl h, fun _ _ h _ => h, rfl, rfl, rfl⟩
theorem Ext.trans {ρ ρ₁ ρ₂ : Rho} {H H₁ H₂ : Heap} {w w₁ w₂ : World} (h : Ext ρ H w ρ₁ H₁ w₁) (k : Ext ρ₁ H₁ w₁ ρ₂ H₂ w₂) : Ext ρ H w ρ₂ H₂ w₂ where
  sub := h.sub.trans k.sub
  new b hb := by
    rcases hb with hb | hb
    · rw [k.new b (.inl (Nat.lt_of_lt_of_le hb h.nx)), h.new b (.inl hb)]
    · rw [k.new b (.inr hb), h.new b (.inr (Nat.le_trans k.nx hb))]
  nx := Nat.le_trans h.nx k.nx
  size := Nat.le_trans h.size k.size
  keep c hc ho := by
    rw [k.keep c (Nat.lt_of_lt_of_le hc h.size) (fun o => by rcases h.own c o with o | o; exact ho o; omega), h.keep c hc ho]
  own c hc := by
    rcases k.own c hc with o | o
    · exact h.own c o
    · exact .inr (Nat.le_trans h.size o)
  ro b B hb hw := h.ro b B (k.ro b B hb hw) hw
  os := k.os.trans h.os
  tape := k.tape.trans h.tape
  output := k.output.trans h.output
/-- the ids that come to be are free -/
def Fresh (ρ : Rho) (H H' : Heap) : Prop := ∀ b, H.nx ≤ b → b < H'.nx → ρ b = none

/-- the world turned at some cells alone -/
structure Chg (w w' : World) (S : Nat → Nat → Prop) : Prop where
  size : w.heap.size ≤ w'.heap.size
  at_ : ∀ k, k < w.heap.size → w'.heap[k]? = w.heap[k]? ∨ ∃ c c' e fz, w.heap[k]? = some (.cells c e fz) ∧ w'.heap[k]? = some (.cells c' e fz) ∧ c'.size = c.size ∧ ∀ i, ¬ S k i → c'[i]? = c[i]?
theorem Chg.of_eq {w w' : World} {S : Nat → Nat → Prop} (h : w'.heap = w.heap) : Chg w w' S := ⟨by rw [h]; exact Nat.le_refl _, fun k _ => .inl (by rw [h])⟩
theorem lt_of_some {α : Type} {a : Array α} {i : Nat} {x : α} (h : a[i]? = some x) : i < a.size := (Array.getElem?_eq_some_iff.1 h).1
theorem BlkOK.keep {ρ ρ' : Rho} {w w' : World} {S : Nat → Nat → Prop} {p : Pl} {B : Blk} (h : BlkOK ρ w p B) (s : Sub ρ ρ') (c : Chg w w' S)
    (d : ∀ k i, claims p B k i → ¬ S k i) : BlkOK ρ' w' p B := by
  cases B with
  | mp es =>
    obtain ⟨es', k, h1, h2, h3⟩ := h
    refine ⟨es', k, ?_, h2.mono s, h3.mono s⟩
    rcases c.at_ p.blk (lt_of_some h1) with e | ⟨c, _, e, fz, h4, _⟩
    · rw [e, h1]
    · rw [h1] at h4; cases h4
  | cells t n tl ro =>
    obtain ⟨cs, e, fz, h1, h2, h3, h4, h5⟩ := h
    rcases c.at_ p.blk (lt_of_some h1) with hk | ⟨c1, c2, e2, fz2, h6, h7, h8, h9⟩
    · refine ⟨cs, e, fz, by rw [hk, h1], h2, h3, h4, fun i v hv => ?_⟩
      obtain ⟨a, x, b, d⟩ := h5 i v hv
      exact ⟨a, x, den_mono s v x b, d⟩
    · rw [h1] at h6
      injection h6 with h6
      injection h6 with e1 e2' e3
      subst e1; subst e2'; subst e3
      refine ⟨c2, e, fz, h7, h2, by omega, h4, fun i v hv => ?_⟩
      obtain ⟨a, x, b, hx⟩ := h5 i v hv
      refine ⟨a, x, den_mono s v x b, ?_⟩
      rw [h9 _ (d _ _ ⟨rfl, i, rfl, .inl a⟩), hx]

/-- a new id -/
def upd (ρ : Rho) (b : Nat) (p : Pl) : Rho := fun c => if c = b then some p else ρ c
theorem Sub.upd {ρ : Rho} {b : Nat} {p : Pl} (h : ρ b = none) : Sub ρ (upd ρ b p) := fun c q e => by
  unfold Eng.upd
  by_cases hc : c = b
  · subst hc; rw [h] at e; cases e
  · rw [if_neg hc]; exact e
theorem upd_self (ρ : Rho) (b : Nat) (p : Pl) : upd ρ b p b = some p := by simp [upd]
theorem upd_ne {ρ : Rho} {b c : Nat} {p : Pl} (h : c ≠ b) : upd ρ b p c = ρ c := by simp [upd, h]

theorem getB_new (H : Heap) (B : Blk) (c : Nat) : getB ⟨H.bl.set (bits H.nx) (some B), H.nx + 1⟩ c = if c = H.nx then some B else getB H c := by
  rw [getB_set]
  by_cases h : c = H.nx
  · rw [if_pos h.symm, if_pos h]
  · rw [if_neg (fun e => h e.symm), if_neg h]

/-- A new block, of whatever kind, at the heap's end. -/
theorem HR.new {ρ : Rho} {H : Heap} {w w' : World} {B : Blk} {p : Pl} {o : Obj} (h : HR ρ H w) (hf : ρ H.nx = none) (hw : w'.heap = w.heap.push o)
    (hp : p.blk = w.heap.size) (hwr : wr B) (hB : BlkOK (upd ρ H.nx p) w' p B) (ho : w'.os = w.os) (ht : w'.tape = w.tape) (hu : w'.output = w.output) :
    HR (upd ρ H.nx p) ⟨H.bl.set (bits H.nx) (some B), H.nx + 1⟩ w' ∧ Ext ρ H w (upd ρ H.nx p) ⟨H.bl.set (bits H.nx) (some B), H.nx + 1⟩ w' := by
  have hs : Sub ρ (upd ρ H.nx p) := .upd hf
  have hc : Chg w w' (fun _ _ => False) := ⟨by rw [hw]; simp, fun k hk => .inl (by rw [hw, Array.getElem?_push, if_neg (by omega)])⟩
  have hold : ∀ b C q, getB H b = some C → ρ b = some q → q.blk < w.heap.size := fun b C q hb hq => by
    obtain ⟨q', e, hC⟩ := h.blk b C hb
    rw [hq] at e; injection e with e; subst e
    cases C with
    | mp es => obtain ⟨_, _, h1, _⟩ := hC; exact lt_of_some h1
    | cells t n tl ro => obtain ⟨_, _, _, h1, _⟩ := hC; exact lt_of_some h1
  have hcl : ∀ q C k i, claims q C k i → q.blk = k := fun q C k i hq => by cases C <;> first | exact hq.1 | exact hq
  refine ⟨⟨?_, ?_, ?_⟩, ⟨hs, ?_, by simp, hc.size, ?_, ?_, ?_, ho, ht, hu⟩⟩
  · intro b C hb
    rw [getB_new] at hb
    by_cases e : b = H.nx
    · subst e; rw [if_pos rfl] at hb; injection hb with hb; subst hb; exact ⟨p, upd_self _ _ _, hB⟩
    · rw [if_neg e] at hb
      obtain ⟨q, hq, hC⟩ := h.blk b C hb
      exact ⟨q, hs b q hq, hC.keep hs hc (fun _ _ _ => id)⟩
  · intro b b' C C' q q' k i hne hb hb' hq hq' hcl1 hcl2
    rw [getB_new] at hb hb'
    by_cases e : b = H.nx
    · subst e
      rw [upd_self] at hq; injection hq with hq; subst hq
      rw [if_neg (Ne.symm hne)] at hb'
      rw [upd_ne (Ne.symm hne)] at hq'
      have := hold b' C' q' hb' hq'
      have e1 := hcl _ _ _ _ hcl1
      have e2 := hcl _ _ _ _ hcl2
      omega
    · rw [if_neg e] at hb
      rw [upd_ne e] at hq
      by_cases e' : b' = H.nx
      · subst e'
        rw [upd_self] at hq'; injection hq' with hq'; subst hq'
        have := hold b C q hb hq
        have e1 := hcl _ _ _ _ hcl1
        have e2 := hcl _ _ _ _ hcl2
        omega
      · rw [if_neg e'] at hb'
        rw [upd_ne e'] at hq'
        exact h.apart b b' C C' q q' k i hne hb hb' hq hq' hcl1 hcl2
  · intro b C hb
    rw [getB_new] at hb
    by_cases e : b = H.nx
    · subst e; simp
    · rw [if_neg e] at hb; have := h.lt b C hb; show b < H.nx + 1; omega
  · intro b hb
    refine upd_ne ?_
    rcases hb with hb | hb
    · omega
    · have : H.nx + 1 ≤ b := hb; omega
  · intro c hc' _
    rw [hw, Array.getElem?_push, if_neg (by omega)]
  · rintro c ⟨b, C, q, hb, hq, hqc, hwC⟩
    rw [getB_new] at hb
    by_cases e : b = H.nx
    · subst e; rw [upd_self] at hq; injection hq with hq; subst hq; exact .inr (by omega)
    · rw [if_neg e] at hb; rw [upd_ne e] at hq; exact .inl ⟨b, C, q, hb, hq, hqc, hwC⟩
  · intro b C hb hwC
    rw [getB_new] at hb
    by_cases e : b = H.nx
    · subst e; rw [if_pos rfl] at hb; injection hb with hb; subst hb; exact absurd hwr hwC
    · rwa [if_neg e] at hb

theorem claims_blk {p : Pl} {B : Blk} {k i : Nat} (h : claims p B k i) : p.blk = k := by cases B <;> first | exact h.1 | exact h
theorem getB_upd (H : Heap) (b c : Nat) (B : Blk) : getB ⟨H.bl.set (bits b) (some B), H.nx⟩ c = if c = b then some B else getB H c := by
  rw [getB_set]
  by_cases h : c = b
  · rw [if_pos h.symm, if_pos h]
  · rw [if_neg (fun e => h e.symm), if_neg h]
/-- A block that is turned in its place: it claims no more than it did; the world turned in its claims alone. -/
theorem HR.turn {ρ : Rho} {H : Heap} {w w' : World} {b : Nat} {B B' : Blk} {p : Pl} (h : HR ρ H w) (hb : getB H b = some B) (hp : ρ b = some p)
    (hwB : wr B) (hwB' : wr B') (hc : Chg w w' (fun k i => claims p B k i)) (hsz : w'.heap.size = w.heap.size) (hB : BlkOK ρ w' p B') (hle : ∀ k i, claims p B' k i → claims p B k i)
    (ho : w'.os = w.os) (ht : w'.tape = w.tape) (hu : w'.output = w.output) (hk : ∀ k, k ≠ p.blk → w'.heap[k]? = w.heap[k]?) :
    HR ρ ⟨H.bl.set (bits b) (some B'), H.nx⟩ w' ∧ Ext ρ H w ρ ⟨H.bl.set (bits b) (some B'), H.nx⟩ w' := by
  refine ⟨⟨?_, ?_, ?_⟩, ⟨.refl ρ, fun _ _ => rfl, Nat.le_refl _, Nat.le_of_eq hsz.symm, ?_, ?_, ?_, ho, ht, hu⟩⟩
  · intro c C hC
    rw [getB_upd] at hC
    by_cases e : c = b
    · subst e; rw [if_pos rfl] at hC; injection hC with hC; subst hC; exact ⟨p, hp, hB⟩
    · rw [if_neg e] at hC
      obtain ⟨q, hq, hQ⟩ := h.blk c C hC
      exact ⟨q, hq, hQ.keep (.refl ρ) hc fun k i h1 h2 => h.apart c b C B q p k i e hC hb hq hp h1 h2⟩
  · intro c d C D q r k i hne hC hD hq hr h1 h2
    rw [getB_upd] at hC hD
    by_cases e : c = b
    · subst e; rw [if_pos rfl] at hC; injection hC with hC; subst hC
      rw [if_neg (Ne.symm hne)] at hD
      rw [hp] at hq; injection hq with hq; subst hq
      exact h.apart c d B D p r k i hne hb hD hp hr (hle k i h1) h2
    · rw [if_neg e] at hC
      by_cases e' : d = b
      · subst e'; rw [if_pos rfl] at hD; injection hD with hD; subst hD
        rw [hp] at hr; injection hr with hr; subst hr
        exact h.apart c d C B q p k i hne hC hb hq hp h1 (hle k i h2)
      · rw [if_neg e'] at hD
        exact h.apart c d C D q r k i hne hC hD hq hr h1 h2
  · intro c C hC
    rw [getB_upd] at hC
    by_cases e : c = b
    · subst e; exact h.lt c B hb
    · rw [if_neg e] at hC; exact h.lt c C hC
  · intro c _ hno
    exact hk c fun e => hno ⟨b, B, p, hb, hp, e.symm, hwB⟩
  · rintro c ⟨d, D, q, hD, hq, hqc, hwD⟩
    rw [getB_upd] at hD
    by_cases e : d = b
    · subst e; rw [hp] at hq; injection hq with hq; subst hq; exact .inl ⟨d, B, p, hb, hp, hqc, hwB⟩
    · rw [if_neg e] at hD; exact .inl ⟨d, D, q, hD, hq, hqc, hwD⟩
  · intro d D hD hwD
    rw [getB_upd] at hD
    by_cases e : d = b
    · subst e; rw [if_pos rfl] at hD; injection hD with hD; subst hD; exact absurd hwB' hwD
    · rwa [if_neg e] at hD
/-- A new id for cells of an own block that nobody claims. -/
theorem HR.reuse {ρ : Rho} {H : Heap} {w w' : World} {B : Blk} {p : Pl} (h : HR ρ H w) (hf : ρ H.nx = none) (hown : own ρ H p.blk) (hwB : wr B)
    (hfree : ∀ c C q k i, getB H c = some C → ρ c = some q → claims q C k i → ¬ claims p B k i) (hc : Chg w w' (fun k i => claims p B k i)) (hsz : w'.heap.size = w.heap.size)
    (hB : BlkOK (upd ρ H.nx p) w' p B) (ho : w'.os = w.os) (ht : w'.tape = w.tape) (hu : w'.output = w.output) (hk : ∀ k, k ≠ p.blk → w'.heap[k]? = w.heap[k]?) :
    HR (upd ρ H.nx p) ⟨H.bl.set (bits H.nx) (some B), H.nx + 1⟩ w' ∧ Ext ρ H w (upd ρ H.nx p) ⟨H.bl.set (bits H.nx) (some B), H.nx + 1⟩ w' := by
  have hs : Sub ρ (upd ρ H.nx p) := .upd hf
  refine ⟨⟨?_, ?_, ?_⟩, ⟨hs, ?_, by simp, Nat.le_of_eq hsz.symm, ?_, ?_, ?_, ho, ht, hu⟩⟩
  · intro b C hb
    rw [getB_new] at hb
    by_cases e : b = H.nx
    · subst e; rw [if_pos rfl] at hb; injection hb with hb; subst hb; exact ⟨p, upd_self _ _ _, hB⟩
    · rw [if_neg e] at hb
      obtain ⟨q, hq, hC⟩ := h.blk b C hb
      exact ⟨q, hs b q hq, hC.keep hs hc fun k i h1 h2 => hfree b C q k i hb hq h1 h2⟩
  · intro b b' C C' q q' k i hne hb hb' hq hq' h1 h2
    rw [getB_new] at hb hb'
    by_cases e : b = H.nx
    · subst e
      rw [upd_self] at hq; injection hq with hq; subst hq
      rw [if_pos rfl] at hb; injection hb with hb; subst hb
      rw [if_neg (Ne.symm hne)] at hb'
      rw [upd_ne (Ne.symm hne)] at hq'
      exact hfree b' C' q' k i hb' hq' h2 h1
    · rw [if_neg e] at hb
      rw [upd_ne e] at hq
      by_cases e' : b' = H.nx
      · subst e'
        rw [upd_self] at hq'; injection hq' with hq'; subst hq'
        rw [if_pos rfl] at hb'; injection hb' with hb'; subst hb'
        exact hfree b C q k i hb hq h1 h2
      · rw [if_neg e'] at hb'
        rw [upd_ne e'] at hq'
        exact h.apart b b' C C' q q' k i hne hb hb' hq hq' h1 h2
  · intro b C hb
    rw [getB_new] at hb
    by_cases e : b = H.nx
    · subst e; simp
    · rw [if_neg e] at hb; have := h.lt b C hb; show b < H.nx + 1; omega
  · intro b hb
    refine upd_ne ?_
    rcases hb with hb | hb
    · omega
    · have : H.nx + 1 ≤ b := hb; omega
  · intro c _ hno
    exact hk c fun e => hno (e ▸ hown)
  · rintro c ⟨b, C, q, hb, hq, hqc, hwC⟩
    rw [getB_new] at hb
    by_cases e : b = H.nx
    · subst e; rw [upd_self] at hq; injection hq with hq; subst hq; exact .inl (hqc ▸ hown)
    · rw [if_neg e] at hb; rw [upd_ne e] at hq; exact .inl ⟨b, C, q, hb, hq, hqc, hwC⟩
  · intro b C hb hwC
    rw [getB_new] at hb
    by_cases e : b = H.nx
    · subst e; rw [if_pos rfl] at hb; injection hb with hb; subst hb; exact absurd hwB hwC
    · rwa [if_neg e] at hb

/-! ### many cells set -/
theorem setCells_heap : ∀ (xs : List Value) (w : World) (k o : Nat), (w.setCells k o xs).heap.size = w.heap.size ∧ (w.setCells k o xs).os = w.os ∧ (w.setCells k o xs).tape = w.tape ∧
    (w.setCells k o xs).output = w.output ∧ (∀ j, j ≠ k → (w.setCells k o xs).heap[j]? = w.heap[j]?) ∧
    ∀ c e fz, w.heap[k]? = some (.cells c e fz) → ∃ c', (w.setCells k o xs).heap[k]? = some (.cells c' e fz) ∧ c'.size = c.size ∧
      ∀ i, c'[i]? = if o ≤ i ∧ i < o + xs.length ∧ i < c.size then xs[i - o]? else c[i]?
  | [], w, k, o => ⟨rfl, rfl, rfl, rfl, fun _ _ => rfl, fun c e fz h => ⟨c, h, rfl, fun i => by rw [if_neg (by simp; omega)]⟩⟩
  | v :: r, w, k, o => by
    obtain ⟨h1, h2, h3, h4, h5, h6⟩ := setCells_heap r (w.setCell ⟨k, o, none⟩ v) k (o + 1)
    refine ⟨by rw [World.setCells, h1]; simp [World.setCell], by rw [World.setCells, h2]; rfl, by rw [World.setCells, h3]; rfl, by rw [World.setCells, h4]; rfl, fun j hj => ?_, fun c e fz hk => ?_⟩
    · rw [World.setCells, h5 j hj]
      exact RowKit.Below.heap_setCell _ _ _ _ (by simpa using hj)
    · have hk' : (w.setCell ⟨k, o, none⟩ v).heap[k]? = some (.cells (c.setIfInBounds o v) e fz) := by
        simp [World.setCell, Array.getElem?_modify, hk]
      obtain ⟨c', a1, a2, a3⟩ := h6 _ _ _ hk'
      refine ⟨c', by rw [World.setCells]; exact a1, by simpa using a2, fun i => ?_⟩
      rw [a3 i]
      simp only [Array.size_setIfInBounds, List.length_cons, Array.getElem?_setIfInBounds]
      by_cases h7 : i = o
      · subst h7
        by_cases h8 : i < c.size
        · rw [if_neg (by omega), if_pos rfl, if_pos h8, if_pos ⟨Nat.le_refl _, by omega, h8⟩]; simp
        · rw [if_neg (by omega), if_pos rfl, if_neg h8, if_neg (by omega)]
          exact (Array.getElem?_eq_none (by omega)).symm
      · by_cases h8 : o + 1 ≤ i ∧ i < o + 1 + r.length ∧ i < c.size
        · rw [if_pos h8, if_pos (by omega), show i - o = (i - (o + 1)) + 1 by omega, List.getElem?_cons_succ]
        · rw [if_neg h8, if_neg (fun e => h7 e.symm), if_neg (by omega)]
end Eng
end Go.Proofs.YtbdhainbcfobeaaGreatDoor
