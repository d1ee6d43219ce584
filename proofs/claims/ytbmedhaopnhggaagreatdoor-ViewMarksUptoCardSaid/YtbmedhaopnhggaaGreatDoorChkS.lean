/-
  Checking a program (parallaxref04): the plain law: statements in a row, variables, types, the first error.
-/
import Derived.Test.YtbmedhaopnhggaaGreatDoorLiS
namespace Go.Proofs.YtbmedhaopnhggaaGreatDoor
open Go Eng Tryz
structure Vr where
 name : List UInt8
 type : Int
 size : Int
 frm : Int
 to : Int
def vrC (v : Vr) : List AV := [S v.name, .int .i64 v.type, .int .i64 v.size, .int .i64 v.frm, .int .i64 v.to]
mutual
def rowS : Stm → Nat → Int → List (Stm × Int)
 | .mk k n p z e b f, next, last => (.mk k n p z e b f, last) :: (rowL b (next + 1) (((next + 1 + cSs b : Nat) : Int) - 1) ++ rowL f (next + 1 + cSs b) (((next + 1 + cSs b + cSs f : Nat) : Int) - 1))
def rowL : List Stm → Nat → Int → List (Stm × Int)
 | [], _, _ => []
 | x :: l, next, last => rowS x next last ++ rowL l (next + cS x) last
end
def rowT (l : List Stm) (next : Nat) : List (Stm × Int) := rowL l next (((next + cSs l : Nat) : Int) - 1)
theorem rowS_eq (x : Stm) (next : Nat) (last : Int) : rowS x next last = (x, last) :: (rowT x.body (next + 1) ++ rowT x.els (next + 1 + cSs x.body)) := by cases x; simp only [rowS, rowT]; rfl
theorem zn4 (x : Stm) : ∀ (l : List Stm) (next : Nat) (last : Int), rowL (l ++ [x]) next last = rowL l next last ++ rowS x (next + cSs l) last
 | [], next, last => by simp [rowL, cSs]
 | y :: l, next, last => by
  simp only [List.cons_append, rowL, zn4 x l, cSs, List.append_assoc]
  rw [show next + cS y + cSs l = next + (cS y + cSs l) by omega]
mutual
theorem rowS_len : ∀ (x : Stm) (next : Nat) (last : Int), (rowS x next last).length = cS x
 | .mk k n p z e b f, next, last => by
  simp only [rowS, cS, List.length_cons, List.length_append, zhn b, zhn f]
  omega
theorem zhn : ∀ (l : List Stm) (next : Nat) (last : Int), (rowL l next last).length = cSs l
 | [], _, _ => rfl
 | x :: l, next, last => by simp only [rowL, cSs, List.length_append, rowS_len x, zhn l]
end
theorem zho (l : List Stm) (next : Nat) : (rowT l next).length = cSs l := zhn l next _
def vrS (s : Stm) (last : Int) (i : Nat) : Vr := ⟨s.name, if s.num = -1 then 2 else 1, if s.num = -1 then 0 else if 64 < s.num then 65 else s.num, (i : Int) + 2, last⟩
def vrMs (to : Int) (l : List Prm) : List Vr := l.map fun p => ⟨p.name, p.type, 0, 0, to⟩
def vrIs : List (Stm × Int) → Nat → List Vr
 | [], _ => []
 | x :: l, i => (if x.1.kind = 1 then [vrS x.1 x.2 i] else []) ++ vrIs l (i + 1)
theorem zof (x : Stm × Int) : ∀ (l : List (Stm × Int)) (i : Nat), vrIs (l ++ [x]) i = vrIs l i ++ (if x.1.kind = 1 then [vrS x.1 x.2 (i + l.length)] else [])
 | [], i => by simp [vrIs]
 | y :: l, i => by
  simp only [List.cons_append, vrIs, zof x l, List.append_assoc, List.length_cons]
  rw [show i + 1 + l.length = i + (l.length + 1) by omega]
theorem zmy : ∀ (l : List (Stm × Int)) (i : Nat), (vrIs l i).length ≤ l.length
 | [], _ => Nat.le_refl _
 | x :: l, i => by
  have := zmy l (i + 1)
  simp only [vrIs, List.length_append, List.length_cons]
  split <;> simp only [List.length_cons, List.length_nil] <;> omega
def varsP (p : Prc) : List Vr := vrMs ((cSs p.body : Int) + 1) p.params ++ vrIs (rowT p.body 1) 0
def findV (n : List UInt8) (mark : Int) : List Vr → Nat → Int
 | [], _ => -1
 | v :: l, i => if v.name = n ∧ v.frm ≤ mark ∧ mark ≤ v.to then (i : Int) else findV n mark l (i + 1)
theorem zd3 (n : List UInt8) (mark : Int) : ∀ (l : List Vr) (i : Nat), (findV n mark l i = -1) ∨ (∃ j v, l[j]? = some v ∧ findV n mark l i = ((i + j : Nat) : Int) ∧ v.name = n ∧ v.frm ≤ mark ∧ mark ≤ v.to)
 | [], _ => .inl rfl
 | v :: l, i => by
  unfold findV
  split
  ·rename_i h; exact .inr ⟨0, v, rfl, rfl, h⟩
  ·rcases zd3 n mark l (i + 1) with h | ⟨j, w, h1, h2, h3⟩
   ·exact .inl h
   ·exact .inr ⟨j + 1, w, by simpa using h1, by rw [h2]; congr 1; omega, h3⟩
theorem zjz (n : List UInt8) (mark : Int) : ∀ (l : List Vr) (i k : Nat), k ≤ l.length → findV n mark (l.take k) i = -1 → findV n mark l i = findV n mark (l.drop k) (i + k)
 | l, i, 0, _, _ => by simp
 | [], i, k + 1, h, _ => by simp at h
 | v :: l, i, k + 1, h, hk => by
  simp only [List.take_succ_cons, findV] at hk
  split at hk
  ·rename_i hc; exfalso; omega
  ·rename_i hc
   simp only [findV, if_neg hc, List.drop_succ_cons]
   rw [zjz n mark l (i + 1) k (by simpa using h) hk, show i + 1 + k = i + (k + 1) by omega]
theorem zrj {n : List UInt8} {mark : Int} {vs : List Vr} {i : Nat} {x : Vr} (hx : vs[i]? = some x) (hf : findV n mark (vs.take i) 0 = -1) : ((x.name = n ∧ x.frm ≤ mark ∧ mark ≤ x.to) → findV n mark vs 0 = (i : Int)) ∧ (¬ (x.name = n ∧ x.frm ≤ mark ∧ mark ≤ x.to) → findV n mark (vs.take (i + 1)) 0 = -1) := by
 have hi := (List.getElem?_eq_some_iff.1 hx).1
 have hdr : vs.drop i = x :: vs.drop (i + 1) := by
  rw [List.drop_eq_getElem_cons hi]
  rw [List.getElem?_eq_getElem hi] at hx
  injection hx with hx
  rw [hx]
 constructor
 ·intro hc
  rw [zjz n mark vs 0 i (by omega) hf, hdr, findV, if_pos hc, Nat.zero_add]
 ·intro hc
  have h1 := zjz n mark (vs.take (i + 1)) 0 i (by rw [List.length_take]; omega) (by rw [List.take_take, Nat.min_eq_left (by omega)]; exact hf)
  rw [h1, List.drop_take, Nat.add_sub_cancel_left, hdr, List.take_succ_cons, List.take_zero, findV, if_neg hc]
  rfl
def kindsT (k : Int) : Int := if k < 1 ∨ 10 < k then -2 else if k = 6 ∨ k = 7 then -1 else if k = 1 ∨ k = 9 then 0 else if k = 3 then 2 else 1
def oneT (s : List UInt8) : Int × Int :=
 if s = [43] ∨ s = [45] ∨ s = [42] ∨ s = [47] ∨ s = [37] then (1, 1) else if s = [60] ∨ s = [60, 61] then (1, 2) else if s = [38, 38] ∨ s = [124, 124] then (2, 2) else if s = [61, 61] ∨ s = [33, 61] then (3, 2) else (0, 0)
def partsE (k : Int) : Nat := if k = 6 then 2 else if k = 4 ∨ k = 5 then 1 else 0
mutual
def tyE : Exp → List Vr → Int → Int × Int
 | .mk k n z l, vs, mk =>
  if k < 1 ∨ 6 < k ∨ l.length ≠ partsE k then (0, 32)
  else if k = 1 ∧ z < 0 ∨ k = 2 ∧ z ≠ 0 ∧ z ≠ 1 then (0, 32)
  else if k = 1 then (1, 0)
  else if k = 2 then (2, 0)
  else if k = 3 ∨ k = 4 then
   (match vs[(findV n mk vs 0).toNat]? with
   | some v => if findV n mk vs 0 < 0 then (0, 40) else if (0 < v.size ∧ k = 3) ∨ (v.size ≤ 0 ∧ k = 4) ∨ (v.size < 0 ∧ k = 3) then (0, 41) else if k = 3 then (v.type, 0)
    else if (ty0 l vs mk).2 ≠ 0 then (0, (ty0 l vs mk).2) else if (ty0 l vs mk).1 ≠ 1 then (0, 41) else (1, 0)
   | none => (0, 40))
  else if (ty0 l vs mk).2 ≠ 0 then (0, (ty0 l vs mk).2)
  else if k = 5 then (if n ≠ [45] ∧ n ≠ [33] then (0, 32) else if (n = [45] ∧ (ty0 l vs mk).1 ≠ 1) ∨ (n = [33] ∧ (ty0 l vs mk).1 ≠ 2) then (0, 41) else ((ty0 l vs mk).1, 0))
  else if (ty1 l vs mk).2 ≠ 0 then (0, (ty1 l vs mk).2)
  else if (oneT n).2 = 0 then (0, 32)
  else if (ty0 l vs mk).1 ≠ (ty1 l vs mk).1 ∨ ((oneT n).1 ≠ 3 ∧ (ty0 l vs mk).1 ≠ (oneT n).1) then (0, 41)
  else ((oneT n).2, 0)
def ty0 : List Exp → List Vr → Int → Int × Int
 | [], _, _ => (0, 0)
 | x :: _, vs, mk => tyE x vs mk
def ty1 : List Exp → List Vr → Int → Int × Int
 | [], _, _ => (0, 0)
 | _ :: l, vs, mk => ty0 l vs mk
end
theorem tyE_at (x : Exp) (vs : List Vr) (mk : Int) : tyE x vs mk =
  if x.kind < 1 ∨ 6 < x.kind ∨ x.l.length ≠ partsE x.kind then (0, 32)
  else if x.kind = 1 ∧ x.num < 0 ∨ x.kind = 2 ∧ x.num ≠ 0 ∧ x.num ≠ 1 then (0, 32)
  else if x.kind = 1 then (1, 0)
  else if x.kind = 2 then (2, 0)
  else if x.kind = 3 ∨ x.kind = 4 then
   (match vs[(findV x.name mk vs 0).toNat]? with
   | some v => if findV x.name mk vs 0 < 0 then (0, 40) else if (0 < v.size ∧ x.kind = 3) ∨ (v.size ≤ 0 ∧ x.kind = 4) ∨ (v.size < 0 ∧ x.kind = 3) then (0, 41) else if x.kind = 3 then (v.type, 0)
    else if (ty0 x.l vs mk).2 ≠ 0 then (0, (ty0 x.l vs mk).2) else if (ty0 x.l vs mk).1 ≠ 1 then (0, 41) else (1, 0)
   | none => (0, 40))
  else if (ty0 x.l vs mk).2 ≠ 0 then (0, (ty0 x.l vs mk).2)
  else if x.kind = 5 then (if x.name ≠ [45] ∧ x.name ≠ [33] then (0, 32) else if (x.name = [45] ∧ (ty0 x.l vs mk).1 ≠ 1) ∨ (x.name = [33] ∧ (ty0 x.l vs mk).1 ≠ 2) then (0, 41) else ((ty0 x.l vs mk).1, 0))
  else if (ty1 x.l vs mk).2 ≠ 0 then (0, (ty1 x.l vs mk).2)
  else if (oneT x.name).2 = 0 then (0, 32)
  else if (ty0 x.l vs mk).1 ≠ (ty1 x.l vs mk).1 ∨ ((oneT x.name).1 ≠ 3 ∧ (ty0 x.l vs mk).1 ≠ (oneT x.name).1) then (0, 41)
  else ((oneT x.name).2, 0) := by
 cases x; simp only [tyE]; rfl
def isT (x : Exp) (vs : List Vr) (mk t : Int) : Int := if (tyE x vs mk).2 ≠ 0 then (tyE x vs mk).2 else if (tyE x vs mk).1 ≠ t then 41 else 0
def holdT (vs : List Vr) (n : List UInt8) (mk : Int) (arr : Bool) (t : Int) : Int :=
 match vs[(findV n mk vs 0).toNat]? with
 | some v => if findV n mk vs 0 < 0 then 40 else if decide (0 < v.size) ≠ arr ∨ (t ≠ 0 ∧ v.type ≠ t) then 41 else 0
 | none => 40
end Go.Proofs.YtbmedhaopnhggaaGreatDoor
