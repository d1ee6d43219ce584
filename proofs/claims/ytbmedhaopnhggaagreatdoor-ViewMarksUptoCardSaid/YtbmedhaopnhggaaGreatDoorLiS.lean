/-
  A program's rows (view.List): the plain law: which rows there are, their words, their marks; how long all of it is.
-/
import Derived.Test.YtbmedhaopnhggaaGreatDoorWrN
import Derived.Test.YtbmedhaopnhggaaGreatDoorShow
namespace Go.Proofs.YtbmedhaopnhggaaGreatDoor
open Go Eng Tryz
structure LR where
 deep : Nat
 words : Ws
 proc : Nat
 mark : Int
def LR.text (r : LR) : List UInt8 := List.replicate (2 * r.deep) 32 ++ joinW r.words
def LR.rw (r : LR) : Rw := ⟨r.text, r.proc, r.mark⟩
mutual
def cS : Stm → Nat
 | .mk _ _ _ _ _ b f => 1 + cSs b + cSs f
def cSs : List Stm → Nat
 | [] => 0
 | x :: l => cS x + cSs l
end
mutual
def lS (p : Nat) : Stm → Nat → Nat → List LR
 | .mk k n pr z e b f, d, m =>
  if k = 4 then ⟨d, [[105, 102], [40]] ++ wdE0 e ++ [[41], [123]], p, (m : Int) + 1⟩ :: (lSs p b (d + 1) (m + 1) ++ (if f.length = 0 then [] else ⟨d, [[125], [101, 108, 115, 101], [123]], p, -1⟩ :: lSs p f (d + 1) (m + 1 + cSs b)) ++ [⟨d, [[125]], p, -1⟩])
  else if k = 5 then ⟨d, [[119, 104, 105, 108, 101], [40]] ++ wdE0 e ++ [[41], [123]], p, (m : Int) + 1⟩ :: (lSs p b (d + 1) (m + 1) ++ [⟨d, [[125]], p, -1⟩])
  else [⟨d, wdS (.mk k n pr z e b f), p, (m : Int) + 1⟩]
def lSs (p : Nat) : List Stm → Nat → Nat → List LR
 | [], _, _ => []
 | x :: l, d, m => lS p x d m ++ lSs p l d (m + cS x)
end
def lP (i : Nat) (x : Prc) : List LR := ⟨0, wdH x ++ [[123]], i, 0⟩ :: (lSs i x.body 1 0 ++ [⟨0, [[125]], i, (cSs x.body : Int) + 1⟩])
def lPs : List Prc → Nat → List LR
 | [], _ => []
 | x :: l, i => lP i x ++ lPs l (i + 1)
theorem cS_eq (x : Stm) : cS x = 1 + cSs x.body + cSs x.els := by cases x; simp only [cS]; rfl
theorem lS_eq (p : Nat) (x : Stm) (d m : Nat) : lS p x d m =
  if x.kind = 4 then ⟨d, [[105, 102], [40]] ++ wdE0 x.e ++ [[41], [123]], p, (m : Int) + 1⟩ :: (lSs p x.body (d + 1) (m + 1) ++ (if x.els.length = 0 then [] else ⟨d, [[125], [101, 108, 115, 101], [123]], p, -1⟩ :: lSs p x.els (d + 1) (m + 1 + cSs x.body)) ++ [⟨d, [[125]], p, -1⟩])
  else if x.kind = 5 then ⟨d, [[119, 104, 105, 108, 101], [40]] ++ wdE0 x.e ++ [[41], [123]], p, (m : Int) + 1⟩ :: (lSs p x.body (d + 1) (m + 1) ++ [⟨d, [[125]], p, -1⟩])
  else [⟨d, wdS x, p, (m : Int) + 1⟩] := by
 cases x; simp only [lS]; rfl
theorem zp8 (p : Nat) (x : Stm) : ∀ (l : List Stm) (d m : Nat), lSs p (l ++ [x]) d m = lSs p l d m ++ lS p x d (m + cSs l)
 | [], d, m => by simp [lSs, cSs]
 | y :: l, d, m => by
  simp only [List.cons_append, lSs, zp8 p x l, cSs, List.append_assoc]
  rw [show m + cS y + cSs l = m + (cS y + cSs l) by omega]
theorem zit (x : Stm) : ∀ l : List Stm, cSs (l ++ [x]) = cSs l + cS x
 | [] => by simp [cSs]
 | y :: l => by simp only [List.cons_append, cSs, zit x l]; omega
theorem zp7 (x : Prc) : ∀ (l : List Prc) (i : Nat), lPs (l ++ [x]) i = lPs l i ++ lP (i + l.length) x
 | [], i => by simp [lPs]
 | y :: l, i => by
  simp only [List.cons_append, lPs, zp7 x l, List.append_assoc, List.length_cons]
  rw [show i + 1 + l.length = i + (l.length + 1) by omega]
mutual
theorem cS_le : ∀ x : Stm, cS x ≤ sizS x
 | .mk k n p z e b f => by have := zjn b; have := zjn f; simp only [cS, sizS]; omega
theorem zjn : ∀ l : List Stm, cSs l ≤ sizSs l
 | [] => by simp [cSs]
 | x :: l => by have := cS_le x; have := zjn l; simp only [cSs, sizSs]; omega
end
mutual
theorem lS_len (p : Nat) : ∀ (x : Stm) (d m : Nat), (lS p x d m).length ≤ 3 * sizS x
 | .mk k n pr z e b f, d, m => by
  have h1 := ze5 p b (d + 1) (m + 1)
  have h2 := ze5 p f (d + 1) (m + 1 + cSs b)
  simp only [lS, sizS]
  split
  ·split <;> simp only [List.length_cons, List.length_append, List.length_nil] <;> omega
  split
  ·simp only [List.length_cons, List.length_append, List.length_nil]; omega
  ·simp only [List.length_cons, List.length_nil]; omega
theorem ze5 (p : Nat) : ∀ (l : List Stm) (d m : Nat), (lSs p l d m).length ≤ 3 * sizSs l
 | [], _, _ => by simp [lSs]
 | x :: l, d, m => by
  have h1 := lS_len p x d m
  have h2 := ze5 p l d (m + cS x)
  simp only [lSs, sizSs, List.length_append]
  omega
end
theorem lP_len (i : Nat) (x : Prc) : (lP i x).length ≤ 3 * sizP x := by
 have := ze5 i x.body 1 0
 unfold lP sizP
 simp only [List.length_cons, List.length_append, List.length_nil]
 omega
theorem zo1 : ∀ (l : List Prc) (i : Nat), (lPs l i).length ≤ 3 * sizPs l
 | [], _ => by simp [lPs]
 | x :: l, i => by
  have h1 := lP_len i x
  have h2 := zo1 l (i + 1)
  simp only [lPs, sizPs, List.length_append]
  omega
def keyR (r : LR) : Option (Nat × Int) := if 0 ≤ r.mark then some (r.proc, r.mark) else none
def keysR (l : List LR) : List (Nat × Int) := l.filterMap keyR
def mks (p : Nat) (a n : Nat) : List (Nat × Int) := (List.range' a n).map fun i : Nat => (p, (i : Int))
theorem zf5 (p a n : Nat) : mks p a (n + 1) = (p, (a : Int)) :: mks p (a + 1) n := rfl
theorem zh3 (p a n m : Nat) : mks p a n ++ mks p (a + n) m = mks p a (n + m) := by
 unfold mks
 rw [← List.map_append, List.range'_append_1]
theorem zcv (a b : List LR) : keysR (a ++ b) = keysR a ++ keysR b := by simp [keysR]
theorem zdk (r : LR) (a : List LR) : keysR (r :: a) = (match keyR r with | some k => [k] | none => []) ++ keysR a := by
 unfold keysR
 rw [List.filterMap_cons]
 cases keyR r <;> rfl
theorem zf4 (d : Nat) (w : Ws) (p m : Nat) : keyR ⟨d, w, p, (m : Int) + 1⟩ = some (p, ((m + 1 : Nat) : Int)) := by
 unfold keyR
 rw [if_pos (show (0 : Int) ≤ (m : Int) + 1 by omega)]
 simp
theorem zme (d : Nat) (w : Ws) (p : Nat) : keyR ⟨d, w, p, -1⟩ = none := by
 unfold keyR
 rw [if_neg (by simp)]
theorem zqk {x : Stm} (h : okS x = true) : fitsB x = true ∧ okEs x.e = true ∧ okSs x.body = true ∧ okSs x.els = true := by
 cases x
 simp only [okS, Bool.and_eq_true] at h
 exact ⟨h.1.1.1.1, h.1.1.2, h.1.2, h.2⟩
mutual
theorem keys_lS (p : Nat) : ∀ (x : Stm) (d m : Nat), okS x = true → keysR (lS p x d m) = mks p (m + 1) (cS x)
 | .mk k n pr z e b f, d, m, h => by
  obtain ⟨hf, _, hb, he⟩ := zqk h
  simp only [Stm.body, Stm.els] at hb he
  have h1 := zi4 p b (d + 1) (m + 1) hb
  have h2 := zi4 p f (d + 1) (m + 1 + cSs b) he
  obtain ⟨_, _, _, _, f5, f6, _⟩ := zd9 hf
  simp only [Stm.kind, Stm.els, Stm.body] at f5 f6
  simp only [lS, cS]
  split
  ·by_cases hl : f.length = 0
   ·have hl' : f = [] := List.length_eq_zero_iff.1 hl
    subst hl'
    simp only [List.length_nil, if_true, List.append_nil, zdk, zf4, zcv, h1, zme]
    simp only [keysR, List.filterMap_nil, List.append_nil, cSs, Nat.add_zero]
    rw [Nat.add_comm 1, zf5]; rfl
   ·simp only [if_neg hl, zdk, zf4, zcv, h1, h2, zme]
    simp only [keysR, List.filterMap_nil, List.append_nil, List.nil_append]
    rw [show m + 1 + cSs b + 1 = (m + 1 + 1) + cSs b by omega, zh3, show 1 + cSs b + cSs f = cSs b + cSs f + 1 by omega, zf5]; rfl
  split
  ·have : f = [] := f5 (by omega)
   subst this
   simp only [zdk, zf4, zcv, h1, zme]
   simp only [keysR, List.filterMap_nil, List.append_nil, cSs, Nat.add_zero]
   rw [Nat.add_comm 1, zf5]; rfl
  ·have h5 : f = [] := f5 (by omega)
   have h6 : b = [] := f6 (by omega)
   subst h5 h6
   simp only [zdk, zf4, cSs]
   rfl
theorem zi4 (p : Nat) : ∀ (l : List Stm) (d m : Nat), okSs l = true → keysR (lSs p l d m) = mks p (m + 1) (cSs l)
 | [], _, _, _ => rfl
 | x :: l, d, m, h => by
  simp only [okSs, Bool.and_eq_true] at h
  have h1 := keys_lS p x d m h.1
  have h2 := zi4 p l d (m + cS x) h.2
  simp only [lSs, cSs, zcv, h1, h2]
  rw [show m + cS x + 1 = m + 1 + cS x by omega, zh3]
end
theorem keys_lP (i : Nat) (x : Prc) (h : okSs x.body = true) : keysR (lP i x) = mks i 0 (cSs x.body + 2) := by
 have h1 := zi4 i x.body 1 0 h
 unfold lP
 simp only [zdk, zcv, h1, zf4]
 have : keyR ⟨0, wdH x ++ [[123]], i, 0⟩ = some (i, 0) := rfl
 simp only [this]
 have e : mks i (0 + 1) (cSs x.body) ++ [(i, ((cSs x.body + 1 : Nat) : Int))] = mks i 1 (cSs x.body + 1) := by
  rw [← zh3]
  rw [Nat.add_comm 1]
  rfl
 simp only [keysR, List.filterMap_nil, List.append_nil]
 rw [e, zf5]
 rfl
theorem lSs_last (i : Nat) (x : Prc) : ∃ r, (lP i x).getLast? = some r ∧ (keyR r).isSome := by
 refine ⟨⟨0, [[125]], i, (cSs x.body : Int) + 1⟩, ?_, by rw [zf4]; rfl⟩
 unfold lP
 rw [List.getLast?_cons, List.getLast?_append]
 simp
end Go.Proofs.YtbmedhaopnhggaaGreatDoor
