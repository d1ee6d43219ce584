/-
  Rows shown about one, and found by a mark: the plain law. No conditions.
-/
import Derived.Test.YtalnmaalhocjfaaGreatDoorTxt
namespace Go.Proofs.YtalnmaalhocjfaaGreatDoor
open Go Go.Proofs.YtalnmaalhocjfaaGreatDoor.Eng
/-- a row of a listing -/
structure Rw where
  text : List UInt8
  proc : Int
  mark : Int
def rwC (r : Rw) : List AV := [S r.text, .int .i64 r.proc, .int .i64 r.mark]
theorem rwC_len (r : Rw) : (rwC r).length = 3 := rfl
/-- a row's line; most: how wide the greatest number is -/
def lineR (most : Nat) (a : Int) (i : Nat) (r : Rw) : List UInt8 := (if (i : Int) = a then 62 else 32) :: 32 :: (List.replicate (most - (textN (i + 1)).length) 32 ++ textN (i + 1) ++ 32 :: r.text)
/-- the lines of the rows from one up to another one -/
def linesR (rs : List Rw) (a : Int) (most f t : Nat) : List (List UInt8) := (List.range' f (t - f)).map fun i => lineR most a i (rs[i]?.getD ⟨[], 0, 0⟩)
theorem linesR_nil {rs : List Rw} {a : Int} {most f t : Nat} (h : t ≤ f) : linesR rs a most f t = [] := by
  rw [linesR, show t - f = 0 by omega]; rfl
theorem linesR_snoc {rs : List Rw} {a : Int} {most f t : Nat} {r : Rw} (h : f ≤ t) (hr : rs[t]? = some r) : linesR rs a most f (t + 1) = linesR rs a most f t ++ [lineR most a t r] := by
  rw [linesR, linesR, show t + 1 - f = t - f + 1 by omega, List.range'_1_concat, List.map_append, List.map_cons, List.map_nil, show f + (t - f) = t by omega, hr]
  rfl
theorem linesR_len {rs : List Rw} {a : Int} {most f t : Nat} : (linesR rs a most f t).length = t - f := by simp [linesR]
/-- the first row shown, and the one behind the last one -/
def fromR (a n : Int) : Nat := if n < a then (a - n).toNat else 0
def toR (len : Nat) (a n : Int) : Nat := if n < (len : Int) - 1 - a then (a + n + 1).toNat else len
def mostR (t : Nat) : Nat := (textN t).length
/-- what is shown, and the error's number -/
def showR (rs : List Rw) (a n : Int) : List (List UInt8) × Int :=
  if a < 0 ∨ (rs.length : Int) ≤ a then ([], 80) else if n < 0 then ([], 1) else (linesR rs a (mostR (toR rs.length a n)) (fromR a n) (toR rs.length a n), 0)
/-- the first row of a mark -/
def findR (p m : Int) : List Rw → Nat → Int
  | [], _ => -1
  | r :: l, i => if r.proc = p ∧ r.mark = m then (i : Int) else findR p m l (i + 1)
def foundR (rs : List Rw) (p m : Int) : Int := if m < 0 then -1 else findR p m rs 0
/-- all texts and rows together -/
def sumR : List Rw → Nat
  | [] => 0
  | r :: l => 1 + r.text.length + sumR l
theorem sumR_append : ∀ l m : List Rw, sumR (l ++ m) = sumR l + sumR m
  | [], m => by simp [sumR]
  | r :: l, m => by simp only [List.cons_append, sumR, sumR_append l m]; omega
theorem len_le_sumR : ∀ l : List Rw, l.length ≤ sumR l
  | [] => Nat.le_refl _
  | r :: l => by have := len_le_sumR l; simp only [List.length_cons, sumR]; omega
theorem text_le_sumR : ∀ (l : List Rw) (r : Rw), r ∈ l → r.text.length < sumR l
  | [], _, h => by cases h
  | s :: l, r, h => by
    rcases List.mem_cons.1 h with rfl | h
    · simp only [sumR]; omega
    · have := text_le_sumR l r h
      simp only [sumR]; omega
theorem sumR_take (rs : List Rw) {i : Nat} {r : Rw} (h : rs[i]? = some r) : sumR (rs.take (i + 1)) = sumR (rs.take i) + 1 + r.text.length := by
  rw [List.take_add_one, h, sumR_append]
  simp only [Option.toList, sumR]
  omega
end Go.Proofs.YtalnmaalhocjfaaGreatDoor
