/-
  Rows shown about one, and found by a mark: the plain law. No conditions.
-/
import Derived.Test.YtbmedhaopnhggaaGreatDoorTxt
namespace Go.Proofs.YtbmedhaopnhggaaGreatDoor
open Go Eng Tryz
structure Rw where
 text : List UInt8
 proc : Int
 mark : Int
def rwC (r : Rw) : List AV := [S r.text, .int .i64 r.proc, .int .i64 r.mark]
theorem zuv (r : Rw) : (rwC r).length = 3 := rfl
def findR (p m : Int) : List Rw → Nat → Int
 | [], _ => -1
 | r :: l, i => if r.proc = p ∧ r.mark = m then (i : Int) else findR p m l (i + 1)
def foundR (rs : List Rw) (p m : Int) : Int := if m < 0 then -1 else findR p m rs 0
end Go.Proofs.YtbmedhaopnhggaaGreatDoor
