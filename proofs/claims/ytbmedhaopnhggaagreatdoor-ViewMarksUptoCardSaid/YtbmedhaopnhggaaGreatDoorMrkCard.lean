/-
  ViewMarks, where what is read is of bulk at most 1048576:  the law returns true and the input reads as it did; conditions: the listed variables are as the program's text lays them (tied by the card).
-/
import Derived.Test.YtbmedhaopnhggaaGreatDoorMrkRow
namespace Go.Proofs.YtbmedhaopnhggaaGreatDoor
open Go Eng Go.ChangeShapes Go.WideShapes Go.ChangeAt Go.RowKit
namespace ViewMarks
theorem card_holds : Rows.ViewMarksUptoCardSaid :=
 Claim7.holds_tied_plain_at .later [] [.data, .data, .data] true (true, "07cdc71ca23bdfc2323136cda4f0c2cef38487945fd626cf89a0ab4cb3f171be") true
  said (fun _ h => by cases h) (by kernel_rfl) (fun _ h => by cases h) viewMarksUpto_row_tie rfl ⟨rfl, rfl⟩ (by kernel_rfl) rfl
  (fun f fn hf hfn => by
   obtain rfl : f = 4 := Option.some.inj ((show Tryz.prog.funcNamed "parallax/parallaxlaw17.ViewMarks" = some 4 by kernel_rfl).symm.trans hf) |>.symm
   obtain rfl : fn = Tryz.f4 := (Option.some.inj (Tryz.func4.symm.trans hfn)).symm
   exact ⟨by kernel_rfl, fun j t ht => by
    rw [Tryz.params4] at ht
    have hm : t ∈ [24] := by simpa using Array.mem_of_getElem? ht
    have hall : ([24].all fun u => !Tryz.prog.wantsStandIn u) = true := by kernel_rfl
    exact (show Tryz.prog.wantsStandIn t = false by simpa using List.all_eq_true.1 hall t hm)⟩)
  (by kernel_rfl)
#print axioms card_holds
end ViewMarks
end Go.Proofs.YtbmedhaopnhggaaGreatDoor
