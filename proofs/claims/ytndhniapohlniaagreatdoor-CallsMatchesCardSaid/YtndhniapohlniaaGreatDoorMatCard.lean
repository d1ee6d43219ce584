/-
  CallsMatches: for every input the law returns true and the input reads as it did; conditions: the listed variables are as the program's text lays them (tied by the card).
-/
import Derived.Test.YtndhniapohlniaaGreatDoorMatRow
namespace Go.Proofs.YtndhniapohlniaaGreatDoor
open Go Go.Proofs.YtndhniapohlniaaGreatDoor.Eng Go.ChangeShapes Go.WideShapes Go.ChangeAt Go.RowKit
namespace CallsMatches
theorem card_holds : Rows.CallsMatchesCardSaid :=
  Claim7.holds_tied_plain_at .later [] [.data, .data] true (true, "e39e2d850a5d2e9ed8b644b294f42be75116b0cdf293ba943998a492ff6477af") true
    said (fun _ h => by cases h) (by kernel_rfl) (fun _ h => by cases h) callsMatches_row_tie rfl ⟨rfl, rfl⟩ (by kernel_rfl) rfl
    (fun f fn hf hfn => by
      obtain rfl : f = 3 := Option.some.inj ((show Tryz.prog.funcNamed "parallax/parallaxlaw16.CallsMatches" = some 3 by kernel_rfl).symm.trans hf) |>.symm
      obtain rfl : fn = Tryz.f3 := (Option.some.inj (Tryz.func3.symm.trans hfn)).symm
      exact ⟨by kernel_rfl, fun j t ht => by
        rw [Tryz.params3] at ht
        have hm : t ∈ [22, 22, 23, 3] := by simpa using Array.mem_of_getElem? ht
        have hall : ([22, 22, 23, 3].all fun u => !Tryz.prog.wantsStandIn u) = true := by kernel_rfl
        exact (show Tryz.prog.wantsStandIn t = false by simpa using List.all_eq_true.1 hall t hm)⟩)
    (by kernel_rfl)
#print axioms card_holds
end CallsMatches
end Go.Proofs.YtndhniapohlniaaGreatDoor
