/-
  ViewTicks: for every input the law returns true and the input reads as it did; conditions: the listed variables are as the program's text lays them (tied by the card).
-/
import Derived.Test.YtalnmaalhocjfaaGreatDoorTicksRow
namespace Go.Proofs.YtalnmaalhocjfaaGreatDoor
open Go Go.Proofs.YtalnmaalhocjfaaGreatDoor.Eng Go.ChangeShapes Go.WideShapes Go.ChangeAt Go.RowKit
namespace ViewTicks
theorem card_holds : Rows.ViewTicksCardSaid :=
  Claim7.holds_tied_plain_at .later [] [.data, .data, .data] true (true, "dba176121d7984be6b721068d6991982a90dded04ed81f311b8163d889781097") true
    said (fun _ h => by cases h) (by kernel_rfl) (fun _ h => by cases h) viewTicks_row_tie rfl ⟨rfl, rfl⟩ (by kernel_rfl) rfl
    (fun f fn hf hfn => by
      obtain rfl : f = 6 := Option.some.inj ((show Tryz.prog.funcNamed "parallax/parallaxlaw17.ViewTicks" = some 6 by kernel_rfl).symm.trans hf) |>.symm
      obtain rfl : fn = Tryz.f6 := (Option.some.inj (Tryz.func6.symm.trans hfn)).symm
      exact ⟨by kernel_rfl, fun j t ht => by
        rw [Tryz.params6] at ht
        have hm : t ∈ [24, 59] := by simpa using Array.mem_of_getElem? ht
        have hall : ([24, 59].all fun u => !Tryz.prog.wantsStandIn u) = true := by kernel_rfl
        exact (show Tryz.prog.wantsStandIn t = false by simpa using List.all_eq_true.1 hall t hm)⟩)
    (by kernel_rfl)
#print axioms card_holds
end ViewTicks
end Go.Proofs.YtalnmaalhocjfaaGreatDoor
