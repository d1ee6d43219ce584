/-
  TopFaults: for every input the law returns true and the input reads as it did; conditions: the listed variables are as the program's text lays them.
-/
import Derived.Test.YtnapiajjcacolaaGreatDoorTopFaultsRow
namespace Go.Proofs.YtnapiajjcacolaaGreatDoor
open Go Go.Proofs.YtnapiajjcacolaaGreatDoor.Eng Go.ChangeShapes Go.WideShapes Go.ChangeAt Go.RowKit
namespace TopFaults
theorem card_holds : Rows.TopFaultsCardSaid :=
  Claim7.holds_tied_plain_at .later [] [.data, .data, .data, .data] true (true, "9bfab4c491e95fd0f61e4e5f508bd7f5a499a65c4fad8cb2c465f920de52af6d") true
    said (fun _ h => by cases h) (by kernel_rfl) (fun _ h => by cases h) topFaults_row_tie rfl ⟨rfl, rfl⟩ (by kernel_rfl) rfl
    (fun f fn hf hfn => by
      obtain rfl : f = 3 := Option.some.inj ((show Tryz.prog.funcNamed "parallax/parallaxtop.TopFaults" = some 3 by kernel_rfl).symm.trans hf) |>.symm
      obtain rfl : fn = Tryz.f3 := (Option.some.inj (Tryz.func3.symm.trans hfn)).symm
      exact ⟨by kernel_rfl, fun j t ht => by
        rw [Tryz.params3] at ht
        have hm : t ∈ [5, 4, 3] := by simpa using Array.mem_of_getElem? ht
        have hall : ([5, 4, 3].all fun u => !Tryz.prog.wantsStandIn u) = true := by kernel_rfl
        exact (show Tryz.prog.wantsStandIn t = false by simpa using List.all_eq_true.1 hall t hm)⟩)
    (by kernel_rfl)
#print axioms card_holds
end TopFaults
end Go.Proofs.YtnapiajjcacolaaGreatDoor
