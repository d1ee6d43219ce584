/-
  TopWatches: the row of the law; conditions: the listed variables are as the program's text lays them.
-/
import Derived.Test.YtlajkdbpmkodpaaGreatDoorTopWatchesLift
import Derived.Test.YtlajkdbpmkodpaaGreatDoorTopWatchesFacts
namespace Go.Proofs.YtlajkdbpmkodpaaGreatDoor
open Go Go.Proofs.YtlajkdbpmkodpaaGreatDoor.Eng Go.ChangeShapes Go.WideShapes Go.ChangeAt Go.RowKit
namespace TopWatches
theorem said : Rows.TopWatchesSaid :=
  OpenClaim.holds_of_wide 3 Tryz.f3 rfl rfl rfl rfl rfl rfl rfl ⟨rfl, rfl, rfl, rfl, rfl⟩ rfl rfl rfl rfl rfl (by kernel_rfl) Tryz.func3 closed
    (of_decide_eq_true (by kernel_rfl)) (by unfold Func.isWrapper; rw [if_neg (of_decide_eq_false (by kernel_rfl))]; exact ⟨rfl, rfl⟩)
    (fun os started H enc _ => lifted os started H enc)
end TopWatches
end Go.Proofs.YtlajkdbpmkodpaaGreatDoor
