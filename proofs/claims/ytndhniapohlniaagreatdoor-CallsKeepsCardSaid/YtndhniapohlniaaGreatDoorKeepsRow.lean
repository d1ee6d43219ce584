/-
  CallsKeeps: the row of the law; conditions: the listed variables are as the program's text lays them.
-/
import Derived.Test.YtndhniapohlniaaGreatDoorKeepsLift
import Derived.Test.YtndhniapohlniaaGreatDoorCallsKeepsFacts
namespace Go.Proofs.YtndhniapohlniaaGreatDoor
open Go Go.Proofs.YtndhniapohlniaaGreatDoor.Eng Go.ChangeShapes Go.WideShapes Go.ChangeAt Go.RowKit
namespace CallsKeeps
theorem said : Rows.CallsKeepsSaid :=
  OpenClaim.holds_of_wide 5 Tryz.f5 rfl rfl rfl rfl rfl rfl rfl ⟨rfl, rfl, rfl, rfl, rfl⟩ rfl rfl rfl rfl rfl (by kernel_rfl) Tryz.func5 closed
    (of_decide_eq_true (by kernel_rfl)) (by unfold Func.isWrapper; rw [if_neg (of_decide_eq_false (by kernel_rfl))]; exact ⟨rfl, rfl⟩)
    (fun os started H enc _ => lifted os started H enc)
end CallsKeeps
end Go.Proofs.YtndhniapohlniaaGreatDoor
