/-
  ViewTicks: the row of the law; conditions: the listed variables are as the program's text lays them.
-/
import Derived.Test.YtalnmaalhocjfaaGreatDoorTicksLift
import Derived.Test.YtalnmaalhocjfaaGreatDoorViewTicksFacts
namespace Go.Proofs.YtalnmaalhocjfaaGreatDoor
open Go Go.Proofs.YtalnmaalhocjfaaGreatDoor.Eng Go.ChangeShapes Go.WideShapes Go.ChangeAt Go.RowKit
namespace ViewTicks
theorem said : Rows.ViewTicksSaid :=
  OpenClaim.holds_of_wide 6 Tryz.f6 rfl rfl rfl rfl rfl rfl rfl ⟨rfl, rfl, rfl, rfl, rfl⟩ rfl rfl rfl rfl rfl (by kernel_rfl) Tryz.func6 closed
    (of_decide_eq_true (by kernel_rfl)) (by unfold Func.isWrapper; rw [if_neg (of_decide_eq_false (by kernel_rfl))]; exact ⟨rfl, rfl⟩)
    (fun os started H enc _ => lifted os started H enc)
end ViewTicks
end Go.Proofs.YtalnmaalhocjfaaGreatDoor
