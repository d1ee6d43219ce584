/-
  ViewShows: the row of the law; conditions: the listed variables are as the program's text lays them.
-/
import Derived.Test.YtalnmaalhocjfaaGreatDoorShowsLift
import Derived.Test.YtalnmaalhocjfaaGreatDoorViewShowsFacts
namespace Go.Proofs.YtalnmaalhocjfaaGreatDoor
open Go Go.Proofs.YtalnmaalhocjfaaGreatDoor.Eng Go.ChangeShapes Go.WideShapes Go.ChangeAt Go.RowKit
namespace ViewShows
theorem said : Rows.ViewShowsSaid :=
  OpenClaim.holds_of_wide 4 Tryz.f4 rfl rfl rfl rfl rfl rfl rfl ⟨rfl, rfl, rfl, rfl, rfl⟩ rfl rfl rfl rfl rfl (by kernel_rfl) Tryz.func4 closed
    (of_decide_eq_true (by kernel_rfl)) (by unfold Func.isWrapper; rw [if_neg (of_decide_eq_false (by kernel_rfl))]; exact ⟨rfl, rfl⟩)
    (fun os started H enc _ => lifted os started H enc)
end ViewShows
end Go.Proofs.YtalnmaalhocjfaaGreatDoor
