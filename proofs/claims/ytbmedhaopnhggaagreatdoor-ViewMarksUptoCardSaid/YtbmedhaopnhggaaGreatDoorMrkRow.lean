/-
  ViewMarks, where what is read is of bulk at most 1048576: the row of the law; conditions: the listed variables are as the program's text lays them.
-/
import Derived.Test.YtbmedhaopnhggaaGreatDoorMrkLift
import Derived.Test.YtbmedhaopnhggaaGreatDoorViewMarksFacts
import Derived.JoinedCond
namespace Go.Proofs.YtbmedhaopnhggaaGreatDoor
open Go Eng Go.ChangeShapes Go.WideShapes Go.ChangeAt Go.RowKit
namespace ViewMarks
theorem said : Rows.ViewMarksUptoSaid :=
 OpenClaim.holds_of_cond 4 Tryz.f4 rfl rfl rfl rfl rfl rfl rfl ⟨rfl, rfl, rfl, rfl, rfl⟩ rfl rfl rfl rfl rfl (by kernel_rfl) Tryz.func4 closed
  (of_decide_eq_true (by kernel_rfl)) (by unfold Func.isWrapper; rw [if_neg (of_decide_eq_false (by kernel_rfl))]; exact ⟨rfl, rfl⟩)
  (fun os started H enc _ F => by rw [OpenClaim.pre_eq_preRow]; exact lifted os started H enc F)
end ViewMarks
end Go.Proofs.YtbmedhaopnhggaaGreatDoor
