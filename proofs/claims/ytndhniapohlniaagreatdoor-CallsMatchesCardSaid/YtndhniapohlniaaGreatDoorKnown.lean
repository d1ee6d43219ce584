/-
  The fixed runs that the law's package asks answer true over the laid variables; conditions: these read as laid.
-/
import Derived.Test.YtndhniapohlniaaGreatDoorPlans
namespace Go.Proofs.YtndhniapohlniaaGreatDoor
open Go Go.Proofs.YtndhniapohlniaaGreatDoor.Eng
set_option maxHeartbeats 0 in
theorem known6_run : wholeK Tryz.prog pt [] gl 100000 6 [] (H0 gl 2).bl 2 = .yes := by kernel_rfl
noncomputable def known6F : Func := (Tryz.prog.funcs[6]?).getD default
theorem known6F_eq : Tryz.prog.funcs[6]? = some known6F := by kernel_rfl
theorem known6F_body : known6F.body = some (known6F.body.getD .skip) := by kernel_rfl
theorem known6_ok : KnownOK Tryz.prog gl 6 := known_of_run progOK_holds follows_holds ground gl_size (fun _ h => by cases h) ptOK globals_size known6F_eq known6F_body known6_run
theorem known_all : ∀ g ∈ [6], KnownOK Tryz.prog gl g := by
  intro g hg
  obtain rfl := List.mem_singleton.1 hg
  exact known6_ok
theorem laid0 : Laid gl (H0 gl 2) := laid_H0 ground (Nat.le_refl 2)
end Go.Proofs.YtndhniapohlniaaGreatDoor
