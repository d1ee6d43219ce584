/-
  The fixed runs that the law's package asks answer true over the laid variables; conditions: these read as laid.
-/
import Derived.Test.YtlajkdbpmkodpaaGreatDoorPlans
namespace Go.Proofs.YtlajkdbpmkodpaaGreatDoor
open Go Go.Proofs.YtlajkdbpmkodpaaGreatDoor.Eng
set_option maxHeartbeats 0 in
theorem known8_run : wholeK Tryz.prog pt [] gl 100000 8 [] (H0 gl 5).bl 5 = .yes := by kernel_rfl
noncomputable def known8F : Func := (Tryz.prog.funcs[8]?).getD default
theorem known8F_eq : Tryz.prog.funcs[8]? = some known8F := by kernel_rfl
theorem known8F_body : known8F.body = some (known8F.body.getD .skip) := by kernel_rfl
theorem known8_ok : KnownOK Tryz.prog gl 8 := known_of_run progOK_holds follows_holds ground gl_size (fun _ h => by cases h) ptOK globals_size known8F_eq known8F_body known8_run
theorem known_all : ∀ g ∈ [8], KnownOK Tryz.prog gl g := by
  intro g hg
  obtain rfl := List.mem_singleton.1 hg
  exact known8_ok
end Go.Proofs.YtlajkdbpmkodpaaGreatDoor
