/-
  The fixed run 'awake' answers true over the laid variables; conditions: these read as laid.
-/
import Derived.Test.YtnapiajjcacolaaGreatDoorPlans
namespace Go.Proofs.YtnapiajjcacolaaGreatDoor
open Go Go.Proofs.YtnapiajjcacolaaGreatDoor.Eng
set_option maxHeartbeats 0 in
theorem awake_run : wholeK Tryz.prog pt [] gl 100000 6 [] (H0 gl 4).bl 4 = .yes := by kernel_rfl
noncomputable def awakeF : Func := (Tryz.prog.funcs[6]?).getD default
theorem awakeF_eq : Tryz.prog.funcs[6]? = some awakeF := by kernel_rfl
theorem awakeF_body : awakeF.body = some (awakeF.body.getD .skip) := by kernel_rfl
theorem awake_known : ∀ g ∈ [6], KnownOK Tryz.prog gl g := by
  intro g hg
  obtain rfl := List.mem_singleton.1 hg
  exact known_of_run progOK_holds follows_holds ground gl_size (fun _ h => by cases h) ptOK globals_size awakeF_eq awakeF_body awake_run
end Go.Proofs.YtnapiajjcacolaaGreatDoor
