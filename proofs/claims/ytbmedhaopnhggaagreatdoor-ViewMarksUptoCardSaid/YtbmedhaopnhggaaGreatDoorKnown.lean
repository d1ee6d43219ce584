/-
  The fixed runs that the law's package asks answer true over the laid variables; conditions: these read as laid.
-/
import Derived.Test.YtbmedhaopnhggaaGreatDoorPlans
namespace Go.Proofs.YtbmedhaopnhggaaGreatDoor
open Go Eng
set_option maxHeartbeats 0 in
theorem zrp : wholeK Tryz.prog pt [] gl 100000 6 [] (H0 gl 4).bl 4 = .yes := by kernel_rfl
noncomputable def known6F : Func := (Tryz.prog.funcs[6]?).getD default
theorem zro : Tryz.prog.funcs[6]? = some known6F := by kernel_rfl
theorem zng : known6F.body = some (known6F.body.getD .skip) := by kernel_rfl
theorem ztl : KnownOK Tryz.prog gl 6 := znh zip zhc ground ztc (fun _ h => by cases h) ptOK zfp zro zng zrp
theorem ztn : ∀ g ∈ [6], KnownOK Tryz.prog gl g := by
 intro g hg
 obtain rfl := List.mem_singleton.1 hg
 exact ztl
theorem laid0 : Laid gl (H0 gl 4) := laid_H0 ground (Nat.le_refl 4)
end Go.Proofs.YtbmedhaopnhggaaGreatDoor
