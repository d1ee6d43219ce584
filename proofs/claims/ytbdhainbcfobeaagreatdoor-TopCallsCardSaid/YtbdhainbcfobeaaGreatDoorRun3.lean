/-
  TopCalls, what follows its first two regions, where n % 7 is 3: the engine answers true. No conditions.
-/
import Derived.Test.YtbdhainbcfobeaaGreatDoorPre
namespace Go.Proofs.YtbdhainbcfobeaaGreatDoor
open Go Go.Proofs.YtbdhainbcfobeaaGreatDoor.Eng
set_option maxHeartbeats 0 in
theorem run3 : restK Tryz.prog 100000 rest Tryz.f3.results.toList (slots 3) (H0 gl 4).bl 4 = .yes := by kernel_rfl
end Go.Proofs.YtbdhainbcfobeaaGreatDoor
