/-
  TopWatches, what follows its first two regions, for one of the values: the engine answers true. No conditions.
-/
import Derived.Test.YtlajkdbpmkodpaaGreatDoorTopWatchesPre
namespace Go.Proofs.YtlajkdbpmkodpaaGreatDoor
open Go Go.Proofs.YtlajkdbpmkodpaaGreatDoor.Eng
namespace TopWatches
set_option maxHeartbeats 0 in
theorem run7 : restI Tryz.prog pt 233 [8] gl 100000 plans rest Tryz.f3.results.toList (slots 7) (H0 gl 5).bl 5 = .yes := by kernel_rfl
end TopWatches
end Go.Proofs.YtlajkdbpmkodpaaGreatDoor
