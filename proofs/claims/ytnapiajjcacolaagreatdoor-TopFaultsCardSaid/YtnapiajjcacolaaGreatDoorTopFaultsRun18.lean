/-
  TopFaults: some of its runs: the engine answers true. No conditions.
-/
import Derived.Test.YtnapiajjcacolaaGreatDoorTopFaultsPre
namespace Go.Proofs.YtnapiajjcacolaaGreatDoor
open Go Go.Proofs.YtnapiajjcacolaaGreatDoor.Eng
namespace TopFaults
def args18 : List (List AV) := [[.int .u8 (.ofNat 14), .bool true, .int .i64 (.ofNat 3)], [.int .u8 (.ofNat 15), .bool true, .int .i64 (.ofNat 3)], [.int .u8 (.ofNat 16), .bool true, .int .i64 (.ofNat 3)]]
set_option maxHeartbeats 0 in
theorem run18 : allK Tryz.prog pt [6] gl 100001 3 args18 (H0 gl 4).bl 4 = .yes := by kernel_rfl
end TopFaults
end Go.Proofs.YtnapiajjcacolaaGreatDoor
