/-
  TopFaults: some of its runs: the engine answers true. No conditions.
-/
import Derived.Test.YtnapiajjcacolaaGreatDoorTopFaultsPre
namespace Go.Proofs.YtnapiajjcacolaaGreatDoor
open Go Go.Proofs.YtnapiajjcacolaaGreatDoor.Eng
namespace TopFaults
def args12 : List (List AV) := [[.int .u8 (.ofNat 10), .bool true, .int .i64 (.ofNat 2)], [.int .u8 (.ofNat 11), .bool true, .int .i64 (.ofNat 2)], [.int .u8 (.ofNat 12), .bool true, .int .i64 (.ofNat 2)], [.int .u8 (.ofNat 13), .bool true, .int .i64 (.ofNat 2)]]
set_option maxHeartbeats 0 in
theorem run12 : allK Tryz.prog pt [6] gl 100001 3 args12 (H0 gl 4).bl 4 = .yes := by kernel_rfl
end TopFaults
end Go.Proofs.YtnapiajjcacolaaGreatDoor
