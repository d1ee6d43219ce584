/-
  TopFaults: some of its runs: the engine answers true. No conditions.
-/
import Derived.Test.YtnapiajjcacolaaGreatDoorTopFaultsPre
namespace Go.Proofs.YtnapiajjcacolaaGreatDoor
open Go Go.Proofs.YtnapiajjcacolaaGreatDoor.Eng
namespace TopFaults
def args16 : List (List AV) := [[.int .u8 (.ofNat 0), .bool true, .int .i64 (.ofNat 3)], [.int .u8 (.ofNat 1), .bool true, .int .i64 (.ofNat 3)], [.int .u8 (.ofNat 2), .bool true, .int .i64 (.ofNat 3)], [.int .u8 (.ofNat 3), .bool true, .int .i64 (.ofNat 3)], [.int .u8 (.ofNat 4), .bool true, .int .i64 (.ofNat 3)], [.int .u8 (.ofNat 5), .bool true, .int .i64 (.ofNat 3)], [.int .u8 (.ofNat 6), .bool true, .int .i64 (.ofNat 3)], [.int .u8 (.ofNat 7), .bool true, .int .i64 (.ofNat 3)], [.int .u8 (.ofNat 8), .bool true, .int .i64 (.ofNat 3)], [.int .u8 (.ofNat 9), .bool true, .int .i64 (.ofNat 3)]]
set_option maxHeartbeats 0 in
theorem run16 : allK Tryz.prog pt [6] gl 100001 3 args16 (H0 gl 4).bl 4 = .yes := by kernel_rfl
end TopFaults
end Go.Proofs.YtnapiajjcacolaaGreatDoor
