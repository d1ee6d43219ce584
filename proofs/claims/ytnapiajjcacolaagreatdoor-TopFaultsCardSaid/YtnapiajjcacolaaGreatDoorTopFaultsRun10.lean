/-
  TopFaults: some of its runs: the engine answers true. No conditions.
-/
import Derived.Test.YtnapiajjcacolaaGreatDoorTopFaultsPre
namespace Go.Proofs.YtnapiajjcacolaaGreatDoor
open Go Go.Proofs.YtnapiajjcacolaaGreatDoor.Eng
namespace TopFaults
def args10 : List (List AV) := [[.int .u8 (.ofNat 0), .bool false, .int .i64 (.ofNat 2)], [.int .u8 (.ofNat 1), .bool false, .int .i64 (.ofNat 2)], [.int .u8 (.ofNat 2), .bool false, .int .i64 (.ofNat 2)], [.int .u8 (.ofNat 3), .bool false, .int .i64 (.ofNat 2)], [.int .u8 (.ofNat 4), .bool false, .int .i64 (.ofNat 2)], [.int .u8 (.ofNat 5), .bool false, .int .i64 (.ofNat 2)], [.int .u8 (.ofNat 6), .bool false, .int .i64 (.ofNat 2)], [.int .u8 (.ofNat 7), .bool false, .int .i64 (.ofNat 2)], [.int .u8 (.ofNat 8), .bool false, .int .i64 (.ofNat 2)], [.int .u8 (.ofNat 9), .bool false, .int .i64 (.ofNat 2)], [.int .u8 (.ofNat 10), .bool false, .int .i64 (.ofNat 2)], [.int .u8 (.ofNat 11), .bool false, .int .i64 (.ofNat 2)], [.int .u8 (.ofNat 12), .bool false, .int .i64 (.ofNat 2)], [.int .u8 (.ofNat 13), .bool false, .int .i64 (.ofNat 2)], [.int .u8 (.ofNat 14), .bool false, .int .i64 (.ofNat 2)], [.int .u8 (.ofNat 15), .bool false, .int .i64 (.ofNat 2)], [.int .u8 (.ofNat 16), .bool false, .int .i64 (.ofNat 2)], [.int .u8 (.ofNat 17), .bool false, .int .i64 (.ofNat 2)], [.int .u8 (.ofNat 18), .bool false, .int .i64 (.ofNat 2)], [.int .u8 (.ofNat 19), .bool false, .int .i64 (.ofNat 2)]]
set_option maxHeartbeats 0 in
theorem run10 : allK Tryz.prog pt [6] gl 100001 3 args10 (H0 gl 4).bl 4 = .yes := by kernel_rfl
end TopFaults
end Go.Proofs.YtnapiajjcacolaaGreatDoor
