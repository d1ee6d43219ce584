/-
  TopFaults: for every input the law returns true and the input reads as it did; conditions: the listed variables are as the program's text lays them (tied by the card).
-/
import Derived.Test.YtnapiajjcacolaaGreatDoorTopFaultsRun0
import Derived.Test.YtnapiajjcacolaaGreatDoorTopFaultsRun1
import Derived.Test.YtnapiajjcacolaaGreatDoorTopFaultsRun2
import Derived.Test.YtnapiajjcacolaaGreatDoorTopFaultsRun3
import Derived.Test.YtnapiajjcacolaaGreatDoorTopFaultsRun4
import Derived.Test.YtnapiajjcacolaaGreatDoorTopFaultsRun5
import Derived.Test.YtnapiajjcacolaaGreatDoorTopFaultsRun6
import Derived.Test.YtnapiajjcacolaaGreatDoorTopFaultsRun7
import Derived.Test.YtnapiajjcacolaaGreatDoorTopFaultsRun8
import Derived.Test.YtnapiajjcacolaaGreatDoorTopFaultsRun9
import Derived.Test.YtnapiajjcacolaaGreatDoorTopFaultsRun10
import Derived.Test.YtnapiajjcacolaaGreatDoorTopFaultsRun11
import Derived.Test.YtnapiajjcacolaaGreatDoorTopFaultsRun12
import Derived.Test.YtnapiajjcacolaaGreatDoorTopFaultsRun13
import Derived.Test.YtnapiajjcacolaaGreatDoorTopFaultsRun14
import Derived.Test.YtnapiajjcacolaaGreatDoorTopFaultsRun15
import Derived.Test.YtnapiajjcacolaaGreatDoorTopFaultsRun16
import Derived.Test.YtnapiajjcacolaaGreatDoorTopFaultsRun17
import Derived.Test.YtnapiajjcacolaaGreatDoorTopFaultsRun18
import Derived.Test.YtnapiajjcacolaaGreatDoorTopFaultsRun19
import Derived.Test.YtnapiajjcacolaaGreatDoorTie
import Derived.Test.YtnapiajjcacolaaGreatDoorCards
import Derived.Stop.Joined
namespace Go.Proofs.YtnapiajjcacolaaGreatDoor
open Go Go.Proofs.YtnapiajjcacolaaGreatDoor.Eng Go.ChangeShapes Go.WideShapes Go.ChangeAt Go.RowKit
namespace TopFaults
theorem run_at {l : List (List AV)} {xs : List AV} (h : allK Tryz.prog pt [6] gl 100001 3 l (H0 gl 4).bl 4 = .yes) (hx : xs ∈ l) : ∃ H', callFO Tryz.prog [6] gl (100000 + 2) 3 xs (H0 gl 4) = .ret (.bool true) H' := by
  have e : (H0 gl 4).nx = 4 := laidG_nx _ _ _
  have h : allK Tryz.prog pt [6] gl 100001 3 l (H0 gl 4).bl (H0 gl 4).nx = .yes := by rw [e]; exact h
  exact allK_ok ptOK h xs hx
theorem run_any : ∀ (n : Nat) (b : Bool) (w : Nat), n < 20 → w < 4 → ∃ H', callFO Tryz.prog [6] gl (100000 + 2) 3 [.int .u8 (.ofNat n), .bool b, .int .i64 (.ofNat w)] (H0 gl 4) = .ret (.bool true) H'
  | 0, false, 0, _, _ => run_at run0 (.head _)
  | 1, false, 0, _, _ => run_at run0 (.tail _ (.head _))
  | 2, false, 0, _, _ => run_at run0 (.tail _ (.tail _ (.head _)))
  | 3, false, 0, _, _ => run_at run0 (.tail _ (.tail _ (.tail _ (.head _))))
  | 4, false, 0, _, _ => run_at run0 (.tail _ (.tail _ (.tail _ (.tail _ (.head _)))))
  | 5, false, 0, _, _ => run_at run0 (.tail _ (.tail _ (.tail _ (.tail _ (.tail _ (.head _))))))
  | 6, false, 0, _, _ => run_at run0 (.tail _ (.tail _ (.tail _ (.tail _ (.tail _ (.tail _ (.head _)))))))
  | 7, false, 0, _, _ => run_at run0 (.tail _ (.tail _ (.tail _ (.tail _ (.tail _ (.tail _ (.tail _ (.head _))))))))
  | 8, false, 0, _, _ => run_at run0 (.tail _ (.tail _ (.tail _ (.tail _ (.tail _ (.tail _ (.tail _ (.tail _ (.head _)))))))))
  | 9, false, 0, _, _ => run_at run0 (.tail _ (.tail _ (.tail _ (.tail _ (.tail _ (.tail _ (.tail _ (.tail _ (.tail _ (.head _))))))))))
  | 10, false, 0, _, _ => run_at run0 (.tail _ (.tail _ (.tail _ (.tail _ (.tail _ (.tail _ (.tail _ (.tail _ (.tail _ (.tail _ (.head _)))))))))))
  | 11, false, 0, _, _ => run_at run0 (.tail _ (.tail _ (.tail _ (.tail _ (.tail _ (.tail _ (.tail _ (.tail _ (.tail _ (.tail _ (.tail _ (.head _))))))))))))
  | 12, false, 0, _, _ => run_at run0 (.tail _ (.tail _ (.tail _ (.tail _ (.tail _ (.tail _ (.tail _ (.tail _ (.tail _ (.tail _ (.tail _ (.tail _ (.head _)))))))))))))
  | 13, false, 0, _, _ => run_at run0 (.tail _ (.tail _ (.tail _ (.tail _ (.tail _ (.tail _ (.tail _ (.tail _ (.tail _ (.tail _ (.tail _ (.tail _ (.tail _ (.head _))))))))))))))
  | 14, false, 0, _, _ => run_at run0 (.tail _ (.tail _ (.tail _ (.tail _ (.tail _ (.tail _ (.tail _ (.tail _ (.tail _ (.tail _ (.tail _ (.tail _ (.tail _ (.tail _ (.head _)))))))))))))))
  | 15, false, 0, _, _ => run_at run0 (.tail _ (.tail _ (.tail _ (.tail _ (.tail _ (.tail _ (.tail _ (.tail _ (.tail _ (.tail _ (.tail _ (.tail _ (.tail _ (.tail _ (.tail _ (.head _))))))))))))))))
  | 16, false, 0, _, _ => run_at run0 (.tail _ (.tail _ (.tail _ (.tail _ (.tail _ (.tail _ (.tail _ (.tail _ (.tail _ (.tail _ (.tail _ (.tail _ (.tail _ (.tail _ (.tail _ (.tail _ (.head _)))))))))))))))))
  | 17, false, 0, _, _ => run_at run0 (.tail _ (.tail _ (.tail _ (.tail _ (.tail _ (.tail _ (.tail _ (.tail _ (.tail _ (.tail _ (.tail _ (.tail _ (.tail _ (.tail _ (.tail _ (.tail _ (.tail _ (.head _))))))))))))))))))
  | 18, false, 0, _, _ => run_at run0 (.tail _ (.tail _ (.tail _ (.tail _ (.tail _ (.tail _ (.tail _ (.tail _ (.tail _ (.tail _ (.tail _ (.tail _ (.tail _ (.tail _ (.tail _ (.tail _ (.tail _ (.tail _ (.head _)))))))))))))))))))
  | 19, false, 0, _, _ => run_at run0 (.tail _ (.tail _ (.tail _ (.tail _ (.tail _ (.tail _ (.tail _ (.tail _ (.tail _ (.tail _ (.tail _ (.tail _ (.tail _ (.tail _ (.tail _ (.tail _ (.tail _ (.tail _ (.tail _ (.head _))))))))))))))))))))
  | 0, false, 1, _, _ => run_at run5 (.head _)
  | 1, false, 1, _, _ => run_at run5 (.tail _ (.head _))
  | 2, false, 1, _, _ => run_at run5 (.tail _ (.tail _ (.head _)))
  | 3, false, 1, _, _ => run_at run5 (.tail _ (.tail _ (.tail _ (.head _))))
  | 4, false, 1, _, _ => run_at run5 (.tail _ (.tail _ (.tail _ (.tail _ (.head _)))))
  | 5, false, 1, _, _ => run_at run5 (.tail _ (.tail _ (.tail _ (.tail _ (.tail _ (.head _))))))
  | 6, false, 1, _, _ => run_at run5 (.tail _ (.tail _ (.tail _ (.tail _ (.tail _ (.tail _ (.head _)))))))
  | 7, false, 1, _, _ => run_at run5 (.tail _ (.tail _ (.tail _ (.tail _ (.tail _ (.tail _ (.tail _ (.head _))))))))
  | 8, false, 1, _, _ => run_at run5 (.tail _ (.tail _ (.tail _ (.tail _ (.tail _ (.tail _ (.tail _ (.tail _ (.head _)))))))))
  | 9, false, 1, _, _ => run_at run5 (.tail _ (.tail _ (.tail _ (.tail _ (.tail _ (.tail _ (.tail _ (.tail _ (.tail _ (.head _))))))))))
  | 10, false, 1, _, _ => run_at run5 (.tail _ (.tail _ (.tail _ (.tail _ (.tail _ (.tail _ (.tail _ (.tail _ (.tail _ (.tail _ (.head _)))))))))))
  | 11, false, 1, _, _ => run_at run5 (.tail _ (.tail _ (.tail _ (.tail _ (.tail _ (.tail _ (.tail _ (.tail _ (.tail _ (.tail _ (.tail _ (.head _))))))))))))
  | 12, false, 1, _, _ => run_at run5 (.tail _ (.tail _ (.tail _ (.tail _ (.tail _ (.tail _ (.tail _ (.tail _ (.tail _ (.tail _ (.tail _ (.tail _ (.head _)))))))))))))
  | 13, false, 1, _, _ => run_at run5 (.tail _ (.tail _ (.tail _ (.tail _ (.tail _ (.tail _ (.tail _ (.tail _ (.tail _ (.tail _ (.tail _ (.tail _ (.tail _ (.head _))))))))))))))
  | 14, false, 1, _, _ => run_at run5 (.tail _ (.tail _ (.tail _ (.tail _ (.tail _ (.tail _ (.tail _ (.tail _ (.tail _ (.tail _ (.tail _ (.tail _ (.tail _ (.tail _ (.head _)))))))))))))))
  | 15, false, 1, _, _ => run_at run5 (.tail _ (.tail _ (.tail _ (.tail _ (.tail _ (.tail _ (.tail _ (.tail _ (.tail _ (.tail _ (.tail _ (.tail _ (.tail _ (.tail _ (.tail _ (.head _))))))))))))))))
  | 16, false, 1, _, _ => run_at run5 (.tail _ (.tail _ (.tail _ (.tail _ (.tail _ (.tail _ (.tail _ (.tail _ (.tail _ (.tail _ (.tail _ (.tail _ (.tail _ (.tail _ (.tail _ (.tail _ (.head _)))))))))))))))))
  | 17, false, 1, _, _ => run_at run5 (.tail _ (.tail _ (.tail _ (.tail _ (.tail _ (.tail _ (.tail _ (.tail _ (.tail _ (.tail _ (.tail _ (.tail _ (.tail _ (.tail _ (.tail _ (.tail _ (.tail _ (.head _))))))))))))))))))
  | 18, false, 1, _, _ => run_at run5 (.tail _ (.tail _ (.tail _ (.tail _ (.tail _ (.tail _ (.tail _ (.tail _ (.tail _ (.tail _ (.tail _ (.tail _ (.tail _ (.tail _ (.tail _ (.tail _ (.tail _ (.tail _ (.head _)))))))))))))))))))
  | 19, false, 1, _, _ => run_at run5 (.tail _ (.tail _ (.tail _ (.tail _ (.tail _ (.tail _ (.tail _ (.tail _ (.tail _ (.tail _ (.tail _ (.tail _ (.tail _ (.tail _ (.tail _ (.tail _ (.tail _ (.tail _ (.tail _ (.head _))))))))))))))))))))
  | 0, false, 2, _, _ => run_at run10 (.head _)
  | 1, false, 2, _, _ => run_at run10 (.tail _ (.head _))
  | 2, false, 2, _, _ => run_at run10 (.tail _ (.tail _ (.head _)))
  | 3, false, 2, _, _ => run_at run10 (.tail _ (.tail _ (.tail _ (.head _))))
  | 4, false, 2, _, _ => run_at run10 (.tail _ (.tail _ (.tail _ (.tail _ (.head _)))))
  | 5, false, 2, _, _ => run_at run10 (.tail _ (.tail _ (.tail _ (.tail _ (.tail _ (.head _))))))
  | 6, false, 2, _, _ => run_at run10 (.tail _ (.tail _ (.tail _ (.tail _ (.tail _ (.tail _ (.head _)))))))
  | 7, false, 2, _, _ => run_at run10 (.tail _ (.tail _ (.tail _ (.tail _ (.tail _ (.tail _ (.tail _ (.head _))))))))
  | 8, false, 2, _, _ => run_at run10 (.tail _ (.tail _ (.tail _ (.tail _ (.tail _ (.tail _ (.tail _ (.tail _ (.head _)))))))))
  | 9, false, 2, _, _ => run_at run10 (.tail _ (.tail _ (.tail _ (.tail _ (.tail _ (.tail _ (.tail _ (.tail _ (.tail _ (.head _))))))))))
  | 10, false, 2, _, _ => run_at run10 (.tail _ (.tail _ (.tail _ (.tail _ (.tail _ (.tail _ (.tail _ (.tail _ (.tail _ (.tail _ (.head _)))))))))))
  | 11, false, 2, _, _ => run_at run10 (.tail _ (.tail _ (.tail _ (.tail _ (.tail _ (.tail _ (.tail _ (.tail _ (.tail _ (.tail _ (.tail _ (.head _))))))))))))
  | 12, false, 2, _, _ => run_at run10 (.tail _ (.tail _ (.tail _ (.tail _ (.tail _ (.tail _ (.tail _ (.tail _ (.tail _ (.tail _ (.tail _ (.tail _ (.head _)))))))))))))
  | 13, false, 2, _, _ => run_at run10 (.tail _ (.tail _ (.tail _ (.tail _ (.tail _ (.tail _ (.tail _ (.tail _ (.tail _ (.tail _ (.tail _ (.tail _ (.tail _ (.head _))))))))))))))
  | 14, false, 2, _, _ => run_at run10 (.tail _ (.tail _ (.tail _ (.tail _ (.tail _ (.tail _ (.tail _ (.tail _ (.tail _ (.tail _ (.tail _ (.tail _ (.tail _ (.tail _ (.head _)))))))))))))))
  | 15, false, 2, _, _ => run_at run10 (.tail _ (.tail _ (.tail _ (.tail _ (.tail _ (.tail _ (.tail _ (.tail _ (.tail _ (.tail _ (.tail _ (.tail _ (.tail _ (.tail _ (.tail _ (.head _))))))))))))))))
  | 16, false, 2, _, _ => run_at run10 (.tail _ (.tail _ (.tail _ (.tail _ (.tail _ (.tail _ (.tail _ (.tail _ (.tail _ (.tail _ (.tail _ (.tail _ (.tail _ (.tail _ (.tail _ (.tail _ (.head _)))))))))))))))))
  | 17, false, 2, _, _ => run_at run10 (.tail _ (.tail _ (.tail _ (.tail _ (.tail _ (.tail _ (.tail _ (.tail _ (.tail _ (.tail _ (.tail _ (.tail _ (.tail _ (.tail _ (.tail _ (.tail _ (.tail _ (.head _))))))))))))))))))
  | 18, false, 2, _, _ => run_at run10 (.tail _ (.tail _ (.tail _ (.tail _ (.tail _ (.tail _ (.tail _ (.tail _ (.tail _ (.tail _ (.tail _ (.tail _ (.tail _ (.tail _ (.tail _ (.tail _ (.tail _ (.tail _ (.head _)))))))))))))))))))
  | 19, false, 2, _, _ => run_at run10 (.tail _ (.tail _ (.tail _ (.tail _ (.tail _ (.tail _ (.tail _ (.tail _ (.tail _ (.tail _ (.tail _ (.tail _ (.tail _ (.tail _ (.tail _ (.tail _ (.tail _ (.tail _ (.tail _ (.head _))))))))))))))))))))
  | 0, false, 3, _, _ => run_at run15 (.head _)
  | 1, false, 3, _, _ => run_at run15 (.tail _ (.head _))
  | 2, false, 3, _, _ => run_at run15 (.tail _ (.tail _ (.head _)))
  | 3, false, 3, _, _ => run_at run15 (.tail _ (.tail _ (.tail _ (.head _))))
  | 4, false, 3, _, _ => run_at run15 (.tail _ (.tail _ (.tail _ (.tail _ (.head _)))))
  | 5, false, 3, _, _ => run_at run15 (.tail _ (.tail _ (.tail _ (.tail _ (.tail _ (.head _))))))
  | 6, false, 3, _, _ => run_at run15 (.tail _ (.tail _ (.tail _ (.tail _ (.tail _ (.tail _ (.head _)))))))
  | 7, false, 3, _, _ => run_at run15 (.tail _ (.tail _ (.tail _ (.tail _ (.tail _ (.tail _ (.tail _ (.head _))))))))
  | 8, false, 3, _, _ => run_at run15 (.tail _ (.tail _ (.tail _ (.tail _ (.tail _ (.tail _ (.tail _ (.tail _ (.head _)))))))))
  | 9, false, 3, _, _ => run_at run15 (.tail _ (.tail _ (.tail _ (.tail _ (.tail _ (.tail _ (.tail _ (.tail _ (.tail _ (.head _))))))))))
  | 10, false, 3, _, _ => run_at run15 (.tail _ (.tail _ (.tail _ (.tail _ (.tail _ (.tail _ (.tail _ (.tail _ (.tail _ (.tail _ (.head _)))))))))))
  | 11, false, 3, _, _ => run_at run15 (.tail _ (.tail _ (.tail _ (.tail _ (.tail _ (.tail _ (.tail _ (.tail _ (.tail _ (.tail _ (.tail _ (.head _))))))))))))
  | 12, false, 3, _, _ => run_at run15 (.tail _ (.tail _ (.tail _ (.tail _ (.tail _ (.tail _ (.tail _ (.tail _ (.tail _ (.tail _ (.tail _ (.tail _ (.head _)))))))))))))
  | 13, false, 3, _, _ => run_at run15 (.tail _ (.tail _ (.tail _ (.tail _ (.tail _ (.tail _ (.tail _ (.tail _ (.tail _ (.tail _ (.tail _ (.tail _ (.tail _ (.head _))))))))))))))
  | 14, false, 3, _, _ => run_at run15 (.tail _ (.tail _ (.tail _ (.tail _ (.tail _ (.tail _ (.tail _ (.tail _ (.tail _ (.tail _ (.tail _ (.tail _ (.tail _ (.tail _ (.head _)))))))))))))))
  | 15, false, 3, _, _ => run_at run15 (.tail _ (.tail _ (.tail _ (.tail _ (.tail _ (.tail _ (.tail _ (.tail _ (.tail _ (.tail _ (.tail _ (.tail _ (.tail _ (.tail _ (.tail _ (.head _))))))))))))))))
  | 16, false, 3, _, _ => run_at run15 (.tail _ (.tail _ (.tail _ (.tail _ (.tail _ (.tail _ (.tail _ (.tail _ (.tail _ (.tail _ (.tail _ (.tail _ (.tail _ (.tail _ (.tail _ (.tail _ (.head _)))))))))))))))))
  | 17, false, 3, _, _ => run_at run15 (.tail _ (.tail _ (.tail _ (.tail _ (.tail _ (.tail _ (.tail _ (.tail _ (.tail _ (.tail _ (.tail _ (.tail _ (.tail _ (.tail _ (.tail _ (.tail _ (.tail _ (.head _))))))))))))))))))
  | 18, false, 3, _, _ => run_at run15 (.tail _ (.tail _ (.tail _ (.tail _ (.tail _ (.tail _ (.tail _ (.tail _ (.tail _ (.tail _ (.tail _ (.tail _ (.tail _ (.tail _ (.tail _ (.tail _ (.tail _ (.tail _ (.head _)))))))))))))))))))
  | 19, false, 3, _, _ => run_at run15 (.tail _ (.tail _ (.tail _ (.tail _ (.tail _ (.tail _ (.tail _ (.tail _ (.tail _ (.tail _ (.tail _ (.tail _ (.tail _ (.tail _ (.tail _ (.tail _ (.tail _ (.tail _ (.tail _ (.head _))))))))))))))))))))
  | 0, true, 0, _, _ => run_at run1 (.head _)
  | 1, true, 0, _, _ => run_at run1 (.tail _ (.head _))
  | 2, true, 0, _, _ => run_at run1 (.tail _ (.tail _ (.head _)))
  | 3, true, 0, _, _ => run_at run1 (.tail _ (.tail _ (.tail _ (.head _))))
  | 4, true, 0, _, _ => run_at run1 (.tail _ (.tail _ (.tail _ (.tail _ (.head _)))))
  | 5, true, 0, _, _ => run_at run1 (.tail _ (.tail _ (.tail _ (.tail _ (.tail _ (.head _))))))
  | 6, true, 0, _, _ => run_at run1 (.tail _ (.tail _ (.tail _ (.tail _ (.tail _ (.tail _ (.head _)))))))
  | 7, true, 0, _, _ => run_at run1 (.tail _ (.tail _ (.tail _ (.tail _ (.tail _ (.tail _ (.tail _ (.head _))))))))
  | 8, true, 0, _, _ => run_at run1 (.tail _ (.tail _ (.tail _ (.tail _ (.tail _ (.tail _ (.tail _ (.tail _ (.head _)))))))))
  | 9, true, 0, _, _ => run_at run1 (.tail _ (.tail _ (.tail _ (.tail _ (.tail _ (.tail _ (.tail _ (.tail _ (.tail _ (.head _))))))))))
  | 10, true, 0, _, _ => run_at run2 (.head _)
  | 11, true, 0, _, _ => run_at run2 (.tail _ (.head _))
  | 12, true, 0, _, _ => run_at run2 (.tail _ (.tail _ (.head _)))
  | 13, true, 0, _, _ => run_at run2 (.tail _ (.tail _ (.tail _ (.head _))))
  | 14, true, 0, _, _ => run_at run3 (.head _)
  | 15, true, 0, _, _ => run_at run3 (.tail _ (.head _))
  | 16, true, 0, _, _ => run_at run3 (.tail _ (.tail _ (.head _)))
  | 17, true, 0, _, _ => run_at run4 (.head _)
  | 18, true, 0, _, _ => run_at run4 (.tail _ (.head _))
  | 19, true, 0, _, _ => run_at run4 (.tail _ (.tail _ (.head _)))
  | 0, true, 1, _, _ => run_at run6 (.head _)
  | 1, true, 1, _, _ => run_at run6 (.tail _ (.head _))
  | 2, true, 1, _, _ => run_at run6 (.tail _ (.tail _ (.head _)))
  | 3, true, 1, _, _ => run_at run6 (.tail _ (.tail _ (.tail _ (.head _))))
  | 4, true, 1, _, _ => run_at run6 (.tail _ (.tail _ (.tail _ (.tail _ (.head _)))))
  | 5, true, 1, _, _ => run_at run6 (.tail _ (.tail _ (.tail _ (.tail _ (.tail _ (.head _))))))
  | 6, true, 1, _, _ => run_at run6 (.tail _ (.tail _ (.tail _ (.tail _ (.tail _ (.tail _ (.head _)))))))
  | 7, true, 1, _, _ => run_at run6 (.tail _ (.tail _ (.tail _ (.tail _ (.tail _ (.tail _ (.tail _ (.head _))))))))
  | 8, true, 1, _, _ => run_at run6 (.tail _ (.tail _ (.tail _ (.tail _ (.tail _ (.tail _ (.tail _ (.tail _ (.head _)))))))))
  | 9, true, 1, _, _ => run_at run6 (.tail _ (.tail _ (.tail _ (.tail _ (.tail _ (.tail _ (.tail _ (.tail _ (.tail _ (.head _))))))))))
  | 10, true, 1, _, _ => run_at run7 (.head _)
  | 11, true, 1, _, _ => run_at run7 (.tail _ (.head _))
  | 12, true, 1, _, _ => run_at run7 (.tail _ (.tail _ (.head _)))
  | 13, true, 1, _, _ => run_at run7 (.tail _ (.tail _ (.tail _ (.head _))))
  | 14, true, 1, _, _ => run_at run8 (.head _)
  | 15, true, 1, _, _ => run_at run8 (.tail _ (.head _))
  | 16, true, 1, _, _ => run_at run8 (.tail _ (.tail _ (.head _)))
  | 17, true, 1, _, _ => run_at run9 (.head _)
  | 18, true, 1, _, _ => run_at run9 (.tail _ (.head _))
  | 19, true, 1, _, _ => run_at run9 (.tail _ (.tail _ (.head _)))
  | 0, true, 2, _, _ => run_at run11 (.head _)
  | 1, true, 2, _, _ => run_at run11 (.tail _ (.head _))
  | 2, true, 2, _, _ => run_at run11 (.tail _ (.tail _ (.head _)))
  | 3, true, 2, _, _ => run_at run11 (.tail _ (.tail _ (.tail _ (.head _))))
  | 4, true, 2, _, _ => run_at run11 (.tail _ (.tail _ (.tail _ (.tail _ (.head _)))))
  | 5, true, 2, _, _ => run_at run11 (.tail _ (.tail _ (.tail _ (.tail _ (.tail _ (.head _))))))
  | 6, true, 2, _, _ => run_at run11 (.tail _ (.tail _ (.tail _ (.tail _ (.tail _ (.tail _ (.head _)))))))
  | 7, true, 2, _, _ => run_at run11 (.tail _ (.tail _ (.tail _ (.tail _ (.tail _ (.tail _ (.tail _ (.head _))))))))
  | 8, true, 2, _, _ => run_at run11 (.tail _ (.tail _ (.tail _ (.tail _ (.tail _ (.tail _ (.tail _ (.tail _ (.head _)))))))))
  | 9, true, 2, _, _ => run_at run11 (.tail _ (.tail _ (.tail _ (.tail _ (.tail _ (.tail _ (.tail _ (.tail _ (.tail _ (.head _))))))))))
  | 10, true, 2, _, _ => run_at run12 (.head _)
  | 11, true, 2, _, _ => run_at run12 (.tail _ (.head _))
  | 12, true, 2, _, _ => run_at run12 (.tail _ (.tail _ (.head _)))
  | 13, true, 2, _, _ => run_at run12 (.tail _ (.tail _ (.tail _ (.head _))))
  | 14, true, 2, _, _ => run_at run13 (.head _)
  | 15, true, 2, _, _ => run_at run13 (.tail _ (.head _))
  | 16, true, 2, _, _ => run_at run13 (.tail _ (.tail _ (.head _)))
  | 17, true, 2, _, _ => run_at run14 (.head _)
  | 18, true, 2, _, _ => run_at run14 (.tail _ (.head _))
  | 19, true, 2, _, _ => run_at run14 (.tail _ (.tail _ (.head _)))
  | 0, true, 3, _, _ => run_at run16 (.head _)
  | 1, true, 3, _, _ => run_at run16 (.tail _ (.head _))
  | 2, true, 3, _, _ => run_at run16 (.tail _ (.tail _ (.head _)))
  | 3, true, 3, _, _ => run_at run16 (.tail _ (.tail _ (.tail _ (.head _))))
  | 4, true, 3, _, _ => run_at run16 (.tail _ (.tail _ (.tail _ (.tail _ (.head _)))))
  | 5, true, 3, _, _ => run_at run16 (.tail _ (.tail _ (.tail _ (.tail _ (.tail _ (.head _))))))
  | 6, true, 3, _, _ => run_at run16 (.tail _ (.tail _ (.tail _ (.tail _ (.tail _ (.tail _ (.head _)))))))
  | 7, true, 3, _, _ => run_at run16 (.tail _ (.tail _ (.tail _ (.tail _ (.tail _ (.tail _ (.tail _ (.head _))))))))
  | 8, true, 3, _, _ => run_at run16 (.tail _ (.tail _ (.tail _ (.tail _ (.tail _ (.tail _ (.tail _ (.tail _ (.head _)))))))))
  | 9, true, 3, _, _ => run_at run16 (.tail _ (.tail _ (.tail _ (.tail _ (.tail _ (.tail _ (.tail _ (.tail _ (.tail _ (.head _))))))))))
  | 10, true, 3, _, _ => run_at run17 (.head _)
  | 11, true, 3, _, _ => run_at run17 (.tail _ (.head _))
  | 12, true, 3, _, _ => run_at run17 (.tail _ (.tail _ (.head _)))
  | 13, true, 3, _, _ => run_at run17 (.tail _ (.tail _ (.tail _ (.head _))))
  | 14, true, 3, _, _ => run_at run18 (.head _)
  | 15, true, 3, _, _ => run_at run18 (.tail _ (.head _))
  | 16, true, 3, _, _ => run_at run18 (.tail _ (.tail _ (.head _)))
  | 17, true, 3, _, _ => run_at run19 (.head _)
  | 18, true, 3, _, _ => run_at run19 (.tail _ (.head _))
  | 19, true, 3, _, _ => run_at run19 (.tail _ (.tail _ (.head _)))
  | n + 20, _, _, h, _ => absurd h (by omega)
  | _, _, w + 4, _, h => absurd h (by omega)
theorem engine_run (m0 : Nat) (m1 : Bool) (m2 : Int) : ∃ H', callFO Tryz.prog [6] gl (100000 + 2) 3 [.int .u8 (.ofNat m0), .bool m1, .int .i64 m2] (H0 gl 4) = .ret (.bool true) H' := by
  have hr := am_range m2
  obtain ⟨w, hw⟩ : ∃ w : Nat, am m2 = .ofNat w := ⟨(am m2).toNat, by rw [Int.ofNat_eq_natCast, Int.toNat_of_nonneg hr.1]⟩
  refine run_all m0 m1 m2 ?_
  rw [hw]
  have h4 : w < 4 := by have := hr.2; rw [hw] at this; exact Int.ofNat_lt.1 this
  exact run_any (m0 % 20) m1 w (Nat.mod_lt _ (by decide)) h4
theorem law (m0 : Nat) (m1 : Bool) (m2 : Int)  {W : World} (hL : laidMetH Tryz.prog laid4 W) : Calls Tryz.prog 3 #[.int .u8 (.ofNat m0), .bool m1, .int .i64 m2] W fun e W' => e = .returned (.bool true) ∧ W.keptBut W' (fun _ => False) := by
  obtain ⟨H', h⟩ := engine_run m0 m1 m2
  exact (contractO progOK_holds follows_holds ground gl_size awake_known (by rw [globals_size]; exact Nat.le_refl 4) h (fun _ => (DL.cons rfl (DL.cons rfl (DL.cons rfl .nil)))) (laid_W hL) (fun _ => rfl)).mono fun e W' hh => ⟨hh.1, hh.2.keptBut⟩
set_option maxRecDepth 100000 in
theorem lifted (os : Os) (started : os.Started) (H : Type) (enc : TypeId × Value → H) :
    ReturnsInHanded {} Tryz.checked os 3 .any (fun w args => (Rows.topFaultsSpec.pre enc Tryz.prog Tryz.f3 [] false w args ∧ laidMetH Tryz.prog laid4 w) ∧ sizedMet enc Tryz.prog Tryz.f3 (OpenSpec.ofChange Rows.topFaultsSpec) false w args)
      (Rows.topFaultsSpec.post enc Tryz.prog Tryz.f3 false true false false) := by
  refine returnsInHanded_of_change_and (C := Tryz.checked) (X := fun w _ => laidMetH Tryz.prog laid4 w) (fun _ _ _ hh h => h.of_heap hh) own started (by kernel_rfl) Tryz.func3
    (ChangeSpec.witness_shaped (enc := enc) (C := Tryz.checked) (os := os) (X := fun w _ => laidMetH Tryz.prog laid4 w) false (World.doorLaid Tryz.prog 400 os) #[.int .u8 0, .bool false, .int .i64 0] 8 rfl (World.shaped_of_RefB (by kernel_rfl) (by kernel_rfl)) (by kernel_rfl) (by kernel_rfl) (by kernel_rfl) (door_met os _)) ?_
  intro W base args ds gs before hval0 hW _ _ hL _
  have hval : ∀ (j : Nat) t v, Tryz.f3.params[j]? = some t → args[j]? = some v → Value.okWide Tryz.prog W .any base t v := hval0
  have hW' := hW
  obtain ⟨p, q, hA0, hV, rfl, hfz, hnd⟩ := hW
  have hA : DataW.TrodAll enc Tryz.prog W 0 (fun _ => true) true Tryz.f3.params.toList args.toList ds p := hA0
  rw [Tryz.params3] at hA hval
  obtain ⟨v0, v1, v2, d0, d1, d2, p0, p1, p2, rfl, rfl, rfl, h0, h1, h2⟩ := trodAll_three hA
  obtain ⟨rfl, rfl⟩ := trodVars_none hV
  obtain ⟨n0, rfl, rfl, rfl, wf0⟩ := open_int Tryz.underlying5 (hval 0 5 v0 rfl rfl) h0
  have hn0 : 0 ≤ n0 := by
    simp only [Lit.wf, Bool.and_eq_true, decide_eq_true_eq] at wf0
    exact wf0.1
  obtain ⟨m0, rfl⟩ : ∃ m : Nat, n0 = .ofNat m := ⟨n0.toNat, by rw [Int.ofNat_eq_natCast, Int.toNat_of_nonneg hn0]⟩
  obtain ⟨m1, rfl, rfl, rfl⟩ := open_bool Tryz.underlying4 (hval 1 4 v1 rfl rfl) h1
  obtain ⟨m2, rfl, rfl, rfl, wf2⟩ := open_int Tryz.underlying3 (hval 2 3 v2 rfl rfl) h2
  clear hA0 hval0
  simp only [List.append_nil] at hW'
  refine (law m0 m1 m2  hL).mono fun e W' ⟨he, hk⟩ => ?_
  subst he
  have e1 : Rows.topFaultsSpec.fn H ([.lit (.int .u8 (.ofNat m0)), .lit (.bool m1), .lit (.int .i64 m2)] ++ []) = { results := [.lit (.bool true)], args := [.lit (.int .u8 (.ofNat m0)), .lit (.bool m1), .lit (.int .i64 m2)] } := by simp [Rows.topFaultsSpec]
  refine ⟨_, rfl, _, _, _, [], [], [], hW', ?_, ?_, ?_, World.keptBut_mono (fun _ h => h.elim) hk, fun h => by cases h⟩
  · rw [e1]; exact trodAll_mk1 (shut_bool Tryz.underlying4 true)
  · rw [e1]; exact trodAll_mk3 (shut_int Tryz.underlying5 wf0) (shut_bool Tryz.underlying4 _) (shut_int Tryz.underlying3 wf2)
  · rw [e1]; rfl
end TopFaults
end Go.Proofs.YtnapiajjcacolaaGreatDoor
