/-
  TopWatches: for every input the law returns true and the input reads as it did; conditions: the listed variables are as the program's text lays them.
-/
import Derived.Test.YtlajkdbpmkodpaaGreatDoorTopWatchesRow
import Derived.Test.YtlajkdbpmkodpaaGreatDoorTopWatchesC
namespace Go.Proofs.YtlajkdbpmkodpaaGreatDoor
open Go Go.Proofs.YtlajkdbpmkodpaaGreatDoor.Eng Go.ChangeShapes Go.WideShapes Go.ChangeAt Go.RowKit
namespace TopWatches
theorem card_holds : Rows.TopWatchesCardSaid :=
  Claim7.holds_tied_plain_at .later [] [.data, .data, .data, .data] true (true, "7732cc53159710e8a869dd754c2e83cb7dbc291e8bcb2c6160d514a42584fff9") true
    said (fun _ h => by cases h) c1 (fun _ h => by cases h) topWatches_row_tie rfl ⟨rfl, rfl⟩ c2 rfl
    (fun f fn hf hfn => by
      obtain rfl : f = 3 := Option.some.inj (c3.symm.trans hf) |>.symm
      obtain rfl : fn = Tryz.f3 := (Option.some.inj (Tryz.func3.symm.trans hfn)).symm
      exact ⟨c4, fun j t ht => by
        rw [Tryz.params3] at ht
        have hm : t ∈ [5] := by simpa using Array.mem_of_getElem? ht
        exact (show Tryz.prog.wantsStandIn t = false by simpa using List.all_eq_true.1 c5 t hm)⟩)
    c6
#print axioms card_holds
end TopWatches
end Go.Proofs.YtlajkdbpmkodpaaGreatDoor
