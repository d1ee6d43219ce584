/-
  DERIVED. GIVEN WITH THE SEED: THE CARDS: each row of YtlajkdbpmkodpaaGreatDoorRows.lean that lists a variable, with what it lists TIED to the program's text (the seventh form; the later family's looks); each row that meets fmt, with fmt's text TOLD by the authors' own Lean function (tested against real Go, not proved from fmt's source: count such statements apart). THE CARD IS WHAT COUNTS. Prove the row's statement (the work); the ties are given (YtlajkdbpmkodpaaGreatDoorTie.lean); close each card by the builder's one call (the guide's Derived/Test/ToyasCard.lean, 'card_holds'). Laid BY PROGRAM, IN A SANDBOX (cutbox-door.mjs). By AI agents, Wed Nov 11 2026. No macro, syntax, notation, axiom, sorry.
-/
import Derived.Test.YtlajkdbpmkodpaaGreatDoorRows
import GoSem.ClaimSeven
namespace Go.Proofs.YtlajkdbpmkodpaaGreatDoor
namespace Rows

/-- THE TIED CARD OF 'parallaxtop.TopWatches'. -/
def topWatchesCard : Claim7 := { stood := { row := topWatchesRow, standIns := [], harness := (true, "7732cc53159710e8a869dd754c2e83cb7dbc291e8bcb2c6160d514a42584fff9"), looks := true }, kinds := [], alts := [], laidByText := true, laidKinds := [.data, .data, .data, .data], laidTests := true, laidLooks := .later }
def TopWatchesCardSaid : Prop := Claim7.holds Tryz.pinned (.plain (OpenSpec.ofChange topWatchesSpec)) topWatchesCard

/-- THE SECOND FORM's CARD OF 'parallaxtop.TopWatches'. -/
def topWatchesUptoCard : Claim7 := { stood := { row := topWatchesUptoRow, standIns := [], harness := (true, "7732cc53159710e8a869dd754c2e83cb7dbc291e8bcb2c6160d514a42584fff9"), looks := true }, kinds := [], alts := [], laidByText := true, laidKinds := [.data, .data, .data, .data], laidTests := true, laidLooks := .later }
def TopWatchesUptoCardSaid : Prop := Claim7.holds Tryz.pinned (.plain (OpenSpec.upto topWatchesSpec)) topWatchesUptoCard
end Rows
end Go.Proofs.YtlajkdbpmkodpaaGreatDoor
