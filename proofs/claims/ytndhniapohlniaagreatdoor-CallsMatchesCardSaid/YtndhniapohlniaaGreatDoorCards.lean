/-
  DERIVED. GIVEN WITH THE SEED: THE CARDS: each row of YtndhniapohlniaaGreatDoorRows.lean that lists a variable, with what it lists TIED to the program's text (the seventh form; the later family's looks); each row that meets fmt, with fmt's text TOLD by the authors' own Lean function (tested against real Go, not proved from fmt's source: count such statements apart). THE CARD IS WHAT COUNTS. Prove the row's statement (the work); the ties are given (YtndhniapohlniaaGreatDoorTie.lean); close each card by the builder's one call (the guide's Derived/Test/ToyasCard.lean, 'card_holds'). Laid BY PROGRAM, IN A SANDBOX (cutbox-door.mjs). By AI agents, Wed Nov 11 2026. No macro, syntax, notation, axiom, sorry.
-/
import Derived.Test.YtndhniapohlniaaGreatDoorRows
import GoSem.ClaimSeven
namespace Go.Proofs.YtndhniapohlniaaGreatDoor
namespace Rows

/-- THE TIED CARD OF 'parallaxlaw16.CallsMatches'. -/
def callsMatchesCard : Claim7 := { stood := { row := callsMatchesRow, standIns := [], harness := (true, "e39e2d850a5d2e9ed8b644b294f42be75116b0cdf293ba943998a492ff6477af"), looks := true }, kinds := [], alts := [], laidByText := true, laidKinds := [.data, .data], laidTests := true, laidLooks := .later }
def CallsMatchesCardSaid : Prop := Claim7.holds Tryz.pinned (.plain (OpenSpec.ofChange callsMatchesSpec)) callsMatchesCard

/-- THE TIED CARD OF 'parallaxlaw16.CallsNests'. -/
def callsNestsCard : Claim7 := { stood := { row := callsNestsRow, standIns := [], harness := (true, "e39e2d850a5d2e9ed8b644b294f42be75116b0cdf293ba943998a492ff6477af"), looks := true }, kinds := [], alts := [], laidByText := true, laidKinds := [.data, .data], laidTests := true, laidLooks := .later }
def CallsNestsCardSaid : Prop := Claim7.holds Tryz.pinned (.plain (OpenSpec.ofChange callsNestsSpec)) callsNestsCard

/-- THE TIED CARD OF 'parallaxlaw16.CallsKeeps'. -/
def callsKeepsCard : Claim7 := { stood := { row := callsKeepsRow, standIns := [], harness := (true, "e39e2d850a5d2e9ed8b644b294f42be75116b0cdf293ba943998a492ff6477af"), looks := true }, kinds := [], alts := [], laidByText := true, laidKinds := [.data, .data], laidTests := true, laidLooks := .later }
def CallsKeepsCardSaid : Prop := Claim7.holds Tryz.pinned (.plain (OpenSpec.ofChange callsKeepsSpec)) callsKeepsCard

/-- THE SECOND FORM's CARD OF 'parallaxlaw16.CallsMatches'. -/
def callsMatchesUptoCard : Claim7 := { stood := { row := callsMatchesUptoRow, standIns := [], harness := (true, "e39e2d850a5d2e9ed8b644b294f42be75116b0cdf293ba943998a492ff6477af"), looks := true }, kinds := [], alts := [], laidByText := true, laidKinds := [.data, .data], laidTests := true, laidLooks := .later }
def CallsMatchesUptoCardSaid : Prop := Claim7.holds Tryz.pinned (.plain (OpenSpec.upto callsMatchesSpec)) callsMatchesUptoCard

/-- THE SECOND FORM's CARD OF 'parallaxlaw16.CallsNests'. -/
def callsNestsUptoCard : Claim7 := { stood := { row := callsNestsUptoRow, standIns := [], harness := (true, "e39e2d850a5d2e9ed8b644b294f42be75116b0cdf293ba943998a492ff6477af"), looks := true }, kinds := [], alts := [], laidByText := true, laidKinds := [.data, .data], laidTests := true, laidLooks := .later }
def CallsNestsUptoCardSaid : Prop := Claim7.holds Tryz.pinned (.plain (OpenSpec.upto callsNestsSpec)) callsNestsUptoCard

/-- THE SECOND FORM's CARD OF 'parallaxlaw16.CallsKeeps'. -/
def callsKeepsUptoCard : Claim7 := { stood := { row := callsKeepsUptoRow, standIns := [], harness := (true, "e39e2d850a5d2e9ed8b644b294f42be75116b0cdf293ba943998a492ff6477af"), looks := true }, kinds := [], alts := [], laidByText := true, laidKinds := [.data, .data], laidTests := true, laidLooks := .later }
def CallsKeepsUptoCardSaid : Prop := Claim7.holds Tryz.pinned (.plain (OpenSpec.upto callsKeepsSpec)) callsKeepsUptoCard
end Rows
end Go.Proofs.YtndhniapohlniaaGreatDoor
