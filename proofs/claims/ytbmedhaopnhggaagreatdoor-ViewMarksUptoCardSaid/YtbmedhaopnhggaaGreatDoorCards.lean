/-
  DERIVED. GIVEN WITH THE SEED: THE CARDS: each row of YtbmedhaopnhggaaGreatDoorRows.lean that lists a variable, with what it lists TIED to the program's text (the seventh form; the later family's looks); each row that meets fmt, with fmt's text TOLD by the authors' own Lean function (tested against real Go, not proved from fmt's source: count such statements apart). THE CARD IS WHAT COUNTS. Prove the row's statement (the work); the ties are given (YtbmedhaopnhggaaGreatDoorTie.lean); close each card by the builder's one call (the guide's Derived/Test/ToyasCard.lean, 'card_holds'). Laid BY PROGRAM, IN A SANDBOX (cutbox-door.mjs). By AI agents, Wed Nov 11 2026. No macro, syntax, notation, axiom, sorry.
-/
import Derived.Test.YtbmedhaopnhggaaGreatDoorRows
import GoSem.ClaimSeven
namespace Go.Proofs.YtbmedhaopnhggaaGreatDoor
namespace Rows

/-- THE TIED CARD OF 'parallaxlaw17.ViewBack'. -/
def viewBackCard : Claim7 := { stood := { row := viewBackRow, standIns := [], harness := (true, "07cdc71ca23bdfc2323136cda4f0c2cef38487945fd626cf89a0ab4cb3f171be"), looks := true }, kinds := [], alts := [], laidByText := true, laidKinds := [.data, .data, .data], laidTests := true, laidLooks := .later }
def ViewBackCardSaid : Prop := Claim7.holds Tryz.pinned (.plain (OpenSpec.ofChange viewBackSpec)) viewBackCard

/-- THE TIED CARD OF 'parallaxlaw17.ViewMarks'. -/
def viewMarksCard : Claim7 := { stood := { row := viewMarksRow, standIns := [], harness := (true, "07cdc71ca23bdfc2323136cda4f0c2cef38487945fd626cf89a0ab4cb3f171be"), looks := true }, kinds := [], alts := [], laidByText := true, laidKinds := [.data, .data, .data], laidTests := true, laidLooks := .later }
def ViewMarksCardSaid : Prop := Claim7.holds Tryz.pinned (.plain (OpenSpec.ofChange viewMarksSpec)) viewMarksCard

/-- THE SECOND FORM's CARD OF 'parallaxlaw17.ViewBack'. -/
def viewBackUptoCard : Claim7 := { stood := { row := viewBackUptoRow, standIns := [], harness := (true, "07cdc71ca23bdfc2323136cda4f0c2cef38487945fd626cf89a0ab4cb3f171be"), looks := true }, kinds := [], alts := [], laidByText := true, laidKinds := [.data, .data, .data], laidTests := true, laidLooks := .later }
def ViewBackUptoCardSaid : Prop := Claim7.holds Tryz.pinned (.plain (OpenSpec.upto viewBackSpec)) viewBackUptoCard

/-- THE SECOND FORM's CARD OF 'parallaxlaw17.ViewMarks'. -/
def viewMarksUptoCard : Claim7 := { stood := { row := viewMarksUptoRow, standIns := [], harness := (true, "07cdc71ca23bdfc2323136cda4f0c2cef38487945fd626cf89a0ab4cb3f171be"), looks := true }, kinds := [], alts := [], laidByText := true, laidKinds := [.data, .data, .data], laidTests := true, laidLooks := .later }
def ViewMarksUptoCardSaid : Prop := Claim7.holds Tryz.pinned (.plain (OpenSpec.upto viewMarksSpec)) viewMarksUptoCard
end Rows
end Go.Proofs.YtbmedhaopnhggaaGreatDoor
