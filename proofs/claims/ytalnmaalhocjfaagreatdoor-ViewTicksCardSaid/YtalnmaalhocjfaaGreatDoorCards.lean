/-
  DERIVED. GIVEN WITH THE SEED: THE CARDS: each row of YtalnmaalhocjfaaGreatDoorRows.lean that lists a variable, with what it lists TIED to the program's text (the seventh form; the later family's looks); each row that meets fmt, with fmt's text TOLD by the authors' own Lean function (tested against real Go, not proved from fmt's source: count such statements apart). THE CARD IS WHAT COUNTS. Prove the row's statement (the work); the ties are given (YtalnmaalhocjfaaGreatDoorTie.lean); close each card by the builder's one call (the guide's Derived/Test/ToyasCard.lean, 'card_holds'). Laid BY PROGRAM, IN A SANDBOX (cutbox-door.mjs). By AI agents, Wed Nov 11 2026. No macro, syntax, notation, axiom, sorry.
-/
import Derived.Test.YtalnmaalhocjfaaGreatDoorRows
import GoSem.ClaimSeven
namespace Go.Proofs.YtalnmaalhocjfaaGreatDoor
namespace Rows

/-- THE TIED CARD OF 'parallaxlaw17.ViewBack'. -/
def viewBackCard : Claim7 := { stood := { row := viewBackRow, standIns := [], harness := (true, "dba176121d7984be6b721068d6991982a90dded04ed81f311b8163d889781097"), looks := true }, kinds := [], alts := [], laidByText := true, laidKinds := [.data, .data, .data], laidTests := true, laidLooks := .later }
def ViewBackCardSaid : Prop := Claim7.holds Tryz.pinned (.plain (OpenSpec.ofChange viewBackSpec)) viewBackCard

/-- THE TIED CARD OF 'parallaxlaw17.ViewShows'. -/
def viewShowsCard : Claim7 := { stood := { row := viewShowsRow, standIns := [], harness := (true, "dba176121d7984be6b721068d6991982a90dded04ed81f311b8163d889781097"), looks := true }, kinds := [], alts := [], laidByText := true, laidKinds := [.data, .data, .data], laidTests := true, laidLooks := .later }
def ViewShowsCardSaid : Prop := Claim7.holds Tryz.pinned (.plain (OpenSpec.ofChange viewShowsSpec)) viewShowsCard

/-- THE TIED CARD OF 'parallaxlaw17.ViewMarks'. -/
def viewMarksCard : Claim7 := { stood := { row := viewMarksRow, standIns := [], harness := (true, "dba176121d7984be6b721068d6991982a90dded04ed81f311b8163d889781097"), looks := true }, kinds := [], alts := [], laidByText := true, laidKinds := [.data, .data, .data], laidTests := true, laidLooks := .later }
def ViewMarksCardSaid : Prop := Claim7.holds Tryz.pinned (.plain (OpenSpec.ofChange viewMarksSpec)) viewMarksCard

/-- THE TIED CARD OF 'parallaxlaw17.ViewTicks'. -/
def viewTicksCard : Claim7 := { stood := { row := viewTicksRow, standIns := [], harness := (true, "dba176121d7984be6b721068d6991982a90dded04ed81f311b8163d889781097"), looks := true }, kinds := [], alts := [], laidByText := true, laidKinds := [.data, .data, .data], laidTests := true, laidLooks := .later }
def ViewTicksCardSaid : Prop := Claim7.holds Tryz.pinned (.plain (OpenSpec.ofChange viewTicksSpec)) viewTicksCard

/-- THE SECOND FORM's CARD OF 'parallaxlaw17.ViewBack'. -/
def viewBackUptoCard : Claim7 := { stood := { row := viewBackUptoRow, standIns := [], harness := (true, "dba176121d7984be6b721068d6991982a90dded04ed81f311b8163d889781097"), looks := true }, kinds := [], alts := [], laidByText := true, laidKinds := [.data, .data, .data], laidTests := true, laidLooks := .later }
def ViewBackUptoCardSaid : Prop := Claim7.holds Tryz.pinned (.plain (OpenSpec.upto viewBackSpec)) viewBackUptoCard

/-- THE SECOND FORM's CARD OF 'parallaxlaw17.ViewShows'. -/
def viewShowsUptoCard : Claim7 := { stood := { row := viewShowsUptoRow, standIns := [], harness := (true, "dba176121d7984be6b721068d6991982a90dded04ed81f311b8163d889781097"), looks := true }, kinds := [], alts := [], laidByText := true, laidKinds := [.data, .data, .data], laidTests := true, laidLooks := .later }
def ViewShowsUptoCardSaid : Prop := Claim7.holds Tryz.pinned (.plain (OpenSpec.upto viewShowsSpec)) viewShowsUptoCard

/-- THE SECOND FORM's CARD OF 'parallaxlaw17.ViewMarks'. -/
def viewMarksUptoCard : Claim7 := { stood := { row := viewMarksUptoRow, standIns := [], harness := (true, "dba176121d7984be6b721068d6991982a90dded04ed81f311b8163d889781097"), looks := true }, kinds := [], alts := [], laidByText := true, laidKinds := [.data, .data, .data], laidTests := true, laidLooks := .later }
def ViewMarksUptoCardSaid : Prop := Claim7.holds Tryz.pinned (.plain (OpenSpec.upto viewMarksSpec)) viewMarksUptoCard

/-- THE SECOND FORM's CARD OF 'parallaxlaw17.ViewTicks'. -/
def viewTicksUptoCard : Claim7 := { stood := { row := viewTicksUptoRow, standIns := [], harness := (true, "dba176121d7984be6b721068d6991982a90dded04ed81f311b8163d889781097"), looks := true }, kinds := [], alts := [], laidByText := true, laidKinds := [.data, .data, .data], laidTests := true, laidLooks := .later }
def ViewTicksUptoCardSaid : Prop := Claim7.holds Tryz.pinned (.plain (OpenSpec.upto viewTicksSpec)) viewTicksUptoCard
end Rows
end Go.Proofs.YtalnmaalhocjfaaGreatDoor
