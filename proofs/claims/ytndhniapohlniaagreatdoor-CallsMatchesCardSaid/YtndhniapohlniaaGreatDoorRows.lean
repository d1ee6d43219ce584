/-
  NARROWER THAN 'FOR EVERY INPUT', by the rows' own cells (each row's printed sentence says how): CallsMatches: laid · CallsNests: laid · CallsKeeps: laid.
  DERIVED. THE GIVEN ROWS OF THIS SEAT. 3 by the template 'for every input the law returns true; each argument reads behind the call as it read before'; 0 by the template 'total and deterministic' (their statements: YtndhniapohlniaaGreatDoorTotals.lean).
  GIVEN WITH THE SEED: the statements are not yours to turn. If you find one false, say at which input.
  Laid BY PROGRAM, IN A SANDBOX (cutbox-rows.mjs): the forced cells as the released guide's own fill.sh prints them over the translation ccb4a77f769a0b17… (all of the seat's roots in one cut). By AI agents, Wed Nov 11 2026. No macro, syntax, notation, axiom, sorry.
-/
import Derived.Test.YtndhniapohlniaaGreatDoorChecked
import GoSem.Claim
import GoSem.ClaimJoined
import GoSem.ClaimMapViews
import Derived.JoinedTies
import Derived.KernelRfl
namespace Go.Proofs.YtndhniapohlniaaGreatDoor
/- THE CELL 'sum', in the pinned program and in every row, IS THE sha256 OF THE DUMP (.gsa) THAT YtndhniapohlniaaGreatDoorProg.lean LOADS. Nothing in Lean hashes anything: it is a label: what it is worth is what the hold of that sum in a sandbox is worth. -/
noncomputable def Tryz.pinned : Pinned := { name := "ytndhniapohlniaagreatdoor", sum := "ccb4a77f769a0b17de168e77c99fcdb47ea5495e2397a48d1cf6bf43c32284eb", checked := Tryz.checked }
namespace Rows
def none {H : Type} : Left H := { results := [], args := [] }

/- WHAT THE LISTED PACKAGE-LEVEL VARIABLES READ AS WHEN THE CALL BEGINS. Each datum BY PROGRAM (the guide's laid-datum.mjs) off the statement by which the dump's own 'gosem.cut.vars' lays the variable. In a bare row this is a premise. The card (YtndhniapohlniaaGreatDoorCards.lean) ties it to the program's text. -/
def laid_parallax_code_words {H : Type} : DataW H := .agg [.lit (.string []), .lit (.string [112, 117, 115, 104]), .lit (.string [108, 111, 97, 100]), .lit (.string [115, 116, 111, 114, 101]), .lit (.string [105, 110, 100, 101, 120]), .lit (.string [112, 117, 116]), .lit (.string [99, 108, 101, 97, 114]), .lit (.string [97, 100, 100]), .lit (.string [115, 117, 98]), .lit (.string [109, 117, 108]), .lit (.string [100, 105, 118]), .lit (.string [109, 111, 100]), .lit (.string [108, 101, 115, 115]), .lit (.string [109, 111, 115, 116]), .lit (.string [115, 97, 109, 101]), .lit (.string [110, 111, 116]), .lit (.string [110, 101, 103]), .lit (.string [106, 117, 109, 112]), .lit (.string [122, 101, 114, 111]), .lit (.string [99, 97, 108, 108]), .lit (.string [108, 101, 97, 118, 101]), .lit (.string [112, 114, 105, 110, 116]), .lit (.string [114, 101, 97, 100]), .lit (.string [116, 101, 115, 116]), .lit (.string [109, 97, 114, 107]), .lit (.string [100, 114, 111, 112])]
def laid_parallax_code_stack {H : Type} : DataW H := .agg [.agg [.lit (.int .i64 0), .lit (.int .i64 0)], .agg [.lit (.int .i64 0), .lit (.int .i64 1)], .agg [.lit (.int .i64 0), .lit (.int .i64 1)], .agg [.lit (.int .i64 1), .lit (.int .i64 0)], .agg [.lit (.int .i64 1), .lit (.int .i64 1)], .agg [.lit (.int .i64 2), .lit (.int .i64 0)], .agg [.lit (.int .i64 0), .lit (.int .i64 0)], .agg [.lit (.int .i64 2), .lit (.int .i64 1)], .agg [.lit (.int .i64 2), .lit (.int .i64 1)], .agg [.lit (.int .i64 2), .lit (.int .i64 1)], .agg [.lit (.int .i64 2), .lit (.int .i64 1)], .agg [.lit (.int .i64 2), .lit (.int .i64 1)], .agg [.lit (.int .i64 2), .lit (.int .i64 1)], .agg [.lit (.int .i64 2), .lit (.int .i64 1)], .agg [.lit (.int .i64 2), .lit (.int .i64 1)], .agg [.lit (.int .i64 1), .lit (.int .i64 1)], .agg [.lit (.int .i64 1), .lit (.int .i64 1)], .agg [.lit (.int .i64 0), .lit (.int .i64 0)], .agg [.lit (.int .i64 1), .lit (.int .i64 0)], .agg [.lit (.int .i64 0), .lit (.int .i64 0)], .agg [.lit (.int .i64 0), .lit (.int .i64 0)], .agg [.lit (.int .i64 1), .lit (.int .i64 0)], .agg [.lit (.int .i64 0), .lit (.int .i64 1)], .agg [.lit (.int .i64 1), .lit (.int .i64 0)], .agg [.lit (.int .i64 0), .lit (.int .i64 0)], .agg [.lit (.int .i64 1), .lit (.int .i64 0)]]

/-- 'parallaxlaw16.CallsMatches': WHATEVER THE INPUT: true; the input reads as it did. -/
def callsMatchesSpec : ChangeSpec := { name := "callsMatches", fn := fun _ => fun
  | [d1, d2, d3, d4] => { results := [.lit (.bool true)], args := [d1, d2, d3, d4] }
  | _ => none }
def callsMatchesRow : OpenClaim := { program := "ytndhniapohlniaagreatdoor", sum := "ccb4a77f769a0b17de168e77c99fcdb47ea5495e2397a48d1cf6bf43c32284eb", func := "parallax/parallaxlaw16.CallsMatches", spec := "callsMatches", unfollowed := true, recurses := true, named := ["parallax/code.words", "parallax/code.stack"], apart := false, laid := [("parallax/code.words", laid_parallax_code_words), ("parallax/code.stack", laid_parallax_code_stack)] }
def CallsMatchesSaid : Prop := callsMatchesRow.holds Tryz.pinned (OpenSpec.ofChange callsMatchesSpec)

/-- ITS FALSE NEIGHBOUR: 'it returns false'. Refute it at one input. -/
def callsMatchesWrong : ChangeSpec := { name := "callsMatches", fn := fun _ => fun
  | [d1, d2, d3, d4] => { results := [.lit (.bool false)], args := [d1, d2, d3, d4] }
  | _ => none }
def CallsMatchesWrongFalsely : Prop := callsMatchesRow.holds Tryz.pinned (OpenSpec.ofChange callsMatchesWrong)

/-- 'parallaxlaw16.CallsNests': WHATEVER THE INPUT: true; the input reads as it did. -/
def callsNestsSpec : ChangeSpec := { name := "callsNests", fn := fun _ => fun
  | [d] => { results := [.lit (.bool true)], args := [d] }
  | _ => none }
def callsNestsRow : OpenClaim := { program := "ytndhniapohlniaagreatdoor", sum := "ccb4a77f769a0b17de168e77c99fcdb47ea5495e2397a48d1cf6bf43c32284eb", func := "parallax/parallaxlaw16.CallsNests", spec := "callsNests", unfollowed := true, recurses := true, named := ["parallax/code.words", "parallax/code.stack"], apart := false, laid := [("parallax/code.words", laid_parallax_code_words), ("parallax/code.stack", laid_parallax_code_stack)] }
def CallsNestsSaid : Prop := callsNestsRow.holds Tryz.pinned (OpenSpec.ofChange callsNestsSpec)

/-- ITS FALSE NEIGHBOUR: 'it returns false'. Refute it at one input. -/
def callsNestsWrong : ChangeSpec := { name := "callsNests", fn := fun _ => fun
  | [d] => { results := [.lit (.bool false)], args := [d] }
  | _ => none }
def CallsNestsWrongFalsely : Prop := callsNestsRow.holds Tryz.pinned (OpenSpec.ofChange callsNestsWrong)

/-- 'parallaxlaw16.CallsKeeps': WHATEVER THE INPUT: true; the input reads as it did. -/
def callsKeepsSpec : ChangeSpec := { name := "callsKeeps", fn := fun _ => fun
  | [d1, d2, d3, d4] => { results := [.lit (.bool true)], args := [d1, d2, d3, d4] }
  | _ => none }
def callsKeepsRow : OpenClaim := { program := "ytndhniapohlniaagreatdoor", sum := "ccb4a77f769a0b17de168e77c99fcdb47ea5495e2397a48d1cf6bf43c32284eb", func := "parallax/parallaxlaw16.CallsKeeps", spec := "callsKeeps", unfollowed := true, recurses := true, named := ["parallax/code.words", "parallax/code.stack"], apart := false, laid := [("parallax/code.words", laid_parallax_code_words), ("parallax/code.stack", laid_parallax_code_stack)] }
def CallsKeepsSaid : Prop := callsKeepsRow.holds Tryz.pinned (OpenSpec.ofChange callsKeepsSpec)

/-- ITS FALSE NEIGHBOUR: 'it returns false'. Refute it at one input. -/
def callsKeepsWrong : ChangeSpec := { name := "callsKeeps", fn := fun _ => fun
  | [d1, d2, d3, d4] => { results := [.lit (.bool false)], args := [d1, d2, d3, d4] }
  | _ => none }
def CallsKeepsWrongFalsely : Prop := callsKeepsRow.holds Tryz.pinned (OpenSpec.ofChange callsKeepsWrong)

/- THE SECOND FORM. 'bulk': how many values and letters a reading holds, each counted each time it is reached (what is shared counts as often as it is met; a slice's spare places count too). A statement '..UptoSaid' is the law's where the arguments, and the package variables that the reading takes, are together of bulk at most 1048576: NARROWER than '..Said'. Prove '..Said' where nothing that the law and all that it calls make is longer than what came in: it says more and counts as full. Else prove '..UptoSaid'. A law counts once. -/
mutual
def uptoBulk {H : Type} : DataW H → Nat
  | .lit (.string bytes) => bytes.length + 1
  | .lit _ => 1
  | .nil => 1
  | .ptr d => uptoBulk d + 1
  | .slice elems spare => uptoBulkAll elems + uptoBulkAll spare + 1
  | .agg parts => uptoBulkAll parts + 1
  | .iface _ d => uptoBulk d + 1
  | .map entries => uptoBulkEntries entries + 1
  | .held _ => 1
def uptoBulkAll {H : Type} : List (DataW H) → Nat
  | [] => 0
  | d :: r => uptoBulk d + uptoBulkAll r
def uptoBulkEntries {H : Type} : List (Lit × DataW H) → Nat
  | [] => 0
  | x :: r => uptoBulkEntry x + uptoBulkEntries r
def uptoBulkEntry {H : Type} : Lit × DataW H → Nat
  | (.string bytes, d) => bytes.length + uptoBulk d + 1
  | (_, d) => uptoBulk d + 1
 end
def uptoSmall : (H : Type) → List (DataW H) → Bool := fun _ ds => decide (uptoBulkAll ds ≤ 1048576)
def OpenSpec.upto (s : _root_.Go.ChangeSpec) : _root_.Go.OpenSpec := { _root_.Go.OpenSpec.ofChange s with cond := some uptoSmall }

/-- 'parallaxlaw16.CallsMatches', WHERE WHAT IT READS IS OF BULK AT MOST 1048576: true; the input reads as it did. -/
def callsMatchesUptoRow : OpenClaim := { program := "ytndhniapohlniaagreatdoor", sum := "ccb4a77f769a0b17de168e77c99fcdb47ea5495e2397a48d1cf6bf43c32284eb", func := "parallax/parallaxlaw16.CallsMatches", spec := "callsMatches", unfollowed := true, recurses := true, named := ["parallax/code.words", "parallax/code.stack"], apart := false, laid := [("parallax/code.words", laid_parallax_code_words), ("parallax/code.stack", laid_parallax_code_stack)], narrowed := true }
def CallsMatchesUptoSaid : Prop := callsMatchesUptoRow.holds Tryz.pinned (OpenSpec.upto callsMatchesSpec)

/-- 'parallaxlaw16.CallsNests', WHERE WHAT IT READS IS OF BULK AT MOST 1048576: true; the input reads as it did. -/
def callsNestsUptoRow : OpenClaim := { program := "ytndhniapohlniaagreatdoor", sum := "ccb4a77f769a0b17de168e77c99fcdb47ea5495e2397a48d1cf6bf43c32284eb", func := "parallax/parallaxlaw16.CallsNests", spec := "callsNests", unfollowed := true, recurses := true, named := ["parallax/code.words", "parallax/code.stack"], apart := false, laid := [("parallax/code.words", laid_parallax_code_words), ("parallax/code.stack", laid_parallax_code_stack)], narrowed := true }
def CallsNestsUptoSaid : Prop := callsNestsUptoRow.holds Tryz.pinned (OpenSpec.upto callsNestsSpec)

/-- 'parallaxlaw16.CallsKeeps', WHERE WHAT IT READS IS OF BULK AT MOST 1048576: true; the input reads as it did. -/
def callsKeepsUptoRow : OpenClaim := { program := "ytndhniapohlniaagreatdoor", sum := "ccb4a77f769a0b17de168e77c99fcdb47ea5495e2397a48d1cf6bf43c32284eb", func := "parallax/parallaxlaw16.CallsKeeps", spec := "callsKeeps", unfollowed := true, recurses := true, named := ["parallax/code.words", "parallax/code.stack"], apart := false, laid := [("parallax/code.words", laid_parallax_code_words), ("parallax/code.stack", laid_parallax_code_stack)], narrowed := true }
def CallsKeepsUptoSaid : Prop := callsKeepsUptoRow.holds Tryz.pinned (OpenSpec.upto callsKeepsSpec)

end Rows
end Go.Proofs.YtndhniapohlniaaGreatDoor
