/-
  The listed package variables' data as the engine's memory; conditions: the row's own (the variables read as laid).
-/
import Derived.Test.YtlajkdbpmkodpaaGreatDoorRows
import Derived.Test.YtlajkdbpmkodpaaGreatDoorCore7
import Derived.ProofKit
import Derived.LaidMore
import Derived.KernelRfl
namespace Go.Proofs.YtlajkdbpmkodpaaGreatDoor
open Go Go.Proofs.YtlajkdbpmkodpaaGreatDoor.Eng
def gKeys : List AV := [.str 4 1668248176, .str 3 7496054, .str 2 26217, .str 4 1702063205, .str 5 435610544247, .str 6 121437875889522, .str 5 500068610672, .str 4 1684104562, .str 6 128034677158753, .str 3 7630441, .str 4 1819242338, .str 4 1702195828, .str 5 435728179558]
def gSigns : List AV := [.str 2 15677, .str 2 15649, .str 2 15676, .str 2 9766, .str 2 31868, .str 1 40, .str 1 41, .str 1 123, .str 1 125, .str 1 91, .str 1 93, .str 1 44, .str 1 59, .str 1 61, .str 1 60, .str 1 33, .str 1 43, .str 1 45, .str 1 42, .str 1 47, .str 1 37]
def gWords : List AV := [.str 0 0, .str 4 1752397168, .str 4 1684107116, .str 5 435711603827, .str 5 517097156201, .str 3 7632240, .str 5 491260308579, .str 3 6579297, .str 3 6452595, .str 3 7107949, .str 3 7760228, .str 3 6582125, .str 4 1936942444, .str 4 1953722221, .str 4 1701667187, .str 3 7630702, .str 3 6776174, .str 4 1886221674, .str 4 1869768058, .str 4 1819042147, .str 5 435777791340, .str 5 500068610672, .str 4 1684104562, .str 4 1953719668, .str 4 1802658157, .str 4 1886351972]
def gStack : List AV := [.int .i64 (.ofNat 0), .int .i64 (.ofNat 0), .int .i64 (.ofNat 0), .int .i64 (.ofNat 1), .int .i64 (.ofNat 0), .int .i64 (.ofNat 1), .int .i64 (.ofNat 1), .int .i64 (.ofNat 0), .int .i64 (.ofNat 1), .int .i64 (.ofNat 1), .int .i64 (.ofNat 2), .int .i64 (.ofNat 0), .int .i64 (.ofNat 0), .int .i64 (.ofNat 0), .int .i64 (.ofNat 2), .int .i64 (.ofNat 1), .int .i64 (.ofNat 2), .int .i64 (.ofNat 1), .int .i64 (.ofNat 2), .int .i64 (.ofNat 1), .int .i64 (.ofNat 2), .int .i64 (.ofNat 1), .int .i64 (.ofNat 2), .int .i64 (.ofNat 1), .int .i64 (.ofNat 2), .int .i64 (.ofNat 1), .int .i64 (.ofNat 2), .int .i64 (.ofNat 1), .int .i64 (.ofNat 2), .int .i64 (.ofNat 1), .int .i64 (.ofNat 1), .int .i64 (.ofNat 1), .int .i64 (.ofNat 1), .int .i64 (.ofNat 1), .int .i64 (.ofNat 0), .int .i64 (.ofNat 0), .int .i64 (.ofNat 1), .int .i64 (.ofNat 0), .int .i64 (.ofNat 0), .int .i64 (.ofNat 0), .int .i64 (.ofNat 0), .int .i64 (.ofNat 0), .int .i64 (.ofNat 1), .int .i64 (.ofNat 0), .int .i64 (.ofNat 0), .int .i64 (.ofNat 1), .int .i64 (.ofNat 1), .int .i64 (.ofNat 0), .int .i64 (.ofNat 0), .int .i64 (.ofNat 0), .int .i64 (.ofNat 1), .int .i64 (.ofNat 0)]
def gl : List (List AV) := [[], gKeys, gSigns, gWords, gStack]
theorem ground : groundG gl = true := by kernel_rfl
theorem globals_size : Tryz.prog.globals.size = 5 := by kernel_rfl
theorem gl_size : gl.length ≤ Tryz.prog.globals.size := by rw [globals_size]; exact Nat.le_refl 5
theorem g1_n : Tryz.prog.globalNamed "parallax/lex.keys" = some 1 := by kernel_rfl
theorem g1_t : (Tryz.prog.globals[1]?).map (·.type) = some ((Tryz.prog.globals[1]?).map (·.type) |>.getD 0) := by kernel_rfl
theorem g1_d : flatD Tryz.prog 8 ((Tryz.prog.globals[1]?).map (·.type) |>.getD 0) Rows.laid_parallax_lex_keys = some gKeys := by kernel_rfl
theorem g2_n : Tryz.prog.globalNamed "parallax/lex.signs" = some 2 := by kernel_rfl
theorem g2_t : (Tryz.prog.globals[2]?).map (·.type) = some ((Tryz.prog.globals[2]?).map (·.type) |>.getD 0) := by kernel_rfl
theorem g2_d : flatD Tryz.prog 8 ((Tryz.prog.globals[2]?).map (·.type) |>.getD 0) Rows.laid_parallax_lex_signs = some gSigns := by kernel_rfl
theorem g3_n : Tryz.prog.globalNamed "parallax/code.words" = some 3 := by kernel_rfl
theorem g3_t : (Tryz.prog.globals[3]?).map (·.type) = some ((Tryz.prog.globals[3]?).map (·.type) |>.getD 0) := by kernel_rfl
theorem g3_d : flatD Tryz.prog 8 ((Tryz.prog.globals[3]?).map (·.type) |>.getD 0) Rows.laid_parallax_code_words = some gWords := by kernel_rfl
theorem g4_n : Tryz.prog.globalNamed "parallax/code.stack" = some 4 := by kernel_rfl
theorem g4_t : (Tryz.prog.globals[4]?).map (·.type) = some ((Tryz.prog.globals[4]?).map (·.type) |>.getD 0) := by kernel_rfl
theorem g4_d : flatD Tryz.prog 8 ((Tryz.prog.globals[4]?).map (·.type) |>.getD 0) Rows.laid_parallax_code_stack = some gStack := by kernel_rfl
def laidL : List (String × DataW Unit) := [("parallax/code.words", Rows.laid_parallax_code_words), ("parallax/code.stack", Rows.laid_parallax_code_stack), ("parallax/lex.keys", Rows.laid_parallax_lex_keys), ("parallax/lex.signs", Rows.laid_parallax_lex_signs)]
theorem laid_W {W : World} (h : laidMetH Tryz.prog laidL W) : LaidW gl W := by
  rw [MakeChecks.laidMetH_plain _ _ _ (by kernel_rfl)] at h
  obtain ⟨ps, hv, _⟩ := h
  refine laidW_of ground fun b l hb hne => ?_
  have go : ∀ {x : String × DataW Unit} (_ : x ∈ laidL) {g t : Nat} {m : List AV} (_ : Tryz.prog.globalNamed x.1 = some g) (_ : (Tryz.prog.globals[g]?).map (·.type) = some t) (_ : flatD Tryz.prog 8 t x.2 = some m),
      ∃ c e fz, W.heap[g]? = some (.cells c e fz) ∧ ∃ ρ, DL ρ m c.toList := by
    intro x hx g t m h1 h2 h3
    obtain ⟨c, e, fz, hc, hd⟩ := laid_one hv hx h1 h2 h3 (fun _ => none)
    exact ⟨c, e, fz, hc, _, hd⟩
  rcases b with _ | _ | _ | _ | _ | b
  · exact absurd (Option.some.inj hb).symm hne
  · obtain rfl : gKeys = l := Option.some.inj hb
    exact go (x := ("parallax/lex.keys", Rows.laid_parallax_lex_keys)) (by simp [laidL]) g1_n g1_t g1_d
  · obtain rfl : gSigns = l := Option.some.inj hb
    exact go (x := ("parallax/lex.signs", Rows.laid_parallax_lex_signs)) (by simp [laidL]) g2_n g2_t g2_d
  · obtain rfl : gWords = l := Option.some.inj hb
    exact go (x := ("parallax/code.words", Rows.laid_parallax_code_words)) (by simp [laidL]) g3_n g3_t g3_d
  · obtain rfl : gStack = l := Option.some.inj hb
    exact go (x := ("parallax/code.stack", Rows.laid_parallax_code_stack)) (by simp [laidL]) g4_n g4_t g4_d
  · cases hb
theorem door_met (os : Os) (args : Array Value) : laidMetH Tryz.prog laidL ((World.doorLaid Tryz.prog 400 os).forCall (fun _ _ => 0) ⟨#[], args, []⟩).memory := by
  rw [MakeChecks.laidMetH_plain _ _ _ (by kernel_rfl)]
  exact laidMet_of_run' 8 (by kernel_rfl) (by kernel_rfl)
set_option maxHeartbeats 0 in
theorem progOK_holds : progOK Tryz.prog = true := by kernel_rfl
theorem follows_holds : Tryz.prog.follows .mixedOrders = true := by kernel_rfl
theorem own : ownKnob Tryz.prog.godebug = none := by kernel_rfl
end Go.Proofs.YtlajkdbpmkodpaaGreatDoor
