/-
  TopWatches: what its card asks of the program, one by one. No conditions.
-/
import Derived.Test.YtlajkdbpmkodpaaGreatDoorRows
import Derived.SevenTiedAt
import Derived.KernelRfl
namespace Go.Proofs.YtlajkdbpmkodpaaGreatDoor
open Go
namespace TopWatches
theorem c1 : Rows.topWatchesRow.wfByText (OpenSpec.ofChange Rows.topWatchesSpec) = true := by kernel_rfl
theorem c2 : Tryz.pinned.checked.prog.mainIs = some (true, "7732cc53159710e8a869dd754c2e83cb7dbc291e8bcb2c6160d514a42584fff9".toList) := by kernel_rfl
theorem c3 : Tryz.prog.funcNamed "parallax/parallaxtop.TopWatches" = some 3 := by kernel_rfl
theorem c4 : true = Tryz.pinned.checked.prog.looks [] := by kernel_rfl
theorem c5 : ([5].all fun u => !Tryz.prog.wantsStandIn u) = true := by kernel_rfl
def stays (fn : Func) : Bool := !fn.goes
set_option maxHeartbeats 0 in
theorem g0 : ((Tryz.pinned.checked.prog.funcs.toList).take 60).all stays = true := by kernel_rfl
set_option maxHeartbeats 0 in
theorem g1 : (((Tryz.pinned.checked.prog.funcs.toList).drop 60).take 60).all stays = true := by kernel_rfl
set_option maxHeartbeats 0 in
theorem g2 : ((((Tryz.pinned.checked.prog.funcs.toList).drop 60).drop 60).take 60).all stays = true := by kernel_rfl
set_option maxHeartbeats 0 in
theorem g3 : (((((Tryz.pinned.checked.prog.funcs.toList).drop 60).drop 60).drop 60).take 60).all stays = true := by kernel_rfl
set_option maxHeartbeats 0 in
theorem g4 : ((((((Tryz.pinned.checked.prog.funcs.toList).drop 60).drop 60).drop 60).drop 60).take 60).all stays = true := by kernel_rfl
set_option maxHeartbeats 0 in
theorem g5 : (((((((Tryz.pinned.checked.prog.funcs.toList).drop 60).drop 60).drop 60).drop 60).drop 60).take 60).all stays = true := by kernel_rfl
set_option maxHeartbeats 0 in
theorem g6 : ((((((((Tryz.pinned.checked.prog.funcs.toList).drop 60).drop 60).drop 60).drop 60).drop 60).drop 60).take 60).all stays = true := by kernel_rfl
set_option maxHeartbeats 0 in
theorem g7 : (((((((((Tryz.pinned.checked.prog.funcs.toList).drop 60).drop 60).drop 60).drop 60).drop 60).drop 60).drop 60).take 60).all stays = true := by kernel_rfl
theorem gEnd : (((((((((Tryz.pinned.checked.prog.funcs.toList).drop 60).drop 60).drop 60).drop 60).drop 60).drop 60).drop 60).drop 60).all stays = true := by kernel_rfl
theorem all_cut {l : List Func} (h1 : (l.take 60).all stays = true) (h2 : (l.drop 60).all stays = true) : l.all stays = true := by
  rw [← List.take_append_drop 60 l, List.all_append, h1, h2]; rfl
theorem none_goes : Tryz.pinned.checked.prog.funcs.toList.all stays = true := all_cut g0 (all_cut g1 (all_cut g2 (all_cut g3 (all_cut g4 (all_cut g5 (all_cut g6 (all_cut g7 (gEnd))))))))
theorem goes_any {P : Program} (hP : P.funcs.toList.all stays = true) (f : FuncId) : P.goes f = false := by
  have h : ∀ fn ∈ P.funcs.toList, fn.goes = false := fun fn hfn => by simpa [stays] using List.all_eq_true.1 hP fn hfn
  unfold Program.goes
  rw [Bool.or_eq_false_iff]
  constructor
  · rw [List.any_eq_false]
    intro g _ hg
    rw [Option.any_eq_true] at hg
    obtain ⟨fn, hfn, hg⟩ := hg
    rw [h fn (Array.mem_toList_iff.2 (Array.mem_of_getElem? hfn))] at hg
    cases hg
  · rw [Bool.and_eq_false_iff]
    right
    rw [← Array.any_toList, List.any_eq_false]
    intro fn hfn hg
    rw [h fn hfn] at hg
    cases hg
theorem goesBy_any {P : Program} (hP : P.funcs.toList.all stays = true) {c : OpenClaim} (hs : c.start = .entering) : false = c.goesBy P := by
  unfold OpenClaim.goesBy Program.goesAt Program.goesFrom
  rw [hs]
  cases P.funcNamed c.func <;> simp [goes_any hP]
theorem c6 : false = Rows.topWatchesRow.goesBy Tryz.pinned.checked.prog := goesBy_any none_goes rfl
end TopWatches
end Go.Proofs.YtlajkdbpmkodpaaGreatDoor
