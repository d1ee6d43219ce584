/-
  Whether a program is more than the statements of view look at (parallaxlaw17.great), walked.
-/
import Derived.Test.YtbmedhaopnhggaaGreatDoorSize
namespace Go.Proofs.YtbmedhaopnhggaaGreatDoor
open Go Eng Tryz
theorem pl_24 : plcOf prog 24 0 = some ⟨0, true, 1⟩ := by kernel_rfl
instance ipl_24 : PlF prog 24 ⟨0, true, 1⟩ := ⟨pl_24⟩
def v5t1 : CV := Jt [Jf 3 24 1, Jc 4 (.call ⟨.value (.func 13), #[(Ja 3), (Jb 500)], #[24, 3]⟩), Jc 5 (.binOp .gtr 3 (Ja 4) (Jb 500) 3), Jh 2 5] (.ret)
def v5 : CV := Jt [Jc 1 (.box 24 (Ja 0)), Jc 2 (.assign (.const (.bool false)))] v5t1
noncomputable def b5 : Code := f5.body.getD .skip
theorem b5_eq : f5.body = some b5 := by kernel_rfl
theorem v5_eq : viewC prog b5 = some v5 := by kernel_rfl
theorem r5_eq : f5.results.toList = [.tmp 2] := by kernel_rfl
section
variable {tb : List FuncId} {gl : List (List AV)} {A : Nat → Prop} {H : Heap} {u v w : AV} {b : Nat} {Q : AV → Heap → Prop}
set_option maxHeartbeats 0 in
theorem great_ok {p : List Prc} (hp : IsPg A H v p) (hQ : ∀ g H', Keep Non H H' → (g = false → sizPs p ≤ 500) → Q (.bool g) H') : WpF prog tb gl 5 [v] H Q := by
 have hc : v.cells.length = 1 ∧ v = .agg v.cells := by
  obtain ⟨_, u, rfl, _⟩ := hp
  exact ⟨rfl, rfl⟩
 refine fa func5 b5_eq v5_eq r5_eq (.inr (by simp)) ?_
 refine zac ?_
 refine zaa (zcd rfl fun H1 hk1 hr1 => ?_)
 refine zae rfl ?_
 refine zab (zac ?_)
 refine zaa (zaq (k := 1) PlF.h hc.1 (by decide) rfl hr1.pts ?_)
 rw [← hc.2]
 refine zaa (zaj rfl rfl rfl (Size_ok (hp.keep hk1) fun n H2 hk2 hC => ?_))
 unfold Cut at hC
 by_cases h : 500 < n
 ·refine zaa (zh7 rfl rfl (decide_eq_true h) ?_)
  refine zae rfl ?_
  exact zab (zao ⟨_, rfl, hQ true _ (hk1.trans0 hk2) (fun h => by cases h)⟩)
 ·refine zaa (zh7 rfl rfl (decide_eq_false h) ?_)
  refine zae rfl ?_
  exact zab (zao ⟨_, rfl, hQ false _ (hk1.trans0 hk2) (fun _ => by omega)⟩)
end
end Go.Proofs.YtbmedhaopnhggaaGreatDoor
