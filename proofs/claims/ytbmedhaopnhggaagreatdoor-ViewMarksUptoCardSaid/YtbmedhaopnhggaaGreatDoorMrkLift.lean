/-
  ViewMarks: where what is read is of bulk at most 1048576 the law returns true and the input reads as it did; conditions: the listed variables are as the program's text lays them.
-/
import Derived.Test.YtbmedhaopnhggaaGreatDoorMrk
import Derived.Test.YtbmedhaopnhggaaGreatDoorLayB
import Derived.Test.YtbmedhaopnhggaaGreatDoorKnown
import Derived.Test.YtbmedhaopnhggaaGreatDoorTie
import Derived.Test.YtbmedhaopnhggaaGreatDoorCards
import Derived.Deep.DeepWitnessRowRef
namespace Go.Proofs.YtbmedhaopnhggaaGreatDoor
open Go Eng Go.ChangeShapes Go.WideShapes Go.ChangeAt Go.RowKit
namespace ViewMarks
theorem zst : closedT Tryz.prog [24, 22, 74, 71, 87, 72, 157, 180, 155, 3, 9, 2] = true := by kernel_rfl
theorem keys0 : KeysIn (H0 gl 4) := by
 have h0 : gl[0]? = some (keysL.map S) := by kernel_rfl
 refine ⟨by rw [H0, ze6]; decide, layT .lf 0 (keysL.map S), ?_, .lay _⟩
 cases hc : keysL.map S with
 | nil => exact absurd hc (by decide)
 | cons v l =>
  rw [hc] at h0
  simp only [H0, zes, Nat.zero_le, if_true, Nat.sub_zero, h0]
section
variable {w : World} {base : Nat} {spare : Nat → Bool} {held : Bool} {H : Type} {enc : TypeId × Value → H}
theorem one {P : Program} {t0 : TypeId} {args : Array Value} {ds : List (DataW H)} {ps : List MemPlace} (h : DataW.TrodAll enc P w base spare held [t0] args.toList ds ps) :
  ∃ v0 d0 p0, args = #[v0] ∧ ds = [d0] ∧ DataW.Trod enc P w base spare held t0 v0 d0 p0 := by
 obtain ⟨v0, vs0, d0, ds0, p0, q0, hargs, rfl, rfl, h0, hr0⟩ := trodAll_cons h
 obtain ⟨rfl, rfl, rfl⟩ := trodAll_nil hr0
 exact ⟨v0, d0, p0, by cases args; simp_all, rfl, h0⟩
end
set_option maxRecDepth 100000 in
theorem lifted (os : Os) (started : os.Started) (H : Type) (enc : TypeId × Value → H) (F : Stop.Interp) :
  ReturnsInHanded {} Tryz.checked os 4 .any ((Rows.OpenSpec.upto Rows.viewMarksSpec).preRow enc Tryz.prog Tryz.f4 [] false laidL) (((Rows.OpenSpec.upto Rows.viewMarksSpec).at F).post enc Tryz.prog Tryz.f4 false true false false) := by
 refine returnsInHanded_of_row (C := Tryz.checked) (s := Rows.OpenSpec.upto Rows.viewMarksSpec) own started (by kernel_rfl) Tryz.func4
  (witness_row_atRef (enc := enc) (C := Tryz.checked) false (World.doorLaid Tryz.prog 400 os) #[.agg #[.slice none 0 0]] rfl (by kernel_rfl) (by kernel_rfl) (by kernel_rfl)
   (OpenSpec.preRow_of_cond 8 (x := ([.agg [.nil]], [], [])) (by kernel_rfl) (by kernel_rfl) (fun k hk => by cases hk; kernel_rfl) (by kernel_rfl) (door_met os _))) ?_
 intro W base args ds gs before hval0 hW _ hsm hwt hL _ _
 have hval : ∀ (j : Nat) t v, Tryz.f4.params[j]? = some t → args[j]? = some v → Value.okWide Tryz.prog W .any base t v := hval0
 have hW' := hW
 obtain ⟨p, q, hA0, hV, rfl, hfz, hnd⟩ := hW
 have hA : DataW.TrodAll enc Tryz.prog W 0 (fun _ => true) true Tryz.f4.params.toList args.toList ds p := hA0
 rw [Tryz.params4] at hA hval hwt
 have hA2 := hA
 obtain ⟨v0, d0, p0, rfl, rfl, h0⟩ := one hA
 obtain ⟨rfl, rfl⟩ := trodVars_none hV
 clear hA0 hval0
 simp only [List.append_nil] at hW'
 have hok := hval 0 24 v0 rfl rfl
 have hsmall : Rows.uptoSmall H ([d0] ++ []) = true := hsm _ rfl
 have hbulk : Rows.uptoBulk d0 ≤ 1048576 := by
  have h := of_decide_eq_true hsmall
  simp only [List.append_nil, Rows.uptoBulkAll] at h
  omega
 obtain ⟨fuel, h0⟩ := h0
 have hbound : ∀ k ∈ d0.weights Tryz.prog 24, k ≤ rB := by
  intro k hk
  have := List.all_eq_true.1 hwt k (zdg (i := 0) (t := 24) (d := d0) rfl rfl hk)
  have hrb : reachBytes = rB := rfl
  rw [← hrb]
  simpa using this
 obtain ⟨pg, hbk, hlay⟩ := zto pgT h0 hok hbound
 have hLW := laid_W hL
 obtain ⟨ρ', H', u, g1, g2, g3, g4, g5, g6, hpg⟩ := hlay (rho0 W 4) (H0 gl 4) (H0_HR' (Nat.le_refl _) hLW) H0_ro' zr4
 have hrun := marks_ok (Q := fun r _ => r = .bool true) (laid0.keep g5) (keys0.keep g5) hpg (fun x hx => by have := hbk x hx; have hb1 : Rows.uptoBulk (d0, p0).1 ≤ 1048576 := hbulk; omega) (fun _ => rfl)
 have hG : GOK Tryz.prog ρ' := (rho0_G (by rw [zfp]; exact Nat.le_refl _)).mono g4
 refine (contractG zip zhc ground ztc ztn hrun (DL.cons g6 .nil) g1 hG g2 g3 (x := .bool true) (fun _ => rfl)).mono fun e W' ⟨he, hs⟩ => ?_
 subst he
 have e1 : ((Rows.OpenSpec.upto Rows.viewMarksSpec).at F).fn H ([d0] ++ []) = { results := [.lit (.bool true)], args := [d0] } := by
  show Rows.viewMarksSpec.fn H ([d0] ++ []) = _
  simp [Rows.viewMarksSpec]
 refine ⟨_, rfl, _, _, _, [], p, [], hW', ?_, ?_, ?_, World.keptBut_mono (fun _ h => h.elim) hs.keptBut, fun h => by cases h⟩
 ·rw [e1]; exact trodAll_mk1 (shut_bool Tryz.underlying4 true)
 ·rw [e1]
  exact ziq hs.keep zst (by simp) hA2 fun x hx => by simpa using hW'.lt x hx
 ·rw [e1]; rfl
end ViewMarks
end Go.Proofs.YtbmedhaopnhggaaGreatDoor
