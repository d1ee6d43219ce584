/-
  CallsNests: for every input the law returns true and the input reads as it did; conditions: the listed variables are as the program's text lays them.
-/
import Derived.Test.YtndhniapohlniaaGreatDoorCalls2
import Derived.Test.YtndhniapohlniaaGreatDoorKnown
import Derived.Test.YtndhniapohlniaaGreatDoorTie
import Derived.Test.YtndhniapohlniaaGreatDoorCards
import Derived.Stop.Joined
namespace Go.Proofs.YtndhniapohlniaaGreatDoor
open Go Go.Proofs.YtndhniapohlniaaGreatDoor.Eng Go.ChangeShapes Go.WideShapes Go.ChangeAt Go.RowKit
namespace CallsNests
theorem kinds : kindsOf Tryz.prog 8 75 = some [.int .i64, .int .i64, .int .i64, .int .i64] := by kernel_rfl
theorem kcells : Tryz.prog.cellsOf 75 = [TypeDesc.int .i64, .int .i64, .int .i64, .int .i64].length := by kernel_rfl
theorem closed_ts : closedT Tryz.prog [22, 75, 3] = true := by kernel_rfl
theorem ticks : ∀ els : List (List AV), (∀ c ∈ els, KA [.int .i64, .int .i64, .int .i64, .int .i64] c) → ∃ ts : List Tk, els = ts.map tkC
  | [], _ => ⟨[], rfl⟩
  | c :: els, h => by
    obtain ⟨ts, rfl⟩ := ticks els fun d hd => h d (by simp [hd])
    have hc := h c (by simp)
    obtain ⟨x, c1, rfl, ⟨a, rfl, _⟩, hc1⟩ := hc.cons
    obtain ⟨y, c2, rfl, ⟨b, rfl, _⟩, hc2⟩ := hc1.cons
    obtain ⟨z, c3, rfl, ⟨e, rfl, _⟩, hc3⟩ := hc2.cons
    obtain ⟨w, c4, rfl, ⟨f, rfl, _⟩, hc4⟩ := hc3.cons
    obtain rfl := hc4.nil
    exact ⟨⟨a, b, e, f⟩ :: ts, rfl⟩
set_option maxRecDepth 100000 in
theorem lifted (os : Os) (started : os.Started) (H : Type) (enc : TypeId × Value → H) :
    ReturnsInHanded {} Tryz.checked os 4 .any (fun w args => (Rows.callsNestsSpec.pre enc Tryz.prog Tryz.f4 [] false w args ∧ laidMetH Tryz.prog laidL w) ∧ sizedMet enc Tryz.prog Tryz.f4 (OpenSpec.ofChange Rows.callsNestsSpec) false w args)
      (Rows.callsNestsSpec.post enc Tryz.prog Tryz.f4 false true false false) := by
  refine returnsInHanded_of_change_and (C := Tryz.checked) (X := fun w _ => laidMetH Tryz.prog laidL w) (fun _ _ _ hh h => h.of_heap hh) own started (by kernel_rfl) Tryz.func4
    (ChangeSpec.witness_shaped (enc := enc) (C := Tryz.checked) (os := os) (X := fun w _ => laidMetH Tryz.prog laidL w) false (World.doorLaid Tryz.prog 400 os) #[.slice none 0 0] 8 rfl (World.shaped_of_RefB (by kernel_rfl) (by kernel_rfl)) (by kernel_rfl) (by kernel_rfl) (by kernel_rfl) (door_met os _)) ?_
  intro W base args ds gs before hval0 hW _ _ hL _
  have hval : ∀ (j : Nat) t v, Tryz.f4.params[j]? = some t → args[j]? = some v → Value.okWide Tryz.prog W .any base t v := hval0
  have hW' := hW
  obtain ⟨p, q, hA0, hV, rfl, hfz, hnd⟩ := hW
  have hA : DataW.TrodAll enc Tryz.prog W 0 (fun _ => true) true Tryz.f4.params.toList args.toList ds p := hA0
  rw [Tryz.params4] at hA hval
  have hA2 := hA
  obtain ⟨v0, d0, rfl, rfl, h0⟩ := trodAll_one hA
  obtain ⟨rfl, rfl⟩ := trodVars_none hV
  clear hA0 hval0
  simp only [List.append_nil] at hW'
  have hok := hval 0 22 v0 rfl rfl
  obtain ⟨fuel, h0⟩ := h0
  rw [slice_cells un_22 hok] at h0
  obtain ⟨els, hk, _, hlay⟩ := lay_slice un_22 kinds kcells h0 hok
  have hLW := laid_W hL
  obtain ⟨ρ', H', u, g1, g2, g3, g4, g5, g6, hsl⟩ := hlay (rho0 W 2) (H0 gl 2) (H0_HR' (Nat.le_refl _) hLW) H0_ro' rho0_frees
  obtain ⟨ts, rfl⟩ := ticks els hk
  rw [List.length_map, ← List.flatMap_def] at hsl
  have hrun := nests_ok (laid0.keep g5) hsl
  have hG : GOK Tryz.prog ρ' := (rho0_G (by rw [globals_size]; exact Nat.le_refl _)).mono g4
  refine (contractG progOK_holds follows_holds ground gl_size known_all hrun (DL.cons g6 .nil) g1 hG g2 g3 (x := .bool true) (fun _ => rfl)).mono fun e W' ⟨he, hs⟩ => ?_
  subst he
  have e1 : Rows.callsNestsSpec.fn H ([d0] ++ []) = { results := [.lit (.bool true)], args := [d0] } := by simp [Rows.callsNestsSpec]
  refine ⟨_, rfl, _, _, _, [], p, [], hW', ?_, ?_, ?_, World.keptBut_mono (fun _ h => h.elim) hs.keptBut, fun h => by cases h⟩
  · rw [e1]; exact trodAll_mk1 (shut_bool Tryz.underlying4 true)
  · rw [e1]
    exact trodAll_same hs.keep closed_ts (by simp) hA2 fun x hx => by simpa using hW'.lt x hx
  · rw [e1]; rfl
end CallsNests
end Go.Proofs.YtndhniapohlniaaGreatDoor
