/-
  TopWatches: for every input the law returns true and the input reads as it did; conditions: the listed variables are as the program's text lays them (tied by the card).
-/
import Derived.Test.YtlajkdbpmkodpaaGreatDoorTopWatchesIx
import Derived.Test.YtlajkdbpmkodpaaGreatDoorTopWatchesRun0
import Derived.Test.YtlajkdbpmkodpaaGreatDoorTopWatchesRun1
import Derived.Test.YtlajkdbpmkodpaaGreatDoorTopWatchesRun2
import Derived.Test.YtlajkdbpmkodpaaGreatDoorTopWatchesRun3
import Derived.Test.YtlajkdbpmkodpaaGreatDoorTopWatchesRun4
import Derived.Test.YtlajkdbpmkodpaaGreatDoorTopWatchesRun5
import Derived.Test.YtlajkdbpmkodpaaGreatDoorTopWatchesRun6
import Derived.Test.YtlajkdbpmkodpaaGreatDoorTopWatchesRun7
import Derived.Test.YtlajkdbpmkodpaaGreatDoorTopWatchesRun8
import Derived.Test.YtlajkdbpmkodpaaGreatDoorTopWatchesRun9
import Derived.Test.YtlajkdbpmkodpaaGreatDoorTopWatchesRun10
import Derived.Test.YtlajkdbpmkodpaaGreatDoorTopWatchesRun11
import Derived.Test.YtlajkdbpmkodpaaGreatDoorTopWatchesRun12
import Derived.Test.YtlajkdbpmkodpaaGreatDoorTopWatchesRun13
import Derived.Test.YtlajkdbpmkodpaaGreatDoorTopWatchesRun14
import Derived.Test.YtlajkdbpmkodpaaGreatDoorTopWatchesRun15
import Derived.Test.YtlajkdbpmkodpaaGreatDoorTopWatchesRun16
import Derived.Test.YtlajkdbpmkodpaaGreatDoorTopWatchesRun17
import Derived.Test.YtlajkdbpmkodpaaGreatDoorTopWatchesRun18
import Derived.Test.YtlajkdbpmkodpaaGreatDoorTopWatchesRun19
import Derived.Test.YtlajkdbpmkodpaaGreatDoorTopWatchesRun20
import Derived.Test.YtlajkdbpmkodpaaGreatDoorTopWatchesRun21
import Derived.Test.YtlajkdbpmkodpaaGreatDoorTopWatchesRun22
import Derived.Test.YtlajkdbpmkodpaaGreatDoorTopWatchesRun23
import Derived.Test.YtlajkdbpmkodpaaGreatDoorTopWatchesRun24
import Derived.Test.YtlajkdbpmkodpaaGreatDoorTie
import Derived.Test.YtlajkdbpmkodpaaGreatDoorCards
import Derived.Stop.Joined
namespace Go.Proofs.YtlajkdbpmkodpaaGreatDoor
open Go Go.Proofs.YtlajkdbpmkodpaaGreatDoor.Eng Go.ChangeShapes Go.WideShapes Go.ChangeAt Go.RowKit
namespace TopWatches
theorem run_any (r : Nat) (hr : r < 25) : restI Tryz.prog pt 233 [8] gl 100000 plans rest Tryz.f3.results.toList (slots r) (H0 gl 5).bl (H0 gl 5).nx = .yes := by
  have e : (H0 gl 5).nx = 5 := laidG_nx _ _ _
  rw [e]
  match r, hr with
  | 0, _ => exact run0
  | 1, _ => exact run1
  | 2, _ => exact run2
  | 3, _ => exact run3
  | 4, _ => exact run4
  | 5, _ => exact run5
  | 6, _ => exact run6
  | 7, _ => exact run7
  | 8, _ => exact run8
  | 9, _ => exact run9
  | 10, _ => exact run10
  | 11, _ => exact run11
  | 12, _ => exact run12
  | 13, _ => exact run13
  | 14, _ => exact run14
  | 15, _ => exact run15
  | 16, _ => exact run16
  | 17, _ => exact run17
  | 18, _ => exact run18
  | 19, _ => exact run19
  | 20, _ => exact run20
  | 21, _ => exact run21
  | 22, _ => exact run22
  | 23, _ => exact run23
  | 24, _ => exact run24
  | n + 25, h => exact absurd h (by omega)
theorem engine_run (m : Nat) : ∃ H', callFI Tryz.prog 233 [8] gl (100000 + 2) 3 [.int .u8 (.ofNat m)] (H0 gl 5) = .ret (.bool true) H' :=
  restI_ok ptOK Tryz.func3 body_eq (fun cf ih => pre_run m cf ih _) (fun t v h => pre_slots m (m % 25) t v h) plans_rest (fun _ => rfl) (run_any (m % 25) (Nat.mod_lt _ (by decide)))
theorem law (m0 : Nat)  {W : World} (hL : laidMetH Tryz.prog laidL W) : Calls Tryz.prog 3 #[.int .u8 (.ofNat m0)] W fun e W' => e = .returned (.bool true) ∧ W.keptBut W' (fun _ => False) := by
  obtain ⟨H', h⟩ := engine_run m0
  exact (contractI progOK_holds follows_holds ground gl_size known_all ix_ok (by rw [globals_size]; exact Nat.le_refl 5) h (fun _ => (DL.cons rfl .nil)) (laid_W hL) (fun _ => rfl)).mono fun e W' hh => ⟨hh.1, hh.2.keptBut⟩
set_option maxRecDepth 100000 in
theorem lifted (os : Os) (started : os.Started) (H : Type) (enc : TypeId × Value → H) :
    ReturnsInHanded {} Tryz.checked os 3 .any (fun w args => (Rows.topWatchesSpec.pre enc Tryz.prog Tryz.f3 [] false w args ∧ laidMetH Tryz.prog laidL w) ∧ sizedMet enc Tryz.prog Tryz.f3 (OpenSpec.ofChange Rows.topWatchesSpec) false w args)
      (Rows.topWatchesSpec.post enc Tryz.prog Tryz.f3 false true false false) := by
  refine returnsInHanded_of_change_and (C := Tryz.checked) (X := fun w _ => laidMetH Tryz.prog laidL w) (fun _ _ _ hh h => h.of_heap hh) own started (by kernel_rfl) Tryz.func3
    (ChangeSpec.witness_shaped (enc := enc) (C := Tryz.checked) (os := os) (X := fun w _ => laidMetH Tryz.prog laidL w) false (World.doorLaid Tryz.prog 400 os) #[.int .u8 0] 8 rfl (World.shaped_of_RefB (by kernel_rfl) (by kernel_rfl)) (by kernel_rfl) (by kernel_rfl) (by kernel_rfl) (door_met os _)) ?_
  intro W base args ds gs before hval0 hW _ _ hL _
  have hval : ∀ (j : Nat) t v, Tryz.f3.params[j]? = some t → args[j]? = some v → Value.okWide Tryz.prog W .any base t v := hval0
  have hW' := hW
  obtain ⟨p, q, hA0, hV, rfl, hfz, hnd⟩ := hW
  have hA : DataW.TrodAll enc Tryz.prog W 0 (fun _ => true) true Tryz.f3.params.toList args.toList ds p := hA0
  rw [Tryz.params3] at hA hval
  obtain ⟨v0, d0, rfl, rfl, h0⟩ := trodAll_one hA
  obtain ⟨rfl, rfl⟩ := trodVars_none hV
  obtain ⟨n0, rfl, rfl, rfl, wf0⟩ := open_int Tryz.underlying5 (hval 0 5 v0 rfl rfl) h0
  have hn0 : 0 ≤ n0 := by
    simp only [Lit.wf, Bool.and_eq_true, decide_eq_true_eq] at wf0
    exact wf0.1
  obtain ⟨m0, rfl⟩ : ∃ m : Nat, n0 = .ofNat m := ⟨n0.toNat, by rw [Int.ofNat_eq_natCast, Int.toNat_of_nonneg hn0]⟩
  clear hA0 hval0
  simp only [List.append_nil] at hW'
  refine (law m0  hL).mono fun e W' ⟨he, hk⟩ => ?_
  subst he
  have e1 : Rows.topWatchesSpec.fn H ([.lit (.int .u8 (.ofNat m0))] ++ []) = { results := [.lit (.bool true)], args := [.lit (.int .u8 (.ofNat m0))] } := by simp [Rows.topWatchesSpec]
  refine ⟨_, rfl, _, _, _, [], [], [], hW', ?_, ?_, ?_, World.keptBut_mono (fun _ h => h.elim) hk, fun h => by cases h⟩
  · rw [e1]; exact trodAll_mk1 (shut_bool Tryz.underlying4 true)
  · rw [e1]; exact trodAll_mk1 (shut_int Tryz.underlying5 wf0)
  · rw [e1]; rfl
end TopWatches
end Go.Proofs.YtlajkdbpmkodpaaGreatDoor
