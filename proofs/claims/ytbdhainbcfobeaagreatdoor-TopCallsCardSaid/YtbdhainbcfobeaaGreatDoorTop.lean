/-
  TopCalls: for every n the law returns true and n reads as it did; conditions: the listed variables are as the program's text lays them (tied by the card).
-/
import Derived.Test.YtbdhainbcfobeaaGreatDoorRun0
import Derived.Test.YtbdhainbcfobeaaGreatDoorRun1
import Derived.Test.YtbdhainbcfobeaaGreatDoorRun2
import Derived.Test.YtbdhainbcfobeaaGreatDoorRun3
import Derived.Test.YtbdhainbcfobeaaGreatDoorRun4
import Derived.Test.YtbdhainbcfobeaaGreatDoorRun5
import Derived.Test.YtbdhainbcfobeaaGreatDoorRun6
import Derived.Test.YtbdhainbcfobeaaGreatDoorTie
import Derived.Test.YtbdhainbcfobeaaGreatDoorCards
import Derived.Stop.Joined
namespace Go.Proofs.YtbdhainbcfobeaaGreatDoor
open Go Go.Proofs.YtbdhainbcfobeaaGreatDoor.Eng Go.ChangeShapes Go.WideShapes Go.ChangeAt Go.RowKit
theorem run_any (r : Nat) (hr : r < 7) : restK Tryz.prog 100000 rest Tryz.f3.results.toList (slots r) (H0 gl 4).bl (H0 gl 4).nx = .yes := by
  have e : (H0 gl 4).nx = 4 := laidG_nx _ _ _
  rw [e]
  match r, hr with
  | 0, _ => exact run0
  | 1, _ => exact run1
  | 2, _ => exact run2
  | 3, _ => exact run3
  | 4, _ => exact run4
  | 5, _ => exact run5
  | 6, _ => exact run6
theorem engine_run (m : Nat) : ∃ H', callF Tryz.prog (100000 + 2) 3 [.int .u8 (.ofNat m)] (H0 gl 4) = .ret (.bool true) H' :=
  restK_ok Tryz.func3 body3_eq (fun cf ih => pre_run m cf ih _) (fun t v h => pre_slots m (m % 7) t v h) (run_any (m % 7) (Nat.mod_lt _ (by decide)))
theorem law (m : Nat) {W : World} (hL : laidMetH Tryz.prog laid4 W) : Calls Tryz.prog 3 #[.int .u8 (.ofNat m)] W fun e W' => e = .returned (.bool true) ∧ W.keptBut W' (fun _ => False) := by
  obtain ⟨H', h⟩ := engine_run m
  exact contract_of_run progOK_holds follows_holds h (DL.cons rfl .nil) (laid_HR hL) (rho0_G (by rw [globals_size]; exact Nat.le_refl 4)) (fun b hb => rho0_new hb) (fun b B hB => H0_ro hB) (fun ρ' => rfl)
set_option maxRecDepth 100000 in
theorem lifted (os : Os) (started : os.Started) (H : Type) (enc : TypeId × Value → H) :
    ReturnsInHanded {} Tryz.checked os 3 .any (fun w args => (Rows.topCallsSpec.pre enc Tryz.prog Tryz.f3 [] false w args ∧ laidMetH Tryz.prog laid4 w) ∧ sizedMet enc Tryz.prog Tryz.f3 (OpenSpec.ofChange Rows.topCallsSpec) false w args)
      (Rows.topCallsSpec.post enc Tryz.prog Tryz.f3 false true false false) := by
  refine returnsInHanded_of_change_and (C := Tryz.checked) (X := fun w _ => laidMetH Tryz.prog laid4 w) (fun _ _ _ hh h => h.of_heap hh) own started (by kernel_rfl) Tryz.func3
    (ChangeSpec.witness_shaped (enc := enc) (C := Tryz.checked) (os := os) (X := fun w _ => laidMetH Tryz.prog laid4 w) false (World.doorLaid Tryz.prog 400 os) #[.int .u8 0] 8 rfl (World.shaped_of_RefB (by kernel_rfl) (by kernel_rfl)) (by kernel_rfl) (by kernel_rfl) (by kernel_rfl) (door_met os _)) ?_
  intro W base args ds gs before hval0 hW _ _ hL _
  have hval : ∀ (j : Nat) t v, Tryz.f3.params[j]? = some t → args[j]? = some v → Value.okWide Tryz.prog W .any base t v := hval0
  have hW' := hW
  obtain ⟨p, q, hA0, hV, rfl, hfz, hnd⟩ := hW
  have hA : DataW.TrodAll enc Tryz.prog W 0 (fun _ => true) true Tryz.f3.params.toList args.toList ds p := hA0
  rw [Tryz.params3] at hA hval
  obtain ⟨v0, d0, rfl, rfl, h0⟩ := trodAll_one hA
  obtain ⟨rfl, rfl⟩ := trodVars_none hV
  obtain ⟨n, rfl, rfl, rfl, hwn⟩ := open_int Tryz.underlying5 (hval 0 5 v0 rfl rfl) h0
  have hn : 0 ≤ n := by
    simp only [Lit.wf, Bool.and_eq_true, decide_eq_true_eq] at hwn
    exact hwn.1
  obtain ⟨m, rfl⟩ : ∃ m : Nat, n = .ofNat m := ⟨n.toNat, by rw [Int.ofNat_eq_natCast, Int.toNat_of_nonneg hn]⟩
  clear hA0 hval0
  refine (law m hL).mono fun e W' ⟨he, hk⟩ => ?_
  subst he
  have e1 : Rows.topCallsSpec.fn H ([.lit (.int .u8 (.ofNat m))] ++ []) = { results := [.lit (.bool true)], args := [.lit (.int .u8 (.ofNat m))] } := by simp [Rows.topCallsSpec]
  refine ⟨_, rfl, _, _, _, [], [], [], hW', ?_, ?_, ?_, World.keptBut_mono (fun _ h => h.elim) hk, fun h => by cases h⟩
  · rw [e1]; exact trodAll_mk1 (shut_bool Tryz.underlying4 true)
  · rw [e1]; exact trodAll_mk1 (shut_int Tryz.underlying5 hwn)
  · rw [e1]; rfl
theorem topCalls_said : Rows.TopCallsSaid :=
  OpenClaim.holds_of_wide 3 Tryz.f3 rfl rfl rfl rfl rfl rfl rfl ⟨rfl, rfl, rfl, rfl, rfl⟩ rfl rfl rfl rfl rfl (by kernel_rfl) Tryz.func3 (by kernel_rfl)
    (of_decide_eq_true (by kernel_rfl)) (by unfold Func.isWrapper; rw [if_neg (of_decide_eq_false (by kernel_rfl))]; exact ⟨rfl, rfl⟩)
    (fun os started H enc _ => lifted os started H enc)
theorem topCalls_holds : Rows.TopCallsCardSaid :=
  Claim7.holds_tied_plain_at .later [] [.data, .data, .data, .data] true (true, "89a6d9d39df84f8c952f5d13481ba94153f909e2e14a9b87344288b2d3078ebd") true
    topCalls_said (fun _ h => by cases h) (by kernel_rfl) (fun _ h => by cases h) topCalls_row_tie rfl ⟨rfl, rfl⟩ (by kernel_rfl) rfl
    (fun f fn hf hfn => by
      obtain rfl : f = 3 := Option.some.inj ((show Tryz.prog.funcNamed "parallax/parallaxtop.TopCalls" = some 3 by kernel_rfl).symm.trans hf) |>.symm
      obtain rfl : fn = Tryz.f3 := (Option.some.inj (Tryz.func3.symm.trans hfn)).symm
      exact ⟨by kernel_rfl, fun j t ht => by
        rw [Tryz.params3] at ht
        have hm : t ∈ [5] := by simpa using Array.mem_of_getElem? ht
        have hall : ([5].all fun u => !Tryz.prog.wantsStandIn u) = true := by kernel_rfl
        exact (show Tryz.prog.wantsStandIn t = false by simpa using List.all_eq_true.1 hall t hm)⟩)
    (by kernel_rfl)
#print axioms topCalls_holds
end Go.Proofs.YtbdhainbcfobeaaGreatDoor
