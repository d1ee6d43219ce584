/-
  ViewTicks: for every input the law returns true and the input reads as it did; conditions: the listed variables are as the program's text lays them.
-/
import Derived.Test.YtalnmaalhocjfaaGreatDoorTicks
import Derived.Test.YtalnmaalhocjfaaGreatDoorKnown
import Derived.Test.YtalnmaalhocjfaaGreatDoorTie
import Derived.Test.YtalnmaalhocjfaaGreatDoorCards
import Derived.Stop.Joined
namespace Go.Proofs.YtalnmaalhocjfaaGreatDoor
open Go Go.Proofs.YtalnmaalhocjfaaGreatDoor.Eng Go.ChangeShapes Go.WideShapes Go.ChangeAt Go.RowKit
namespace ViewTicks
theorem tickS : structAs Tryz.prog 59 [(3, 0, 1), (3, 1, 1), (3, 2, 1), (3, 3, 1)] 4 = true := by kernel_rfl
theorem tickI : Tryz.prog.underlying 3 = some (.int .i64) := by kernel_rfl
theorem closed_ts : closedT Tryz.prog [24, 22, 85, 82, 98, 83, 166, 193, 164, 59, 3, 9, 2] = true := by kernel_rfl
section
variable {w : World} {base : Nat} {spare : Nat → Bool} {held : Bool} {H : Type} {enc : TypeId × Value → H}
theorem two {P : Program} {t0 t1 : TypeId} {args : Array Value} {ds : List (DataW H)} {ps : List MemPlace} (h : DataW.TrodAll enc P w base spare held [t0, t1] args.toList ds ps) :
    ∃ v0 v1 d0 d1 p0 p1, args = #[v0, v1] ∧ ds = [d0, d1] ∧ DataW.Trod enc P w base spare held t0 v0 d0 p0 ∧ DataW.Trod enc P w base spare held t1 v1 d1 p1 := by
  obtain ⟨v0, vs0, d0, ds0, p0, q0, hargs, rfl, rfl, h0, hr0⟩ := trodAll_cons h
  obtain ⟨v1, vs1, d1, ds1, p1, q1, rfl, rfl, rfl, h1, hr1⟩ := trodAll_cons hr0
  obtain ⟨rfl, rfl, rfl⟩ := trodAll_nil hr1
  exact ⟨v0, v1, d0, d1, p0, p1, by cases args; simp_all, rfl, h0, h1⟩
theorem tick_of {P : Program} {t ti : TypeId} (hS : structAs P t [(ti, 0, 1), (ti, 1, 1), (ti, 2, 1), (ti, 3, 1)] 4 = true) (hI : P.underlying ti = some (.int .i64)) {fuel b : Nat} {v : Value} {x : DataW H × List MemPlace} (h : DataW.trod enc P w base spare held fuel t v.cells.toList = some x) (hok : Value.okWide P w .any b t v) :
    ∃ kd pr mk dp, ok64 mk ∧ ok64 dp ∧ v = .agg #[.int .i64 kd, .int .i64 pr, .int .i64 mk, .int .i64 dp] := by
  obtain ⟨cs, rfl⟩ := agg_of hS hok
  obtain ⟨xs, m, rfl, hlen, hxl, hel⟩ := trod_structAs hS h
  obtain ⟨cs⟩ := cs
  match cs, hlen, xs, hxl with
  | [c0, c1, c2, c3], _, [x0, x1, x2, x3], _ =>
    obtain ⟨f0, _⟩ := hel 0 _ _ _ rfl
    obtain ⟨f1, _⟩ := hel 1 _ _ _ rfl
    obtain ⟨f2, _⟩ := hel 2 _ _ _ rfl
    obtain ⟨f3, _⟩ := hel 3 _ _ _ rfl
    obtain ⟨a, _, rfl⟩ := trod_i64 hI (show DataW.trod enc P w base spare held m ti [c0] = some x0 from f0)
    obtain ⟨b, _, rfl⟩ := trod_i64 hI (show DataW.trod enc P w base spare held m ti [c1] = some x1 from f1)
    obtain ⟨c, hc, rfl⟩ := trod_i64 hI (show DataW.trod enc P w base spare held m ti [c2] = some x2 from f2)
    obtain ⟨d, hd, rfl⟩ := trod_i64 hI (show DataW.trod enc P w base spare held m ti [c3] = some x3 from f3)
    exact ⟨a, b, c, d, hc, hd, rfl⟩
end
set_option maxRecDepth 100000 in
theorem lifted (os : Os) (started : os.Started) (H : Type) (enc : TypeId × Value → H) :
    ReturnsInHanded {} Tryz.checked os 6 .any (fun w args => (Rows.viewTicksSpec.pre enc Tryz.prog Tryz.f6 [] false w args ∧ laidMetH Tryz.prog laidL w) ∧ sizedMet enc Tryz.prog Tryz.f6 (OpenSpec.ofChange Rows.viewTicksSpec) false w args)
      (Rows.viewTicksSpec.post enc Tryz.prog Tryz.f6 false true false false) := by
  refine returnsInHanded_of_change_and (C := Tryz.checked) (X := fun w _ => laidMetH Tryz.prog laidL w) (fun _ _ _ hh h => h.of_heap hh) own started (by kernel_rfl) Tryz.func6
    (ChangeSpec.witness_shaped (enc := enc) (C := Tryz.checked) (os := os) (X := fun w _ => laidMetH Tryz.prog laidL w) false (World.doorLaid Tryz.prog 400 os) #[.agg #[.slice none 0 0], .agg #[.int .i64 0, .int .i64 0, .int .i64 0, .int .i64 0]] 8 rfl (World.shaped_of_RefB (by kernel_rfl) (by kernel_rfl)) (by kernel_rfl) (by kernel_rfl) (by kernel_rfl) (door_met os _)) ?_
  intro W base args ds gs before hval0 hW _ hwt hL _
  have hval : ∀ (j : Nat) t v, Tryz.f6.params[j]? = some t → args[j]? = some v → Value.okWide Tryz.prog W .any base t v := hval0
  have hW' := hW
  obtain ⟨p, q, hA0, hV, rfl, hfz, hnd⟩ := hW
  have hA : DataW.TrodAll enc Tryz.prog W 0 (fun _ => true) true Tryz.f6.params.toList args.toList ds p := hA0
  rw [Tryz.params6] at hA hval hwt
  have hA2 := hA
  obtain ⟨v0, v1, d0, d1, p0, p1, rfl, rfl, h0, h1⟩ := two hA
  obtain ⟨rfl, rfl⟩ := trodVars_none hV
  clear hA0 hval0
  simp only [List.append_nil] at hW'
  have hok := hval 0 24 v0 rfl rfl
  obtain ⟨f1, h1⟩ := h1
  obtain ⟨kd, pr, mk, dp, hm, hd, rfl⟩ := tick_of tickS tickI h1 (hval 1 59 v1 rfl rfl)
  obtain ⟨fuel, h0⟩ := h0
  have hbound : ∀ k ∈ d0.weights Tryz.prog 24, k ≤ rB := by
    intro k hk
    have := List.all_eq_true.1 hwt k (mem_weightsEach (i := 0) (t := 24) (d := d0) rfl rfl hk)
    have hrb : reachBytes = rB := rfl
    rw [← hrb]
    simpa using this
  obtain ⟨pg, hlay⟩ := lay_prog pgT h0 hok hbound
  have hLW := laid_W hL
  obtain ⟨ρ', H', u, g1, g2, g3, g4, g5, g6, hpg⟩ := hlay (rho0 W 4) (H0 gl 4) (H0_HR' (Nat.le_refl _) hLW) H0_ro' rho0_frees
  have hrun := ticks_ok (kd := kd) (pr := pr) (laid0.keep g5) hpg hm hd
  have hG : GOK Tryz.prog ρ' := (rho0_G (by rw [globals_size]; exact Nat.le_refl _)).mono g4
  refine (contractG progOK_holds follows_holds ground gl_size known_all hrun (DL.cons g6 (DL.cons rfl .nil)) g1 hG g2 g3 (x := .bool true) (fun _ => rfl)).mono fun e W' ⟨he, hs⟩ => ?_
  subst he
  have e1 : Rows.viewTicksSpec.fn H ([d0, d1] ++ []) = { results := [.lit (.bool true)], args := [d0, d1] } := by simp [Rows.viewTicksSpec]
  refine ⟨_, rfl, _, _, _, [], p, [], hW', ?_, ?_, ?_, World.keptBut_mono (fun _ h => h.elim) hs.keptBut, fun h => by cases h⟩
  · rw [e1]; exact trodAll_mk1 (shut_bool Tryz.underlying4 true)
  · rw [e1]
    exact trodAll_same hs.keep closed_ts (by simp) hA2 fun x hx => by simpa using hW'.lt x hx
  · rw [e1]; rfl
end ViewTicks
end Go.Proofs.YtalnmaalhocjfaaGreatDoor
