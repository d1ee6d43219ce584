/-
  CallsMatches: for every input the law returns true and the input reads as it did; conditions: the listed variables are as the program's text lays them.
-/
import Derived.Test.YtndhniapohlniaaGreatDoorMat6
import Derived.Test.YtndhniapohlniaaGreatDoorKnown
import Derived.Test.YtndhniapohlniaaGreatDoorTie
import Derived.Test.YtndhniapohlniaaGreatDoorCards
import Derived.Stop.Joined
namespace Go.Proofs.YtndhniapohlniaaGreatDoor
open Go Go.Proofs.YtndhniapohlniaaGreatDoor.Eng Go.ChangeShapes Go.WideShapes Go.ChangeAt Go.RowKit
theorem tick_kinds : kindsOf Tryz.prog 8 75 = some [.int .i64, .int .i64, .int .i64, .int .i64] := by kernel_rfl
theorem tick_cells : Tryz.prog.cellsOf 75 = [TypeDesc.int .i64, .int .i64, .int .i64, .int .i64].length := by kernel_rfl
theorem pair_kinds : kindsOf Tryz.prog 8 45 = some [.int .i64, .int .i64] := by kernel_rfl
theorem pair_cells : Tryz.prog.cellsOf 45 = [TypeDesc.int .i64, .int .i64].length := by kernel_rfl
theorem match_closed : closedT Tryz.prog [22, 75, 23, 45, 3] = true := by kernel_rfl
theorem ticks_of : ∀ els : List (List AV), (∀ c ∈ els, KA [.int .i64, .int .i64, .int .i64, .int .i64] c) → ∃ ts : List Tk, els = ts.map tkC
  | [], _ => ⟨[], rfl⟩
  | c :: els, h => by
    obtain ⟨ts, rfl⟩ := ticks_of els fun d hd => h d (by simp [hd])
    have hc := h c (by simp)
    obtain ⟨x, c1, rfl, ⟨a, rfl, _⟩, hc1⟩ := hc.cons
    obtain ⟨y, c2, rfl, ⟨b, rfl, _⟩, hc2⟩ := hc1.cons
    obtain ⟨z, c3, rfl, ⟨e, rfl, _⟩, hc3⟩ := hc2.cons
    obtain ⟨w, c4, rfl, ⟨f, rfl, _⟩, hc4⟩ := hc3.cons
    obtain rfl := hc4.nil
    exact ⟨⟨a, b, e, f⟩ :: ts, rfl⟩
theorem pairs_of : ∀ els : List (List AV), (∀ c ∈ els, KA [.int .i64, .int .i64] c) → ∃ ts : List (Int × Int), els = ts.map prC
  | [], _ => ⟨[], rfl⟩
  | c :: els, h => by
    obtain ⟨ts, rfl⟩ := pairs_of els fun d hd => h d (by simp [hd])
    have hc := h c (by simp)
    obtain ⟨x, c1, rfl, ⟨a, rfl, _⟩, hc1⟩ := hc.cons
    obtain ⟨y, c2, rfl, ⟨b, rfl, _⟩, hc2⟩ := hc1.cons
    obtain rfl := hc2.nil
    exact ⟨(a, b) :: ts, rfl⟩
theorem i64_bounds {n : Int} (h : (Lit.int .i64 n).wf = true) : -9223372036854775808 ≤ n ∧ n < 9223372036854775808 := by
  simp [Lit.wf, IntKind.min, IntKind.max, IntKind.signed, IntKind.bits] at h
  omega
section
variable {P : Program} {w : World} {base : Nat} {spare : Nat → Bool} {held : Bool} {H : Type} {enc : TypeId × Value → H}
theorem four {t0 t1 t2 t3 : TypeId} {args : Array Value} {ds : List (DataW H)} {ps : List MemPlace} (h : DataW.TrodAll enc P w base spare held [t0, t1, t2, t3] args.toList ds ps) :
    ∃ v0 v1 v2 v3 d0 d1 d2 d3 p0 p1 p2 p3, args = #[v0, v1, v2, v3] ∧ ds = [d0, d1, d2, d3] ∧ DataW.Trod enc P w base spare held t0 v0 d0 p0 ∧ DataW.Trod enc P w base spare held t1 v1 d1 p1 ∧ DataW.Trod enc P w base spare held t2 v2 d2 p2 ∧ DataW.Trod enc P w base spare held t3 v3 d3 p3 := by
  obtain ⟨v0, vs0, d0, ds0, p0, q0, hargs, rfl, rfl, h0, hr0⟩ := trodAll_cons h
  obtain ⟨v1, vs1, d1, ds1, p1, q1, rfl, rfl, rfl, h1, hr1⟩ := trodAll_cons hr0
  obtain ⟨v2, vs2, d2, ds2, p2, q2, rfl, rfl, rfl, h2, hr2⟩ := trodAll_cons hr1
  obtain ⟨v3, vs3, d3, ds3, p3, q3, rfl, rfl, rfl, h3, hr3⟩ := trodAll_cons hr2
  obtain ⟨rfl, rfl, rfl⟩ := trodAll_nil hr3
  exact ⟨v0, v1, v2, v3, d0, d1, d2, d3, p0, p1, p2, p3, by cases args; simp_all, rfl, h0, h1, h2, h3⟩
end
namespace CallsMatches
set_option maxRecDepth 100000 in
theorem lifted (os : Os) (started : os.Started) (H : Type) (enc : TypeId × Value → H) :
    ReturnsInHanded {} Tryz.checked os 3 .any (fun w args => (Rows.callsMatchesSpec.pre enc Tryz.prog Tryz.f3 [] false w args ∧ laidMetH Tryz.prog laidL w) ∧ sizedMet enc Tryz.prog Tryz.f3 (OpenSpec.ofChange Rows.callsMatchesSpec) false w args)
      (Rows.callsMatchesSpec.post enc Tryz.prog Tryz.f3 false true false false) := by
  refine returnsInHanded_of_change_and (C := Tryz.checked) (X := fun w _ => laidMetH Tryz.prog laidL w) (fun _ _ _ hh h => h.of_heap hh) own started (by kernel_rfl) Tryz.func3
    (ChangeSpec.witness_shaped (enc := enc) (C := Tryz.checked) (os := os) (X := fun w _ => laidMetH Tryz.prog laidL w) false (World.doorLaid Tryz.prog 400 os) #[.slice none 0 0, .slice none 0 0, .slice none 0 0, .int .i64 0] 8 rfl (World.shaped_of_RefB (by kernel_rfl) (by kernel_rfl)) (by kernel_rfl) (by kernel_rfl) (by kernel_rfl) (door_met os _)) ?_
  intro W base args ds gs before hval0 hW _ _ hL _
  have hval : ∀ (j : Nat) t v, Tryz.f3.params[j]? = some t → args[j]? = some v → Value.okWide Tryz.prog W .any base t v := hval0
  have hW' := hW
  obtain ⟨p, q, hA0, hV, rfl, hfz, hnd⟩ := hW
  have hA : DataW.TrodAll enc Tryz.prog W 0 (fun _ => true) true Tryz.f3.params.toList args.toList ds p := hA0
  rw [Tryz.params3] at hA hval
  have hA2 := hA
  obtain ⟨v0, v1, v2, v3, d0, d1, d2, d3, p0, p1, p2, p3, rfl, rfl, h0, h1, h2, h3⟩ := four hA
  obtain ⟨rfl, rfl⟩ := trodVars_none hV
  clear hA0 hval0
  simp only [List.append_nil] at hW'
  have hok0 := hval 0 22 v0 rfl rfl
  have hok1 := hval 1 22 v1 rfl rfl
  have hok2 := hval 2 23 v2 rfl rfl
  obtain ⟨a, rfl, rfl, rfl, wfa⟩ := open_int UnF.h (hval 3 3 v3 rfl rfl) h3
  obtain ⟨fuel0, h0⟩ := h0
  obtain ⟨fuel1, h1⟩ := h1
  obtain ⟨fuel2, h2⟩ := h2
  rw [slice_cells un_22 hok0] at h0
  rw [slice_cells un_22 hok1] at h1
  rw [slice_cells un_23 hok2] at h2
  obtain ⟨els0, hk0, _, hlay0⟩ := lay_slice un_22 tick_kinds tick_cells h0 hok0
  obtain ⟨els1, hk1, _, hlay1⟩ := lay_slice un_22 tick_kinds tick_cells h1 hok1
  obtain ⟨els2, hk2, _, hlay2⟩ := lay_slice un_23 pair_kinds pair_cells h2 hok2
  have hLW := laid_W hL
  obtain ⟨ρ1, H1, u0, a1, a2, a3, a4, a5, a6, hsl0⟩ := hlay0 (rho0 W 2) (H0 gl 2) (H0_HR' (Nat.le_refl _) hLW) H0_ro' rho0_frees
  obtain ⟨ρ2, H2, u1, b1, b2, b3, b4, b5, b6, hsl1⟩ := hlay1 ρ1 H1 a1 a2 a3
  obtain ⟨ρ3, H3, u2, g1, g2, g3, g4, g5, g6, hsl2⟩ := hlay2 ρ2 H2 b1 b2 b3
  obtain ⟨ts0, rfl⟩ := ticks_of els0 hk0
  obtain ⟨ts1, rfl⟩ := ticks_of els1 hk1
  obtain ⟨ts2, rfl⟩ := pairs_of els2 hk2
  rw [List.length_map, ← List.flatMap_def] at hsl0 hsl1 hsl2
  have hrun := matches_ok (((laid0.keep a5).keep b5).keep g5) (i64_bounds wfa) ((hsl0.keep b5).keep g5) (hsl1.keep g5) hsl2
  have hG : GOK Tryz.prog ρ3 := (rho0_G (by rw [globals_size]; exact Nat.le_refl _)).mono ((a4.trans b4).trans g4)
  refine (contractG progOK_holds follows_holds ground gl_size known_all hrun (DL.cons (den_mono (b4.trans g4) _ _ a6) (DL.cons (den_mono g4 _ _ b6) (DL.cons g6 (DL.cons rfl .nil)))) g1 hG g2 g3 (x := .bool true) (fun _ => rfl)).mono fun e W' ⟨he, hs⟩ => ?_
  subst he
  have e1 : Rows.callsMatchesSpec.fn H ([d0, d1, d2, .lit (.int .i64 a)] ++ []) = { results := [.lit (.bool true)], args := [d0, d1, d2, .lit (.int .i64 a)] } := by simp [Rows.callsMatchesSpec]
  refine ⟨_, rfl, _, _, _, [], p, [], hW', ?_, ?_, ?_, World.keptBut_mono (fun _ h => h.elim) hs.keptBut, fun h => by cases h⟩
  · rw [e1]; exact trodAll_mk1 (shut_bool Tryz.underlying4 true)
  · rw [e1]
    exact trodAll_same hs.keep match_closed (by simp) hA2 fun x hx => by simpa using hW'.lt x hx
  · rw [e1]; rfl
end CallsMatches
end Go.Proofs.YtndhniapohlniaaGreatDoor
