/-
  ViewShows: for every input the law returns true and the input reads as it did; conditions: the listed variables are as the program's text lays them.
-/
import Derived.Test.YtalnmaalhocjfaaGreatDoorShow3
import Derived.Test.YtalnmaalhocjfaaGreatDoorKnown
import Derived.Test.YtalnmaalhocjfaaGreatDoorTie
import Derived.Test.YtalnmaalhocjfaaGreatDoorCards
import Derived.Stop.Joined
namespace Go.Proofs.YtalnmaalhocjfaaGreatDoor
open Go Go.Proofs.YtalnmaalhocjfaaGreatDoor.Eng Go.ChangeShapes Go.WideShapes Go.ChangeAt Go.RowKit
namespace ViewShows
theorem kinds : kindsOf Tryz.prog 8 40 = some [.string, .int .i64, .int .i64] := by kernel_rfl
theorem kcells : Tryz.prog.cellsOf 40 = [TypeDesc.string, .int .i64, .int .i64].length := by kernel_rfl
theorem closed_ts : closedT Tryz.prog [39, 40, 9, 3] = true := by kernel_rfl
theorem rows_of : ∀ els : List (List AV), (∀ c ∈ els, KA [.string, .int .i64, .int .i64] c) → ∃ rs : List Rw, els = rs.map rwC
  | [], _ => ⟨[], rfl⟩
  | c :: els, h => by
    obtain ⟨rs, rfl⟩ := rows_of els fun d hd => h d (by simp [hd])
    have hc := h c (by simp)
    obtain ⟨x, c1, rfl, ⟨a, rfl, _⟩, hc1⟩ := hc.cons
    obtain ⟨y, c2, rfl, ⟨b, rfl, _⟩, hc2⟩ := hc1.cons
    obtain ⟨z, c3, rfl, ⟨e, rfl, _⟩, hc3⟩ := hc2.cons
    obtain rfl := hc3.nil
    exact ⟨⟨a, b, e⟩ :: rs, rfl⟩
theorem i64_bounds {n : Int} (h : (Lit.int .i64 n).wf = true) : -9223372036854775808 ≤ n ∧ n < 9223372036854775808 := by
  simp [Lit.wf, IntKind.min, IntKind.max, IntKind.signed, IntKind.bits] at h
  omega
section
variable {P : Program} {w : World} {base : Nat} {spare : Nat → Bool} {held : Bool} {H : Type} {enc : TypeId × Value → H}
theorem five {t0 t1 t2 t3 t4 : TypeId} {args : Array Value} {ds : List (DataW H)} {ps : List MemPlace} (h : DataW.TrodAll enc P w base spare held [t0, t1, t2, t3, t4] args.toList ds ps) :
    ∃ v0 v1 v2 v3 v4 d0 d1 d2 d3 d4 p0 p1 p2 p3 p4, args = #[v0, v1, v2, v3, v4] ∧ ds = [d0, d1, d2, d3, d4] ∧ DataW.Trod enc P w base spare held t0 v0 d0 p0 ∧ DataW.Trod enc P w base spare held t1 v1 d1 p1 ∧ DataW.Trod enc P w base spare held t2 v2 d2 p2 ∧ DataW.Trod enc P w base spare held t3 v3 d3 p3 ∧ DataW.Trod enc P w base spare held t4 v4 d4 p4 := by
  obtain ⟨v0, vs0, d0, ds0, p0, q0, hargs, rfl, rfl, h0, hr0⟩ := trodAll_cons h
  obtain ⟨v1, vs1, d1, ds1, p1, q1, rfl, rfl, rfl, h1, hr1⟩ := trodAll_cons hr0
  obtain ⟨v2, vs2, d2, ds2, p2, q2, rfl, rfl, rfl, h2, hr2⟩ := trodAll_cons hr1
  obtain ⟨v3, vs3, d3, ds3, p3, q3, rfl, rfl, rfl, h3, hr3⟩ := trodAll_cons hr2
  obtain ⟨v4, vs4, d4, ds4, p4, q4, rfl, rfl, rfl, h4, hr4⟩ := trodAll_cons hr3
  obtain ⟨rfl, rfl, rfl⟩ := trodAll_nil hr4
  exact ⟨v0, v1, v2, v3, v4, d0, d1, d2, d3, d4, p0, p1, p2, p3, p4, by cases args; simp_all, rfl, h0, h1, h2, h3, h4⟩
end
set_option maxRecDepth 100000 in
theorem lifted (os : Os) (started : os.Started) (H : Type) (enc : TypeId × Value → H) :
    ReturnsInHanded {} Tryz.checked os 4 .any (fun w args => (Rows.viewShowsSpec.pre enc Tryz.prog Tryz.f4 [] false w args ∧ laidMetH Tryz.prog laidL w) ∧ sizedMet enc Tryz.prog Tryz.f4 (OpenSpec.ofChange Rows.viewShowsSpec) false w args)
      (Rows.viewShowsSpec.post enc Tryz.prog Tryz.f4 false true false false) := by
  refine returnsInHanded_of_change_and (C := Tryz.checked) (X := fun w _ => laidMetH Tryz.prog laidL w) (fun _ _ _ hh h => h.of_heap hh) own started (by kernel_rfl) Tryz.func4
    (ChangeSpec.witness_shaped (enc := enc) (C := Tryz.checked) (os := os) (X := fun w _ => laidMetH Tryz.prog laidL w) false (World.doorLaid Tryz.prog 400 os) #[.slice none 0 0, .int .i64 0, .int .i64 0, .int .i64 0, .int .i64 0] 8 rfl (World.shaped_of_RefB (by kernel_rfl) (by kernel_rfl)) (by kernel_rfl) (by kernel_rfl) (by kernel_rfl) (door_met os _)) ?_
  intro W base args ds gs before hval0 hW _ hwt hL _
  have hval : ∀ (j : Nat) t v, Tryz.f4.params[j]? = some t → args[j]? = some v → Value.okWide Tryz.prog W .any base t v := hval0
  have hW' := hW
  obtain ⟨p, q, hA0, hV, rfl, hfz, hnd⟩ := hW
  have hA : DataW.TrodAll enc Tryz.prog W 0 (fun _ => true) true Tryz.f4.params.toList args.toList ds p := hA0
  rw [Tryz.params4] at hA hval hwt
  have hA2 := hA
  obtain ⟨v0, v1, v2, v3, v4, d0, d1, d2, d3, d4, p0, p1, p2, p3, p4, rfl, rfl, h0, h1, h2, h3, h4⟩ := five hA
  obtain ⟨rfl, rfl⟩ := trodVars_none hV
  clear hA0 hval0
  simp only [List.append_nil] at hW'
  have hok := hval 0 39 v0 rfl rfl
  obtain ⟨a, rfl, rfl, rfl, wfa⟩ := open_int (by first | with_reducible exact un_2 | with_reducible exact un_182 | with_reducible exact un_3 | with_reducible exact un_5 | with_reducible exact un_181 | with_reducible exact un_183 | with_reducible exact un_9 | with_reducible exact un_41 | with_reducible exact un_39 | with_reducible exact un_27 | with_reducible exact un_28) (hval 1 3 v1 rfl rfl) h1
  obtain ⟨n, rfl, rfl, rfl, wfn⟩ := open_int (by first | with_reducible exact un_2 | with_reducible exact un_182 | with_reducible exact un_3 | with_reducible exact un_5 | with_reducible exact un_181 | with_reducible exact un_183 | with_reducible exact un_9 | with_reducible exact un_41 | with_reducible exact un_39 | with_reducible exact un_27 | with_reducible exact un_28) (hval 2 3 v2 rfl rfl) h2
  obtain ⟨pr, rfl, rfl, rfl, wfp⟩ := open_int (by first | with_reducible exact un_2 | with_reducible exact un_182 | with_reducible exact un_3 | with_reducible exact un_5 | with_reducible exact un_181 | with_reducible exact un_183 | with_reducible exact un_9 | with_reducible exact un_41 | with_reducible exact un_39 | with_reducible exact un_27 | with_reducible exact un_28) (hval 3 3 v3 rfl rfl) h3
  obtain ⟨mk, rfl, rfl, rfl, wfm⟩ := open_int (by first | with_reducible exact un_2 | with_reducible exact un_182 | with_reducible exact un_3 | with_reducible exact un_5 | with_reducible exact un_181 | with_reducible exact un_183 | with_reducible exact un_9 | with_reducible exact un_41 | with_reducible exact un_39 | with_reducible exact un_27 | with_reducible exact un_28) (hval 4 3 v4 rfl rfl) h4
  obtain ⟨fuel, h0⟩ := h0
  rw [slice_cells un_39 hok] at h0
  have hbound : ∀ k ∈ d0.weights Tryz.prog 39, k ≤ reachBytes := by
    intro k hk
    have := List.all_eq_true.1 hwt k (mem_weightsEach (i := 0) (t := 39) (d := d0) rfl rfl hk)
    simpa using this
  obtain ⟨els, hk, htx, hmax, hlay⟩ := lay_sliceB un_39 kinds kcells h0 hok hbound
  have hLW := laid_W hL
  obtain ⟨ρ', H', u, g1, g2, g3, g4, g5, g6, hsl⟩ := hlay (rho0 W 4) (H0 gl 4) (H0_HR' (Nat.le_refl _) hLW) H0_ro' rho0_frees
  obtain ⟨rs, rfl⟩ := rows_of els hk
  rw [List.length_map] at hmax
  rw [List.length_map, ← List.flatMap_def] at hsl
  have hml : maxLen = 9223372036854775807 := rfl
  have hrb : reachBytes = 140737488351232 := rfl
  have hrun := shows_ok (p := pr) (m := mk) (laid0.keep g5) (by omega) (fun r hr => by
    have := htx (rwC r) (List.mem_map.2 ⟨r, hr, rfl⟩) r.text (by simp [rwC])
    omega) hsl (i64_bounds wfa) (i64_bounds wfn)
  have hG : GOK Tryz.prog ρ' := (rho0_G (by rw [globals_size]; exact Nat.le_refl _)).mono g4
  refine (contractG progOK_holds follows_holds ground gl_size known_all hrun (DL.cons g6 (DL.cons rfl (DL.cons rfl (DL.cons rfl (DL.cons rfl .nil))))) g1 hG g2 g3 (x := .bool true) (fun _ => rfl)).mono fun e W' ⟨he, hs⟩ => ?_
  subst he
  have e1 : Rows.viewShowsSpec.fn H ([d0, .lit (.int .i64 a), .lit (.int .i64 n), .lit (.int .i64 pr), .lit (.int .i64 mk)] ++ []) = { results := [.lit (.bool true)], args := [d0, .lit (.int .i64 a), .lit (.int .i64 n), .lit (.int .i64 pr), .lit (.int .i64 mk)] } := by simp [Rows.viewShowsSpec]
  refine ⟨_, rfl, _, _, _, [], p, [], hW', ?_, ?_, ?_, World.keptBut_mono (fun _ h => h.elim) hs.keptBut, fun h => by cases h⟩
  · rw [e1]; exact trodAll_mk1 (shut_bool Tryz.underlying4 true)
  · rw [e1]
    exact trodAll_same hs.keep closed_ts (by simp) hA2 fun x hx => by simpa using hW'.lt x hx
  · rw [e1]; rfl
end ViewShows
end Go.Proofs.YtalnmaalhocjfaaGreatDoor
