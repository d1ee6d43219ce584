/-
  THE ENGINE, part V: functions, their results, deferred calls, recover.
-/
import Derived.Test.YtbdhainbcfobeaaGreatDoorEngU
namespace Go.Proofs.YtbdhainbcfobeaaGreatDoor
namespace Eng
open Go
section
variable {P : Program}

/-! ### results -/
def resF (tmps : Array Value) : ResultVar → Sem Value
  | .tmp t => pure (tmps.getD t undef)
  | .cell a t => do loadVar t (← asAddr (tmps.getD a undef))
theorem resV_run {ρ : Rho} {T : Tm} {H : Heap} {w : World} {tmps : Array Value} (hH : HR ρ H w) (hT : TR ρ T tmps) {r : ResultVar} {v : AV} (h : resV P r T H = some v) :
    ∃ x, den ρ v = some x ∧ (resF tmps r).run P w = .ok x w := by
  cases r with
  | tmp t =>
    obtain ⟨x, h1, h2⟩ := hT t v h
    exact ⟨x, h1, by simp [resF, Array.getD_eq_getD_getElem?, h2]⟩
  | cell c t =>
    simp only [resV] at h
    split at h
    · rename_i b i p hb hp
      obtain ⟨x, h1, h2⟩ := hT c _ hb
      obtain ⟨q, hq, rfl⟩ := den_ptr h1
      split at h
      · rename_i u Hx hl
        injection h with h; subst h
        obtain ⟨e1, e2, e3⟩ := plcOf_spec hp
        obtain ⟨_, y, h3, h4⟩ := loadR_run (P := P) hH.vr hq hl e2 e3
        refine ⟨y, h3, ?_⟩
        simp only [resF, Array.getD_eq_getD_getElem?, h2, Option.getD_some]
        simpa [asAddr] using h4
      · cases h
    · cases h
theorem run_mapM_list {α : Type} (f : α → Sem Value) {w : World} : ∀ (l : List α) (xs : List Value), l.length = xs.length → (∀ (i : Nat) (r : α) (x : Value), l[i]? = some r → xs[i]? = some x → (f r).run P w = .ok x w) → (l.mapM f).run P w = .ok xs w
  | [], [], _, _ => by simp
  | r :: l, x :: xs, hl, h => by
    rw [List.mapM_cons]
    have h0 := h 0 r x (by simp) (by simp)
    have ih := run_mapM_list f l xs (by simpa using hl) fun i r' x' h1 h2 => h (i + 1) r' x' (by simpa using h1) (by simpa using h2)
    simp [h0, ih]
  | [], _ :: _, hl, _ => by simp at hl
  | _ :: _, [], hl, _ => by simp at hl
theorem resL_run {ρ : Rho} {T : Tm} {H : Heap} {w : World} {tmps : Array Value} (hH : HR ρ H w) (hT : TR ρ T tmps) : ∀ {rs : List ResultVar} {vs : List AV}, resL P T H rs = some vs →
    ∃ xs : List Value, DL ρ vs xs ∧ rs.length = xs.length ∧ ∀ (i : Nat) (r : ResultVar) (x : Value), rs[i]? = some r → xs[i]? = some x → (resF tmps r).run P w = .ok x w
  | [], vs, h => by simp only [resL, Option.some.injEq] at h; subst h; exact ⟨[], .nil, rfl, by simp⟩
  | r :: l, vs, h => by
    simp only [resL] at h
    split at h
    · rename_i v m hv hm
      injection h with h; subst h
      obtain ⟨x, h1, h2⟩ := resV_run hH hT hv
      obtain ⟨xs, h3, h4, h5⟩ := resL_run hH hT hm
      refine ⟨x :: xs, .cons h1 h3, by simp [h4], fun i r' x' e1 e2 => ?_⟩
      cases i with
      | zero => simp at e1 e2; subst e1; subst e2; exact h2
      | succ i => exact h5 i r' x' (by simpa using e1) (by simpa using e2)
    · cases h
theorem resA_run {ρ : Rho} {T : Tm} {H : Heap} {w : World} {tmps : Array Value} (hH : HR ρ H w) (hT : TR ρ T tmps) {fn : Func} {v : AV} (h : resA P fn T H = some v) : ∃ x, den ρ v = some x ∧ (results fn tmps).run P w = .ok x w := by
  unfold resA at h
  have key : ∀ vs, resL P T H fn.results.toList = some vs → ∃ xs : List Value, DL ρ vs xs ∧ (results fn tmps).run P w = .ok (if h : xs.toArray.size = 1 then xs.toArray[0] else .tuple xs.toArray) w := fun vs hvs => by
    obtain ⟨xs, h1, h2, h3⟩ := resL_run hH hT hvs
    refine ⟨xs, h1, ?_⟩
    have hm := run_mapM_list (P := P) (w := w) (resF tmps) fn.results.toList xs h2 h3
    have : (fn.results.mapM (resF tmps)).run P w = .ok xs.toArray w := by
      rw [Array.mapM_eq_mapM_toList]
      simp [hm]
    have hres : results fn tmps = (do let vs ← fn.results.mapM (resF tmps); pure (if h : vs.size = 1 then vs[0] else .tuple vs)) := rfl
    rw [hres]
    simp only [Sem.run_bind]
    rw [this]
    simp
  split at h
  · rename_i u hvs
    injection h with h; subst h
    obtain ⟨xs, h1, h2⟩ := key _ hvs
    obtain ⟨x, rfl, h3⟩ := one_of_DL h1
    exact ⟨x, h3, by simpa using h2⟩
  · rename_i vs hne hvs
    injection h with h; subst h
    obtain ⟨xs, h1, h2⟩ := key _ hvs
    refine ⟨.tuple xs.toArray, by simp only [den]; rw [h1], ?_⟩
    rw [h2, dif_neg]
    intro hs
    have hl := h1.length
    have : vs.length = 1 := by simp at hs; omega
    match vs, this with
    | [u], _ => exact hne u rfl
  · cases h
end
end Eng
end Go.Proofs.YtbdhainbcfobeaaGreatDoor
