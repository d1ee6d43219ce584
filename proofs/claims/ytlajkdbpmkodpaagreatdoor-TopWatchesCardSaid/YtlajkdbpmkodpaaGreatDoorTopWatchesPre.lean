/-
  TopWatches: its first two regions make n % 25 of n; what follows is run by the engine. No conditions.
-/
import Derived.Test.YtlajkdbpmkodpaaGreatDoorKnown
namespace Go.Proofs.YtlajkdbpmkodpaaGreatDoor
open Go Go.Proofs.YtlajkdbpmkodpaaGreatDoor.Eng
namespace TopWatches
noncomputable def rest : Code := match Tryz.f3.body.bind pre2 with | some x => x.2.2 | none => .skip
noncomputable def topA : List Oper := match Tryz.f3.body.bind pre2 with | some x => x.1 | none => []
noncomputable def topB : List Oper := match Tryz.f3.body.bind pre2 with | some x => x.2.1 | none => []
noncomputable def body : Code := Tryz.f3.body.getD .skip
theorem body_eq : Tryz.f3.body = some body := by kernel_rfl
theorem pre_eq : pre2 body = some (topA, topB, rest) := by kernel_rfl
theorem bareA : bareG topA = true := by kernel_rfl
theorem bareB : bareG topB = true := by kernel_rfl
theorem viewA : view topA = [(some 2, .assign (.const (.bool false)))] := by kernel_rfl
theorem viewB : view topB = [(some 7, .move (.tmp 0)), (some 8, .binOp .rem 5 (.tmp 7) (.const (.int .u8 25)) 5), (some 9, .convert 5 2 (.tmp 8)), (some 3, .assign (.tmp 9))] := by kernel_rfl
def slots (r : Nat) : List (Nat × AV) := [(2, .bool false), (3, .int .i64 (.ofNat r))]
def T1 (m r : Nat) : Tm := ((((((Tr.lf : Tm).set (Eng.bits 0) (some (.int .u8 (.ofNat m)))).set (Eng.bits 2) (some (.bool false))).set (Eng.bits 7) (some (.int .u8 (.ofNat m)))).set (Eng.bits 8) (some (.int .u8 (.ofNat r)))).set (Eng.bits 9) (some (.int .i64 (.ofNat r)))).set (Eng.bits 3) (some (.int .i64 (.ofNat r)))
theorem pre_run (m : Nat) (cf : CallF) (ih : ExF) (H : Heap) : stepC Tryz.prog cf ih body ⟨layT .lf 0 [.int .u8 (.ofNat m)], H, []⟩ = stepC Tryz.prog cf ih rest ⟨T1 m (m % 25), H, []⟩ := by
  have hr : m % 25 < 25 := Nat.mod_lt _ (by decide)
  have h64 : wrapF .i64 (.ofNat (m % 25)) = .ofNat (m % 25) := by
    have : inK .i64 (.ofNat (m % 25)) = true := by
      simp only [inK, blt_iff, pow63, decide_eq_true_eq]
      omega
    simp only [wrapF, this, cond_true]
  have hc7 : aConst (.int .u8 25) = some (.int .u8 (.ofNat 25)) := rfl
  have hcf : aConst (.bool false) = some (.bool false) := rfl
  refine pre2_ok pre_eq bareA bareB (S1 := ⟨((Tr.lf : Tm).set (Eng.bits 0) (some (.int .u8 (.ofNat m)))).set (Eng.bits 2) (some (.bool false)), H, []⟩) ?_ ?_
  · rw [viewA]
    simp only [runV, oper, oMove, ev, hcf, okV, after, putT_eq, layT]
  · rw [viewB]
    have e7 : ieq (.ofNat 25) (.ofNat 0) = false := rfl
    have em : Int.tmod (.ofNat m) (.ofNat 25) = .ofNat (m % 25) := rfl
    simp only [runV, oper, oMove, ev, Tr.get_set_bits, if_true, okV, after, putT_eq, oBin, hc7, intOp, e7, cond_false, fI_eq, em, decide_true, cond_true, oConvert, Tryz.underlying5, Tryz.underlying2, h64, T1, reduceIte, Nat.reduceEqDiff]
theorem pre_slots (m r t : Nat) (v : AV) (h : (setsT (slots r) .lf).get (Eng.bits t) = some v) : (T1 m r).get (Eng.bits t) = some v := by
  simp only [slots, setsT, Tr.get_set_bits, Tr.get_lf] at h
  simp only [T1, Tr.get_set_bits]
  by_cases h3 : 3 = t
  · simpa [h3] using h
  · rw [if_neg h3] at h ⊢
    by_cases h2 : 2 = t
    · subst h2
      simpa using h
    · rw [if_neg h2] at h
      cases h
noncomputable def plans : PlT := plF 3 pt
theorem plans_rest : PlOK Tryz.prog plans rest := by
  have h := ptOK 3 Tryz.f3 body Tryz.func3 body_eq
  have hb : PlOK Tryz.prog plans (.seq (.region 0 topA.toArray false) (.seq (.region 0 topB.toArray false) rest)) → PlOK Tryz.prog plans rest := fun h => h.2.2
  have e := pre_eq
  unfold pre2 at e
  split at e
  · rename_i heq
    rw [heq] at h
    injection e with e
    injection e with e1 e
    injection e with e2 e3
    subst e3
    exact h.2.2
  · cases e
end TopWatches
end Go.Proofs.YtlajkdbpmkodpaaGreatDoor
