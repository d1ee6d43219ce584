/-
  TopCalls: its first two regions make n % 7 of n; what follows is run by the engine. No conditions.
-/
import Derived.Test.YtbdhainbcfobeaaGreatDoorLaid
namespace Go.Proofs.YtbdhainbcfobeaaGreatDoor
open Go Go.Proofs.YtbdhainbcfobeaaGreatDoor.Eng
noncomputable def rest : Code := match Tryz.f3.body.bind pre2 with | some x => x.2.2 | none => .skip
noncomputable def topA : List Oper := match Tryz.f3.body.bind pre2 with | some x => x.1 | none => []
noncomputable def topB : List Oper := match Tryz.f3.body.bind pre2 with | some x => x.2.1 | none => []
noncomputable def body3 : Code := Tryz.f3.body.getD .skip
theorem body3_eq : Tryz.f3.body = some body3 := by kernel_rfl
theorem pre_eq : pre2 body3 = some (topA, topB, rest) := by kernel_rfl
theorem bareA : bareG topA = true := by kernel_rfl
theorem bareB : bareG topB = true := by kernel_rfl
theorem viewA : view topA = [(some 2, .assign (.const (.bool false)))] := by kernel_rfl
theorem viewB : view topB = [(some 20, .move (.tmp 0)), (some 21, .binOp .rem 5 (.tmp 20) (.const (.int .u8 7)) 5), (some 22, .convert 5 3 (.tmp 21)), (some 3, .assign (.tmp 22))] := by kernel_rfl
def slots (r : Nat) : List (Nat × AV) := [(2, .bool false), (3, .int .i64 (.ofNat r))]
def T1 (m r : Nat) : Tm := ((((((Tr.lf : Tm).set (Eng.bits 0) (some (.int .u8 (.ofNat m)))).set (Eng.bits 2) (some (.bool false))).set (Eng.bits 20) (some (.int .u8 (.ofNat m)))).set (Eng.bits 21) (some (.int .u8 (.ofNat r)))).set (Eng.bits 22) (some (.int .i64 (.ofNat r)))).set (Eng.bits 3) (some (.int .i64 (.ofNat r)))
theorem pre_run (m : Nat) (cf : CallF) (ih : ExF) (H : Heap) : stepC Tryz.prog cf ih body3 ⟨layT .lf 0 [.int .u8 (.ofNat m)], H, []⟩ = stepC Tryz.prog cf ih rest ⟨T1 m (m % 7), H, []⟩ := by
  have hr : m % 7 < 7 := Nat.mod_lt _ (by decide)
  have h64 : wrapF .i64 (.ofNat (m % 7)) = .ofNat (m % 7) := by
    have : inK .i64 (.ofNat (m % 7)) = true := by
      simp only [inK, blt_iff, pow63, decide_eq_true_eq]
      omega
    simp only [wrapF, this, cond_true]
  have hc7 : aConst (.int .u8 7) = some (.int .u8 (.ofNat 7)) := rfl
  have hcf : aConst (.bool false) = some (.bool false) := rfl
  refine pre2_ok pre_eq bareA bareB (S1 := ⟨((Tr.lf : Tm).set (Eng.bits 0) (some (.int .u8 (.ofNat m)))).set (Eng.bits 2) (some (.bool false)), H, []⟩) ?_ ?_
  · rw [viewA]
    simp only [runV, oper, oMove, ev, hcf, okV, after, putT_eq, layT]
  · rw [viewB]
    have e7 : ieq (.ofNat 7) (.ofNat 0) = false := rfl
    have em : Int.tmod (.ofNat m) (.ofNat 7) = .ofNat (m % 7) := rfl
    have n0 : (20 : Nat) ≠ 0 := by decide
    simp only [runV, oper, oMove, ev, Tr.get_set_bits, if_true, okV, after, putT_eq, oBin, hc7, intOp, e7, cond_false, fI_eq, em, decide_true, cond_true, oConvert, Tryz.underlying5, Tryz.underlying3, h64, T1, reduceIte, Nat.reduceEqDiff]
theorem pre_slots (m r t : Nat) (v : AV) (h : (setsT (slots r) .lf).get (Eng.bits t) = some v) : (T1 m r).get (Eng.bits t) = some v := by
  simp only [slots, setsT, Tr.get_set_bits, Tr.get_lf] at h
  simp only [T1, Tr.get_set_bits]
  by_cases h3 : 3 = t
  · simpa [h3] using h
  · rw [if_neg h3] at h ⊢
    by_cases h2 : 2 = t
    · subst h2
      simpa using h
    · rw [if_neg h2] at h
      cases h
end Go.Proofs.YtbdhainbcfobeaaGreatDoor
