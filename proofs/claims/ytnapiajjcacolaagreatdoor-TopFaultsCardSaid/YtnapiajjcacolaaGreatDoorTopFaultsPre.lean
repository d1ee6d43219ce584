/-
  TopFaults: of n only n % 20 matters, of which only what Among makes of it: so 160 runs are all. No conditions.
-/
import Derived.Test.YtnapiajjcacolaaGreatDoorKnown
namespace Go.Proofs.YtnapiajjcacolaaGreatDoor
open Go Go.Proofs.YtnapiajjcacolaaGreatDoor.Eng
namespace TopFaults
noncomputable def bodyA : Code := Tryz.f4.body.getD .skip
theorem bodyA_eq : Tryz.f4.body = some bodyA := by kernel_rfl
def cvA : CV := .seq (.reg [(some 4, .assign (.const (.int .i64 0)))])
  (.seq (.seq (.reg [(some 5, .move (.tmp 1)), (some 6, .binOp .lss 3 (.tmp 5) (.const (.int .i64 1)) 3)]) (.cond (.tmp 6) (.seq (.reg [(some 4, .assign (.const (.int .i64 0)))]) .ret) .skip))
  (.seq (.reg [(some 7, .move (.tmp 0)), (some 8, .move (.tmp 1)), (some 9, .binOp .rem 3 (.tmp 7) (.tmp 8) 3), (some 0, .assign (.tmp 9))])
  (.seq (.seq (.reg [(some 10, .move (.tmp 0)), (some 11, .binOp .lss 3 (.tmp 10) (.const (.int .i64 0)) 3)]) (.cond (.tmp 11) (.reg [(some 12, .move (.tmp 0)), (some 13, .move (.tmp 1)), (some 14, .binOp .add 3 (.tmp 12) (.tmp 13) 3), (some 0, .assign (.tmp 14))]) .skip))
  (.seq (.reg [(some 15, .move (.tmp 0)), (some 4, .assign (.tmp 15))]) .ret))))
theorem cvA_eq : cvOf bodyA = some cvA := by kernel_rfl
theorem resA_eq : Tryz.f4.results.toList = [.tmp 4] := by kernel_rfl
theorem c0 : aConst (.int .i64 0) = some (.int .i64 (.ofNat 0)) := rfl
theorem c1 : aConst (.int .i64 1) = some (.int .i64 (.ofNat 1)) := rfl
theorem c4 : aConst (.int .i64 4) = some (.int .i64 (.ofNat 4)) := rfl
theorem runA (w : Int) (H : Heap) : ∃ T', (∀ cf, stepV Tryz.prog cf cvA ⟨layT .lf 0 [.int .i64 w, .int .i64 (.ofNat 4)], H, []⟩ = .ok .ret ⟨T', H, []⟩) ∧ T'.get (Eng.bits 4) = some (.int .i64 (am w)) := by
  have e1 : ilt (.ofNat 4) (.ofNat 1) = false := rfl
  have e2 : ieq (.ofNat 4) (.ofNat 0) = false := rfl
  have em : ∀ w : Int, Int.tmod w (Int.ofNat 4) = Int.tmod w 4 := fun _ => rfl
  have h1 : Int.tmod w 4 < 4 := Int.tmod_lt_of_pos w (by decide)
  have h2 : -4 < Int.tmod w 4 := by
    have := Int.tmod_lt_of_pos (-w) (show (0 : Int) < 4 by decide)
    rw [Int.neg_tmod] at this
    omega
  by_cases hr : Int.tmod w 4 < 0
  · have e3 : ilt (Int.tmod w 4) (.ofNat 0) = true := by rw [ilt_eq]; simpa using hr
    have e4 : wrapF .i64 (iadd (Int.tmod w 4) (.ofNat 4)) = am w := by
      rw [iadd_eq, inK_small (by simp; omega) (by simp; omega)]
      unfold am
      rw [if_pos hr]
      rfl
    refine ⟨_, fun cf => by
      simp only [cvA, stepV, runV, condK, seqK, oper, oMove, ev, c0, c1, Tr.get_set_bits, if_true, okV, after, putT_eq, oBin, intOp, e1, e2, e3, e4, em, cond_false, fI_eq, fB_eq, decide_true, cond_true, layT, reduceIte, Nat.reduceEqDiff, Nat.reduceAdd]; rfl, by
      simp only [Tr.get_set_bits, reduceIte, Nat.reduceEqDiff]⟩
  · have e3 : ilt (Int.tmod w 4) (.ofNat 0) = false := by rw [ilt_eq]; simpa using hr
    have e4 : Int.tmod w 4 = am w := by unfold am; rw [if_neg hr]
    refine ⟨_, fun cf => by
      simp only [cvA, stepV, runV, condK, seqK, oper, oMove, ev, c0, c1, Tr.get_set_bits, if_true, okV, after, putT_eq, oBin, intOp, e1, e2, e3, em, cond_false, fI_eq, fB_eq, decide_true, cond_true, layT, reduceIte, Nat.reduceEqDiff, Nat.reduceAdd]; rfl, by
      simp only [Tr.get_set_bits, reduceIte, Nat.reduceEqDiff, ← e4]⟩
theorem callA (tb : List FuncId) (gl : List (List AV)) (w : Int) (H : Heap) : ∀ n, callFO Tryz.prog tb gl n 4 [.int .i64 w, .int .i64 (.ofNat 4)] H = callFO Tryz.prog tb gl n 4 [.int .i64 (am w), .int .i64 (.ofNat 4)] H
  | 0 => by rw [callFO_zero, callFO_zero]
  | 1 => by
    rw [callFO_cons, callFO_cons]
    simp only [callB, Tryz.func4, bodyA_eq, argsT_eq, execO_zero]
  | n + 2 => by
    have go : ∀ w, callFO Tryz.prog tb gl (n + 2) 4 [.int .i64 w, .int .i64 (.ofNat 4)] H = .ret (.int .i64 (am w)) H := by
      intro w
      obtain ⟨T', h1, h2⟩ := runA w H
      rw [callFO_cons]
      exact callB_view Tryz.func4 bodyA_eq cvA_eq resA_eq (.inr rfl) h1 h2
    rw [go, go, am_am]
def C : Cls := [(0, 1), (18, 1), (2, 2), (26, 2), (31, 2)]
def V (n : Nat) (w : Int) : Prs := fun k => bif Nat.beq k 1 then (.int .u8 (.ofNat (n % 20)), .int .u8 (.ofNat n)) else (.int .i64 (am w), .int .i64 w)
def inC (s k : Nat) : Bool := match clsOf C s with | some j => Nat.beq j k | none => false
def is4 (l : List Operand) : Bool := match l with
  | [.tmp s, .const (.int .i64 z)] => inC s 2 && decide (z = 4)
  | _ => false
def spec : Op → Bool
  | .binOp .rem _ (.tmp s) (.const (.int .u8 z)) _ => inC s 1 && decide (z = 20)
  | .call ⟨.value (.func g), xs, _⟩ => Nat.beq g 4 && is4 xs.toList
  | _ => false
theorem inC_eq {s k : Nat} (h : inC s k = true) : clsOf C s = some k := by
  unfold inC at h
  split at h
  · rename_i j hj; rw [hj, beq_true.1 h]
  · cases h
theorem spec_ok (tb : List FuncId) (gl : List (List AV)) (n : Nat) (w : Int) (N : Nat) : SpecOK Tryz.prog (callFO Tryz.prog tb gl N) C (V n w) spec := by
  intro o T T' H hs hsim
  unfold spec at hs
  split at hs
  · rename_i t1 s z t2
    simp only [Bool.and_eq_true, decide_eq_true_eq] at hs
    obtain ⟨hc, rfl⟩ := hs
    have hc := inC_eq hc
    rcases hsim s with e | ⟨k, hk, e1, e2⟩
    · simp only [oper, oBin, ev, e]
    · rw [hc] at hk
      injection hk with hk
      subst hk
      have h20 : aConst (.int .u8 20) = some (.int .u8 (.ofNat 20)) := rfl
      have e7 : ieq (.ofNat 20) (.ofNat 0) = false := rfl
      have em : ∀ m : Nat, Int.tmod (.ofNat m) (.ofNat 20) = .ofNat (m % 20) := fun _ => rfl
      have ev1 : (V n w 1).1 = .int .u8 (.ofNat (n % 20)) := rfl
      have ev2 : (V n w 1).2 = .int .u8 (.ofNat n) := rfl
      simp only [oper, oBin, ev, e1, e2, ev1, ev2, h20, intOp, e7, cond_false, em, Nat.mod_mod, decide_true, cond_true]
  · rename_i g xs t1
    simp only [Bool.and_eq_true] at hs
    obtain ⟨hg, h4⟩ := hs
    have hg := beq_true.1 hg
    subst hg
    unfold is4 at h4
    split at h4
    · rename_i s z hl
      simp only [Bool.and_eq_true, decide_eq_true_eq] at h4
      obtain ⟨hc, rfl⟩ := h4
      have hc := inC_eq hc
      have h4c : aConst (.int .i64 4) = some (.int .i64 (.ofNat 4)) := rfl
      rcases hsim s with e | ⟨k, hk, e1, e2⟩
      · simp only [oper, oCall, hl, evL, ev, e, h4c]
      · rw [hc] at hk
        injection hk with hk
        subst hk
        have ev1 : (V n w 2).1 = .int .i64 (am w) := rfl
        have ev2 : (V n w 2).2 = .int .i64 w := rfl
        simp only [oper, oCall, hl, evL, ev, e1, e2, ev1, ev2, h4c, List.append_nil]
        rw [← callA tb gl w H N]
    · cases h4
  · cases hs
noncomputable def body : Code := Tryz.f3.body.getD .skip
theorem body_eq : Tryz.f3.body = some body := by kernel_rfl
theorem sim_body : okSim C spec body = true := by kernel_rfl
theorem sim_res : Tryz.f3.results.toList.all (freeR C) = true := by kernel_rfl
theorem sim_args (n : Nat) (b : Bool) (w : Int) : Sim C (V n w) (layT .lf 0 [.int .u8 (.ofNat (n % 20)), .bool b, .int .i64 (am w)]) (layT .lf 0 [.int .u8 (.ofNat n), .bool b, .int .i64 w]) := by
  intro t
  simp only [layT, Tr.get_set_bits, Tr.get_lf]
  by_cases h2 : 2 = t
  · subst h2; exact .inr ⟨2, rfl, rfl, rfl⟩
  · by_cases h1 : 1 = t
    · subst h1; exact .inl rfl
    · by_cases h0 : 0 = t
      · subst h0; exact .inr ⟨1, rfl, rfl, rfl⟩
      · exact .inl (by simp [h0, h1, h2])
/-- the 160 runs are all -/
theorem run_all {tb : List FuncId} {gl : List (List AV)} {N : Nat} {H : Heap} (n : Nat) (b : Bool) (w : Int)
    (h : ∃ H', callFO Tryz.prog tb gl (N + 2) 3 [.int .u8 (.ofNat (n % 20)), .bool b, .int .i64 (am w)] H = .ret (.bool true) H') :
    ∃ H', callFO Tryz.prog tb gl (N + 2) 3 [.int .u8 (.ofNat n), .bool b, .int .i64 w] H = .ret (.bool true) H' := by
  obtain ⟨H', h⟩ := h
  refine ⟨H', ?_⟩
  rw [callFO_cons] at h ⊢
  exact callB_sim (execO_sim (fun N => spec_ok tb gl n w N) (N + 1)) Tryz.func3 body_eq sim_body sim_res (sim_args n b w) h
end TopFaults
end Go.Proofs.YtnapiajjcacolaaGreatDoor
