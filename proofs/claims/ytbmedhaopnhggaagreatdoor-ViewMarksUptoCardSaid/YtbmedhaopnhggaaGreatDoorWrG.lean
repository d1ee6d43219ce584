/-
  Whether a statement has its kind's form (syntax.fits), walked.
-/
import Derived.Test.YtbmedhaopnhggaaGreatDoorWrF
namespace Go.Proofs.YtbmedhaopnhggaaGreatDoor
open Go Eng Tryz
instance ifp_157_0 : FpF prog 157 0 ⟨0, false, 1⟩ := ⟨by kernel_rfl⟩
def v222c0 : CV := Jt [Jc 2 (.assign (.const (.bool false)))] (.ret)
def v222h1 : CV := Jt [Jg 4 157 1 3, Jf 5 2 4, Jc 6 (.binOp .neq 2 (Ja 5) (Jb 0) 2), Jd 7 6, Jq 7 true 8 157 1 0, Jr 7 true 9 3 8, Js 7 true 10 (.binOp .neq 3 (Ja 9) (Jb 1) 3), Jc 11 (.pick (Ja 7) (Ja 10) (.const (.bool false))), Jd 12 11, Jq 12 false 13 157 1 2, Jr 12 false 14 9 13, Js 12 false 15 (.binOp .neq 9 (Ja 14) (.const (.string ⟨⟨[]⟩⟩)) 9), Jp 12 false 16 15, Jq 16 true 17 157 1 0, Jr 16 true 18 3 17, Js 16 true 19 (.binOp .neq 3 (Ja 18) (Jb 6) 3), Js 12 false 20 (.pick (Ja 16) (Ja 19) (.const (.bool false))), Jc 21 (.pick (Ja 12) (.const (.bool true)) (Ja 20)), Jd 22 21, Jq 22 false 23 157 1 5, Jr 22 false 24 72 23, Js 22 false 25 (.call ⟨.builtin .len, #[(Ja 24)], #[72]⟩), Js 22 false 26 (.binOp .gtr 3 (Ja 25) (Jb 0) 3), Jp 22 false 27 26, Jq 27 true 28 157 1 0, Jr 27 true 29 3 28, Js 27 true 30 (.binOp .neq 3 (Ja 29) (Jb 4) 3), Js 22 false 31 (.pick (Ja 27) (Ja 30) (.const (.bool false))), Jp 22 false 32 31, Jq 32 true 33 157 1 0, Jr 32 true 34 3 33, Js 32 true 35 (.binOp .neq 3 (Ja 34) (Jb 5) 3), Js 22 false 36 (.pick (Ja 32) (Ja 35) (.const (.bool false))), Jc 37 (.pick (Ja 22) (.const (.bool true)) (Ja 36)), Jd 38 37, Jq 38 false 39 157 1 6, Jr 38 false 40 72 39, Js 38 false 41 (.call ⟨.builtin .len, #[(Ja 40)], #[72]⟩), Js 38 false 42 (.binOp .gtr 3 (Ja 41) (Jb 0) 3), Jp 38 false 43 42, Jq 43 true 44 157 1 0, Jr 43 true 45 3 44, Js 43 true 46 (.binOp .neq 3 (Ja 45) (Jb 4) 3), Js 38 false 47 (.pick (Ja 43) (Ja 46) (.const (.bool false))), Jc 48 (.pick (Ja 38) (.const (.bool true)) (Ja 47))] (.cond (Ja 48) v222c0 (.skip))
def v222c1 : CV := Jt [Jd 56 3, Jc 57 (.binOp .eql 3 (Ja 56) (Jb 0) 3), Jd 58 57, Jq 58 true 59 157 1 3, Jr 58 true 60 2 59, Js 58 true 61 (.binOp .geq 2 (Ja 60) (Jb (-1)) 2), Jc 62 (.pick (Ja 58) (Ja 61) (.const (.bool false))), Jh 2 62] (.ret)
def v222c3 : CV := Jt [Jd 65 3, Jc 66 (.binOp .eql 3 (Ja 65) (Jb 0) 3), Jh 2 66] (.ret)
def v222c5 : CV := Jt [Jd 69 3, Jc 70 (.binOp .eql 3 (Ja 69) (Jb 1) 3), Jh 2 70] (.ret)
def v222c7 : CV := Jt [Jd 73 3, Jc 74 (.binOp .eql 3 (Ja 73) (Jb 2) 3), Jh 2 74] (.ret)
def v222c9 : CV := Jt [Jc 2 (.assign (.const (.bool true)))] (.ret)
def v222c11 : CV := Jt [Jd 79 3, Jc 80 (.binOp .leq 3 (Ja 79) (Jb 1) 3), Jd 81 80, Jq 81 true 82 157 1 1, Jr 81 true 83 9 82, Js 81 true 84 (.binOp .eql 9 (Ja 83) (.const (.string ⟨⟨[]⟩⟩)) 9), Jc 85 (.pick (Ja 81) (Ja 84) (.const (.bool false))), Jh 2 85] (.ret)
def v222c14 : CV := Jt [Jc 89 (.binOp .eql 3 (Ja 53) (Jb 8) 3), Jh 86 89] (.cond (Ja 86) (.skip) (.reg [Jc 90 (.binOp .eql 3 (Ja 53) (Jb 10) 3), Jh 86 90]))
def v222c13 : CV := Jt [Jc 88 (.binOp .eql 3 (Ja 53) (Jb 5) 3), Jh 86 88] (.cond (Ja 86) (.skip) v222c14)
def v222c12h0 : CV := Jt [Jc 87 (.binOp .eql 3 (Ja 53) (Jb 4) 3), Jh 86 87] (.cond (Ja 86) (.skip) v222c13)
def v222c15 : CV := Jt [Jd 91 3, Jc 92 (.binOp .eql 3 (Ja 91) (Jb 1) 3), Jd 93 92, Jq 93 true 94 157 1 1, Jr 93 true 95 9 94, Js 93 true 96 (.binOp .eql 9 (Ja 95) (.const (.string ⟨⟨[]⟩⟩)) 9), Jc 97 (.pick (Ja 93) (Ja 96) (.const (.bool false))), Jh 2 97] (.ret)
def v222c12 : CV := .seq v222c12h0 (.cond (Ja 86) v222c15 (.skip))
def v222c10 : CV := Jt [Jc 78 (.binOp .eql 3 (Ja 53) (Jb 7) 3), Jh 77 78] (.cond (Ja 77) v222c11 v222c12)
def v222c8 : CV := Jt [Jc 76 (.binOp .eql 3 (Ja 53) (Jb 6) 3), Jh 75 76] (.cond (Ja 75) v222c9 v222c10)
def v222c6 : CV := Jt [Jc 72 (.binOp .eql 3 (Ja 53) (Jb 3) 3), Jh 71 72] (.cond (Ja 71) v222c7 v222c8)
def v222c4 : CV := Jt [Jc 68 (.binOp .eql 3 (Ja 53) (Jb 2) 3), Jh 67 68] (.cond (Ja 67) v222c5 v222c6)
def v222c2 : CV := Jt [Jc 64 (.binOp .eql 3 (Ja 53) (Jb 9) 3), Jh 63 64] (.cond (Ja 63) v222c3 v222c4)
def v222k0 : CV := Jt [Jc 55 (.binOp .eql 3 (Ja 53) (Jb 1) 3), Jh 54 55] (.cond (Ja 54) v222c1 v222c2)
def v222h3 : CV := Jt [Jg 52 157 1 0, Jf 53 3 52] (.block 0 v222k0)
def v222t4 : CV := Jt [Jc 2 (.assign (.const (.bool false)))] (.ret)
def v222t3 : CV := .seq v222h3 v222t4
def v222t2 : CV := Jt [Jg 49 157 1 4, Jf 50 155 49, Jj 51 50 155, Jh 3 51] v222t3
def v222t1 : CV := .seq v222h1 v222t2
def v222 : CV := Jt [Jc 1 (.box 157 (Ja 0)), Jc 2 (.assign (.const (.bool false)))] v222t1
noncomputable def b222 : Code := f222.body.getD .skip
theorem b222_eq : f222.body = some b222 := by kernel_rfl
theorem v222_eq : viewC prog b222 = some v222 := by kernel_rfl
theorem r222_eq : f222.results.toList = [.tmp 2] := by kernel_rfl
def formN (kd nu : Int) (nm : List UInt8) (le : Nat) : Bool :=
 if kd = 1 then decide (le = 0) && decide (-1 ≤ nu) else if kd = 9 then decide (le = 0) else if kd = 2 then decide (le = 1) else if kd = 3 then decide (le = 2) else if kd = 6 then true
 else if kd = 7 then decide (le ≤ 1) && decide (nm = []) else if kd = 4 ∨ kd = 5 ∨ kd = 8 ∨ kd = 10 then decide (le = 1) && decide (nm = []) else false
def bareN (kd nu : Int) (pc : List UInt8) (lb ls : Nat) : Bool :=
 (decide (nu = 0) || decide (kd = 1)) && (decide (pc = []) || decide (kd = 6)) && (decide (lb = 0) || decide (kd = 4) || decide (kd = 5)) && (decide (ls = 0) || decide (kd = 4))
def fitsB (x : Stm) : Bool := bareN x.kind x.num x.proc x.body.length x.els.length && formN x.kind x.num x.name x.e.length
section
variable {tb : List FuncId} {gl : List (List AV)} {A : Nat → Prop} {H : Heap} {u v w : AV} {b : Nat} {s : WS} {Q : AV → Heap → Prop}
set_option maxHeartbeats 0 in
theorem fits_ok {c : List AV} {x : Stm} (hS : IsS A H c x) (hQ : ∀ H', Keep Non H H' → Q (.bool (fitsB x)) H') : WpF prog tb gl 222 [.agg c] H Q := by
  have hrB : rB = 140737488351232 := rfl
  obtain ⟨v1, v2, v3, rfl, _, _, _, _, hl1, hl2, hl3, hL1, hL2, hL3⟩ := hS.out
  refine fa func222 b222_eq v222_eq r222_eq (.inr (by simp)) ?_
  refine zac ?_
  refine zaa (zcd rfl fun H1 hk1 hr1 => ?_)
  obtain ⟨b, hb⟩ : ∃ b, b = H.nx := ⟨_, rfl⟩
  rw [← hb] at hr1 ⊢
  have hr1 : IsRow H1 b [.int .i64 x.kind, S x.name, S x.proc, .int .i64 x.num, v1, v2, v3] false false := hr1
  obtain ⟨ee, hse, _⟩ := zbc (hL1.keep hk1 fun _ _ _ h => h.keep hk1)
  obtain ⟨eb, hsb, _⟩ := zbc (hL2.keep hk1 fun _ _ _ h => h.keep hk1)
  obtain ⟨ed, hsd, _⟩ := zbc (hL3.keep hk1 fun _ _ _ h => h.keep hk1)
  have hQ := hQ H1 hk1
  unfold fitsB at hQ
  obtain ⟨kd, hkd⟩ : ∃ k, k = x.kind := ⟨_, rfl⟩
  obtain ⟨nm, hnm⟩ : ∃ k, k = x.name := ⟨_, rfl⟩
  obtain ⟨pc, hpc⟩ : ∃ k, k = x.proc := ⟨_, rfl⟩
  obtain ⟨nu, hnu⟩ : ∃ k, k = x.num := ⟨_, rfl⟩
  obtain ⟨le, hle⟩ : ∃ k, k = x.e.length := ⟨_, rfl⟩
  obtain ⟨lb, hlb⟩ : ∃ k, k = x.body.length := ⟨_, rfl⟩
  obtain ⟨ls, hls⟩ : ∃ k, k = x.els.length := ⟨_, rfl⟩
  rw [← hkd, ← hnu, ← hpc, ← hnm, ← hle, ← hlb, ← hls] at hQ
  rw [← hle] at hse
  rw [← hlb] at hsb
  rw [← hls] at hsd
  rw [← hkd, ← hnm, ← hpc, ← hnu] at hr1
  clear hkd hnm hpc hnu hle hlb hls hL1 hL2 hL3 hS hl1 hl2 hl3
  refine zae rfl ?_
  refine zab (zak ?_)
  -- the form
  have form : bareN kd nu pc lb ls = true → VA prog tb gl v222t2 [(1, .ptr b 0)] H1 (leftA [.tmp 2] Q) := by
    intro h
    rw [h, Bool.true_and] at hQ
    unfold formN at hQ
    refine zac ?_
    refine zae rfl ?_; (repeat ((refine zaa ?_; first | refine zad FpF.h (by decide) rfl ?_ | refine zaf PlF.h rfl hr1 rfl ?_ | refine za8 rfl rfl rfl UnF.h rfl hse ?_); refine zae rfl ?_))
    refine zab (zak (zac ?_))
    refine zae rfl ?_; (repeat ((refine zaa ?_; first | refine zad FpF.h (by decide) rfl ?_ | refine zaf PlF.h rfl hr1 rfl ?_); refine zae rfl ?_))
    refine zab (zam (zac ?_))
    by_cases e1 : kd = 1
    · rw [if_pos e1] at hQ
      (repeat ((refine zaa ?_; first | refine zai rfl ?_ | refine zax rfl rfl (by omega) ?_)))
      refine zab (zah rfl (zac ?_))
      by_cases h1 : le = 0
      · by_cases h2 : -1 ≤ nu
        · (repeat (((first | refine zaa ?_ | refine zav rfl ?_); first | refine zal rfl ?_ | refine zai rfl ?_ | refine zad FpF.h (by decide) rfl ?_ | refine zaf PlF.h rfl hr1 rfl ?_ | refine ze8 rfl rfl (by omega) ?_ | refine zax rfl rfl (by omega) ?_ | refine zaz rfl rfl rfl ?_)))
          refine zab (zao ⟨_, rfl, ?_⟩)
          simpa [h1, h2] using hQ
        · (repeat (((first | refine zaa ?_ | refine zav rfl ?_); first | refine zal rfl ?_ | refine zai rfl ?_ | refine zad FpF.h (by decide) rfl ?_ | refine zaf PlF.h rfl hr1 rfl ?_ | refine zgy rfl rfl (by omega) ?_ | refine zax rfl rfl (by omega) ?_ | refine zaz rfl rfl rfl ?_)))
          refine zab (zao ⟨_, rfl, ?_⟩)
          simpa [h1, h2] using hQ
      · (repeat (first | refine zbb rfl ?_ | (refine zaa ?_; first | refine zal rfl ?_ | refine zai rfl ?_ | refine zat rfl rfl (by omega) ?_ | refine za1 rfl rfl ?_)))
        refine zab (zao ⟨_, rfl, ?_⟩)
        simpa [h1] using hQ
    rw [if_neg e1] at hQ
    (repeat ((refine zaa ?_; first | refine zai rfl ?_ | refine zat rfl rfl (by omega) ?_)))
    refine zab (zag rfl (zac ?_))
    by_cases e9 : kd = 9
    · rw [if_pos e9] at hQ
      (repeat ((refine zaa ?_; first | refine zai rfl ?_ | refine zax rfl rfl (by omega) ?_)))
      refine zab (zah rfl (zac ?_))
      by_cases h2 : le = 0
      · (repeat ((refine zaa ?_; first | refine zal rfl ?_ | refine zai rfl ?_ | refine zax rfl rfl (by omega) ?_)))
        refine zab (zao ⟨_, rfl, ?_⟩)
        simpa [h2] using hQ
      · (repeat ((refine zaa ?_; first | refine zal rfl ?_ | refine zai rfl ?_ | refine zat rfl rfl (by omega) ?_)))
        refine zab (zao ⟨_, rfl, ?_⟩)
        simpa [h2] using hQ
    rw [if_neg e9] at hQ
    (repeat ((refine zaa ?_; first | refine zai rfl ?_ | refine zat rfl rfl (by omega) ?_)))
    refine zab (zag rfl (zac ?_))
    by_cases e2 : kd = 2
    · rw [if_pos e2] at hQ
      (repeat ((refine zaa ?_; first | refine zai rfl ?_ | refine zax rfl rfl (by omega) ?_)))
      refine zab (zah rfl (zac ?_))
      by_cases h2 : le = 1
      · (repeat ((refine zaa ?_; first | refine zal rfl ?_ | refine zai rfl ?_ | refine zax rfl rfl (by omega) ?_)))
        refine zab (zao ⟨_, rfl, ?_⟩)
        simpa [h2] using hQ
      · (repeat ((refine zaa ?_; first | refine zal rfl ?_ | refine zai rfl ?_ | refine zat rfl rfl (by omega) ?_)))
        refine zab (zao ⟨_, rfl, ?_⟩)
        simpa [h2] using hQ
    rw [if_neg e2] at hQ
    (repeat ((refine zaa ?_; first | refine zai rfl ?_ | refine zat rfl rfl (by omega) ?_)))
    refine zab (zag rfl (zac ?_))
    by_cases e3 : kd = 3
    · rw [if_pos e3] at hQ
      (repeat ((refine zaa ?_; first | refine zai rfl ?_ | refine zax rfl rfl (by omega) ?_)))
      refine zab (zah rfl (zac ?_))
      by_cases h2 : le = 2
      · (repeat ((refine zaa ?_; first | refine zal rfl ?_ | refine zai rfl ?_ | refine zax rfl rfl (by omega) ?_)))
        refine zab (zao ⟨_, rfl, ?_⟩)
        simpa [h2] using hQ
      · (repeat ((refine zaa ?_; first | refine zal rfl ?_ | refine zai rfl ?_ | refine zat rfl rfl (by omega) ?_)))
        refine zab (zao ⟨_, rfl, ?_⟩)
        simpa [h2] using hQ
    rw [if_neg e3] at hQ
    (repeat ((refine zaa ?_; first | refine zai rfl ?_ | refine zat rfl rfl (by omega) ?_)))
    refine zab (zag rfl (zac ?_))
    by_cases e6 : kd = 6
    · rw [if_pos e6] at hQ
      (repeat ((refine zaa ?_; first | refine zai rfl ?_ | refine zax rfl rfl (by omega) ?_)))
      refine zab (zah rfl (zac ?_))
      refine zae rfl ?_
      exact zab (zao ⟨_, rfl, hQ⟩)
    rw [if_neg e6] at hQ
    (repeat ((refine zaa ?_; first | refine zai rfl ?_ | refine zat rfl rfl (by omega) ?_)))
    refine zab (zag rfl (zac ?_))
    by_cases e7 : kd = 7
    · rw [if_pos e7] at hQ
      (repeat ((refine zaa ?_; first | refine zai rfl ?_ | refine zax rfl rfl (by omega) ?_)))
      refine zab (zah rfl (zac ?_))
      by_cases h1 : le ≤ 1
      · by_cases h2 : nm = []
        · (repeat (((first | refine zaa ?_ | refine zav rfl ?_); first | refine zal rfl ?_ | refine zai rfl ?_ | refine zad FpF.h (by decide) rfl ?_ | refine zaf PlF.h rfl hr1 rfl ?_ | refine zbq rfl rfl (decide_eq_true h2) ?_ | refine zec rfl rfl (by omega) ?_ | refine zaz rfl rfl rfl ?_)))
          refine zab (zao ⟨_, rfl, ?_⟩)
          simpa [h1, h2] using hQ
        · (repeat (((first | refine zaa ?_ | refine zav rfl ?_); first | refine zal rfl ?_ | refine zai rfl ?_ | refine zad FpF.h (by decide) rfl ?_ | refine zaf PlF.h rfl hr1 rfl ?_ | refine zbq rfl rfl (decide_eq_false h2) ?_ | refine zec rfl rfl (by omega) ?_ | refine zaz rfl rfl rfl ?_)))
          refine zab (zao ⟨_, rfl, ?_⟩)
          simpa [h1, h2] using hQ
      · (repeat (first | refine zbb rfl ?_ | (refine zaa ?_; first | refine zal rfl ?_ | refine zai rfl ?_ | refine zeo rfl rfl (by omega) ?_ | refine za1 rfl rfl ?_)))
        refine zab (zao ⟨_, rfl, ?_⟩)
        simpa [h1] using hQ
    rw [if_neg e7] at hQ
    (repeat ((refine zaa ?_; first | refine zai rfl ?_ | refine zat rfl rfl (by omega) ?_)))
    refine zab (zag rfl (zak (zac ?_)))
    have last : kd = 4 ∨ kd = 5 ∨ kd = 8 ∨ kd = 10 → ∀ l', Sb [(1, .ptr b 0), (3, .int .i64 (le : Int))] l' → VA prog tb gl v222c15 l' H1 (exitA 0 (seqA prog tb gl v222t4 (leftA [.tmp 2] Q))) := by
      intro h l' hs'
      rw [if_pos h] at hQ
      refine VA.sub hs' (zac ?_)
      by_cases h1 : le = 1
      · by_cases h2 : nm = []
        · (repeat (((first | refine zaa ?_ | refine zav rfl ?_); first | refine zal rfl ?_ | refine zai rfl ?_ | refine zad FpF.h (by decide) rfl ?_ | refine zaf PlF.h rfl hr1 rfl ?_ | refine zbq rfl rfl (decide_eq_true h2) ?_ | refine zax rfl rfl (by omega) ?_ | refine zaz rfl rfl rfl ?_)))
          refine zab (zao ⟨_, rfl, ?_⟩)
          simpa [h1, h2] using hQ
        · (repeat (((first | refine zaa ?_ | refine zav rfl ?_); first | refine zal rfl ?_ | refine zai rfl ?_ | refine zad FpF.h (by decide) rfl ?_ | refine zaf PlF.h rfl hr1 rfl ?_ | refine zbq rfl rfl (decide_eq_false h2) ?_ | refine zax rfl rfl (by omega) ?_ | refine zaz rfl rfl rfl ?_)))
          refine zab (zao ⟨_, rfl, ?_⟩)
          simpa [h1, h2] using hQ
      · (repeat (first | refine zbb rfl ?_ | (refine zaa ?_; first | refine zal rfl ?_ | refine zai rfl ?_ | refine zat rfl rfl (by omega) ?_ | refine za1 rfl rfl ?_)))
        refine zab (zao ⟨_, rfl, ?_⟩)
        simpa [h1] using hQ
    by_cases e4 : kd = 4
    · (repeat ((refine zaa ?_; first | refine zai rfl ?_ | refine zax rfl rfl (by omega) ?_)))
      refine zab (zah rfl (zan (zah rfl (last (.inl e4) _ ⟨rfl, rfl, trivial⟩))))
    (repeat ((refine zaa ?_; first | refine zai rfl ?_ | refine zat rfl rfl (by omega) ?_)))
    refine zab (zag rfl (zac ?_))
    by_cases e5 : kd = 5
    · (repeat ((refine zaa ?_; first | refine zai rfl ?_ | refine zax rfl rfl (by omega) ?_)))
      refine zab (zah rfl (zan (zah rfl (last (.inr (.inl e5)) _ ⟨rfl, rfl, trivial⟩))))
    (repeat ((refine zaa ?_; first | refine zai rfl ?_ | refine zat rfl rfl (by omega) ?_)))
    refine zab (zag rfl (zac ?_))
    by_cases e8 : kd = 8
    · (repeat ((refine zaa ?_; first | refine zai rfl ?_ | refine zax rfl rfl (by omega) ?_)))
      refine zab (zah rfl (zan (zah rfl (last (.inr (.inr (.inl e8))) _ ⟨rfl, rfl, trivial⟩))))
    (repeat ((refine zaa ?_; first | refine zai rfl ?_ | refine zat rfl rfl (by omega) ?_)))
    refine zab (zag rfl (zaw ?_))
    by_cases e10 : kd = 10
    · (repeat ((refine zaa ?_; first | refine zai rfl ?_ | refine zax rfl rfl (by omega) ?_)))
      refine zab (zah rfl (last (.inr (.inr (.inr e10))) _ ⟨rfl, rfl, trivial⟩))
    (repeat ((refine zaa ?_; first | refine zai rfl ?_ | refine zat rfl rfl (by omega) ?_)))
    rw [if_neg (by omega)] at hQ
    refine zab (zag rfl (zan (zac ?_)))
    refine zae rfl ?_
    exact zab (zao ⟨_, rfl, hQ⟩)
  have hf : bareN kd nu pc lb ls = false → ∀ l', resLA l' [.tmp 2] = some [.bool false] → (seqA prog tb gl v222t2 (leftA [.tmp 2] Q)) .ret l' H1 := by
    intro h l' h2
    rw [h, Bool.false_and] at hQ
    exact ⟨_, h2, hQ⟩
  have ht : bareN kd nu pc lb ls = true → ∀ l', Sb [(1, .ptr b 0)] l' → (seqA prog tb gl v222t2 (leftA [.tmp 2] Q)) .normal l' H1 := fun h l' hs => VA.sub hs (form h)
  clear form hQ hse
  generalize seqA prog tb gl v222t2 (leftA [.tmp 2] Q) = R at hf ht ⊢
  by_cases h2 : lb = 0 <;> by_cases h3 : ls = 0 <;>
    ((repeat' first | (refine zae rfl ?_; first | refine zbb rfl ?_ | refine zef rfl ?_ | ((first | refine zaa ?_ | refine zav rfl ?_); first | refine zal rfl ?_ | refine zaz rfl rfl rfl ?_ | refine za1 rfl rfl ?_ | refine zad FpF.h (by decide) rfl ?_ | refine zaf PlF.h rfl hr1 rfl ?_ | refine za8 rfl rfl rfl UnF.h rfl hsb ?_ | refine za8 rfl rfl rfl UnF.h rfl hsd ?_ | refine zcu rfl rfl (by omega) ?_ | refine zb9 rfl rfl (by omega) ?_ | refine zcr rfl rfl (by omega) ?_ | refine zcf rfl rfl (by omega) ?_ | refine zc7 rfl rfl (fun hc => ?_) (fun hc => ?_) | refine zqi rfl rfl (fun hc => ?_) (fun hc => ?_)) | refine zab ?_) | refine zah rfl ?_ | refine zag rfl ?_ | refine zac ?_ | refine zan ?_)
     all_goals first
       | exact zao (hf (by simp [bareN, *]) _ rfl)
       | exact ht (by simp [bareN, *]) _ ⟨rfl, trivial⟩)
end
end Go.Proofs.YtbmedhaopnhggaaGreatDoor
