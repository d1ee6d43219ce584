/-
  Whether an expression has its kind's form (syntax.plain), walked.
-/
import Derived.Test.YtbmedhaopnhggaaGreatDoorWr
namespace Go.Proofs.YtbmedhaopnhggaaGreatDoor
open Go Eng Tryz
def formE (x : Exp) : Bool :=
 if x.kind = 1 then decide (0 ≤ x.num) && decide (x.l.length = 0) else if x.kind = 2 then (decide (x.num = 0) || decide (x.num = 1)) && decide (x.l.length = 0) else if x.kind = 3 then decide (x.l.length = 0) else if x.kind = 4 then decide (x.l.length = 1)
 else if x.kind = 5 then (decide (x.name = [45]) || decide (x.name = [33])) && decide (x.l.length = 1) else if x.kind = 6 then decide (0 < levB x.name) && decide (x.l.length = 2) else false
def bareE (x : Exp) : Bool := ((!decide (x.name = [])) == (!decide (x.kind = 1) && !decide (x.kind = 2))) && (decide (x.num = 0) || decide (x.kind = 1) || decide (x.kind = 2))
def plainE (x : Exp) : Bool := bareE x && formE x
section
variable {tb : List FuncId} {gl : List (List AV)} {A : Nat → Prop} {H : Heap} {u v w : AV} {b : Nat} {s : WS} {Q : AV → Heap → Prop}
set_option maxHeartbeats 0 in
theorem plain_ok {c : List AV} {e : Exp} (hE : IsE A H c e) (hQ : ∀ H', Keep Non H H' → Q (.bool (plainE e)) H') : WpF prog tb gl 268 [.agg c] H Q := by
  have hrB : rB = 140737488351232 := rfl
  obtain ⟨v, rfl, _, _, hs, hl, hL⟩ := hE.out
  refine fa func268 b268_eq v268_eq r268_eq (.inr (by simp)) ?_
  refine zac ?_
  refine zaa (zcd rfl fun H1 hk1 hr1 => ?_)
  obtain ⟨b, hb⟩ : ∃ b, b = H.nx := ⟨_, rfl⟩
  rw [← hb] at hr1 ⊢
  have hr1 : IsRow H1 b [.int .i64 e.kind, S e.name, .int .i64 e.num, v] false false := hr1
  obtain ⟨els, hsl, _⟩ := zbc (hL.keep hk1 fun _ _ _ h => h.keep hk1)
  have hQ := hQ H1 hk1
  unfold plainE at hQ
  obtain ⟨kd, hkd⟩ : ∃ k, k = e.kind := ⟨_, rfl⟩
  obtain ⟨nm, hnm⟩ : ∃ k, k = e.name := ⟨_, rfl⟩
  obtain ⟨nu, hnu⟩ : ∃ k, k = e.num := ⟨_, rfl⟩
  obtain ⟨le, hle⟩ : ∃ k, k = e.l.length := ⟨_, rfl⟩
  have hB : bareE e = (((!decide (nm = [])) == (!decide (kd = 1) && !decide (kd = 2))) && (decide (nu = 0) || decide (kd = 1) || decide (kd = 2))) := by rw [hkd, hnm, hnu]; rfl
  have hF : formE e = (if kd = 1 then decide (0 ≤ nu) && decide (le = 0) else if kd = 2 then (decide (nu = 0) || decide (nu = 1)) && decide (le = 0) else if kd = 3 then decide (le = 0) else if kd = 4 then decide (le = 1)
      else if kd = 5 then (decide (nm = [45]) || decide (nm = [33])) && decide (le = 1) else if kd = 6 then decide (0 < levB nm) && decide (le = 2) else false) := by rw [hkd, hnm, hnu, hle]; rfl
  rw [hB, hF] at hQ
  rw [← hle] at hsl
  rw [← hkd, ← hnm, ← hnu] at hr1
  clear hB hF hkd hnm hnu hle hL hE
  refine zae rfl ?_
  refine zab (zak ?_)
  -- the form
  have form : (((!decide (nm = [])) == (!decide (kd = 1) && !decide (kd = 2))) && (decide (nu = 0) || decide (kd = 1) || decide (kd = 2))) = true → VA prog tb gl v268t2 [(1, .ptr b 0)] H1 (leftA [.tmp 2] Q) := by
    intro h
    rw [h, Bool.true_and] at hQ
    refine zak (zac ?_)
    (repeat ((refine zaa ?_; first | refine zad FpF.h (by decide) rfl ?_ | refine zaf PlF.h rfl hr1 rfl ?_)))
    refine zab (zam (zac ?_))
    by_cases e1 : kd = 1
    · rw [if_pos e1] at hQ
      (repeat ((refine zaa ?_; first | refine zai rfl ?_ | refine zax rfl rfl (by omega) ?_)))
      refine zab (zah rfl (zac ?_))
      by_cases h1 : 0 ≤ nu
      · by_cases h2 : le = 0
        · (repeat (((first | refine zaa ?_ | refine zav rfl ?_); first | refine zal rfl ?_ | refine zai rfl ?_ | refine zad FpF.h (by decide) rfl ?_ | refine zaf PlF.h rfl hr1 rfl ?_ | refine za8 rfl rfl rfl UnF.h rfl hsl ?_ | refine ze8 rfl rfl (by omega) ?_ | refine zax rfl rfl (by omega) ?_ | refine zaz rfl rfl rfl ?_)))
          refine zab (zao ⟨_, rfl, ?_⟩)
          simpa [h1, h2] using hQ
        · (repeat (((first | refine zaa ?_ | refine zav rfl ?_); first | refine zal rfl ?_ | refine zai rfl ?_ | refine zad FpF.h (by decide) rfl ?_ | refine zaf PlF.h rfl hr1 rfl ?_ | refine za8 rfl rfl rfl UnF.h rfl hsl ?_ | refine ze8 rfl rfl (by omega) ?_ | refine zat rfl rfl (by omega) ?_ | refine zaz rfl rfl rfl ?_)))
          refine zab (zao ⟨_, rfl, ?_⟩)
          simpa [h1, h2] using hQ
      · (repeat (first | refine zbb rfl ?_ | (refine zaa ?_; first | refine zal rfl ?_ | refine zai rfl ?_ | refine zad FpF.h (by decide) rfl ?_ | refine zaf PlF.h rfl hr1 rfl ?_ | refine zgy rfl rfl (by omega) ?_ | refine za1 rfl rfl ?_)))
        refine zab (zao ⟨_, rfl, ?_⟩)
        simpa [h1] using hQ
    rw [if_neg e1] at hQ
    (repeat ((refine zaa ?_; first | refine zai rfl ?_ | refine zat rfl rfl (by omega) ?_)))
    refine zab (zag rfl (zac ?_))
    by_cases e2 : kd = 2
    · rw [if_pos e2] at hQ
      (repeat ((refine zaa ?_; first | refine zai rfl ?_ | refine zax rfl rfl (by omega) ?_)))
      refine zab (zah rfl (zac ?_))
      by_cases h1 : nu = 0
      · by_cases h2 : le = 0
        · (repeat (first | refine zbb rfl ?_ | ((first | refine zaa ?_ | refine zav rfl ?_); first | refine zal rfl ?_ | refine zai rfl ?_ | refine zad FpF.h (by decide) rfl ?_ | refine zaf PlF.h rfl hr1 rfl ?_ | refine za8 rfl rfl rfl UnF.h rfl hsl ?_ | refine zax rfl rfl (by omega) ?_ | refine zaz rfl rfl rfl ?_)))
          refine zab (zao ⟨_, rfl, ?_⟩)
          simpa [h1, h2] using hQ
        · (repeat (first | refine zbb rfl ?_ | ((first | refine zaa ?_ | refine zav rfl ?_); first | refine zal rfl ?_ | refine zai rfl ?_ | refine zad FpF.h (by decide) rfl ?_ | refine zaf PlF.h rfl hr1 rfl ?_ | refine za8 rfl rfl rfl UnF.h rfl hsl ?_ | refine zat rfl rfl (by omega) ?_ | refine zax rfl rfl (by omega) ?_ | refine zaz rfl rfl rfl ?_)))
          refine zab (zao ⟨_, rfl, ?_⟩)
          simpa [h1, h2] using hQ
      · by_cases h3 : nu = 1
        · by_cases h2 : le = 0
          · (repeat (((first | refine zaa ?_ | refine zav rfl ?_); first | refine zal rfl ?_ | refine zai rfl ?_ | refine zad FpF.h (by decide) rfl ?_ | refine zaf PlF.h rfl hr1 rfl ?_ | refine za8 rfl rfl rfl UnF.h rfl hsl ?_ | refine zat rfl rfl (by omega) ?_ | refine zax rfl rfl (by omega) ?_ | refine zaz rfl rfl rfl ?_ | refine za1 rfl rfl ?_)))
            refine zab (zao ⟨_, rfl, ?_⟩)
            simpa [h3, h2] using hQ
          · (repeat (((first | refine zaa ?_ | refine zav rfl ?_); first | refine zal rfl ?_ | refine zai rfl ?_ | refine zad FpF.h (by decide) rfl ?_ | refine zaf PlF.h rfl hr1 rfl ?_ | refine za8 rfl rfl rfl UnF.h rfl hsl ?_ | refine zat rfl rfl (by omega) ?_ | refine zax rfl rfl (by omega) ?_ | refine zaz rfl rfl rfl ?_ | refine za1 rfl rfl ?_)))
            refine zab (zao ⟨_, rfl, ?_⟩)
            simpa [h3, h2] using hQ
        · (repeat (first | refine zbb rfl ?_ | ((first | refine zaa ?_ | refine zav rfl ?_); first | refine zal rfl ?_ | refine zai rfl ?_ | refine zad FpF.h (by decide) rfl ?_ | refine zaf PlF.h rfl hr1 rfl ?_ | refine zat rfl rfl (by omega) ?_ | refine za1 rfl rfl ?_)))
          refine zab (zao ⟨_, rfl, ?_⟩)
          simpa [h1, h3] using hQ
    rw [if_neg e2] at hQ
    (repeat ((refine zaa ?_; first | refine zai rfl ?_ | refine zat rfl rfl (by omega) ?_)))
    refine zab (zag rfl (zac ?_))
    by_cases e3 : kd = 3
    · rw [if_pos e3] at hQ
      (repeat ((refine zaa ?_; first | refine zai rfl ?_ | refine zax rfl rfl (by omega) ?_)))
      refine zab (zah rfl (zac ?_))
      by_cases h2 : le = 0
      · (repeat ((refine zaa ?_; first | refine zai rfl ?_ | refine zad FpF.h (by decide) rfl ?_ | refine zaf PlF.h rfl hr1 rfl ?_ | refine za8 rfl rfl rfl UnF.h rfl hsl ?_ | refine zax rfl rfl (by omega) ?_)))
        refine zab (zao ⟨_, rfl, ?_⟩)
        simpa [h2] using hQ
      · (repeat ((refine zaa ?_; first | refine zai rfl ?_ | refine zad FpF.h (by decide) rfl ?_ | refine zaf PlF.h rfl hr1 rfl ?_ | refine za8 rfl rfl rfl UnF.h rfl hsl ?_ | refine zat rfl rfl (by omega) ?_)))
        refine zab (zao ⟨_, rfl, ?_⟩)
        simpa [h2] using hQ
    rw [if_neg e3] at hQ
    (repeat ((refine zaa ?_; first | refine zai rfl ?_ | refine zat rfl rfl (by omega) ?_)))
    refine zab (zag rfl (zac ?_))
    by_cases e4 : kd = 4
    · rw [if_pos e4] at hQ
      (repeat ((refine zaa ?_; first | refine zai rfl ?_ | refine zax rfl rfl (by omega) ?_)))
      refine zab (zah rfl (zac ?_))
      by_cases h2 : le = 1
      · (repeat ((refine zaa ?_; first | refine zai rfl ?_ | refine zad FpF.h (by decide) rfl ?_ | refine zaf PlF.h rfl hr1 rfl ?_ | refine za8 rfl rfl rfl UnF.h rfl hsl ?_ | refine zax rfl rfl (by omega) ?_)))
        refine zab (zao ⟨_, rfl, ?_⟩)
        simpa [h2] using hQ
      · (repeat ((refine zaa ?_; first | refine zai rfl ?_ | refine zad FpF.h (by decide) rfl ?_ | refine zaf PlF.h rfl hr1 rfl ?_ | refine za8 rfl rfl rfl UnF.h rfl hsl ?_ | refine zat rfl rfl (by omega) ?_)))
        refine zab (zao ⟨_, rfl, ?_⟩)
        simpa [h2] using hQ
    rw [if_neg e4] at hQ
    (repeat ((refine zaa ?_; first | refine zai rfl ?_ | refine zat rfl rfl (by omega) ?_)))
    refine zab (zag rfl (zac ?_))
    by_cases e5 : kd = 5
    · rw [if_pos e5] at hQ
      (repeat ((refine zaa ?_; first | refine zai rfl ?_ | refine zax rfl rfl (by omega) ?_)))
      refine zab (zah rfl (zac ?_))
      by_cases h1 : nm = [45]
      · by_cases h2 : le = 1
        · (repeat (first | refine zbb rfl ?_ | ((first | refine zaa ?_ | refine zav rfl ?_); first | refine zal rfl ?_ | refine zai rfl ?_ | refine zad FpF.h (by decide) rfl ?_ | refine zaf PlF.h rfl hr1 rfl ?_ | refine za8 rfl rfl rfl UnF.h rfl hsl ?_ | refine zbq rfl rfl (decide_eq_true h1) ?_ | refine zax rfl rfl (by omega) ?_ | refine zaz rfl rfl rfl ?_)))
          refine zab (zao ⟨_, rfl, ?_⟩)
          simpa [h1, h2] using hQ
        · (repeat (first | refine zbb rfl ?_ | ((first | refine zaa ?_ | refine zav rfl ?_); first | refine zal rfl ?_ | refine zai rfl ?_ | refine zad FpF.h (by decide) rfl ?_ | refine zaf PlF.h rfl hr1 rfl ?_ | refine za8 rfl rfl rfl UnF.h rfl hsl ?_ | refine zbq rfl rfl (decide_eq_true h1) ?_ | refine zat rfl rfl (by omega) ?_ | refine zaz rfl rfl rfl ?_)))
          refine zab (zao ⟨_, rfl, ?_⟩)
          simpa [h1, h2] using hQ
      · by_cases h3 : nm = [33]
        · by_cases h2 : le = 1
          · (repeat (((first | refine zaa ?_ | refine zav rfl ?_); first | refine zal rfl ?_ | refine zai rfl ?_ | refine zad FpF.h (by decide) rfl ?_ | refine zaf PlF.h rfl hr1 rfl ?_ | refine za8 rfl rfl rfl UnF.h rfl hsl ?_ | refine zbq rfl rfl (decide_eq_false h1) ?_ | refine zbq rfl rfl (decide_eq_true h3) ?_ | refine zax rfl rfl (by omega) ?_ | refine zaz rfl rfl rfl ?_ | refine za1 rfl rfl ?_)))
            refine zab (zao ⟨_, rfl, ?_⟩)
            simpa [h3, h2] using hQ
          · (repeat (((first | refine zaa ?_ | refine zav rfl ?_); first | refine zal rfl ?_ | refine zai rfl ?_ | refine zad FpF.h (by decide) rfl ?_ | refine zaf PlF.h rfl hr1 rfl ?_ | refine za8 rfl rfl rfl UnF.h rfl hsl ?_ | refine zbq rfl rfl (decide_eq_false h1) ?_ | refine zbq rfl rfl (decide_eq_true h3) ?_ | refine zat rfl rfl (by omega) ?_ | refine zaz rfl rfl rfl ?_ | refine za1 rfl rfl ?_)))
            refine zab (zao ⟨_, rfl, ?_⟩)
            simpa [h3, h2] using hQ
        · (repeat (first | refine zbb rfl ?_ | ((first | refine zaa ?_ | refine zav rfl ?_); first | refine zal rfl ?_ | refine zai rfl ?_ | refine zad FpF.h (by decide) rfl ?_ | refine zaf PlF.h rfl hr1 rfl ?_ | refine zbq rfl rfl (decide_eq_false h1) ?_ | refine zbq rfl rfl (decide_eq_false h3) ?_ | refine za1 rfl rfl ?_)))
          refine zab (zao ⟨_, rfl, ?_⟩)
          simpa [h1, h3] using hQ
    rw [if_neg e5] at hQ
    (repeat ((refine zaa ?_; first | refine zai rfl ?_ | refine zat rfl rfl (by omega) ?_)))
    refine zab (zag rfl (zac ?_))
    by_cases e6 : kd = 6
    · rw [if_pos e6] at hQ
      (repeat ((refine zaa ?_; first | refine zai rfl ?_ | refine zax rfl rfl (by omega) ?_)))
      refine zab (zah rfl (zac ?_))
      refine zaa (zad FpF.h (by decide) rfl ?_)
      refine zaa (zaf PlF.h rfl hr1 rfl ?_)
      refine zaa (zaj rfl rfl rfl (zmg nm ?_))
      by_cases h1 : 0 < levB nm
      · by_cases h2 : le = 2
        · (repeat (((first | refine zaa ?_ | refine zav rfl ?_); first | refine zal rfl ?_ | refine zai rfl ?_ | refine zad FpF.h (by decide) rfl ?_ | refine zaf PlF.h rfl hr1 rfl ?_ | refine za8 rfl rfl rfl UnF.h rfl hsl ?_ | refine zcu rfl rfl (by omega) ?_ | refine zax rfl rfl (by omega) ?_ | refine zaz rfl rfl rfl ?_)))
          refine zab (zao ⟨_, rfl, ?_⟩)
          simpa [h1, h2] using hQ
        · (repeat (((first | refine zaa ?_ | refine zav rfl ?_); first | refine zal rfl ?_ | refine zai rfl ?_ | refine zad FpF.h (by decide) rfl ?_ | refine zaf PlF.h rfl hr1 rfl ?_ | refine za8 rfl rfl rfl UnF.h rfl hsl ?_ | refine zcu rfl rfl (by omega) ?_ | refine zat rfl rfl (by omega) ?_ | refine zaz rfl rfl rfl ?_)))
          refine zab (zao ⟨_, rfl, ?_⟩)
          simpa [h1, h2] using hQ
      · (repeat (first | refine zbb rfl ?_ | (refine zaa ?_; first | refine zal rfl ?_ | refine zai rfl ?_ | refine zb9 rfl rfl (by omega) ?_ | refine za1 rfl rfl ?_)))
        refine zab (zao ⟨_, rfl, ?_⟩)
        simpa [h1] using hQ
    rw [if_neg e6] at hQ
    (repeat ((refine zaa ?_; first | refine zai rfl ?_ | refine zat rfl rfl (by omega) ?_)))
    refine zab (zag rfl (zan (zac ?_)))
    refine zae rfl ?_
    exact zab (zao ⟨_, rfl, hQ⟩)
  have no : (((!decide (nm = [])) == (!decide (kd = 1) && !decide (kd = 2))) && (decide (nu = 0) || decide (kd = 1) || decide (kd = 2))) = false → ∀ l', VA prog tb gl v268c0 l' H1 (seqA prog tb gl v268t2 (leftA [.tmp 2] Q)) := by
    intro h l'
    rw [h, Bool.false_and] at hQ
    refine zac ?_
    refine zae rfl ?_
    exact zab (zao ⟨_, rfl, hQ⟩)
  refine zac ?_
  by_cases h0 : nm = [] <;> by_cases h1 : kd = 1 <;> by_cases h2 : kd = 2 <;> by_cases h3 : nu = 0 <;> first
    | omega
    | ((repeat (first | refine zbb rfl ?_ | refine zef rfl ?_ | ((first | refine zaa ?_ | refine zav rfl ?_); first | refine zal rfl ?_ | refine zad FpF.h (by decide) rfl ?_ | refine zaf PlF.h rfl hr1 rfl ?_ | refine zf8 (d := false) rfl rfl (by rw [decide_eq_true h0]; rfl) ?_ | refine zf8 (d := true) rfl rfl (by rw [decide_eq_false h0]; rfl) ?_ | refine ze7 UnF.h rfl rfl ?_ | refine zcf rfl rfl (by omega) ?_ | refine zcr rfl rfl (by omega) ?_ | refine zaz rfl rfl rfl ?_ | refine za1 rfl rfl ?_)))
       first
         | exact zab (zah rfl (no (by simp [h0, h1, h2, h3]) _))
         | exact zab (zag rfl (zan (VA.sub (l0 := [(1, .ptr b 0)]) ⟨rfl, trivial⟩ (form (by simp [h0, h1, h2, h3])))))) 
end
end Go.Proofs.YtbmedhaopnhggaaGreatDoor
