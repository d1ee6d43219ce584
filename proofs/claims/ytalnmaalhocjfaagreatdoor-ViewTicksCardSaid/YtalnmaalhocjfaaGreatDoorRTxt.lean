/-
  The document's text of any number (parallaxref01.Text), walked.
-/
import Derived.Test.YtalnmaalhocjfaaGreatDoorRNum
namespace Go.Proofs.YtalnmaalhocjfaaGreatDoor
open Go Go.Proofs.YtalnmaalhocjfaaGreatDoor.Eng
section
variable {tb : List FuncId} {gl : List (List AV)} {H : Heap} {v w : AV} {Q : AV → Heap → Prop}
set_option maxHeartbeats 0 in
theorem Zsize_ok (z : Int) (hz : -9223372036854775808 ≤ z ∧ z < 9223372036854775808) (hQ : ∀ H', Keep Non H H' → Q (.int .u64 (z.natAbs : Int)) H') : WpF Tryz.prog tb gl 82 [.int .i64 z] H Q := by
  refine fa Tryz.func82 b82_eq v82_eq r82_eq (.inr (by simp)) ?_
  refine va_seqr ?_
  refine ia_pl rfl ?_
  refine ia_nil (va_seq (va_seqr ?_))
  refine ia_pl rfl ?_
  by_cases h0 : z < 0
  · refine ia_op (oa_lssW rfl rfl (decide_eq_true h0) (ia_nil (va_condT rfl (va_seqr ?_))))
    refine ia_pl rfl ?_
    refine ia_op (oa_call rfl rfl rfl (Neg_ok z (by omega) fun H1 hk1 => ?_))
    refine ia_op (oa_convW (c := (z.natAbs : Int)) UnF.h UnF.h rfl (wrap_i64_u z.natAbs (by omega)) ?_)
    refine ia_pl rfl ?_
    exact ia_nil (va_ret ⟨_, rfl, hQ _ hk1⟩)
  · refine ia_op (oa_lssW rfl rfl (decide_eq_false h0) (ia_nil (va_condF rfl (va_skip (va_seqr ?_)))))
    refine ia_pl rfl ?_
    refine ia_op (oa_convW (c := (z.natAbs : Int)) UnF.h UnF.h rfl (wrapE_u64 (by omega) (by omega) (by omega)) ?_)
    refine ia_pl rfl ?_
    exact ia_nil (va_ret ⟨_, rfl, hQ _ (.refl _ _)⟩)
set_option maxHeartbeats 0 in
theorem ZText_ok (z : Int) (hz : -9223372036854775808 ≤ z ∧ z < 9223372036854775808) (hQ : ∀ H', Keep Non H H' → Q (S (textZ z)) H') : WpF Tryz.prog tb gl 39 [.int .i64 z] H Q := by
  obtain ⟨n, hzn⟩ : ∃ n, n = z.natAbs := ⟨_, rfl⟩
  have hn : n ≤ 9223372036854775808 := by omega
  refine fa Tryz.func39 b39_eq v39_eq r39_eq (.inr (by simp)) ?_
  refine va_seqr ?_
  (repeat (first | refine ia_op (oa_move rfl ?_) | refine ia_op (oa_assign rfl ?_) | refine ia_op (oa_lss rfl rfl ?_) | refine ia_op (oa_gtr rfl rfl ?_) | refine ia_op (oa_leq rfl rfl ?_) | refine ia_op (oa_geq rfl rfl ?_) | refine ia_op (oa_eql rfl rfl ?_) | refine ia_op (oa_neq rfl rfl ?_) | refine ia_op (oa_addW rfl rfl (wrap_i64 (by omega) (by omega)) ?_) | refine ia_op (oa_addW rfl rfl (wrap_u64 (by omega) (by omega)) ?_) | refine ia_op (oa_addW rfl rfl (wrap_u8 (by omega) (by omega)) ?_) | refine ia_op (oa_subW rfl rfl (wrap_i64 (by omega) (by omega)) ?_) | refine ia_op (oa_subW rfl rfl (wrap_u64 (by omega) (by omega)) ?_) | refine ia_op (oa_subW rfl rfl (wrap_u8 (by omega) (by omega)) ?_) | refine ia_op (oa_not rfl ?_) | refine ia_op (oa_nilCheck rfl ?_) | refine ia_op (oa_extract rfl rfl ?_) | refine ia_op (oa_convW UnF.h UnF.h rfl (wrap_i64 (by omega) (by omega)) ?_) | refine ia_op (oa_convW UnF.h UnF.h rfl (wrap_u64 (by omega) (by omega)) ?_) | refine ia_op (oa_convW UnF.h UnF.h rfl (wrap_u8 (by omega) (by omega)) ?_)))
  refine ia_nil (va_seqr ?_)
  (repeat (first | refine ia_op (oa_move rfl ?_) | refine ia_op (oa_assign rfl ?_) | refine ia_op (oa_lss rfl rfl ?_) | refine ia_op (oa_gtr rfl rfl ?_) | refine ia_op (oa_leq rfl rfl ?_) | refine ia_op (oa_geq rfl rfl ?_) | refine ia_op (oa_eql rfl rfl ?_) | refine ia_op (oa_neq rfl rfl ?_) | refine ia_op (oa_addW rfl rfl (wrap_i64 (by omega) (by omega)) ?_) | refine ia_op (oa_addW rfl rfl (wrap_u64 (by omega) (by omega)) ?_) | refine ia_op (oa_addW rfl rfl (wrap_u8 (by omega) (by omega)) ?_) | refine ia_op (oa_subW rfl rfl (wrap_i64 (by omega) (by omega)) ?_) | refine ia_op (oa_subW rfl rfl (wrap_u64 (by omega) (by omega)) ?_) | refine ia_op (oa_subW rfl rfl (wrap_u8 (by omega) (by omega)) ?_) | refine ia_op (oa_not rfl ?_) | refine ia_op (oa_nilCheck rfl ?_) | refine ia_op (oa_extract rfl rfl ?_) | refine ia_op (oa_convW UnF.h UnF.h rfl (wrap_i64 (by omega) (by omega)) ?_) | refine ia_op (oa_convW UnF.h UnF.h rfl (wrap_u64 (by omega) (by omega)) ?_) | refine ia_op (oa_convW UnF.h UnF.h rfl (wrap_u8 (by omega) (by omega)) ?_)))
  refine ia_nil (va_seqr ?_)
  refine ia_op (oa_move rfl ?_)
  refine ia_op (oa_call rfl rfl rfl (Zsize_ok z hz fun H0 hk0 => ?_))
  rw [← hzn]
  (repeat (first | refine ia_op (oa_move rfl ?_) | refine ia_op (oa_assign rfl ?_) | refine ia_op (oa_lss rfl rfl ?_) | refine ia_op (oa_gtr rfl rfl ?_) | refine ia_op (oa_leq rfl rfl ?_) | refine ia_op (oa_geq rfl rfl ?_) | refine ia_op (oa_eql rfl rfl ?_) | refine ia_op (oa_neq rfl rfl ?_) | refine ia_op (oa_addW rfl rfl (wrap_i64 (by omega) (by omega)) ?_) | refine ia_op (oa_addW rfl rfl (wrap_u64 (by omega) (by omega)) ?_) | refine ia_op (oa_addW rfl rfl (wrap_u8 (by omega) (by omega)) ?_) | refine ia_op (oa_subW rfl rfl (wrap_i64 (by omega) (by omega)) ?_) | refine ia_op (oa_subW rfl rfl (wrap_u64 (by omega) (by omega)) ?_) | refine ia_op (oa_subW rfl rfl (wrap_u8 (by omega) (by omega)) ?_) | refine ia_op (oa_not rfl ?_) | refine ia_op (oa_nilCheck rfl ?_) | refine ia_op (oa_extract rfl rfl ?_) | refine ia_op (oa_convW UnF.h UnF.h rfl (wrap_i64 (by omega) (by omega)) ?_) | refine ia_op (oa_convW UnF.h UnF.h rfl (wrap_u64 (by omega) (by omega)) ?_) | refine ia_op (oa_convW UnF.h UnF.h rfl (wrap_u8 (by omega) (by omega)) ?_)))
  refine ia_nil (va_seq (va_block ?_))
  have hp : (10 : Nat) ^ 19 = 10000000000000000000 := by rfl
  have hlen := textN_len 19 n (by rw [hp]; omega) (by omega)
  clear hp
  refine va_loop (fun (a : Nat × List UInt8) => [(0, .int .i64 z), (3, S a.2), (4, .int .u64 (a.1 : Int))])
    (fun a H' => Keep Non H0 H' ∧ a.1 ≤ n ∧ ((a.2 = [] ∧ a.1 = n) ∨ (a.2 ≠ [] ∧ a.1 = 0 ∧ textN n = a.2) ∨ (a.2 ≠ [] ∧ a.1 ≠ 0 ∧ textN n = textN a.1 ++ a.2))) (fun a => if a.2 = [] then a.1 + 1 else a.1) ?_ (n, []) _ H0 ⟨rfl, rfl, rfl, trivial⟩ ⟨.refl _ _, Nat.le_refl _, .inl ⟨rfl, rfl⟩⟩
  rintro ⟨u, s⟩ H1 ⟨hk, hu, hI⟩
  simp only at hu hI
  have hsl : s.length ≤ 19 := by
    rcases hI with ⟨rfl, _⟩ | ⟨_, _, h⟩ | ⟨_, _, h⟩
    · simp
    · rw [← h]; exact hlen
    · rw [h, List.length_append] at hlen; omega
  -- a round
  have body : ∀ l2 : Fm, (s = [] ∨ u ≠ 0) → Sb [(0, .int .i64 z), (3, S s), (4, .int .u64 (u : Int))] l2 → VA Tryz.prog tb gl (.block 1 v39k0) l2 H1 (roundA (fun (a : Nat × List UInt8) => [(0, .int .i64 z), (3, S a.2), (4, .int .u64 (a.1 : Int))])
      (fun a H' => Keep Non H0 H' ∧ a.1 ≤ n ∧ ((a.2 = [] ∧ a.1 = n) ∨ (a.2 ≠ [] ∧ a.1 = 0 ∧ textN n = a.2) ∨ (a.2 ≠ [] ∧ a.1 ≠ 0 ∧ textN n = textN a.1 ++ a.2))) (fun a => if a.2 = [] then a.1 + 1 else a.1) (u, s) (exitA 0 (seqA Tryz.prog tb gl v39t4 (leftA [.tmp 2] Q)))) := by
    intro l2 hor h2
    refine VA.sub h2 (va_block (va_seqr ?_))
    refine ia_op (oa_move rfl ?_)
    refine ia_op (oa_remW (c := ((u % 10 : Nat) : Int)) rfl rfl (by decide) rfl ?_)
    refine ia_op (oa_addW (c := ((48 + u % 10 : Nat) : Int)) rfl rfl (wrapE_u64 (by omega) (by omega) (by omega)) ?_)
    (repeat (first | refine ia_op (oa_move rfl ?_) | refine ia_op (oa_assign rfl ?_) | refine ia_op (oa_lss rfl rfl ?_) | refine ia_op (oa_gtr rfl rfl ?_) | refine ia_op (oa_leq rfl rfl ?_) | refine ia_op (oa_geq rfl rfl ?_) | refine ia_op (oa_eql rfl rfl ?_) | refine ia_op (oa_neq rfl rfl ?_) | refine ia_op (oa_addW rfl rfl (wrap_i64 (by omega) (by omega)) ?_) | refine ia_op (oa_addW rfl rfl (wrap_u64 (by omega) (by omega)) ?_) | refine ia_op (oa_addW rfl rfl (wrap_u8 (by omega) (by omega)) ?_) | refine ia_op (oa_subW rfl rfl (wrap_i64 (by omega) (by omega)) ?_) | refine ia_op (oa_subW rfl rfl (wrap_u64 (by omega) (by omega)) ?_) | refine ia_op (oa_subW rfl rfl (wrap_u8 (by omega) (by omega)) ?_) | refine ia_op (oa_not rfl ?_) | refine ia_op (oa_nilCheck rfl ?_) | refine ia_op (oa_extract rfl rfl ?_) | refine ia_op (oa_convW UnF.h UnF.h rfl (wrap_i64 (by omega) (by omega)) ?_) | refine ia_op (oa_convW UnF.h UnF.h rfl (wrap_u64 (by omega) (by omega)) ?_) | refine ia_op (oa_convW UnF.h UnF.h rfl (wrap_u8 (by omega) (by omega)) ?_)))
    refine ia_op (oa_newSlice (n := 1) ElF.h (by decide) rfl rfl fun H2 hk2 hr2 => ?_)
    have hu8 : AV.int .u8 ((48 + u % 10 : Nat) : Int) = u8 (UInt8.ofNat (48 + u % 10)) := by
      have h1 : (UInt8.ofNat (48 + u % 10)).toNat = 48 + u % 10 := by rw [UInt8.toNat_ofNat']; omega
      simp only [u8, h1]
    rw [hu8] at hr2
    refine ia_op (oa_toS (bs := [UInt8.ofNat (48 + u % 10)]) UnF.h UnF.h UnF.h rfl (IsRow.sl (es := 1) (n := 1) hr2 rfl (Nat.le_refl 1)) ?_)
    refine ia_op (oa_move rfl ?_)
    refine ia_op (oa_sadd rfl rfl (by simp only [List.length_singleton]; have : pow63 = 9223372036854775808 := rfl; omega) ?_)
    refine ia_op (oa_assign rfl (ia_nil (va_reg ?_)))
    refine ia_op (oa_move rfl ?_)
    refine ia_op (oa_quoW (c := ((u / 10 : Nat) : Int)) rfl rfl (by decide) (wrap_u64 (z := ((u / 10 : Nat) : Int)) (by omega) (by omega)) ?_)
    refine ia_op (oa_assign rfl (ia_nil ⟨(u / 10, UInt8.ofNat (48 + u % 10) :: s), ?_, ⟨rfl, rfl, rfl, trivial⟩, hk.trans0 hk2, by simp only; omega, ?_⟩))
    · show (if UInt8.ofNat (48 + u % 10) :: s = [] then u / 10 + 1 else u / 10) < (if s = [] then u + 1 else u)
      rw [if_neg (by simp)]
      rcases hor with h | h
      · rw [if_pos h]; omega
      · split <;> omega
    · have ht : textN n = textN u ++ s := by
        rcases hI with ⟨h1, h3⟩ | ⟨h1, h3, _⟩ | ⟨_, _, h3⟩
        · rw [h1, h3, List.append_nil]
        · rcases hor with h | h
          · exact absurd h h1
          · exact absurd h3 h
        · exact h3
      simp only
      by_cases h10 : u < 10
      · refine .inr (.inl ⟨by simp, by omega, ?_⟩)
        rw [ht, textN_small h10, show u % 10 = u by omega]; rfl
      · refine .inr (.inr ⟨by simp, by omega, ?_⟩)
        rw [ht, textN_big h10, List.append_assoc]; rfl
  refine va_seq (va_seqr ?_)
  refine ia_op (oa_move rfl ?_)
  by_cases hs : s = []
  · refine ia_op (oa_seqlW (q := []) rfl rfl (decide_eq_true hs) ?_)
    refine ia_op (oa_move rfl ?_)
    refine ia_gdN rfl (ia_gdN rfl ?_)
    refine ia_op (oa_pickT rfl rfl rfl (ia_nil (va_condT rfl (va_skip ?_))))
    exact body _ (.inl hs) ⟨rfl, rfl, rfl, trivial⟩
  refine ia_op (oa_seqlW (q := []) rfl rfl (decide_eq_false hs) ?_)
  refine ia_op (oa_move rfl ?_)
  refine ia_gdY rfl (oa_move rfl ?_)
  by_cases hu0 : u = 0
  · refine ia_gdY rfl (oa_gtrW rfl rfl (decide_eq_false (by omega)) ?_)
    refine ia_op (oa_pickF rfl rfl (ia_nil (va_condF rfl (va_exit ?_))))
    have hfin : textN n = s := by
      rcases hI with ⟨h1, _⟩ | ⟨_, _, h⟩ | ⟨_, h3, _⟩
      · exact absurd h1 hs
      · exact h
      · exact absurd hu0 h3
    refine va_seq (va_seqr ?_)
    refine ia_op (oa_move rfl ?_)
    by_cases hz0 : z < 0
    · refine ia_op (oa_lssW rfl rfl (decide_eq_true hz0) (ia_nil (va_condT rfl (va_reg ?_))))
      refine ia_pl rfl ?_
      refine ia_op (oa_sadd rfl rfl (by simp only [List.length_singleton]; have : pow63 = 9223372036854775808 := rfl; omega) ?_)
      refine ia_pl rfl ?_
      refine ia_nil (va_seqr ?_)
      refine ia_pl rfl ?_
      refine ia_nil (va_ret ⟨_, rfl, ?_⟩)
      have : textZ z = [45] ++ s := by rw [textZ, if_pos hz0, ← hzn, hfin]; rfl
      rw [← this]
      exact hQ _ (hk0.trans0 hk)
    · refine ia_op (oa_lssW rfl rfl (decide_eq_false hz0) (ia_nil (va_condF rfl (va_skip (va_seqr ?_)))))
      refine ia_pl rfl ?_
      refine ia_nil (va_ret ⟨_, rfl, ?_⟩)
      have : textZ z = s := by rw [textZ, if_neg hz0, ← hzn, hfin]
      rw [← this]
      exact hQ _ (hk0.trans0 hk)
  · refine ia_gdY rfl (oa_gtrW rfl rfl (decide_eq_true (by omega)) ?_)
    refine ia_op (oa_pickF rfl rfl (ia_nil (va_condT rfl (va_skip ?_))))
    exact body _ (.inr hu0) ⟨rfl, rfl, rfl, trivial⟩
end
end Go.Proofs.YtalnmaalhocjfaaGreatDoor
