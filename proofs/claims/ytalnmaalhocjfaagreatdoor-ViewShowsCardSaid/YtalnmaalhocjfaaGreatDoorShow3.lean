/-
  Rows shown about one: the document's way, walked, and the law. Conditions: the listed variables are laid.
-/
import Derived.Test.YtalnmaalhocjfaaGreatDoorShow2
namespace Go.Proofs.YtalnmaalhocjfaaGreatDoor
open Go Go.Proofs.YtalnmaalhocjfaaGreatDoor.Eng
/-! facts about types -/
theorem un_28 : Tryz.prog.underlying 28 = some (.int .i64) := by kernel_rfl
/-! f4: parallax/parallaxlaw17.ViewShows, parameters #[39, 3, 3, 3, 3] -/
def v4l0h0 : CV := .seq (.reg [.op (some 17) (.move (.tmp 12)),
    .op (some 18) (.move (.tmp 0)),
    .op (some 19) (.call ⟨.builtin .len, #[(.tmp 18)], #[39]⟩),
    .op (some 20) (.binOp .lss 3 (.tmp 17) (.tmp 19) 3),
    .op (some 21) (.move (.tmp 20)),
    .gd 21 true (some 22) (.move (.tmp 11)),
    .gd 21 true (some 23) (.binOp .leq 3 (.tmp 22) (.const (.int .i64 6000)) 3),
    .op (some 24) (.pick (.tmp 21) (.tmp 23) (.const (.bool false)))])
  (.cond (.tmp 24) (.skip) (.exit 0))
def v4l0t1 : CV := .seq (.block 1 (.reg [.op (some 27) (.move (.tmp 11)),
    .op (some 28) (.binOp .add 3 (.tmp 27) (.const (.int .i64 1)) 3),
    .op (some 29) (.move (.tmp 0)),
    .op (some 30) (.move (.tmp 12)),
    .op (some 31) (.indexAddr 39 (.tmp 29) (.tmp 30)),
    .op (some 32) (.fieldAddr 40 (.tmp 31) 0),
    .op (some 33) (.load 9 (.tmp 32)),
    .op (some 34) (.call ⟨.builtin .len, #[(.tmp 33)], #[9]⟩),
    .op (some 35) (.binOp .add 3 (.tmp 28) (.tmp 34) 3),
    .op (some 11) (.assign (.tmp 35))]))
  (.reg [.op (some 25) (.move (.tmp 12)),
    .op (some 26) (.binOp .add 3 (.tmp 25) (.const (.int .i64 1)) 3),
    .op (some 12) (.assign (.tmp 26))])
def v4l0 : CV := .seq v4l0h0 v4l0t1
def v4h2 : CV := .seq (.reg [.op (some 12) (.assign (.const (.int .i64 0)))])
  (.block 0 (.loop v4l0))
def v4c1 : CV := .seq (.reg [.op (some 38) (.call ⟨.value (.func 8), #[], #[]⟩),
    .op (some 10) (.assign (.tmp 38))])
  (.ret)
def v4h3 : CV := .seq (.reg [.op (some 36) (.move (.tmp 11)),
    .op (some 37) (.binOp .gtr 3 (.tmp 36) (.const (.int .i64 6000)) 3)])
  (.cond (.tmp 37) v4c1 (.skip))
def v4t6 : CV := .seq (.reg [.op (some 54) (.move (.tmp 13)),
    .op (some 55) (.move (.tmp 15)),
    .op (some 56) (.call ⟨.value (.func 16), #[(.tmp 54), (.tmp 55)], #[41, 41]⟩),
    .op (some 57) (.move (.tmp 56)),
    .gd 57 true (some 58) (.move (.tmp 14)),
    .gd 57 true (some 59) (.move (.tmp 16)),
    .gd 57 true (some 60) (.binOp .eql 28 (.tmp 58) (.tmp 59) 28),
    .op (some 61) (.pick (.tmp 57) (.tmp 60) (.const (.bool false))),
    .op (some 62) (.move (.tmp 61)),
    .gd 62 true (some 63) (.move (.tmp 0)),
    .gd 62 true (some 64) (.call ⟨.value (.func 14), #[(.tmp 63)], #[39]⟩),
    .gd 62 true (some 65) (.move (.tmp 3)),
    .gd 62 true (some 66) (.move (.tmp 4)),
    .gd 62 true (some 67) (.call ⟨.value (.func 17), #[(.tmp 64), (.tmp 65), (.tmp 66)], #[27, 3, 3]⟩),
    .gd 62 true (some 68) (.move (.tmp 0)),
    .gd 62 true (some 69) (.move (.tmp 3)),
    .gd 62 true (some 70) (.move (.tmp 4)),
    .gd 62 true (some 71) (.call ⟨.value (.func 18), #[(.tmp 68), (.tmp 69), (.tmp 70)], #[39, 3, 3]⟩),
    .gd 62 true (some 72) (.binOp .eql 3 (.tmp 67) (.tmp 71) 3),
    .op (some 73) (.pick (.tmp 62) (.tmp 72) (.const (.bool false))),
    .op (some 74) (.move (.tmp 73)),
    .gd 74 true (some 75) (.call ⟨.value (.func 8), #[], #[]⟩),
    .op (some 76) (.pick (.tmp 74) (.tmp 75) (.const (.bool false))),
    .op (some 10) (.assign (.tmp 76))])
  (.ret)
def v4t5 : CV := .seq (.reg [.op (some 48) (.move (.tmp 0)),
    .op (some 49) (.move (.tmp 1)),
    .op (some 50) (.move (.tmp 2)),
    .op (some 51) (.call ⟨.value (.func 15), #[(.tmp 48), (.tmp 49), (.tmp 50)], #[39, 3, 3]⟩),
    .op (some 47) (.move (.tmp 51)),
    .op (some 52) (.extract (.tmp 47) 0),
    .op (some 53) (.extract (.tmp 47) 1),
    .op (some 15) (.assign (.tmp 52)),
    .op (some 16) (.assign (.tmp 53))]) v4t6
def v4t4 : CV := .seq (.reg [.op (some 40) (.move (.tmp 0)),
    .op (some 41) (.call ⟨.value (.func 14), #[(.tmp 40)], #[39]⟩),
    .op (some 42) (.move (.tmp 1)),
    .op (some 43) (.move (.tmp 2)),
    .op (some 44) (.call ⟨.value (.func 13), #[(.tmp 41), (.tmp 42), (.tmp 43)], #[27, 3, 3]⟩),
    .op (some 39) (.move (.tmp 44)),
    .op (some 45) (.extract (.tmp 39) 0),
    .op (some 46) (.extract (.tmp 39) 1),
    .op (some 13) (.assign (.tmp 45)),
    .op (some 14) (.assign (.tmp 46))]) v4t5
def v4t3 : CV := .seq v4h3 v4t4
def v4t2 : CV := .seq v4h2 v4t3
def v4t1 : CV := .seq (.reg [.op (some 11) (.assign (.const (.int .i64 0)))]) v4t2
def v4 : CV := .seq (.reg [.op (some 10) (.assign (.const (.bool false)))]) v4t1
noncomputable def b4 : Code := Tryz.f4.body.getD .skip
theorem b4_eq : Tryz.f4.body = some b4 := by kernel_rfl
theorem v4_eq : viewC Tryz.prog b4 = some v4 := by kernel_rfl
theorem r4_eq : Tryz.f4.results.toList = [.tmp 10] := by kernel_rfl

section
variable {tb : List FuncId} {gl : List (List AV)} {H : Heap} {v w : AV} {Q : AV → Heap → Prop}
set_option maxHeartbeats 0 in
/-- the number is made wide -/
theorem wider {m most : Nat} {R : Ex → Fm → Heap → Prop} {a : Int} {u : AV} {i lst : Nat} {n' : Int} (h4 : (textN m).length ≤ 4) (hm : most ≤ 4)
    (hR : ∀ l2, Sb [(0, v), (1, .int .i64 a), (2, .int .i64 n'), (8, .int .i64 (lst : Int)), (9, .int .i64 (most : Int)), (10, u), (11, .int .i64 (i : Int)), (12, S (List.replicate (most - (textN m).length) 32 ++ textN m))] l2 → R (.exit 4) l2 H)
    {l' : Fm} (hs : Sb [(0, v), (1, .int .i64 a), (2, .int .i64 n'), (8, .int .i64 (lst : Int)), (9, .int .i64 (most : Int)), (10, u), (11, .int .i64 (i : Int)), (12, S (textN m))] l') : VA Tryz.prog tb gl (.loop v15l4) l' H R := by
  refine va_loop (fun (j : Nat) => [(0, v), (1, .int .i64 a), (2, .int .i64 n'), (8, .int .i64 (lst : Int)), (9, .int .i64 (most : Int)), (10, u), (11, .int .i64 (i : Int)), (12, S (List.replicate j 32 ++ textN m))])
    (fun j H' => H' = H ∧ j ≤ most - (textN m).length) (fun j => most - j) ?_ 0 l' H hs ⟨rfl, Nat.zero_le _⟩
  rintro j H' ⟨rfl, hj⟩
  have hlen : (List.replicate j 32 ++ textN m).length = j + (textN m).length := by rw [List.length_append, List.length_replicate]
  refine va_seq (va_seqr ?_)
  refine ia_op (oa_move rfl ?_)
  refine ia_op (oa_lenS rfl rfl rfl (by first | with_reducible exact un_2 | with_reducible exact un_182 | with_reducible exact un_3 | with_reducible exact un_5 | with_reducible exact un_181 | with_reducible exact un_183 | with_reducible exact un_9 | with_reducible exact un_41 | with_reducible exact un_39 | with_reducible exact un_27 | with_reducible exact un_28) rfl ?_)
  rw [hlen]
  refine ia_op (oa_move rfl ?_)
  by_cases hc : j + (textN m).length < most
  · refine ia_op (oa_lssW rfl rfl (decide_eq_true (by omega)) (ia_nil (va_condT rfl (va_skip ?_))))
    refine va_block (va_reg ?_)
    refine ia_op (oa_move rfl ?_)
    refine ia_op (oa_sadd (p := [32]) rfl rfl (by rw [hlen]; have : pow63 = 9223372036854775808 := rfl; simp only [List.length_singleton]; omega) ?_)
    refine ia_op (oa_assign rfl (ia_nil ⟨j + 1, ?_, ⟨rfl, rfl, rfl, rfl, rfl, rfl, rfl, rfl, trivial⟩, rfl, by omega⟩))
    show most - (j + 1) < most - j
    omega
  · refine ia_op (oa_lssW rfl rfl (decide_eq_false (by omega)) (ia_nil (va_condF rfl (va_exit (hR _ ⟨rfl, rfl, rfl, rfl, rfl, rfl, rfl, ?_, trivial⟩)))))
    rw [show most - (textN m).length = j by omega]
    rfl
theorem line_eq {most : Nat} {a : Int} {i : Nat} {r : Rw} {sg : UInt8} (h : sg = if (i : Int) = a then 62 else 32) : ([sg, 32] ++ (List.replicate (most - (textN (i + 1)).length) 32 ++ textN (i + 1)) ++ [32]) ++ r.text = lineR most a i r := by
  subst h
  simp [lineR]
set_option maxHeartbeats 0 in
theorem rShow_ok {rs : List Rw} (hs : sumR rs ≤ 6000) (hv : IsSl H v 3 rs.length (rs.flatMap rwC)) {a n : Int} (ha : -9223372036854775808 ≤ a ∧ a < 9223372036854775808) (hn : -9223372036854775808 ≤ n ∧ n < 9223372036854775808)
    (hQ : ∀ u H', Keep Non H H' → IsSl H' u 1 (showR rs a n).1.length ((showR rs a n).1.flatMap txC) → Q (.tup [u, .int .i64 (showR rs a n).2]) H') : WpF Tryz.prog tb gl 15 [v, .int .i64 a, .int .i64 n] H Q := by
  have hlim : limit = 1000000 := rfl
  have hp63 : pow63 = 9223372036854775808 := rfl
  have hlen := len_le_sumR rs
  refine fa Tryz.func15 b15_eq v15_eq r15_eq (.inr (by simp)) ?_
  refine va_seqr ?_
  (repeat (first | refine ia_op (oa_move rfl ?_) | refine ia_op (oa_assign rfl ?_) | refine ia_op (oa_lss rfl rfl ?_) | refine ia_op (oa_gtr rfl rfl ?_) | refine ia_op (oa_leq rfl rfl ?_) | refine ia_op (oa_geq rfl rfl ?_) | refine ia_op (oa_eql rfl rfl ?_) | refine ia_op (oa_neq rfl rfl ?_) | refine ia_op (oa_addW rfl rfl (wrap_i64 (by omega) (by omega)) ?_) | refine ia_op (oa_addW rfl rfl (wrap_u64 (by omega) (by omega)) ?_) | refine ia_op (oa_addW rfl rfl (wrap_u8 (by omega) (by omega)) ?_) | refine ia_op (oa_subW rfl rfl (wrap_i64 (by omega) (by omega)) ?_) | refine ia_op (oa_subW rfl rfl (wrap_u64 (by omega) (by omega)) ?_) | refine ia_op (oa_subW rfl rfl (wrap_u8 (by omega) (by omega)) ?_) | refine ia_op (oa_not rfl ?_) | refine ia_op (oa_extract rfl rfl ?_) | refine ia_op (oa_convW (by first | with_reducible exact un_2 | with_reducible exact un_182 | with_reducible exact un_3 | with_reducible exact un_5 | with_reducible exact un_181 | with_reducible exact un_183 | with_reducible exact un_9 | with_reducible exact un_41 | with_reducible exact un_39 | with_reducible exact un_27 | with_reducible exact un_28) (by first | with_reducible exact un_2 | with_reducible exact un_182 | with_reducible exact un_3 | with_reducible exact un_5 | with_reducible exact un_181 | with_reducible exact un_183 | with_reducible exact un_9 | with_reducible exact un_41 | with_reducible exact un_39 | with_reducible exact un_27 | with_reducible exact un_28) rfl (wrap_i64 (by omega) (by omega)) ?_) | refine ia_op (oa_convW (by first | with_reducible exact un_2 | with_reducible exact un_182 | with_reducible exact un_3 | with_reducible exact un_5 | with_reducible exact un_181 | with_reducible exact un_183 | with_reducible exact un_9 | with_reducible exact un_41 | with_reducible exact un_39 | with_reducible exact un_27 | with_reducible exact un_28) (by first | with_reducible exact un_2 | with_reducible exact un_182 | with_reducible exact un_3 | with_reducible exact un_5 | with_reducible exact un_181 | with_reducible exact un_183 | with_reducible exact un_9 | with_reducible exact un_41 | with_reducible exact un_39 | with_reducible exact un_27 | with_reducible exact un_28) rfl (wrap_u64 (by omega) (by omega)) ?_) | refine ia_op (oa_convW (by first | with_reducible exact un_2 | with_reducible exact un_182 | with_reducible exact un_3 | with_reducible exact un_5 | with_reducible exact un_181 | with_reducible exact un_183 | with_reducible exact un_9 | with_reducible exact un_41 | with_reducible exact un_39 | with_reducible exact un_27 | with_reducible exact un_28) (by first | with_reducible exact un_2 | with_reducible exact un_182 | with_reducible exact un_3 | with_reducible exact un_5 | with_reducible exact un_181 | with_reducible exact un_183 | with_reducible exact un_9 | with_reducible exact un_41 | with_reducible exact un_39 | with_reducible exact un_27 | with_reducible exact un_28) rfl (wrap_u8 (by omega) (by omega)) ?_)))
  refine ia_nil (va_seq (va_seqr ?_))
  refine ia_op (oa_move rfl ?_)
  have bad1 : a < 0 ∨ (rs.length : Int) ≤ a → ∀ l2 : Fm, VA Tryz.prog tb gl v15c0 l2 H (seqA Tryz.prog tb gl v15t2 (leftA [.tmp 6, .tmp 7] Q)) := by
    intro h l2
    refine va_seqr ?_
    refine ia_op (oa_assign rfl (ia_op (oa_assign rfl (ia_nil (va_ret ⟨_, rfl, ?_⟩)))))
    have := hQ .nils H (.refl _ _)
    rw [showR, if_pos h] at this
    exact this (IsSl.nil H 1)
  by_cases ha0 : a < 0
  · refine ia_op (oa_lssW rfl rfl (decide_eq_true ha0) ?_)
    refine ia_op (oa_move rfl ?_)
    iterate 4 refine ia_gdN rfl ?_
    refine ia_op (oa_pickT rfl rfl rfl (ia_nil (va_condT rfl (bad1 (.inl ha0) _))))
  refine ia_op (oa_lssW rfl rfl (decide_eq_false ha0) ?_)
  refine ia_op (oa_move rfl ?_)
  refine ia_gdY rfl (oa_move rfl (ia_gdY rfl (oa_move rfl ?_)))
  refine ia_gdY rfl (oa_lenSl rfl rfl rfl (by first | with_reducible exact un_2 | with_reducible exact un_182 | with_reducible exact un_3 | with_reducible exact un_5 | with_reducible exact un_181 | with_reducible exact un_183 | with_reducible exact un_9 | with_reducible exact un_41 | with_reducible exact un_39 | with_reducible exact un_27 | with_reducible exact un_28) rfl hv ?_)
  by_cases hal : (rs.length : Int) ≤ a
  · refine ia_gdY rfl (oa_geqW rfl rfl (decide_eq_true hal) ?_)
    refine ia_op (oa_pickF rfl rfl (ia_nil (va_condT rfl (bad1 (.inr hal) _))))
  refine ia_gdY rfl (oa_geqW rfl rfl (decide_eq_false hal) ?_)
  refine ia_op (oa_pickF rfl rfl (ia_nil (va_condF rfl (va_skip (va_seq (va_seqr ?_))))))
  refine ia_op (oa_move rfl ?_)
  by_cases hn0 : n < 0
  · refine ia_op (oa_lssW rfl rfl (decide_eq_true hn0) (ia_nil (va_condT rfl (va_seqr ?_))))
    refine ia_op (oa_assign rfl (ia_op (oa_assign rfl (ia_nil (va_ret ⟨_, rfl, ?_⟩)))))
    have := hQ .nils H (.refl _ _)
    rw [showR, if_neg (by omega), if_pos hn0] at this
    exact this (IsSl.nil H 1)
  refine ia_op (oa_lssW rfl rfl (decide_eq_false hn0) (ia_nil (va_condF rfl (va_skip ?_))))
  rw [showR, if_neg (by omega), if_neg hn0] at hQ
  obtain ⟨f, hf⟩ : ∃ f, f = fromR a n := ⟨_, rfl⟩
  obtain ⟨t, ht⟩ : ∃ t, t = toR rs.length a n := ⟨_, rfl⟩
  rw [← hf, ← ht] at hQ
  have hf1 : (f : Int) = if n < a then a - n else 0 := by
    rw [hf, fromR]
    split <;> omega
  have ht1 : (t : Int) = if n < (rs.length : Int) - 1 - a then a + n + 1 else rs.length := by
    rw [ht, toR]
    split <;> omega
  have hfa : (f : Int) ≤ a := by split at hf1 <;> omega
  have hat : a < (t : Int) := by split at ht1 <;> omega
  have htl : t ≤ rs.length := by split at ht1 <;> omega
  obtain ⟨n', hn'⟩ : ∃ n' : Int, n' = if (rs.length : Int) < n then (rs.length : Int) else n := ⟨_, rfl⟩
  have hn1 : 0 ≤ n' ∧ n' ≤ rs.length := by split at hn' <;> omega
  have hff : ∀ i : Nat, i < t → (n' < a - i ↔ i < f) := by
    intro i hi
    split at hn' <;> split at hf1 <;> omega
  have htt : ∀ k : Int, a ≤ k → k < rs.length → k - a ≤ n' → ¬ (k + 1 < rs.length ∧ k - a < n') → k + 1 = t := by
    intro k h1 h2 h3 h4
    split at hn' <;> split at ht1 <;> omega
  have hm4 : mostR t ≤ 4 := textN_4 (by omega)
  -- the last row is known
  have main : ∀ l2 : Fm, Sb [(0, v), (1, .int .i64 a), (2, .int .i64 n'), (8, .int .i64 ((t : Int) - 1))] l2 → VA Tryz.prog tb gl v15t6 l2 H (leftA [.tmp 6, .tmp 7] Q) := by
    intro l2 h2
    obtain ⟨lst, hlst⟩ : ∃ lst : Nat, (t : Int) - 1 = (lst : Int) := ⟨t - 1, by omega⟩
    rw [hlst] at h2
    refine VA.sub h2 (va_seqr ?_)
    refine ia_op (oa_move rfl ?_)
    refine ia_op (oa_addW (c := (t : Int)) rfl rfl (wrapE_i64 (by omega) (by omega) (by omega)) ?_)
    refine ia_op (oa_call rfl rfl rfl (RText_ok t (by omega) fun H1 hk1 => ?_))
    refine ia_op (oa_lenS rfl rfl rfl (by first | with_reducible exact un_2 | with_reducible exact un_182 | with_reducible exact un_3 | with_reducible exact un_5 | with_reducible exact un_181 | with_reducible exact un_183 | with_reducible exact un_9 | with_reducible exact un_41 | with_reducible exact un_39 | with_reducible exact un_27 | with_reducible exact un_28) rfl ?_)
    refine ia_op (oa_assign rfl (ia_nil (va_seqr ?_)))
    refine ia_op (oa_assign rfl (ia_nil (va_seq (va_seqr ?_))))
    refine ia_op (oa_assign rfl (ia_nil (va_block ?_)))
    refine va_loop (fun (b : Nat × AV) => [(0, v), (1, .int .i64 a), (2, .int .i64 n'), (8, .int .i64 (lst : Int)), (9, .int .i64 (mostR t : Int)), (10, b.2), (11, .int .i64 (b.1 : Int))])
      (fun b H' => Keep Non H H' ∧ b.1 ≤ t ∧ Own H' b.2 1 (linesR rs a (mostR t) f b.1).length ((linesR rs a (mostR t) f b.1).flatMap txC) ∧ ∀ c, ownB b.2 c → H.nx ≤ c) (fun b => t - b.1) ?_ (0, .nils) _ H1 ⟨rfl, rfl, rfl, rfl, rfl, rfl, rfl, trivial⟩
      ⟨hk1, Nat.zero_le _, by rw [linesR_nil (Nat.zero_le f)]; exact .nil _ _, fun _ h => h.elim⟩
    rintro ⟨i, u⟩ H2 ⟨hk, hit, ho, hno⟩
    simp only at hit ho hno
    refine va_seq (va_seqr ?_)
    refine ia_op (oa_move rfl (ia_op (oa_move rfl ?_)))
    by_cases hi : i = t
    · refine ia_op (oa_leqW rfl rfl (decide_eq_false (by simp only; omega)) (ia_nil (va_condF rfl (va_exit (va_seqr ?_)))))
      subst hi
      refine ia_op (oa_move rfl (ia_op (oa_assign rfl (ia_op (oa_assign rfl (ia_nil (va_ret ⟨_, rfl, ?_⟩)))))))
      exact hQ _ _ hk ho.sl
    refine ia_op (oa_leqW rfl rfl (decide_eq_true (by simp only; omega)) (ia_nil (va_condT rfl (va_skip ?_))))
    obtain ⟨r, hr⟩ : ∃ r, rs[i]? = some r := ⟨_, List.getElem?_eq_getElem (by omega)⟩
    have hchunk := flat_chunk rwC_len rs i r hr
    have htx := text_le_sumR rs r (List.mem_of_getElem? hr)
    have hcnt : (linesR rs a (mostR t) f i).length = i - f := linesR_len
    have h4 := textN_4 (t := i + 1) (by omega)
    -- a round is over
    have next : ∀ (l3 : Fm) (H' : Heap) (u' : AV), Keep Non H H' → Own H' u' 1 (linesR rs a (mostR t) f (i + 1)).length ((linesR rs a (mostR t) f (i + 1)).flatMap txC) → (∀ c, ownB u' c → H.nx ≤ c) → Sb [(0, v), (1, .int .i64 a), (2, .int .i64 n'), (8, .int .i64 (lst : Int)), (9, .int .i64 (mostR t : Int)), (10, u'), (11, .int .i64 (i : Int))] l3 →
        VA Tryz.prog tb gl (.reg [.op (some 51) (.move (.tmp 11)), .op (some 52) (.binOp .add 3 (.tmp 51) (.const (.int .i64 1)) 3), .op (some 11) (.assign (.tmp 52))]) l3 H'
          (roundA (fun (b : Nat × AV) => [(0, v), (1, .int .i64 a), (2, .int .i64 n'), (8, .int .i64 (lst : Int)), (9, .int .i64 (mostR t : Int)), (10, b.2), (11, .int .i64 (b.1 : Int))])
      (fun b H' => Keep Non H H' ∧ b.1 ≤ t ∧ Own H' b.2 1 (linesR rs a (mostR t) f b.1).length ((linesR rs a (mostR t) f b.1).flatMap txC) ∧ ∀ c, ownB b.2 c → H.nx ≤ c) (fun b => t - b.1) (i, u) (exitA 2 (seqA Tryz.prog tb gl v15t9 (leftA [.tmp 6, .tmp 7] Q)))) := by
      intro l3 H' u' hk' ho' hno' h3
      refine VA.sub h3 (va_reg ?_)
      refine ia_op (oa_move rfl ?_)
      refine ia_op (oa_addW (c := ((i + 1 : Nat) : Int)) rfl rfl (wrapE_i64 (by omega) (by omega) (by omega)) ?_)
      refine ia_op (oa_assign rfl (ia_nil ⟨(i + 1, u'), ?_, ⟨rfl, rfl, rfl, rfl, rfl, rfl, rfl, trivial⟩, hk', by simp only; omega, ho', hno'⟩))
      show t - (i + 1) < t - i
      omega
    refine va_seq (va_block (va_seq (va_seqr ?_)))
    refine ia_op (oa_move rfl (ia_op (oa_move rfl ?_)))
    refine ia_op (oa_subW (c := a - (i : Int)) rfl rfl (wrapE_i64 rfl (by omega) (by omega)) ?_)
    refine ia_op (oa_move rfl ?_)
    by_cases hif : i < f
    · refine ia_op (oa_gtrW rfl rfl (decide_eq_true ((hff i (by omega)).2 hif)) (ia_nil (va_condT rfl (va_exit ?_))))
      refine next _ H2 u hk ?_ hno ⟨rfl, rfl, rfl, rfl, rfl, rfl, rfl, trivial⟩
      rw [linesR_nil (by omega)] at ho ⊢
      exact ho
    refine ia_op (oa_gtrW rfl rfl (decide_eq_false (fun h => hif ((hff i (by omega)).1 h))) (ia_nil (va_condF rfl (va_skip (va_seqr ?_)))))
    refine ia_op (oa_move rfl ?_)
    refine ia_op (oa_addW (c := ((i + 1 : Nat) : Int)) rfl rfl (wrapE_i64 (by omega) (by omega) (by omega)) ?_)
    refine ia_op (oa_call rfl rfl rfl (RText_ok (i + 1) (by omega) fun H3 hk3 => ?_))
    refine ia_op (oa_assign rfl (ia_nil (va_seq (va_block (wider (m := i + 1) h4 hm4 (fun l4 hl4 => ?_) ⟨rfl, rfl, rfl, rfl, rfl, rfl, rfl, rfl, trivial⟩)))))
    have hpl : (List.replicate (mostR t - (textN (i + 1)).length) (32 : UInt8) ++ textN (i + 1)).length ≤ 8 := by rw [List.length_append, List.length_replicate]; omega
    refine VA.sub hl4 (va_seqr ?_)
    refine ia_op (oa_move rfl (ia_op (oa_move rfl ?_)))
    have hK3 := hk.trans0 hk3
    by_cases hia : (i : Int) = a
    · refine ia_op (oa_eqlW rfl rfl (decide_eq_true hia) (ia_nil (va_condT rfl (va_reg ?_))))
      refine ia_op (oa_move rfl (ia_op (oa_move rfl ?_)))
      refine ia_op (oa_sadd (p := [62, 32]) rfl rfl (by simp only [List.length_cons, List.length_nil]; omega) ?_)
      refine ia_op (oa_sadd (q := [32]) rfl rfl (by simp only [List.length_cons, List.length_nil, List.length_append, List.length_replicate]; omega) ?_)
      refine ia_op (oa_move rfl (ia_op (oa_move rfl ?_)))
      refine ia_op (oa_indexSl (by first | with_reducible exact un_2 | with_reducible exact un_182 | with_reducible exact un_3 | with_reducible exact un_5 | with_reducible exact un_181 | with_reducible exact un_183 | with_reducible exact un_9 | with_reducible exact un_41 | with_reducible exact un_39 | with_reducible exact un_27 | with_reducible exact un_28) (by first | with_reducible exact sz_5 | with_reducible exact sz_9 | with_reducible exact sz_40 | with_reducible exact sz_32) rfl (hv.keep0 hK3) rfl rfl (by omega) fun q0 hp => ?_)
      rw [hchunk] at hp
      refine ia_op (oa_pfieldAddr (by first | with_reducible exact fp_40_0 | with_reducible exact fp_40_1 | with_reducible exact fp_40_2 | with_reducible exact fp_32_1 | with_reducible exact fp_32_2 | with_reducible exact fp_32_0) (by decide) rfl hp fun q1 hp' => ?_)
      refine ia_op (oa_pload (by first | with_reducible exact pl_9 | with_reducible exact pl_3 | with_reducible exact pl_32) rfl hp' rfl ?_)
      refine ia_op (oa_sadd rfl rfl (by simp only [List.length_cons, List.length_nil, List.length_append, List.length_replicate]; omega) ?_)
      rw [line_eq (a := a) (sg := 62) (by rw [if_pos hia])]
      refine ia_op (oa_newSlice (n := 1) (by first | with_reducible exact el_41 | with_reducible exact el_183 | with_reducible exact el_39 | with_reducible exact el_27) (by decide) rfl rfl fun H6 hk6 hr6 => ?_)
      refine ia_op (oa_append rfl rfl rfl (by first | with_reducible exact el_41 | with_reducible exact el_183 | with_reducible exact el_39 | with_reducible exact el_27) (.inl (by first | with_reducible exact un_2 | with_reducible exact un_182 | with_reducible exact un_3 | with_reducible exact un_5 | with_reducible exact un_181 | with_reducible exact un_183 | with_reducible exact un_9 | with_reducible exact un_41 | with_reducible exact un_39 | with_reducible exact un_27 | with_reducible exact un_28)) rfl (ho.keep0 (hk3.trans0 hk6)) rfl (IsRow.sl (es := 1) (n := 1) hr6 rfl (Nat.le_refl 1)).elems rfl rfl (by omega) fun u' H7 ho7 hk7 hb7 => ?_)
      refine ia_op (oa_assign rfl (ia_nil (next _ H7 u' ((hK3.trans0 hk6).trans hk7 fun c hc => .inr (hno c hc)) ?_ (fun c hc => (hb7 c hc).elim (hno c) fun h => Nat.le_trans (hK3.trans0 hk6).nx h) ⟨rfl, rfl, rfl, rfl, rfl, rfl, rfl, trivial⟩)))
      rw [linesR_snoc (by omega) hr, List.length_append, List.flatMap_append]
      exact ho7
    · refine ia_op (oa_eqlW rfl rfl (decide_eq_false hia) (ia_nil (va_condF rfl (va_reg ?_))))
      refine ia_op (oa_move rfl (ia_op (oa_move rfl ?_)))
      refine ia_op (oa_sadd (p := [32, 32]) rfl rfl (by simp only [List.length_cons, List.length_nil]; omega) ?_)
      refine ia_op (oa_sadd (q := [32]) rfl rfl (by simp only [List.length_cons, List.length_nil, List.length_append, List.length_replicate]; omega) ?_)
      refine ia_op (oa_move rfl (ia_op (oa_move rfl ?_)))
      refine ia_op (oa_indexSl (by first | with_reducible exact un_2 | with_reducible exact un_182 | with_reducible exact un_3 | with_reducible exact un_5 | with_reducible exact un_181 | with_reducible exact un_183 | with_reducible exact un_9 | with_reducible exact un_41 | with_reducible exact un_39 | with_reducible exact un_27 | with_reducible exact un_28) (by first | with_reducible exact sz_5 | with_reducible exact sz_9 | with_reducible exact sz_40 | with_reducible exact sz_32) rfl (hv.keep0 hK3) rfl rfl (by omega) fun q0 hp => ?_)
      rw [hchunk] at hp
      refine ia_op (oa_pfieldAddr (by first | with_reducible exact fp_40_0 | with_reducible exact fp_40_1 | with_reducible exact fp_40_2 | with_reducible exact fp_32_1 | with_reducible exact fp_32_2 | with_reducible exact fp_32_0) (by decide) rfl hp fun q1 hp' => ?_)
      refine ia_op (oa_pload (by first | with_reducible exact pl_9 | with_reducible exact pl_3 | with_reducible exact pl_32) rfl hp' rfl ?_)
      refine ia_op (oa_sadd rfl rfl (by simp only [List.length_cons, List.length_nil, List.length_append, List.length_replicate]; omega) ?_)
      rw [line_eq (a := a) (sg := 32) (by rw [if_neg hia])]
      refine ia_op (oa_newSlice (n := 1) (by first | with_reducible exact el_41 | with_reducible exact el_183 | with_reducible exact el_39 | with_reducible exact el_27) (by decide) rfl rfl fun H6 hk6 hr6 => ?_)
      refine ia_op (oa_append rfl rfl rfl (by first | with_reducible exact el_41 | with_reducible exact el_183 | with_reducible exact el_39 | with_reducible exact el_27) (.inl (by first | with_reducible exact un_2 | with_reducible exact un_182 | with_reducible exact un_3 | with_reducible exact un_5 | with_reducible exact un_181 | with_reducible exact un_183 | with_reducible exact un_9 | with_reducible exact un_41 | with_reducible exact un_39 | with_reducible exact un_27 | with_reducible exact un_28)) rfl (ho.keep0 (hk3.trans0 hk6)) rfl (IsRow.sl (es := 1) (n := 1) hr6 rfl (Nat.le_refl 1)).elems rfl rfl (by omega) fun u' H7 ho7 hk7 hb7 => ?_)
      refine ia_op (oa_assign rfl (ia_nil (next _ H7 u' ((hK3.trans0 hk6).trans hk7 fun c hc => .inr (hno c hc)) ?_ (fun c hc => (hb7 c hc).elim (hno c) fun h => Nat.le_trans (hK3.trans0 hk6).nx h) ⟨rfl, rfl, rfl, rfl, rfl, rfl, rfl, trivial⟩)))
      rw [linesR_snoc (by omega) hr, List.length_append, List.flatMap_append]
      exact ho7
  -- the last row is sought
  have seek : ∀ l2 : Fm, Sb [(0, v), (1, .int .i64 a), (2, .int .i64 n')] l2 → VA Tryz.prog tb gl v15t4 l2 H (leftA [.tmp 6, .tmp 7] Q) := by
    intro l2 h2
    refine VA.sub h2 (va_seqr ?_)
    refine ia_op (oa_move rfl ?_)
    refine ia_op (oa_assign rfl (ia_nil (va_seq (va_block ?_))))
    refine va_loop (fun (k : Nat) => [(0, v), (1, .int .i64 a), (2, .int .i64 n'), (8, .int .i64 (k : Int))]) (fun k H' => H' = H ∧ a ≤ (k : Int) ∧ k < rs.length ∧ (k : Int) - a ≤ n') (fun k => rs.length - k) ?_ a.toNat _ H ⟨rfl, rfl, rfl, by rw [show ((a.toNat : Nat) : Int) = a by omega]; rfl, trivial⟩ ⟨rfl, by omega, by omega, by omega⟩
    rintro k H' ⟨rfl, h1, h3, h5⟩
    refine va_seq (va_seqr ?_)
    refine ia_op (oa_move rfl ?_)
    refine ia_op (oa_addW (c := ((k + 1 : Nat) : Int)) rfl rfl (wrapE_i64 (by omega) (by omega) (by omega)) ?_)
    refine ia_op (oa_move rfl ?_)
    refine ia_op (oa_lenSl rfl rfl rfl (by first | with_reducible exact un_2 | with_reducible exact un_182 | with_reducible exact un_3 | with_reducible exact un_5 | with_reducible exact un_181 | with_reducible exact un_183 | with_reducible exact un_9 | with_reducible exact un_41 | with_reducible exact un_39 | with_reducible exact un_27 | with_reducible exact un_28) rfl hv ?_)
    have done : ¬ ((k : Int) + 1 < rs.length ∧ (k : Int) - a < n') → ∀ l3 : Fm, Sb [(0, v), (1, .int .i64 a), (2, .int .i64 n'), (8, .int .i64 (k : Int))] l3 → VA Tryz.prog tb gl v15t6 l3 H' (leftA [.tmp 6, .tmp 7] Q) := by
      intro h l3 hl3
      have := htt k h1 (by omega) h5 h
      refine main l3 ?_
      rw [show (t : Int) - 1 = (k : Int) by omega]
      exact hl3
    by_cases hk1 : k + 1 < rs.length
    · refine ia_op (oa_lssW rfl rfl (decide_eq_true (by omega)) ?_)
      refine ia_op (oa_move rfl ?_)
      refine ia_gdY rfl (oa_move rfl (ia_gdY rfl (oa_move rfl ?_)))
      refine ia_gdY rfl (oa_subW (c := (k : Int) - a) rfl rfl (wrapE_i64 rfl (by omega) (by omega)) ?_)
      refine ia_gdY rfl (oa_move rfl ?_)
      by_cases hc : (k : Int) - a < n'
      · refine ia_gdY rfl (oa_lssW rfl rfl (decide_eq_true hc) ?_)
        refine ia_op (oa_pickT rfl rfl rfl (ia_nil (va_condT rfl (va_skip ?_))))
        refine va_block (va_reg ?_)
        refine ia_op (oa_move rfl ?_)
        refine ia_op (oa_addW (c := ((k + 1 : Nat) : Int)) rfl rfl (wrapE_i64 (by omega) (by omega) (by omega)) ?_)
        refine ia_op (oa_assign rfl (ia_nil ⟨k + 1, ?_, ⟨rfl, rfl, rfl, rfl, trivial⟩, rfl, by omega, by omega, by omega⟩))
        show rs.length - (k + 1) < rs.length - k
        omega
      · refine ia_gdY rfl (oa_lssW rfl rfl (decide_eq_false hc) ?_)
        refine ia_op (oa_pickT rfl rfl rfl (ia_nil (va_condF rfl (va_exit (done (fun h => hc h.2) _ ⟨rfl, rfl, rfl, rfl, trivial⟩)))))
    · refine ia_op (oa_lssW rfl rfl (decide_eq_false (by omega)) ?_)
      refine ia_op (oa_move rfl ?_)
      iterate 5 refine ia_gdN rfl ?_
      refine ia_op (oa_pickF rfl rfl (ia_nil (va_condF rfl (va_exit (done (fun h => by omega) _ ⟨rfl, rfl, rfl, rfl, trivial⟩)))))
  refine va_seq (va_seqr ?_)
  refine ia_op (oa_move rfl (ia_op (oa_move rfl ?_)))
  refine ia_op (oa_lenSl rfl rfl rfl (by first | with_reducible exact un_2 | with_reducible exact un_182 | with_reducible exact un_3 | with_reducible exact un_5 | with_reducible exact un_181 | with_reducible exact un_183 | with_reducible exact un_9 | with_reducible exact un_41 | with_reducible exact un_39 | with_reducible exact un_27 | with_reducible exact un_28) rfl hv ?_)
  by_cases hc : (rs.length : Int) < n
  · rw [if_pos hc] at hn'
    refine ia_op (oa_gtrW rfl rfl (decide_eq_true hc) (ia_nil (va_condT rfl (va_reg ?_))))
    refine ia_op (oa_move rfl ?_)
    refine ia_op (oa_lenSl rfl rfl rfl (by first | with_reducible exact un_2 | with_reducible exact un_182 | with_reducible exact un_3 | with_reducible exact un_5 | with_reducible exact un_181 | with_reducible exact un_183 | with_reducible exact un_9 | with_reducible exact un_41 | with_reducible exact un_39 | with_reducible exact un_27 | with_reducible exact un_28) rfl hv ?_)
    refine ia_op (oa_assign rfl (ia_nil (seek _ ⟨rfl, rfl, by rw [hn']; rfl, trivial⟩)))
  · rw [if_neg hc] at hn'
    refine ia_op (oa_gtrW rfl rfl (decide_eq_false hc) (ia_nil (va_condF rfl (va_skip ?_))))
    exact seek _ ⟨rfl, rfl, by rw [hn']; rfl, trivial⟩
end
section
variable {gl : List (List AV)} {H : Heap} {v : AV}
set_option maxHeartbeats 0 in
theorem shows_ok (hlaid : Laid gl H) {rs : List Rw} (hmax : rs.length < 9223372036854775808) (hltx : ∀ r ∈ rs, r.text.length < 4611686018427387904) (hv : IsSlR H v 3 rs.length (rs.flatMap rwC)) {a n p m : Int} (ha : -9223372036854775808 ≤ a ∧ a < 9223372036854775808) (hn : -9223372036854775808 ≤ n ∧ n < 9223372036854775808) :
    WpF Tryz.prog [8] gl 4 [v, .int .i64 a, .int .i64 n, .int .i64 p, .int .i64 m] H fun r _ => r = .bool true := by
  refine fa Tryz.func4 b4_eq v4_eq r4_eq (.inr (by simp)) ?_
  refine va_seqr ?_
  (repeat (first | refine ia_op (oa_move rfl ?_) | refine ia_op (oa_assign rfl ?_) | refine ia_op (oa_lss rfl rfl ?_) | refine ia_op (oa_gtr rfl rfl ?_) | refine ia_op (oa_leq rfl rfl ?_) | refine ia_op (oa_geq rfl rfl ?_) | refine ia_op (oa_eql rfl rfl ?_) | refine ia_op (oa_neq rfl rfl ?_) | refine ia_op (oa_addW rfl rfl (wrap_i64 (by omega) (by omega)) ?_) | refine ia_op (oa_addW rfl rfl (wrap_u64 (by omega) (by omega)) ?_) | refine ia_op (oa_addW rfl rfl (wrap_u8 (by omega) (by omega)) ?_) | refine ia_op (oa_subW rfl rfl (wrap_i64 (by omega) (by omega)) ?_) | refine ia_op (oa_subW rfl rfl (wrap_u64 (by omega) (by omega)) ?_) | refine ia_op (oa_subW rfl rfl (wrap_u8 (by omega) (by omega)) ?_) | refine ia_op (oa_not rfl ?_) | refine ia_op (oa_extract rfl rfl ?_) | refine ia_op (oa_convW (by first | with_reducible exact un_2 | with_reducible exact un_182 | with_reducible exact un_3 | with_reducible exact un_5 | with_reducible exact un_181 | with_reducible exact un_183 | with_reducible exact un_9 | with_reducible exact un_41 | with_reducible exact un_39 | with_reducible exact un_27 | with_reducible exact un_28) (by first | with_reducible exact un_2 | with_reducible exact un_182 | with_reducible exact un_3 | with_reducible exact un_5 | with_reducible exact un_181 | with_reducible exact un_183 | with_reducible exact un_9 | with_reducible exact un_41 | with_reducible exact un_39 | with_reducible exact un_27 | with_reducible exact un_28) rfl (wrap_i64 (by omega) (by omega)) ?_) | refine ia_op (oa_convW (by first | with_reducible exact un_2 | with_reducible exact un_182 | with_reducible exact un_3 | with_reducible exact un_5 | with_reducible exact un_181 | with_reducible exact un_183 | with_reducible exact un_9 | with_reducible exact un_41 | with_reducible exact un_39 | with_reducible exact un_27 | with_reducible exact un_28) (by first | with_reducible exact un_2 | with_reducible exact un_182 | with_reducible exact un_3 | with_reducible exact un_5 | with_reducible exact un_181 | with_reducible exact un_183 | with_reducible exact un_9 | with_reducible exact un_41 | with_reducible exact un_39 | with_reducible exact un_27 | with_reducible exact un_28) rfl (wrap_u64 (by omega) (by omega)) ?_) | refine ia_op (oa_convW (by first | with_reducible exact un_2 | with_reducible exact un_182 | with_reducible exact un_3 | with_reducible exact un_5 | with_reducible exact un_181 | with_reducible exact un_183 | with_reducible exact un_9 | with_reducible exact un_41 | with_reducible exact un_39 | with_reducible exact un_27 | with_reducible exact un_28) (by first | with_reducible exact un_2 | with_reducible exact un_182 | with_reducible exact un_3 | with_reducible exact un_5 | with_reducible exact un_181 | with_reducible exact un_183 | with_reducible exact un_9 | with_reducible exact un_41 | with_reducible exact un_39 | with_reducible exact un_27 | with_reducible exact un_28) rfl (wrap_u8 (by omega) (by omega)) ?_)))
  refine ia_nil (va_seqr ?_)
  (repeat (first | refine ia_op (oa_move rfl ?_) | refine ia_op (oa_assign rfl ?_) | refine ia_op (oa_lss rfl rfl ?_) | refine ia_op (oa_gtr rfl rfl ?_) | refine ia_op (oa_leq rfl rfl ?_) | refine ia_op (oa_geq rfl rfl ?_) | refine ia_op (oa_eql rfl rfl ?_) | refine ia_op (oa_neq rfl rfl ?_) | refine ia_op (oa_addW rfl rfl (wrap_i64 (by omega) (by omega)) ?_) | refine ia_op (oa_addW rfl rfl (wrap_u64 (by omega) (by omega)) ?_) | refine ia_op (oa_addW rfl rfl (wrap_u8 (by omega) (by omega)) ?_) | refine ia_op (oa_subW rfl rfl (wrap_i64 (by omega) (by omega)) ?_) | refine ia_op (oa_subW rfl rfl (wrap_u64 (by omega) (by omega)) ?_) | refine ia_op (oa_subW rfl rfl (wrap_u8 (by omega) (by omega)) ?_) | refine ia_op (oa_not rfl ?_) | refine ia_op (oa_extract rfl rfl ?_) | refine ia_op (oa_convW (by first | with_reducible exact un_2 | with_reducible exact un_182 | with_reducible exact un_3 | with_reducible exact un_5 | with_reducible exact un_181 | with_reducible exact un_183 | with_reducible exact un_9 | with_reducible exact un_41 | with_reducible exact un_39 | with_reducible exact un_27 | with_reducible exact un_28) (by first | with_reducible exact un_2 | with_reducible exact un_182 | with_reducible exact un_3 | with_reducible exact un_5 | with_reducible exact un_181 | with_reducible exact un_183 | with_reducible exact un_9 | with_reducible exact un_41 | with_reducible exact un_39 | with_reducible exact un_27 | with_reducible exact un_28) rfl (wrap_i64 (by omega) (by omega)) ?_) | refine ia_op (oa_convW (by first | with_reducible exact un_2 | with_reducible exact un_182 | with_reducible exact un_3 | with_reducible exact un_5 | with_reducible exact un_181 | with_reducible exact un_183 | with_reducible exact un_9 | with_reducible exact un_41 | with_reducible exact un_39 | with_reducible exact un_27 | with_reducible exact un_28) (by first | with_reducible exact un_2 | with_reducible exact un_182 | with_reducible exact un_3 | with_reducible exact un_5 | with_reducible exact un_181 | with_reducible exact un_183 | with_reducible exact un_9 | with_reducible exact un_41 | with_reducible exact un_39 | with_reducible exact un_27 | with_reducible exact un_28) rfl (wrap_u64 (by omega) (by omega)) ?_) | refine ia_op (oa_convW (by first | with_reducible exact un_2 | with_reducible exact un_182 | with_reducible exact un_3 | with_reducible exact un_5 | with_reducible exact un_181 | with_reducible exact un_183 | with_reducible exact un_9 | with_reducible exact un_41 | with_reducible exact un_39 | with_reducible exact un_27 | with_reducible exact un_28) (by first | with_reducible exact un_2 | with_reducible exact un_182 | with_reducible exact un_3 | with_reducible exact un_5 | with_reducible exact un_181 | with_reducible exact un_183 | with_reducible exact un_9 | with_reducible exact un_41 | with_reducible exact un_39 | with_reducible exact un_27 | with_reducible exact un_28) rfl (wrap_u8 (by omega) (by omega)) ?_)))
  refine ia_nil (va_seq (va_seqr ?_))
  (repeat (first | refine ia_op (oa_move rfl ?_) | refine ia_op (oa_assign rfl ?_) | refine ia_op (oa_lss rfl rfl ?_) | refine ia_op (oa_gtr rfl rfl ?_) | refine ia_op (oa_leq rfl rfl ?_) | refine ia_op (oa_geq rfl rfl ?_) | refine ia_op (oa_eql rfl rfl ?_) | refine ia_op (oa_neq rfl rfl ?_) | refine ia_op (oa_addW rfl rfl (wrap_i64 (by omega) (by omega)) ?_) | refine ia_op (oa_addW rfl rfl (wrap_u64 (by omega) (by omega)) ?_) | refine ia_op (oa_addW rfl rfl (wrap_u8 (by omega) (by omega)) ?_) | refine ia_op (oa_subW rfl rfl (wrap_i64 (by omega) (by omega)) ?_) | refine ia_op (oa_subW rfl rfl (wrap_u64 (by omega) (by omega)) ?_) | refine ia_op (oa_subW rfl rfl (wrap_u8 (by omega) (by omega)) ?_) | refine ia_op (oa_not rfl ?_) | refine ia_op (oa_extract rfl rfl ?_) | refine ia_op (oa_convW (by first | with_reducible exact un_2 | with_reducible exact un_182 | with_reducible exact un_3 | with_reducible exact un_5 | with_reducible exact un_181 | with_reducible exact un_183 | with_reducible exact un_9 | with_reducible exact un_41 | with_reducible exact un_39 | with_reducible exact un_27 | with_reducible exact un_28) (by first | with_reducible exact un_2 | with_reducible exact un_182 | with_reducible exact un_3 | with_reducible exact un_5 | with_reducible exact un_181 | with_reducible exact un_183 | with_reducible exact un_9 | with_reducible exact un_41 | with_reducible exact un_39 | with_reducible exact un_27 | with_reducible exact un_28) rfl (wrap_i64 (by omega) (by omega)) ?_) | refine ia_op (oa_convW (by first | with_reducible exact un_2 | with_reducible exact un_182 | with_reducible exact un_3 | with_reducible exact un_5 | with_reducible exact un_181 | with_reducible exact un_183 | with_reducible exact un_9 | with_reducible exact un_41 | with_reducible exact un_39 | with_reducible exact un_27 | with_reducible exact un_28) (by first | with_reducible exact un_2 | with_reducible exact un_182 | with_reducible exact un_3 | with_reducible exact un_5 | with_reducible exact un_181 | with_reducible exact un_183 | with_reducible exact un_9 | with_reducible exact un_41 | with_reducible exact un_39 | with_reducible exact un_27 | with_reducible exact un_28) rfl (wrap_u64 (by omega) (by omega)) ?_) | refine ia_op (oa_convW (by first | with_reducible exact un_2 | with_reducible exact un_182 | with_reducible exact un_3 | with_reducible exact un_5 | with_reducible exact un_181 | with_reducible exact un_183 | with_reducible exact un_9 | with_reducible exact un_41 | with_reducible exact un_39 | with_reducible exact un_27 | with_reducible exact un_28) (by first | with_reducible exact un_2 | with_reducible exact un_182 | with_reducible exact un_3 | with_reducible exact un_5 | with_reducible exact un_181 | with_reducible exact un_183 | with_reducible exact un_9 | with_reducible exact un_41 | with_reducible exact un_39 | with_reducible exact un_27 | with_reducible exact un_28) rfl (wrap_u8 (by omega) (by omega)) ?_)))
  refine ia_nil (va_block ?_)
  -- behind the count
  have main : ∀ (k : Nat) (l2 : Fm), (k ≤ 6000 → sumR rs ≤ 6000) → Sb [(0, v), (1, .int .i64 a), (2, .int .i64 n), (3, .int .i64 p), (4, .int .i64 m), (11, .int .i64 (k : Int))] l2 → VA Tryz.prog [8] gl v4t3 l2 H (leftA [.tmp 10] fun r _ => r = .bool true) := by
    intro k l2 hk6 h2
    refine VA.sub h2 (va_seq (va_seqr ?_))
    refine ia_op (oa_move rfl ?_)
    by_cases hk : 6000 < k
    · refine ia_op (oa_gtrW rfl rfl (decide_eq_true (by omega)) (ia_nil (va_condT rfl (va_seqr ?_))))
      refine ia_op (oa_known rfl hlaid ?_)
      refine ia_op (oa_assign rfl (ia_nil (va_ret ⟨_, rfl, rfl⟩)))
    have hs := hk6 (by omega)
    have hlen := len_le_sumR rs
    refine ia_op (oa_gtrW rfl rfl (decide_eq_false (by omega)) (ia_nil (va_condF rfl (va_skip (va_seqr ?_)))))
    refine ia_op (oa_move rfl ?_)
    refine ia_op (oa_call rfl rfl rfl (Own_ok (by omega) hv.sl fun u1 H1 hk1 ho1 => ?_))
    refine ia_op (oa_move rfl (ia_op (oa_move rfl ?_)))
    refine ia_op (oa_call rfl rfl rfl (vShow_ok hs ho1.sl ha hn fun u2 H2 hk2 hs2 => ?_))
    (repeat (first | refine ia_op (oa_move rfl ?_) | refine ia_op (oa_assign rfl ?_) | refine ia_op (oa_lss rfl rfl ?_) | refine ia_op (oa_gtr rfl rfl ?_) | refine ia_op (oa_leq rfl rfl ?_) | refine ia_op (oa_geq rfl rfl ?_) | refine ia_op (oa_eql rfl rfl ?_) | refine ia_op (oa_neq rfl rfl ?_) | refine ia_op (oa_addW rfl rfl (wrap_i64 (by omega) (by omega)) ?_) | refine ia_op (oa_addW rfl rfl (wrap_u64 (by omega) (by omega)) ?_) | refine ia_op (oa_addW rfl rfl (wrap_u8 (by omega) (by omega)) ?_) | refine ia_op (oa_subW rfl rfl (wrap_i64 (by omega) (by omega)) ?_) | refine ia_op (oa_subW rfl rfl (wrap_u64 (by omega) (by omega)) ?_) | refine ia_op (oa_subW rfl rfl (wrap_u8 (by omega) (by omega)) ?_) | refine ia_op (oa_not rfl ?_) | refine ia_op (oa_extract rfl rfl ?_) | refine ia_op (oa_convW (by first | with_reducible exact un_2 | with_reducible exact un_182 | with_reducible exact un_3 | with_reducible exact un_5 | with_reducible exact un_181 | with_reducible exact un_183 | with_reducible exact un_9 | with_reducible exact un_41 | with_reducible exact un_39 | with_reducible exact un_27 | with_reducible exact un_28) (by first | with_reducible exact un_2 | with_reducible exact un_182 | with_reducible exact un_3 | with_reducible exact un_5 | with_reducible exact un_181 | with_reducible exact un_183 | with_reducible exact un_9 | with_reducible exact un_41 | with_reducible exact un_39 | with_reducible exact un_27 | with_reducible exact un_28) rfl (wrap_i64 (by omega) (by omega)) ?_) | refine ia_op (oa_convW (by first | with_reducible exact un_2 | with_reducible exact un_182 | with_reducible exact un_3 | with_reducible exact un_5 | with_reducible exact un_181 | with_reducible exact un_183 | with_reducible exact un_9 | with_reducible exact un_41 | with_reducible exact un_39 | with_reducible exact un_27 | with_reducible exact un_28) (by first | with_reducible exact un_2 | with_reducible exact un_182 | with_reducible exact un_3 | with_reducible exact un_5 | with_reducible exact un_181 | with_reducible exact un_183 | with_reducible exact un_9 | with_reducible exact un_41 | with_reducible exact un_39 | with_reducible exact un_27 | with_reducible exact un_28) rfl (wrap_u64 (by omega) (by omega)) ?_) | refine ia_op (oa_convW (by first | with_reducible exact un_2 | with_reducible exact un_182 | with_reducible exact un_3 | with_reducible exact un_5 | with_reducible exact un_181 | with_reducible exact un_183 | with_reducible exact un_9 | with_reducible exact un_41 | with_reducible exact un_39 | with_reducible exact un_27 | with_reducible exact un_28) (by first | with_reducible exact un_2 | with_reducible exact un_182 | with_reducible exact un_3 | with_reducible exact un_5 | with_reducible exact un_181 | with_reducible exact un_183 | with_reducible exact un_9 | with_reducible exact un_41 | with_reducible exact un_39 | with_reducible exact un_27 | with_reducible exact un_28) rfl (wrap_u8 (by omega) (by omega)) ?_)))
    refine ia_nil (va_seqr ?_)
    refine ia_op (oa_move rfl (ia_op (oa_move rfl (ia_op (oa_move rfl ?_)))))
    have hK2 := hk1.trans0 hk2
    refine ia_op (oa_call rfl rfl rfl (rShow_ok hs (hv.keep hK2).sl ha hn fun u3 H3 hk3 hs3 => ?_))
    (repeat (first | refine ia_op (oa_move rfl ?_) | refine ia_op (oa_assign rfl ?_) | refine ia_op (oa_lss rfl rfl ?_) | refine ia_op (oa_gtr rfl rfl ?_) | refine ia_op (oa_leq rfl rfl ?_) | refine ia_op (oa_geq rfl rfl ?_) | refine ia_op (oa_eql rfl rfl ?_) | refine ia_op (oa_neq rfl rfl ?_) | refine ia_op (oa_addW rfl rfl (wrap_i64 (by omega) (by omega)) ?_) | refine ia_op (oa_addW rfl rfl (wrap_u64 (by omega) (by omega)) ?_) | refine ia_op (oa_addW rfl rfl (wrap_u8 (by omega) (by omega)) ?_) | refine ia_op (oa_subW rfl rfl (wrap_i64 (by omega) (by omega)) ?_) | refine ia_op (oa_subW rfl rfl (wrap_u64 (by omega) (by omega)) ?_) | refine ia_op (oa_subW rfl rfl (wrap_u8 (by omega) (by omega)) ?_) | refine ia_op (oa_not rfl ?_) | refine ia_op (oa_extract rfl rfl ?_) | refine ia_op (oa_convW (by first | with_reducible exact un_2 | with_reducible exact un_182 | with_reducible exact un_3 | with_reducible exact un_5 | with_reducible exact un_181 | with_reducible exact un_183 | with_reducible exact un_9 | with_reducible exact un_41 | with_reducible exact un_39 | with_reducible exact un_27 | with_reducible exact un_28) (by first | with_reducible exact un_2 | with_reducible exact un_182 | with_reducible exact un_3 | with_reducible exact un_5 | with_reducible exact un_181 | with_reducible exact un_183 | with_reducible exact un_9 | with_reducible exact un_41 | with_reducible exact un_39 | with_reducible exact un_27 | with_reducible exact un_28) rfl (wrap_i64 (by omega) (by omega)) ?_) | refine ia_op (oa_convW (by first | with_reducible exact un_2 | with_reducible exact un_182 | with_reducible exact un_3 | with_reducible exact un_5 | with_reducible exact un_181 | with_reducible exact un_183 | with_reducible exact un_9 | with_reducible exact un_41 | with_reducible exact un_39 | with_reducible exact un_27 | with_reducible exact un_28) (by first | with_reducible exact un_2 | with_reducible exact un_182 | with_reducible exact un_3 | with_reducible exact un_5 | with_reducible exact un_181 | with_reducible exact un_183 | with_reducible exact un_9 | with_reducible exact un_41 | with_reducible exact un_39 | with_reducible exact un_27 | with_reducible exact un_28) rfl (wrap_u64 (by omega) (by omega)) ?_) | refine ia_op (oa_convW (by first | with_reducible exact un_2 | with_reducible exact un_182 | with_reducible exact un_3 | with_reducible exact un_5 | with_reducible exact un_181 | with_reducible exact un_183 | with_reducible exact un_9 | with_reducible exact un_41 | with_reducible exact un_39 | with_reducible exact un_27 | with_reducible exact un_28) (by first | with_reducible exact un_2 | with_reducible exact un_182 | with_reducible exact un_3 | with_reducible exact un_5 | with_reducible exact un_181 | with_reducible exact un_183 | with_reducible exact un_9 | with_reducible exact un_41 | with_reducible exact un_39 | with_reducible exact un_27 | with_reducible exact un_28) rfl (wrap_u8 (by omega) (by omega)) ?_)))
    refine ia_nil (va_seqr ?_)
    refine ia_op (oa_move rfl (ia_op (oa_move rfl ?_)))
    have hK3 := hK2.trans0 hk3
    have hcn : (showR rs a n).1.length < 500000 := by
      rw [showR]
      split
      · simp
      · split
        · simp
        · simp only [linesR_len, toR]
          split <;> omega
    refine ia_op (oa_call rfl rfl rfl (Same_ok hcn (hs2.keep0 hk3) hs3 ?_))
    refine ia_op (oa_move rfl ?_)
    refine ia_gdY rfl (oa_move rfl (ia_gdY rfl (oa_move rfl ?_)))
    refine ia_gdY rfl (oa_eqlW rfl rfl (decide_eq_true rfl) ?_)
    refine ia_op (oa_pickT rfl rfl rfl ?_)
    refine ia_op (oa_move rfl ?_)
    refine ia_gdY rfl (oa_move rfl ?_)
    refine ia_gdY rfl (oa_call rfl rfl rfl (Own_ok (by omega) (hv.keep hK3).sl fun u4 H4 hk4 ho4 => ?_))
    refine ia_gdY rfl (oa_move rfl (ia_gdY rfl (oa_move rfl ?_)))
    refine ia_gdY rfl (oa_call rfl rfl rfl (vFind_ok (by omega) ho4.sl p m fun H5 hk5 => ?_))
    have hK5 := (hK3.trans0 hk4).trans0 hk5
    refine ia_gdY rfl (oa_move rfl (ia_gdY rfl (oa_move rfl (ia_gdY rfl (oa_move rfl ?_)))))
    refine ia_gdY rfl (oa_call rfl rfl rfl (rFind_ok (by omega) (hv.keep hK5).sl p m ?_))
    refine ia_gdY rfl (oa_eqlW rfl rfl (decide_eq_true rfl) ?_)
    refine ia_op (oa_pickT rfl rfl rfl ?_)
    refine ia_op (oa_move rfl ?_)
    refine ia_gdY rfl (oa_known rfl (hlaid.keep hK5) ?_)
    refine ia_op (oa_pickT rfl rfl rfl ?_)
    refine ia_op (oa_assign rfl (ia_nil (va_ret ⟨_, rfl, rfl⟩)))
  refine va_loop (fun (i : Nat) => [(0, v), (1, .int .i64 a), (2, .int .i64 n), (3, .int .i64 p), (4, .int .i64 m), (11, .int .i64 (sumR (rs.take i) : Int)), (12, .int .i64 (i : Int))]) (fun i H' => H' = H ∧ i ≤ rs.length ∧ sumR (rs.take i) ≤ 4611686018427400000) (fun i => rs.length - i) ?_ 0 _ H ⟨rfl, rfl, rfl, rfl, rfl, rfl, rfl, trivial⟩ ⟨rfl, Nat.zero_le _, by simp [sumR]⟩
  rintro i H' ⟨rfl, hi, hsum⟩
  refine va_seq (va_seqr ?_)
  refine ia_op (oa_move rfl (ia_op (oa_move rfl ?_)))
  refine ia_op (oa_lenSl rfl rfl rfl (by first | with_reducible exact un_2 | with_reducible exact un_182 | with_reducible exact un_3 | with_reducible exact un_5 | with_reducible exact un_181 | with_reducible exact un_183 | with_reducible exact un_9 | with_reducible exact un_41 | with_reducible exact un_39 | with_reducible exact un_27 | with_reducible exact un_28) rfl hv.sl ?_)
  by_cases hil : i = rs.length
  · refine ia_op (oa_lssW rfl rfl (decide_eq_false (by omega)) ?_)
    refine ia_op (oa_move rfl ?_)
    iterate 2 refine ia_gdN rfl ?_
    refine ia_op (oa_pickF rfl rfl (ia_nil (va_condF rfl (va_exit (main _ _ (fun h => ?_) ⟨rfl, rfl, rfl, rfl, rfl, rfl, trivial⟩)))))
    rw [hil, List.take_length] at h
    exact h
  have hlt : i < rs.length := by omega
  obtain ⟨r, hr⟩ : ∃ r, rs[i]? = some r := ⟨_, List.getElem?_eq_getElem hlt⟩
  have hchunk := flat_chunk rwC_len rs i r hr
  have hst := sumR_take rs hr
  have htx := hltx r (List.mem_of_getElem? hr)
  refine ia_op (oa_lssW rfl rfl (decide_eq_true (by omega)) ?_)
  refine ia_op (oa_move rfl ?_)
  refine ia_gdY rfl (oa_move rfl ?_)
  by_cases h6 : sumR (rs.take i) ≤ 6000
  · refine ia_gdY rfl (oa_leqW rfl rfl (decide_eq_true (by omega)) ?_)
    refine ia_op (oa_pickT rfl rfl rfl (ia_nil (va_condT rfl (va_skip ?_))))
    refine va_seq (va_block (va_reg ?_))
    refine ia_op (oa_move rfl ?_)
    refine ia_op (oa_addW (c := ((sumR (rs.take i) + 1 : Nat) : Int)) rfl rfl (wrapE_i64 (by omega) (by omega) (by omega)) ?_)
    refine ia_op (oa_move rfl (ia_op (oa_move rfl ?_)))
    refine ia_op (oa_indexSl (by first | with_reducible exact un_2 | with_reducible exact un_182 | with_reducible exact un_3 | with_reducible exact un_5 | with_reducible exact un_181 | with_reducible exact un_183 | with_reducible exact un_9 | with_reducible exact un_41 | with_reducible exact un_39 | with_reducible exact un_27 | with_reducible exact un_28) (by first | with_reducible exact sz_5 | with_reducible exact sz_9 | with_reducible exact sz_40 | with_reducible exact sz_32) rfl hv.sl rfl rfl hlt fun q0 hp => ?_)
    rw [hchunk] at hp
    refine ia_op (oa_pfieldAddr (by first | with_reducible exact fp_40_0 | with_reducible exact fp_40_1 | with_reducible exact fp_40_2 | with_reducible exact fp_32_1 | with_reducible exact fp_32_2 | with_reducible exact fp_32_0) (by decide) rfl hp fun q1 hp' => ?_)
    refine ia_op (oa_pload (by first | with_reducible exact pl_9 | with_reducible exact pl_3 | with_reducible exact pl_32) rfl hp' rfl ?_)
    refine ia_op (oa_lenS rfl rfl rfl (by first | with_reducible exact un_2 | with_reducible exact un_182 | with_reducible exact un_3 | with_reducible exact un_5 | with_reducible exact un_181 | with_reducible exact un_183 | with_reducible exact un_9 | with_reducible exact un_41 | with_reducible exact un_39 | with_reducible exact un_27 | with_reducible exact un_28) rfl ?_)
    refine ia_op (oa_addW (c := (sumR (rs.take (i + 1)) : Int)) rfl rfl (wrapE_i64 (by omega) (by omega) (by omega)) ?_)
    refine ia_op (oa_assign rfl (ia_nil (va_reg ?_)))
    refine ia_op (oa_move rfl ?_)
    refine ia_op (oa_addW (c := ((i + 1 : Nat) : Int)) rfl rfl (wrapE_i64 (by omega) (by omega) (by omega)) ?_)
    refine ia_op (oa_assign rfl (ia_nil ⟨i + 1, ?_, ⟨rfl, rfl, rfl, rfl, rfl, rfl, rfl, trivial⟩, rfl, by omega, by omega⟩))
    show rs.length - (i + 1) < rs.length - i
    omega
  · refine ia_gdY rfl (oa_leqW rfl rfl (decide_eq_false (by omega)) ?_)
    refine ia_op (oa_pickT rfl rfl rfl (ia_nil (va_condF rfl (va_exit (main _ _ (fun h => absurd h h6) ⟨rfl, rfl, rfl, rfl, rfl, rfl, trivial⟩)))))
end
end Go.Proofs.YtalnmaalhocjfaaGreatDoor
