/-
  Matched calls: the least of the greatest matchings found, and align.Match, walked. Conditions: the rows' lengths.
-/
import Derived.Test.YtndhniapohlniaaGreatDoorKeeps4
namespace Go.Proofs.YtndhniapohlniaaGreatDoor
open Go Go.Proofs.YtndhniapohlniaaGreatDoor.Eng
theorem TbI.to {e : Nat → Nat → Bool} {n m : Nat} {H : Heap} {bt bc k h : Nat} {cells : List AV} {H' H2 : Heap} (I : TbI e n m H bt bc k h cells H') (hk : Keep Non H' H2) : TbI e n m H bt bc k h cells H2 :=
  ⟨I.keep.trans0 hk, I.row.keep0 hk, I.col.keep0 hk, I.tab, I.ne⟩
theorem scal_prN (l : List (Nat × Nat)) : scalL (l.flatMap prN) = true := scalL_of fun v hv => by
  obtain ⟨p, _, hv⟩ := List.mem_flatMap.1 hv
  simp only [prN, List.mem_cons, List.not_mem_nil, or_false] at hv
  rcases hv with rfl | rfl <;> rfl
section
variable {tb : List FuncId} {gl : List (List AV)} {H : Heap} {v w : AV} {Q : AV → Heap → Prop}
set_option maxHeartbeats 0 in
theorem at_ok {e : Nat → Nat → Bool} {n m : Nat} {H0 : Heap} {bt bc : Nat} {cells : List AV} (I : TbI e n m H0 bt bc n 0 cells H) {i j : Nat} (hi : i ≤ n) (hj : j ≤ m) (hn : n ≤ 500) (hm : m ≤ 500) (hQ : Q (.int .i64 (Lm e n m i j : Nat)) H) :
    WpF Tryz.prog tb gl 167 [.ptr bt 0, .int .i64 (i : Int), .int .i64 (j : Int)] H Q := by
  have hnm : (n + 1) * (m + 1) ≤ 501 * 501 := Nat.mul_le_mul (by omega) (by omega)
  have hij := idx_lt hi hj
  have hrt := I.row
  refine fa Tryz.func167 b167_eq v167_eq r167_eq (.inr (by simp)) ?_
  refine va_seqr ?_
  refine ia_pl rfl ?_
  refine ia_nil (va_seqr ?_)
  refine ia_pl rfl ?_; (repeat ((first | refine ia_op (oa_nilCheck rfl ?_) | refine ia_op (oa_fieldAddr FpF.h (by decide) rfl ?_) | refine ia_op (oa_load1 PlF.h rfl hrt rfl ?_)); refine ia_pl rfl ?_))
  refine ia_op (oa_mulN rfl rfl (by omega) ?_)
  refine ia_pl rfl ?_
  refine ia_op (oa_addW (c := ((i * (m + 1) + j : Nat) : Int)) rfl rfl (wrapE_i64 (by omega) (by omega) (by omega)) ?_)
  refine ia_op (oa_indexRow (j := i * (m + 1) + j) UnF.h SzF.h rfl rfl rfl hij ?_)
  refine ia_op (oa_load1 PlF.h rfl I.col (by rw [Nat.mul_one]; exact I.tab.all hi hj) ?_)
  refine ia_pl rfl ?_
  exact ia_nil (va_ret ⟨_, rfl, hQ⟩)
set_option maxHeartbeats 0 in
theorem find_ok {al bl : List (Int × Int)} {H0 : Heap} {bt bc : Nat} {cells : List AV} (hn : al.length ≤ 500) (hm : bl.length ≤ 500) (hv : IsSl H v 2 al.length (al.flatMap evC)) (hw : IsSl H w 2 bl.length (bl.flatMap evC))
    (I : TbI (eqM al bl) al.length bl.length H0 bt bc al.length 0 cells H) {i j : Nat} (hi : i ≤ al.length) (hj : j ≤ bl.length) (hp : 0 < Lm (eqM al bl) al.length bl.length i j)
    (hQ : ∀ k h, FirstHit (eqM al bl) al.length bl.length (Lm (eqM al bl) al.length bl.length i j) i j k h → Q (.tup [.int .i64 (k : Int), .int .i64 (h : Int)]) H) :
    WpF Tryz.prog tb gl 168 [.ptr bt 0, v, w, .int .i64 (i : Int), .int .i64 (j : Int), .int .i64 (Lm (eqM al bl) al.length bl.length i j : Nat)] H Q := by
  obtain ⟨e, hee⟩ : ∃ e, e = eqM al bl := ⟨_, rfl⟩
  obtain ⟨W, hW⟩ : ∃ W, W = Lm (eqM al bl) al.length bl.length i j := ⟨_, rfl⟩
  rw [← hW] at hp hQ ⊢
  obtain ⟨k1, h1, hk1, hh1, hit1⟩ := hit_some _ i j (Nat.le_refl _) (hW ▸ hp)
  rw [← hW] at hit1
  refine fa Tryz.func168 b168_eq v168_eq r168_eq (.inr (by simp)) ?_
  refine va_seqr ?_
  refine ia_pl rfl ?_
  refine ia_nil (va_seq (va_seqr ?_))
  refine ia_pl rfl ?_
  refine ia_nil (va_block ?_)
  refine va_loop (fun (k : Nat) => [(0, .ptr bt 0), (1, v), (2, w), (4, .int .i64 (j : Int)), (5, .int .i64 (W : Int)), (14, .int .i64 (k : Int))])
    (fun k H' => H' = H ∧ i ≤ k ∧ k ≤ al.length ∧ ∀ k' h', i ≤ k' → k' < k → j ≤ h' → ¬ Hit (eqM al bl) al.length bl.length W k' h') (fun k => al.length - k) ?_ i _ H ⟨rfl, rfl, rfl, rfl, rfl, rfl, trivial⟩ ⟨rfl, Nat.le_refl _, hi, fun _ _ _ _ _ => by omega⟩
  rintro k H1 ⟨he, hik, hkn, hno⟩
  subst he
  refine va_seq (va_seqr ?_)
  refine ia_pl rfl ?_; (repeat ((first | refine ia_op (oa_lenSl rfl rfl rfl UnF.h rfl hv ?_)); refine ia_pl rfl ?_))
  by_cases hke : k = al.length
  · exact absurd hit1 (hno k1 h1 hk1 (by have := hit1.1; omega) hh1)
  refine ia_op (oa_lssW rfl rfl (decide_eq_true (by omega)) (ia_nil (va_condT rfl (va_skip (va_seq (va_block (va_seqr ?_)))))))
  refine ia_pl rfl ?_
  refine ia_nil (va_block ?_)
  refine va_loop (fun (h : Nat) => [(0, .ptr bt 0), (1, v), (2, w), (4, .int .i64 (j : Int)), (5, .int .i64 (W : Int)), (14, .int .i64 (k : Int)), (15, .int .i64 (h : Int))])
    (fun h H' => H' = H1 ∧ j ≤ h ∧ h ≤ bl.length ∧ ∀ h', j ≤ h' → h' < h → ¬ Hit (eqM al bl) al.length bl.length W k h') (fun h => bl.length - h) ?_ j _ H1 ⟨rfl, rfl, rfl, rfl, rfl, rfl, rfl, trivial⟩ ⟨rfl, Nat.le_refl _, hj, fun _ _ _ => by omega⟩
  rintro h H2 ⟨he, hjh, hhm, hno2⟩
  subst he
  refine va_seq (va_seqr ?_)
  refine ia_pl rfl ?_; (repeat ((first | refine ia_op (oa_lenSl rfl rfl rfl UnF.h rfl hw ?_)); refine ia_pl rfl ?_))
  by_cases hhe : h = bl.length
  · refine ia_op (oa_lssW rfl rfl (decide_eq_false (by omega)) (ia_nil (va_condF rfl (va_exit (va_reg ?_)))))
    refine ia_pl rfl ?_
    refine ia_op (oa_addW (c := ((k + 1 : Nat) : Int)) rfl rfl (wrapE_i64 (by omega) (by omega) (by omega)) ?_)
    refine ia_pl rfl ?_
    refine ia_nil ⟨k + 1, ?_, ⟨rfl, rfl, rfl, rfl, rfl, rfl, trivial⟩, rfl, by omega, by omega, fun k' h' a b c hh => ?_⟩
    · show al.length - (k + 1) < al.length - k
      omega
    · by_cases hkk : k' = k
      · rw [hkk] at hh
        have := hh.2.1
        exact hno2 h' c (by omega) hh
      · exact hno k' h' a (by omega) c hh
  refine ia_op (oa_lssW rfl rfl (decide_eq_true (by omega)) (ia_nil (va_condT rfl (va_skip (va_seq (va_block (va_seqr ?_)))))))
  obtain ⟨p, hp1⟩ : ∃ p, al[k]? = some p := ⟨_, List.getElem?_eq_getElem (by omega)⟩
  obtain ⟨q, hq1⟩ : ∃ q, bl[h]? = some q := ⟨_, List.getElem?_eq_getElem (by omega)⟩
  have hc1 := flat_chunk evC_len al k p hp1
  have hc2 := flat_chunk evC_len bl h q hq1
  refine ia_pl rfl ?_
  refine ia_op (oa_indexSl UnF.h SzF.h rfl hv rfl rfl (by omega) fun q0 hq0 => ?_)
  rw [hc1] at hq0
  refine ia_op (oa_ploadN (k := 2) PlF.h rfl (by decide) rfl hq0 ?_)
  refine ia_pl rfl ?_
  refine ia_op (oa_indexSl UnF.h SzF.h rfl hw rfl rfl (by omega) fun q0 hq0 => ?_)
  rw [hc2] at hq0
  refine ia_op (oa_ploadN (k := 2) PlF.h rfl (by decide) rfl hq0 ?_)
  refine ia_op (oa_aeql ff_ev eg_ev rfl rfl (flatEq_int (flatEq_int rfl)) ?_)
  rw [evq, ← eqM_get hp1 hq1]
  have next : ¬ Hit (eqM al bl) al.length bl.length W k h → ∀ l' : Fm, Sb [(0, .ptr bt 0), (1, v), (2, w), (4, .int .i64 (j : Int)), (5, .int .i64 (W : Int)), (14, .int .i64 (k : Int)), (15, .int .i64 (h : Int))] l' → ∀ R, VA Tryz.prog tb gl (.reg [.op (some 28) (.move (.tmp 15)), .op (some 29) (.binOp .add 3 (.tmp 28) (.const (.int .i64 1)) 3), .op (some 15) (.assign (.tmp 29))]) l' H2
      (roundA (fun (h : Nat) => [(0, .ptr bt 0), (1, v), (2, w), (4, .int .i64 (j : Int)), (5, .int .i64 (W : Int)), (14, .int .i64 (k : Int)), (15, .int .i64 (h : Int))]) (fun h H' => H' = H2 ∧ j ≤ h ∧ h ≤ bl.length ∧ ∀ h', j ≤ h' → h' < h → ¬ Hit (eqM al bl) al.length bl.length W k h') (fun h => bl.length - h) h R) := by
    intro hnot l' hs R
    refine VA.sub hs (va_reg ?_)
    refine ia_pl rfl ?_
    refine ia_op (oa_addW (c := ((h + 1 : Nat) : Int)) rfl rfl (wrapE_i64 (by omega) (by omega) (by omega)) ?_)
    refine ia_pl rfl ?_
    refine ia_nil ⟨h + 1, ?_, ⟨rfl, rfl, rfl, rfl, rfl, rfl, rfl, trivial⟩, rfl, by omega, by omega, fun h' a b hh => ?_⟩
    · show bl.length - (h + 1) < bl.length - h
      omega
    · by_cases hhh : h' = h
      · rw [hhh] at hh; exact hnot hh
      · exact hno2 h' a (by omega) hh
  refine ia_op (oa_move rfl ?_)
  cases heq : eqM al bl k h with
  | false =>
    iterate 9 refine ia_gdN rfl ?_
    refine ia_op (oa_pickF rfl rfl (ia_nil (va_condF rfl (va_skip (next (fun hh => by rw [hh.2.2.1] at heq; cases heq) _ ⟨rfl, rfl, rfl, rfl, rfl, rfl, rfl, trivial⟩ _)))))
  | true =>
    have hLe := Lm_le (e := eqM al bl) (n := al.length) (m := bl.length) (k + 1) (h + 1)
    refine ia_gdY rfl (oa_move rfl ?_)
    refine ia_gdY rfl (oa_move rfl ?_)
    refine ia_gdY rfl (oa_addW (c := ((k + 1 : Nat) : Int)) rfl rfl (wrapE_i64 (by omega) (by omega) (by omega)) ?_)
    refine ia_gdY rfl (oa_move rfl ?_)
    refine ia_gdY rfl (oa_addW (c := ((h + 1 : Nat) : Int)) rfl rfl (wrapE_i64 (by omega) (by omega) (by omega)) ?_)
    refine ia_gdY rfl (oa_move rfl ?_)
    refine ia_gdY rfl (oa_call rfl rfl rfl (at_ok I (by omega) (by omega) hn hm ?_))
    refine ia_gdY rfl (oa_addW (c := ((Lm (eqM al bl) al.length bl.length (k + 1) (h + 1) + 1 : Nat) : Int)) rfl rfl (wrapE_i64 (by omega) (by omega) (by omega)) ?_)
    by_cases hcase : Lm (eqM al bl) al.length bl.length (k + 1) (h + 1) + 1 = W
    · refine ia_gdY rfl (oa_eqlW rfl rfl (decide_eq_true (by omega)) ?_)
      refine ia_op (oa_pickT rfl rfl rfl (ia_nil (va_condT rfl (va_seqr ?_))))
      refine ia_pl rfl ?_
      exact ia_nil (va_ret ⟨_, rfl, hQ k h ⟨hik, hjh, ⟨by omega, by omega, heq, hcase⟩, hno, hno2⟩⟩)
    · refine ia_gdY rfl (oa_eqlW rfl rfl (decide_eq_false (by omega)) ?_)
      refine ia_op (oa_pickT rfl rfl rfl (ia_nil (va_condF rfl (va_skip (next (fun hh => hcase hh.2.2.2) _ ⟨rfl, rfl, rfl, rfl, rfl, rfl, rfl, trivial⟩ _)))))
abbrev LsA := Nat × Nat × List (Nat × Nat) × AV
def shP (f : Nat) (p : Nat × Nat) : Nat × Nat := (f + p.1, f + p.2)
structure LsI (e : Nat → Nat → Bool) (n m : Nat) (H : Heap) (bt bc : Nat) (cells : List AV) (f : Nat) (a : LsA) (H' : Heap) : Prop where
  tab : TbI e n m H bt bc n 0 cells H'
  le1 : a.1 ≤ n
  le2 : a.2.1 ≤ m
  siz : a.2.2.1.length + Lm e n m a.1 a.2.1 = Lm e n m 0 0
  con : ∀ l, LeastM e n m a.1 a.2.1 l → LeastM e n m 0 0 (a.2.2.1 ++ l)
  own : Own H' a.2.2.2 2 a.2.2.1.length ((a.2.2.1.map (shP f)).flatMap prN)
  new : ∀ c, ownB a.2.2.2 c → H.nx ≤ c ∧ c ≠ bt ∧ c ≠ bc
set_option maxHeartbeats 0 in
theorem least_ok {al bl : List (Int × Int)} {f : Nat} (hn : al.length ≤ 500) (hm : bl.length ≤ 500) (hf : f ≤ 500) (hv : IsSl H v 2 al.length (al.flatMap evC)) (hw : IsSl H w 2 bl.length (bl.flatMap evC))
    (hQ : ∀ l u H', LeastM (eqM al bl) al.length bl.length 0 0 l → Keep Non H H' → Own H' u 2 l.length ((l.map (shP f)).flatMap prN) → (∀ c, ownB u c → H.nx ≤ c) → Q u H') : WpF Tryz.prog tb gl 84 [v, w, .int .i64 (f : Int)] H Q := by
  have hlim : limit = 1000000 := rfl
  refine fa Tryz.func84 b84_eq v84_eq r84_eq (.inr (by simp)) ?_
  refine va_seqr ?_
  refine ia_pl rfl ?_
  refine ia_nil (va_seqr ?_)
  refine ia_pl rfl ?_
  refine ia_op (oa_call rfl rfl rfl (sizes_ok hn hm hv hw fun bt bc cells H1 I1 => ?_))
  refine ia_pl rfl ?_
  refine ia_nil (va_seqr ?_)
  refine ia_pl rfl ?_
  refine ia_nil (va_seqr ?_)
  refine ia_pl rfl ?_
  refine ia_nil (va_seq (va_block ?_))
  refine va_loop (fun (a : LsA) => [(0, v), (1, w), (2, .int .i64 (f : Int)), (7, .ptr bt 0), (8, a.2.2.2), (9, .int .i64 (a.1 : Int)), (10, .int .i64 (a.2.1 : Int))]) (LsI (eqM al bl) al.length bl.length H bt bc cells f) (fun a => Lm (eqM al bl) al.length bl.length a.1 a.2.1) ?_ (0, 0, [], .nils) _ H1 ⟨rfl, rfl, rfl, rfl, rfl, rfl, rfl, trivial⟩
    ⟨I1, Nat.zero_le _, Nat.zero_le _, by simp, fun l h => h, .nil _ _, fun _ h => h.elim⟩
  rintro ⟨i, j, pre, u⟩ H2 ⟨I, hi, hj, hsz, hcon, hown, hnew⟩
  simp only at I hi hj hsz hcon hown hnew
  have hL0 := Lm_le (e := eqM al bl) (n := al.length) (m := bl.length) 0 0
  have hv2 := hv.keep0 I.keep
  have hw2 := hw.keep0 I.keep
  refine va_seq (va_seqr ?_)
  refine ia_pl rfl ?_
  refine ia_op (oa_call rfl rfl rfl (at_ok I hi hj hn hm ?_))
  by_cases hz : Lm (eqM al bl) al.length bl.length i j = 0
  · refine ia_op (oa_gtrW rfl rfl (decide_eq_false (by simp only; omega)) (ia_nil (va_condF rfl (va_exit (va_seqr ?_)))))
    refine ia_pl rfl ?_
    have hl := hcon [] (.done hz)
    rw [List.append_nil] at hl
    exact ia_nil (va_ret ⟨_, rfl, hQ pre u H2 hl I.keep hown (fun c hc => (hnew c hc).1)⟩)
  refine ia_op (oa_gtrW rfl rfl (decide_eq_true (by simp only; omega)) (ia_nil (va_condT rfl (va_skip (va_block (va_seqr ?_))))))
  refine ia_pl rfl ?_
  refine ia_op (oa_call rfl rfl rfl (at_ok I hi hj hn hm ?_))
  refine ia_pl rfl ?_
  refine ia_nil (va_seqr ?_)
  refine ia_pl rfl ?_
  refine ia_op (oa_call rfl rfl rfl (find_ok (i := i) (j := j) hn hm hv2 hw2 I hi hj (Nat.pos_of_ne_zero hz) fun k h hfh => ?_))
  refine ia_pl rfl ?_
  obtain ⟨f1, f2, ⟨f3, f4, f5, f6⟩, f7, f8⟩ := hfh
  have f6' : Lm (eqM al bl) al.length bl.length (k + 1) (h + 1) + 1 = Lm (eqM al bl) al.length bl.length i j := f6
  refine ia_nil (va_seqr ?_)
  refine ia_pl rfl ?_
  refine ia_op (oa_addW (c := ((f + k : Nat) : Int)) rfl rfl (wrapE_i64 (by omega) (by omega) (by omega)) ?_)
  refine ia_pl rfl ?_
  refine ia_op (oa_addW (c := ((f + h : Nat) : Int)) rfl rfl (wrapE_i64 (by omega) (by omega) (by omega)) ?_)
  refine ia_op (oa_struct BsF.h ZeF.h PsF.h rfl ?_)
  refine ia_op (oa_newSlice (n := 1) ElF.h (by decide) rfl rfl fun H3 hk3 hr3 => ?_)
  refine ia_op (oa_append rfl rfl rfl ElF.h (.inl UnF.h) rfl (hown.keep0 hk3) rfl (IsRow.sl (es := 2) (n := 1) hr3 rfl (Nat.le_refl 1)).elems rfl rfl (by omega) fun u' H4 ho4 hk4 hb4 => ?_)
  refine ia_pl rfl ?_
  have hK4 : Keep Non H H4 := (I.keep.trans0 hk3).trans hk4 fun c hc => .inr (hnew c hc).1
  refine ia_nil (va_reg ?_)
  refine ia_pl rfl ?_
  refine ia_op (oa_addW (c := ((k + 1 : Nat) : Int)) rfl rfl (wrapE_i64 (by omega) (by omega) (by omega)) ?_)
  refine ia_pl rfl ?_
  refine ia_op (oa_addW (c := ((h + 1 : Nat) : Int)) rfl rfl (wrapE_i64 (by omega) (by omega) (by omega)) ?_)
  refine ia_pl rfl ?_
  have hI3 := I.to hk3
  refine ia_nil ⟨(k + 1, h + 1, pre ++ [(k, h)], u'), ?_, ⟨rfl, rfl, rfl, rfl, rfl, rfl, rfl, trivial⟩, ⟨hK4, hI3.row.keep hk4 (.inl fun h => (hnew _ h).2.1 rfl), hI3.col.keep hk4 (.inl fun h => (hnew _ h).2.2 rfl), I.tab, I.ne⟩, f3, f4, ?_, fun l hl => ?_, ?_, fun c hc => (hb4 c hc).elim (hnew c) fun h => by
    have := (I.keep.trans0 hk3).nx
    have h5 := hI3.row.1
    have h6 := hI3.col.1
    exact ⟨by omega, by omega, by omega⟩⟩
  · show Lm (eqM al bl) al.length bl.length (k + 1) (h + 1) < Lm (eqM al bl) al.length bl.length i j
    omega
  · simp only [List.length_append, List.length_singleton]
    omega
  · simp only
    rw [List.append_assoc]
    exact hcon _ (.more (Nat.pos_of_ne_zero hz) ⟨f1, f2, ⟨f3, f4, f5, f6⟩, f7, f8⟩ hl)
  · simp only [List.length_append, List.length_singleton, List.map_append, List.flatMap_append]
    exact ho4
set_option maxHeartbeats 0 in
theorem alMatch_ok {al bl : List (Int × Int)} {lim : Int} (hn : al.length ≤ 500) (hm : bl.length ≤ 500) (hl0 : -9223372036854775808 ≤ lim ∧ lim < 9223372036854775808) (hv : IsSl H v 2 al.length (al.flatMap evC)) (hw : IsSl H w 2 bl.length (bl.flatMap evC))
    (hvs : ∀ b o w z, v ≠ .se b o w z) (hws : ∀ b o w' z, w ≠ .se b o w' z)
    (hQ : ∀ l c u H', MatM (eqM al bl) al.length bl.length lim l c → Keep Non H H' → Own H' u 2 l.length (l.flatMap prN) → (∀ c, ownB u c → H.nx ≤ c) → Q (.tup [u, .bool c]) H') : WpF Tryz.prog tb gl 40 [v, w, .int .i64 lim] H Q := by
  have hlim : limit = 1000000 := rfl
  refine fa Tryz.func40 b40_eq v40_eq r40_eq (.inr (by simp)) ?_
  refine va_seqr ?_
  refine ia_pl rfl ?_
  refine ia_nil (va_seqr ?_)
  refine ia_pl rfl ?_
  refine ia_op (oa_call rfl rfl rfl (Parting_ok hn hm hv hw fun k hP => ?_))
  refine ia_pl rfl ?_
  have hP0 := hP
  obtain ⟨hk1, hk2, hk3, hk4⟩ := hP0
  refine ia_nil (va_seq (va_cut (fun l' H' => H' = H ∧ Sb [(0, v), (1, w), (2, .int .i64 lim), (8, .int .i64 (k : Int))] l') ?_ ?_))
  · refine va_seqr ?_
    refine ia_pl rfl ?_
    by_cases hk : k = al.length ∧ k = bl.length
    · rw [if_pos hk]
      refine ia_op (oa_lssW rfl rfl (decide_eq_true (by omega)) (ia_nil (va_condT rfl (va_reg ?_))))
      refine ia_pl rfl ?_; (repeat ((first | refine ia_op (oa_lenSl rfl rfl rfl UnF.h rfl hv ?_)); refine ia_pl rfl ?_))
      rw [hk.1]
      exact ia_nil ⟨rfl, rfl, rfl, rfl, rfl, trivial⟩
    · rw [if_neg hk]
      refine ia_op (oa_lssW rfl rfl (decide_eq_false (by omega)) (ia_nil (va_condF rfl (va_skip ⟨rfl, rfl, rfl, rfl, rfl, trivial⟩))))
  rintro l1 H1 ⟨hH, hs1⟩
  subst hH
  refine VA.sub hs1 (va_seqr ?_)
  refine ia_pl rfl ?_
  refine ia_nil (va_seq (va_seqr ?_))
  refine ia_pl rfl ?_
  refine ia_nil (va_block ?_)
  refine va_loop (fun (a : Nat × AV) => [(0, v), (1, w), (2, .int .i64 lim), (8, .int .i64 (k : Int)), (9, a.2), (20, .int .i64 (k : Int)), (21, .int .i64 (a.1 : Int))])
    (fun a H' => Keep Non H1 H' ∧ a.1 ≤ k ∧ Own H' a.2 2 a.1 (((List.range a.1).map fun i => (i, i)).flatMap prN) ∧ ∀ c, ownB a.2 c → H1.nx ≤ c) (fun a => k - a.1) ?_ (0, .nils) _ H1 ⟨rfl, rfl, rfl, rfl, rfl, rfl, rfl, trivial⟩ ⟨.refl _ _, Nat.zero_le _, .nil _ _, fun _ h => h.elim⟩
  rintro ⟨i, u⟩ H2 ⟨hk, hik, hown, hnew⟩
  simp only at hik hown hnew
  refine va_seqr ?_
  by_cases hi : i < k
  · refine ia_op (oa_lssW rfl rfl (decide_eq_true (by simp only; omega)) (ia_nil (va_seq (va_condT rfl (va_skip (va_seq (va_block (va_seqr ?_))))))))
    refine ia_pl rfl ?_
    refine ia_nil (va_reg ?_)
    refine ia_pl rfl ?_
    refine ia_op (oa_struct BsF.h ZeF.h PsF.h rfl ?_)
    refine ia_op (oa_newSlice (n := 1) ElF.h (by decide) rfl rfl fun H3 hk3 hr3 => ?_)
    refine ia_op (oa_append rfl rfl rfl ElF.h (.inl UnF.h) rfl (hown.keep0 hk3) rfl (IsRow.sl (es := 2) (n := 1) hr3 rfl (Nat.le_refl 1)).elems rfl rfl (by omega) fun u' H4 ho4 hk4 hb4 => ?_)
    refine ia_pl rfl ?_
    refine ia_nil (va_reg ?_)
    refine ia_op (oa_addW (c := ((i + 1 : Nat) : Int)) rfl rfl (wrapE_i64 (by omega) (by omega) (by omega)) ?_)
    refine ia_pl rfl ?_
    refine ia_nil ⟨(i + 1, u'), ?_, ⟨rfl, rfl, rfl, rfl, rfl, rfl, rfl, trivial⟩, (hk.trans0 hk3).trans hk4 fun c hc => .inr (hnew c hc), by simp only; omega, ?_, fun c hc => (hb4 c hc).elim (hnew c) fun h => Nat.le_trans (hk.trans0 hk3).nx h⟩
    · show k - (i + 1) < k - i
      omega
    · simp only [List.range_succ, List.map_append, List.flatMap_append]
      exact ho4
  have hi' : i = k := by omega
  subst hi'
  refine ia_op (oa_lssW rfl rfl (decide_eq_false (by simp only; omega)) (ia_nil (va_seq (va_condF rfl (va_exit (va_seqr ?_))))))
  have hv2 := hv.keep0 hk
  have hw2 := hw.keep0 hk
  refine ia_pl rfl ?_; (repeat ((first | refine ia_op (oa_lenSl rfl rfl rfl UnF.h rfl hv2 ?_) | refine ia_op (oa_lenSl rfl rfl rfl UnF.h rfl hw2 ?_)); refine ia_pl rfl ?_))
  refine ia_op (oa_subW (c := ((al.length - i : Nat) : Int)) rfl rfl (wrapE_i64 (by omega) (by omega) (by omega)) ?_)
  refine ia_pl rfl ?_; (repeat ((first | refine ia_op (oa_lenSl rfl rfl rfl UnF.h rfl hv2 ?_) | refine ia_op (oa_lenSl rfl rfl rfl UnF.h rfl hw2 ?_)); refine ia_pl rfl ?_))
  refine ia_op (oa_subW (c := ((bl.length - i : Nat) : Int)) rfl rfl (wrapE_i64 (by omega) (by omega) (by omega)) ?_)
  refine ia_pl rfl ?_
  refine ia_nil (va_seq ?_)
  obtain ⟨M, hM⟩ : ∃ M : Nat, max 0 lim = (M : Int) := ⟨(max 0 lim).toNat, by omega⟩
  have hlenr : ((List.range i).map fun i => (i, i)).length = i := by rw [List.length_map, List.length_range]
  have rest : ¬ (lim < ((al.length - i) * (bl.length - i) : Nat) ∧ 0 < (al.length - i) * (bl.length - i)) → ∀ l3 : Fm, Sb [(0, v), (1, w), (2, .int .i64 lim), (8, .int .i64 (i : Int)), (9, u)] l3 → VA Tryz.prog tb gl v40t7 l3 H2 (leftA [.tmp 6, .tmp 7] Q) := by
    intro hcut l3 hs3
    refine VA.sub hs3 (va_seqr ?_)
    refine ia_pl rfl ?_
    refine ia_op (oa_cutSl UnF.h SzF.h (by decide) rfl hv2 (bndA_of rfl rfl) rfl hk1 (Nat.le_refl _) hvs fun v' hv' => ?_)
    refine ia_pl rfl ?_
    refine ia_op (oa_cutSl UnF.h SzF.h (by decide) rfl hw2 (bndA_of rfl rfl) rfl hk2 (Nat.le_refl _) hws fun w' hw' => ?_)
    refine ia_pl rfl ?_
    rw [flat_drop evC_len, List.take_of_length_le (by rw [flat_length evC_len, List.length_drop]; exact Nat.le_refl _)] at hv' hw'
    have e1 : (al.drop i).length = al.length - i := List.length_drop
    have e2 : (bl.drop i).length = bl.length - i := List.length_drop
    rw [← e1] at hv'
    rw [← e2] at hw'
    refine ia_op (oa_call rfl rfl rfl (least_ok (f := i) (by omega) (by omega) (by omega) hv' hw' fun l u2 H4 hL hk4 ho4 hn4 => ?_))
    have hfits := hL.len
    have hle := Lm_le (e := eqM (al.drop i) (bl.drop i)) (n := (al.drop i).length) (m := (bl.drop i).length) 0 0
    have hown4 := hown.keep0 hk4
    refine ia_op (oa_append rfl rfl rfl ElF.h (.inl UnF.h) rfl hown4 rfl ho4.sl.elems (by rw [flat_length prN_len, List.length_map]) (scal_prN _) (by omega) fun u' H5 ho5 hk5 hb5 => ?_)
    refine ia_pl rfl ?_
    rw [eqM_drop, e1, e2] at hL
    refine ia_nil (va_ret ⟨_, rfl, hQ _ false u' H5 (.all hP hcut hL) ((hk.trans0 hk4).trans hk5 fun c hc => .inr (hnew c hc)) ?_ fun c hc => (hb5 c hc).elim (hnew c) fun h => Nat.le_trans (hk.trans0 hk4).nx h⟩)
    rw [List.length_append, List.flatMap_append, hlenr, List.length_map]
    exact ho5
  refine va_seqr ?_
  refine ia_pl rfl ?_
  by_cases h0 : 0 < al.length - i
  · refine ia_op (oa_gtrW rfl rfl (decide_eq_true (by omega)) ?_)
    refine ia_op (oa_move rfl ?_)
    refine ia_gdY rfl (oa_move rfl ?_)
    refine ia_gdY rfl (oa_move rfl ?_)
    refine ia_gdY rfl (oa_maxI (m := (M : Int)) rfl rfl rfl rfl hM ?_)
    refine ia_gdY rfl (oa_move rfl ?_)
    have hdle := Nat.div_le_self M (al.length - i)
    have hdiv : M / (al.length - i) < bl.length - i ↔ M < (bl.length - i) * (al.length - i) := Nat.div_lt_iff_lt_mul h0
    rw [Nat.mul_comm] at hdiv
    obtain ⟨d, hd⟩ : ∃ d, d = M / (al.length - i) := ⟨_, rfl⟩
    rw [← hd] at hdle hdiv
    refine ia_gdY rfl (oa_quoW (c := (d : Int)) rfl rfl (by omega) (wrapE_i64 (by rw [tdiv_nat, ← hd]) (by omega) (by omega)) ?_)
    by_cases hc : d < bl.length - i
    · refine ia_gdY rfl (oa_gtrW rfl rfl (decide_eq_true (by omega)) ?_)
      refine ia_op (oa_pickT rfl rfl rfl (ia_nil (va_condT rfl (va_seqr ?_))))
      refine ia_pl rfl ?_
      have hc2 := hdiv.1 hc
      refine ia_nil (va_ret ⟨_, rfl, hQ _ true u H2 (.cut hP ⟨by omega, by omega⟩) hk (by rw [hlenr]; exact hown) hnew⟩)
    · refine ia_gdY rfl (oa_gtrW rfl rfl (decide_eq_false (by omega)) ?_)
      refine ia_op (oa_pickT rfl rfl rfl (ia_nil (va_condF rfl (va_skip (rest (fun h => hc (hdiv.2 (by omega))) _ ⟨rfl, rfl, rfl, rfl, rfl, trivial⟩)))))
  · refine ia_op (oa_gtrW rfl rfl (decide_eq_false (by omega)) ?_)
    refine ia_op (oa_move rfl ?_)
    iterate 6 refine ia_gdN rfl ?_
    have h00 : al.length - i = 0 := by omega
    refine ia_op (oa_pickF rfl rfl (ia_nil (va_condF rfl (va_skip (rest (fun h => by rw [h00, Nat.zero_mul] at h; omega) _ ⟨rfl, rfl, rfl, rfl, rfl, trivial⟩)))))
end
end Go.Proofs.YtndhniapohlniaaGreatDoor
