/-
  Matched calls: the visit of two calls comes to what the plain law says. Conditions: the calls' number.
-/
import Derived.Test.YtndhniapohlniaaGreatDoorKeeps6
namespace Go.Proofs.YtndhniapohlniaaGreatDoor
open Go Go.Proofs.YtndhniapohlniaaGreatDoor.Eng
structure VisI (m : MC) (i j : Nat) (Hl : Heap) (u1 : AV) (c1 : Bool) (out1 found : List (Nat × Nat)) (a : Nat × List (Nat × Nat) × Bool × AV) (H' : Heap) : Prop where
  le : a.1 ≤ found.length
  vis : VisW m.A m.B m.L m.R m.lim ((found.take a.1).map (kidP m.A m.B i j)) a.2.1 a.2.2.1
  keep : Keep (fun k => k = m.bx ∨ ownB u1 k) Hl H'
  row : IsRow H' m.bx (m.row a.2.2.2 (c1 || a.2.2.1)) false false
  own : Own H' a.2.2.2 2 (out1 ++ a.2.1).length ((out1 ++ a.2.1).flatMap prN)
  new : ∀ k, ownB a.2.2.2 k → ownB u1 k ∨ Hl.nx ≤ k
section
variable {tb : List FuncId} {gl : List (List AV)} {m : MC} {H0 : Heap}
set_option maxHeartbeats 0 in
theorem visit_ok {nA nB : Nat} {op op' : List Nat} (I : TInv nA m.A op) (J : TInv nB m.B op') (hA : m.A.length ≤ 500) (hB : m.B.length ≤ 500) (hOk : m.Ok H0) (hbx : H0.nx ≤ m.bx) (hlim0 : -9223372036854775808 ≤ m.lim ∧ m.lim < 9223372036854775808) : ∀ d, VisS tb gl m H0 d := by
  intro d
  have hlim : limit = 1000000 := rfl
  induction d with
  | zero => intro i j H out u c Q hd hi; omega
  | succ d ih =>
  intro i j H out u c Q hd hi hj ho hk hrow hown hnew hQ
  have hbH := hrow.1
  obtain ⟨ul, hul⟩ : ∃ u, m.usA[i]? = some u := ⟨_, List.getElem?_eq_getElem (by rw [hOk.lA]; exact hi)⟩
  obtain ⟨ur, hur⟩ : ∃ u, m.usB[j]? = some u := ⟨_, List.getElem?_eq_getElem (by rw [hOk.lB]; exact hj)⟩
  refine fa Tryz.func18 b18_eq v18_eq r18_eq (.inr (by simp)) ?_
  refine va_seqr ?_
  refine ia_op (oa_box rfl fun H1 hk1 hr1 => ?_)
  obtain ⟨b3, hb3⟩ : ∃ b, b = H.nx := ⟨_, rfl⟩
  rw [← hb3] at hr1 ⊢
  have g1 : IsRow H1 b3 [.ptr m.bx 0] false false := hr1
  have w1 := hrow.keep0 hk1
  refine ia_nil (va_seqr ?_)
  refine ia_pl rfl ?_; (repeat ((first | refine ia_op (oa_nilCheck rfl ?_) | refine ia_op (oa_fieldAddr FpF.h (by decide) rfl ?_) | refine ia_op (oa_load1 PlF.h rfl g1 rfl ?_) | refine ia_op (oa_load1 PlF.h rfl w1 rfl ?_)); refine ia_pl rfl ?_))
  refine ia_op (oa_struct BsF.h ZeF.h PsF.h rfl ?_)
  refine ia_op (oa_newSlice (n := 1) ElF.h (by decide) rfl rfl fun H2 hk2 hr2 => ?_)
  have hown2 := (hown.keep0 hk1).keep0 hk2
  refine ia_op (oa_append rfl rfl rfl ElF.h (.inl UnF.h) rfl hown2 rfl (IsRow.sl (es := 2) (n := 1) hr2 rfl (Nat.le_refl 1)).elems rfl rfl (by omega) fun u1 H3 ho3 hk3 hb3u => ?_)
  have hx1 := hk1.nx
  have hx2 := hk2.nx
  have hx3 := hk3.nx
  have hl1 := g1.1
  have hult : ∀ k, ownB u k → k < H.nx := fun k hk => hown.lt hk
  have g3 := (g1.keep0 hk2).keep hk3 (.inl fun h => by have := hult _ h; omega)
  have w3 := (w1.keep0 hk2).keep hk3 (.inl fun h => (hnew _ h).2 rfl)
  refine ia_ckL PlF.h rfl g3 rfl rfl ?_
  refine ia_pl rfl ?_; (repeat ((first | refine ia_op (oa_nilCheck rfl ?_) | refine ia_op (oa_fieldAddr FpF.h (by decide) rfl ?_) | refine ia_op (oa_load1 PlF.h rfl g3 rfl ?_)); refine ia_pl rfl ?_))
  refine ia_op (oa_store1 SzF.h rfl rfl (own_scal ho3) w3 (show 7 < 9 by omega) fun H4 hk4 hn4 hr4 => ?_)
  have w4 : IsRow H4 m.bx (m.row u1 c) false false := hr4
  have n1 : ∀ k, ownB u1 k → H0.nx ≤ k ∧ k ≠ m.bx := fun k h => (hb3u k h).elim (hnew k) fun h => by
    have := hk.nx
    exact ⟨by omega, by omega⟩
  have ho4 : Own H4 u1 2 (out ++ [(i, j)]).length ((out ++ [(i, j)]).flatMap prN) := by
    rw [List.length_append, List.flatMap_append]
    exact ho3.keep hk4 fun k h e => (n1 k h).2 e
  have g4 := g3.keep hk4 (.inl (by omega))
  have hK4 : Keep (fun k => k = m.bx ∨ ownB u k) H H4 := (((hk1.trans0 hk2).wide (fun _ h => h.elim)).trans hk3 fun k h => .inl (.inr h)).trans hk4 fun k h => .inl (.inl h)
  have hk04 : Keep Non H0 H4 := hk.trans hK4 fun k h => .inr (h.elim (fun h => by omega) fun h => (hnew k h).1)
  have ok4 := hOk.keep0 hk04
  refine ia_nil (va_seqr ?_)
  refine ia_pl rfl ?_; (repeat ((first | refine ia_op (oa_nilCheck rfl ?_) | refine ia_op (oa_fieldAddr FpF.h (by decide) rfl ?_) | refine ia_op (oa_load1 PlF.h rfl g4 rfl ?_) | refine ia_op (oa_load1 PlF.h rfl w4 rfl ?_)); refine ia_pl rfl ?_))
  refine ia_op (oa_indexRow (j := i) UnF.h SzF.h rfl rfl rfl hi ?_)
  refine ia_op (oa_load1 PlF.h rfl ok4.rA (by rw [Nat.mul_one]; exact hul) ?_)
  refine ia_pl rfl ?_; (repeat ((first | refine ia_op (oa_nilCheck rfl ?_) | refine ia_op (oa_fieldAddr FpF.h (by decide) rfl ?_) | refine ia_op (oa_load1 PlF.h rfl g4 rfl ?_) | refine ia_op (oa_load1 PlF.h rfl w4 rfl ?_)); refine ia_pl rfl ?_))
  refine ia_op (oa_indexRow (j := j) UnF.h SzF.h rfl rfl rfl hj ?_)
  refine ia_op (oa_load1 PlF.h rfl ok4.rB (by rw [Nat.mul_one]; exact hur) ?_)
  refine ia_op (oa_alloc ZeF.h fun H5 hk5 hr5 => ?_)
  refine ia_op (oa_alloc ZeF.h fun H6 hk6 hr6 => ?_)
  obtain ⟨b6, hb6⟩ : ∃ b, b = H4.nx := ⟨_, rfl⟩
  obtain ⟨b7, hb7⟩ : ∃ b, b = H5.nx := ⟨_, rfl⟩
  rw [← hb6] at hr5 ⊢
  rw [← hb7] at hr6 ⊢
  have hx5 := hk5.nx
  have hx6 := hk6.nx
  have hl5 := hr5.1
  have hl6 := hr6.1
  have hulS := own_scal (ok4.kA i ul hul)
  have hurS := own_scal (ok4.kB j ur hur)
  refine ia_op (oa_store1 SzF.h rfl rfl hulS (hr5.keep0 hk6) (show 0 < 1 by omega) fun H7 hk7 hn7 hr7 => ?_)
  have r6 : IsRow H7 b6 [ul] false false := hr7
  have hK47 : Keep Non H4 H7 := (hk5.trans0 hk6).trans hk7 fun k h => .inr (by omega)
  have g7 := g4.keep0 hK47
  have w7 := w4.keep0 hK47
  have ok7 := ok4.keep0 hK47
  refine ia_ckL PlF.h rfl g7 rfl rfl ?_
  refine ia_ckL PlF.h rfl w7 rfl rfl ?_
  refine ia_ckL PlF.h rfl ok7.rB (by rw [Nat.mul_one]; exact hur) rfl ?_
  refine ia_op (oa_store1 SzF.h rfl rfl hurS (hr6.keep hk7 (.inl (by omega))) (show 0 < 1 by omega) fun H8 hk8 hn8 hr8 => ?_)
  have r7 : IsRow H8 b7 [ur] false false := hr8
  have r68 := r6.keep hk8 (.inl (by omega))
  have hK48 : Keep Non H4 H8 := hK47.trans hk8 fun k h => .inr (by omega)
  have g8 := g4.keep0 hK48
  have w8 := w4.keep0 hK48
  have ok8 := ok4.keep0 hK48
  have hkl : (kidA m.A i).length ≤ m.A.length := kidsT_len m.A i m.A.length
  have hkr : (kidA m.B j).length ≤ m.B.length := kidsT_len m.B j m.B.length
  refine ia_nil (va_seqr ?_)
  refine ia_pl rfl ?_; (repeat ((first | refine ia_op (oa_nilCheck rfl ?_) | refine ia_op (oa_fieldAddr FpF.h (by decide) rfl ?_) | refine ia_op (oa_load1 PlF.h rfl g8 rfl ?_) | refine ia_op (oa_load1 PlF.h rfl w8 rfl ?_) | refine ia_op (oa_load1 PlF.h rfl r68 rfl ?_) | refine ia_op (oa_load1 PlF.h rfl r7 rfl ?_)); refine ia_pl rfl ?_))
  refine ia_op (oa_call rfl rfl rfl (row_ok (ks := kidA m.A i) (by omega) ok8.a (ok8.kA i ul hul).sl ok8.mL (fun k hk => (mem_kidA hk).elim fun _ h => h.2.2.2) fun ua H9 hk9 ho9 hn9 => ?_))
  refine ia_ckL PlF.h rfl (g8.keep0 hk9) rfl rfl ?_
  refine ia_ckL PlF.h rfl (w8.keep0 hk9) rfl rfl ?_
  refine ia_ckL PlF.h rfl (r7.keep0 hk9) rfl rfl ?_
  refine ia_ckL PlF.h rfl (g8.keep0 hk9) rfl rfl ?_
  refine ia_ckL PlF.h rfl (w8.keep0 hk9) rfl rfl ?_
  refine ia_ckL PlF.h rfl (g8.keep0 hk9) rfl rfl ?_
  refine ia_ckL PlF.h rfl (w8.keep0 hk9) rfl rfl ?_
  have ok9 := ok8.keep0 hk9
  refine ia_op (oa_call rfl rfl rfl (row_ok (ks := kidA m.B j) (by omega) ok9.b (ok9.kB j ur hur).sl ok9.mR (fun k hk => (mem_kidA hk).elim fun _ h => h.2.2.2) fun ub H10 hk10 ho10 hn10 => ?_))
  refine ia_ckL PlF.h rfl ((g8.keep0 hk9).keep0 hk10) rfl rfl ?_
  refine ia_ckL PlF.h rfl ((w8.keep0 hk9).keep0 hk10) rfl rfl ?_
  have s9 : IsSl H10 ua 2 ((kidA m.A i).map (evOf m.A m.L 2)).length (((kidA m.A i).map (evOf m.A m.L 2)).flatMap evC) := by rw [List.length_map]; exact (ho9.keep0 hk10).sl
  have s10 : IsSl H10 ub 2 ((kidA m.B j).map (evOf m.B m.R 3)).length (((kidA m.B j).map (evOf m.B m.R 3)).flatMap evC) := by rw [List.length_map]; exact ho10.sl
  refine ia_op (oa_call rfl rfl rfl (alMatch_ok (by rw [List.length_map]; omega) (by rw [List.length_map]; omega) hlim0 s9 s10 (own_noSe ho9) (own_noSe ho10) fun found cm uf H11 hMat hk11 hof hnf => ?_))
  rw [List.length_map, List.length_map] at hMat
  have hM : MatM (kidE m.A m.B m.L m.R i j) (kidA m.A i).length (kidA m.B j).length m.lim found cm := hMat
  refine ia_pl rfl ?_
  have hK8b : Keep Non H8 H11 := (hk9.trans0 hk10).trans0 hk11
  have g11 := g8.keep0 hK8b
  have w11 := w8.keep0 hK8b
  have hfl := hM.fits
  have hfn : found.length ≤ (kidA m.A i).length := by
    have := sorted_len (op := found.map (·.1)) (n := (kidA m.A i).length) (by rw [List.pairwise_map]; exact hfl.2.imp fun h => h.1) (fun k hk => by obtain ⟨q, hq, rfl⟩ := List.mem_map.1 hk; exact (hfl.1 q hq).1)
    rwa [List.length_map] at this
  refine ia_nil (va_seqr ?_)
  refine ia_pl rfl ?_; (repeat ((first | refine ia_op (oa_nilCheck rfl ?_) | refine ia_op (oa_fieldAddr FpF.h (by decide) rfl ?_) | refine ia_op (oa_load1 PlF.h rfl g11 rfl ?_) | refine ia_op (oa_load1 PlF.h rfl w11 rfl ?_)); refine ia_pl rfl ?_))
  refine IA.mono (Q := fun l' H' => Sb [(3, .ptr b3 0), (6, .ptr b6 0), (7, .ptr b7 0), (8, uf)] l' ∧ Keep (· = m.bx) H11 H' ∧ H'.nx = H11.nx ∧ IsRow H' m.bx (m.row u1 (c || cm)) false false) ?_ ?_
  · cases c with
    | true =>
      refine ia_gdN rfl ?_
      refine ia_op (oa_pickT rfl rfl rfl ?_)
      refine ia_pl rfl ?_; (repeat ((first | refine ia_op (oa_nilCheck rfl ?_) | refine ia_op (oa_fieldAddr FpF.h (by decide) rfl ?_) | refine ia_op (oa_load1 PlF.h rfl g11 rfl ?_) | refine ia_op (oa_load1 PlF.h rfl w11 rfl ?_)); refine ia_pl rfl ?_))
      refine ia_op (oa_store1 SzF.h rfl rfl rfl w11 (show 8 < 9 by omega) fun H12 hk12 hn12 hr12 => ?_)
      exact ia_nil ⟨⟨rfl, rfl, rfl, rfl, trivial⟩, hk12, hn12, hr12⟩
    | false =>
      refine ia_gdY rfl (oa_move rfl ?_)
      refine ia_op (oa_pickF rfl rfl ?_)
      refine ia_pl rfl ?_; (repeat ((first | refine ia_op (oa_nilCheck rfl ?_) | refine ia_op (oa_fieldAddr FpF.h (by decide) rfl ?_) | refine ia_op (oa_load1 PlF.h rfl g11 rfl ?_) | refine ia_op (oa_load1 PlF.h rfl w11 rfl ?_)); refine ia_pl rfl ?_))
      refine ia_op (oa_store1 SzF.h rfl rfl rfl w11 (show 8 < 9 by omega) fun H12 hk12 hn12 hr12 => ?_)
      exact ia_nil ⟨⟨rfl, rfl, rfl, rfl, trivial⟩, hk12, hn12, hr12⟩
  rintro l12 H12 ⟨hs12, hk12, hn12, w12⟩
  have hx8 : H4.nx ≤ H8.nx := hK48.nx
  have hx11 : H8.nx ≤ H11.nx := hK8b.nx
  have hx10 : H8.nx ≤ H10.nx := (hk9.trans0 hk10).nx
  have hK412 : Keep (fun k => k = m.bx) H4 H12 := ((hK48.trans0 hK8b).wide fun _ h => h.elim).trans hk12 fun k h => .inl h
  have hK12 : Keep (fun k => k = m.bx ∨ ownB u k) H H12 := hK4.trans hK412 fun k h => .inl (.inl h)
  have hk012 : Keep Non H0 H12 := hk.trans hK12 fun k h => .inr (h.elim (fun h => by omega) fun h => (hnew k h).1)
  have ho12 : Own H12 u1 2 (out ++ [(i, j)]).length ((out ++ [(i, j)]).flatMap prN) := ho4.keep hK412 fun k h e => (n1 k h).2 e
  have g12 := g11.keep hk12 (.inl (by omega))
  have r6_12 := (r68.keep0 hK8b).keep hk12 (.inl (by omega))
  have r7_12 := (r7.keep0 hK8b).keep hk12 (.inl (by omega))
  have hof12 := hof.keep hk12 fun k h e => by have := hnf k h; omega
  have hu1lt : ∀ k, ownB u1 k → k < H4.nx := fun k h => ho4.lt h
  have hu1b3 : ∀ k, ownB u1 k → k ≠ b3 := fun k h e => by
    subst e
    rcases hb3u k h with h | h
    · have := hult k h; omega
    · omega
  refine VA.sub hs12 (va_seqr ?_)
  refine ia_op (oa_fn rfl rfl ?_)
  refine ia_pl rfl ?_
  refine ia_nil (va_seqr ?_)
  refine ia_pl rfl ?_; (repeat ((first | refine ia_op (oa_lenSl rfl rfl rfl UnF.h rfl hof12.sl ?_)); refine ia_pl rfl ?_))
  refine ia_nil (va_block ?_)
  refine va_loop (fun (a : Nat × List (Nat × Nat) × Bool × AV) => [(10, .fn 42 [.ptr b3 0, .ptr b6 0, .ptr b7 0]), (80, uf), (81, .int .i64 (found.length : Int)), (82, .int .i64 (a.1 : Int))]) (VisI m i j H12 u1 (c || cm) (out ++ [(i, j)]) found) (fun a => found.length - a.1) ?_ (0, [], false, u1) _ H12
    ⟨rfl, rfl, rfl, rfl, trivial⟩ ⟨Nat.zero_le _, .nil, .refl _ _, by rw [Bool.or_false]; exact w12, by rw [List.append_nil]; exact ho12, fun k h => .inl h⟩
  rintro ⟨q, outq, cq, uq⟩ H13 ⟨hle, hvis, hkeep, hrow13, hown13, hnew13⟩
  simp only at hle hvis hrow13 hown13 hnew13
  refine va_seqr ?_
  by_cases hqn : q = found.length
  · refine ia_op (oa_lssW rfl rfl (decide_eq_false (by simp only; omega)) (ia_nil (va_seq (va_condF rfl (va_exit ⟨[], rfl, ?_⟩)))))
    refine hQ ((i, j) :: outq) (cm || cq) uq H13 ⟨?_, hK12.trans hkeep fun k h => ?_, ?_, ?_, fun k h => ?_⟩
    · rw [hqn, List.take_length] at hvis
      exact .step hM (by rw [List.append_nil]; exact hvis)
    · rcases h with h | h
      · exact .inl (.inl h)
      · rcases hb3u k h with h | h
        · exact .inl (.inr h)
        · exact .inr (by omega)
    · rw [← Bool.or_assoc]; exact hrow13
    · rw [List.append_cons]; exact hown13
    · rcases hnew13 k h with h | h
      · rcases hb3u k h with h | h
        · exact .inl h
        · exact .inr (by omega)
      · exact .inr (by have := hK12.nx; omega)
  obtain ⟨f, hf⟩ : ∃ f, found[q]? = some f := ⟨_, List.getElem?_eq_getElem (by omega)⟩
  have hchunk := flat_chunk prN_len found q f hf
  have hav : ∀ k, ownB uf k → ¬ (k = m.bx ∨ ownB u1 k) := fun k h e => by
    have := hnf k h
    rcases e with e | e
    · omega
    · have := hu1lt k e; omega
  refine ia_op (oa_lssW rfl rfl (decide_eq_true (by simp only; omega)) (ia_nil (va_seq (va_condT rfl (va_skip (va_seq (va_block (va_seqr ?_))))))))
  refine ia_op (oa_indexSl UnF.h SzF.h rfl (hof12.keep hkeep hav).sl rfl rfl (by omega) fun q0 hq0 => ?_)
  rw [hchunk] at hq0
  refine ia_op (oa_ploadN (k := 2) PlF.h rfl (by decide) rfl hq0 ?_)
  refine ia_op (oa_alloc ZeF.h fun H14 hk14 hr14 => ?_)
  refine ia_op (oa_storeAll (k := 2) SzF.h rfl rfl rfl rfl hr14 rfl fun H15 hk15 hn15 hr15 => ?_)
  have hK15' : Keep Non H13 H15 := hk14.trans hk15 fun k h => .inr (by omega)
  refine ia_nil (va_reg ?_)
  refine ia_op (oa_move rfl ?_)
  refine ia_op (oa_loadN (z := 2) (i := 0) PlF.h rfl hr15 (Nat.le_refl 2) ?_)
  have hK15 : Keep (fun k => k = m.bx ∨ ownB u1 k) H12 H15 := hkeep.trans hK15' fun _ h => h.elim
  have hk015 : Keep Non H0 H15 := hk012.trans hK15 fun k h => .inr (h.elim (fun h => by omega) fun h => (n1 k h).1)
  obtain ⟨fm1, fm2, fm3⟩ := hfl.1 f (List.mem_of_getElem? hf)
  have hpre := VisW.pre_len I J hM hf hvis
  obtain ⟨hkb1, hkb2⟩ := kids_bef I J hM
  obtain ⟨hki, hkj, hkA, hkB⟩ := hkb2 (kidP m.A m.B i j f) (List.mem_map.2 ⟨f, List.mem_of_getElem? hf, rfl⟩)
  have ok15 := hOk.keep0 hk015
  have hx12 : H12.nx ≤ H15.nx := hK15.nx
  have hx04 := hk04.nx
  refine ia_op (oa_call (g := 42) (cap := [.ptr b3 0, .ptr b6 0, .ptr b7 0]) (xs := [.agg (prN f)]) rfl rfl rfl (each_ok (f := f) ih (g12.keep hK15 (.inl ?_)) (r6_12.keep hK15 (.inl ?_)) (r7_12.keep hK15 (.inl ?_)) (ok15.kA i ul hul).sl (ok15.kB j ur hur).sl fm1 fm2 (out := (out ++ [(i, j)]) ++ outq) (u := uq) (c := (c || cm) || cq)
    ?_ hkA hkB ?_ hk015 (hrow13.keep0 hK15') (hown13.keep0 hK15') (fun k h => ?_) ?_ fun out' c' u' H16 H17 hk16 hP => ?_))
  · rintro (h | h)
    · omega
    · exact hu1b3 _ h rfl
  · rintro (h | h)
    · omega
    · have := hu1lt _ h; omega
  · rintro (h | h)
    · omega
    · have := hu1lt _ h; omega
  · have e : (kidP m.A m.B i j f).1 = (kidA m.A i).getD f.1 0 := rfl
    omega
  · have e : (kidP m.A m.B i j f).1 = (kidA m.A i).getD f.1 0 := rfl
    simp only [List.length_append, List.length_singleton]
    omega
  · rcases hnew13 k h with h | h
    · exact n1 k h
    · exact ⟨by omega, by omega⟩
  · omega
  obtain ⟨pv, pk, prw, po, pn⟩ := hP
  refine ia_nil (va_reg ?_)
  refine ia_op (oa_addW (c := ((q + 1 : Nat) : Int)) rfl rfl (wrapE_i64 (by omega) (by omega) (by omega)) ?_)
  refine ia_pl rfl ?_
  have hx16 := hk16.nx
  refine ia_nil ⟨(q + 1, outq ++ out', cq || c', u'), ?_, ⟨rfl, rfl, rfl, rfl, trivial⟩, by simp only; omega, ?_, ?_, ?_, ?_, fun k h => ?_⟩
  · show found.length - (q + 1) < found.length - q
    omega
  · simp only
    rw [List.take_add_one, hf, List.map_append]
    exact hvis.append pv
  · refine (hK15.trans hk16 fun _ h => h.elim).trans pk fun k h => ?_
    rcases h with h | h
    · exact .inl (.inl h)
    · rcases hnew13 k h with h | h
      · exact .inl (.inr h)
      · exact .inr h
  · simp only
    rw [← Bool.or_assoc]
    exact prw
  · simp only
    rw [← List.append_assoc]
    exact po
  · rcases pn k h with h | h
    · exact hnew13 k h
    · exact .inr (by omega)
end
end Go.Proofs.YtndhniapohlniaaGreatDoor
