/-
  A program's rows (view.List), walked. Conditions: how large the program is.
-/
import Derived.Test.YtbmedhaopnhggaaGreatDoorLiX
namespace Go.Proofs.YtbmedhaopnhggaaGreatDoor
open Go Eng Tryz
section
variable {tb : List FuncId} {gl : List (List AV)} {A : Nat → Prop} {H : Heap} {u v w : AV} {b : Nat} {s : Ls} {Q : AV → Heap → Prop}
theorem zqj {x : Prc} : ∀ {l : List Prc}, okPs l = true → x ∈ l → okP x = true
 | [], _, h => by cases h
 | y :: l, ho, h => by
  simp only [okPs, Bool.and_eq_true] at ho
  rcases List.mem_cons.1 h with rfl | h
  ·exact ho.1
  ·exact zqj ho.2 h
theorem zpw {x : Prc} : ∀ {l : List Prc}, x ∈ l → dpSs x.body 1 ≤ dpPs l
 | [], h => by cases h
 | y :: l, h => by
  simp only [dpPs]
  rcases List.mem_cons.1 h with rfl | h
  ·omega
  ·have := zpw h; omega
set_option maxHeartbeats 0 in
theorem List_ok {p : List Prc} (hp : IsPg Non H v p) (hK : KeysIn H) (hz : sizPs p ≤ 500) (hN : ∀ e H', Keep Non H H' → e ≠ 0 → ¬ (okPs p = true ∧ dpPs p ≤ 60) → Q (.tup [.nils, .int .i64 e]) H')
  (hY : okPs p = true → dpPs p ≤ 60 → ∀ u' H', Keep Non H H' → Own H' u' 3 (lPs p 0).length (rowsC (lPs p 0)) → (∀ c, ownB u' c → H.nx ≤ c) → Q (.tup [u', .int .i64 0]) H') : WpF prog tb gl 7 [v] H Q := by
 have hrB : rB = 140737488351232 := rfl
 have hp0 := hp
 obtain ⟨hpl, vp, rfl, hLp⟩ := hp
 refine fa func7 b7_eq v7_eq r7_eq (.inr (by simp)) ?_
 refine zac ?_
 refine zaa (zcd rfl fun H1 hk1 hr1 => ?_)
 obtain ⟨bx, hbx⟩ : ∃ b, b = H.nx := ⟨_, rfl⟩
 rw [← hbx] at hr1 ⊢
 have hr1 : IsRow H1 bx [vp] false false := hr1
 refine zae rfl ?_
 refine zab (zak (zac ?_))
 refine zaa (zaq (k := 1) PlF.h rfl (by decide) rfl hr1.pts ?_)
 refine zaa (zaj rfl rfl rfl (zlq (hp0.keep hk1) (fun a ha => ha.elim) (hK.keep hk1) (by omega) fun H2 hk2 => ?_))
 have hk02 := hk1.trans0 hk2
 have hr2 := hr1.keep0 hk2
 by_cases hout : okPs p = true ∧ dpPs p ≤ 60
 rotate_left
 ·obtain ⟨e, he, heq⟩ : ∃ e : Int, e ≠ 0 ∧ outT (okPs p) (wdPs p) (dpPs p) = .tup [S [], .int .i64 e] := by
   unfold outT
   cases h : okPs p with
   | false => exact ⟨32, by decide, rfl⟩
   | true =>
    rw [if_neg (by simp), if_pos (by
     rw [h] at hout
     simp only [true_and] at hout
     omega)]
    exact ⟨31, by decide, rfl⟩
  rw [heq]
  refine zae rfl ?_
  refine zab (zac ?_)
  refine zae rfl ?_
  refine zaa (zcr rfl rfl he (zab (zah rfl (zac ?_))))
  refine zae rfl ?_
  exact zab (zao ⟨_, rfl, hN e H2 hk02 he hout⟩)
 obtain ⟨hok, hdp⟩ := hout
 rw [zmr hok hdp]
 refine zae rfl ?_
 refine zab (zac ?_)
 refine zae rfl ?_
 refine zaa (zcf rfl rfl (by simp) (zab (zag rfl (zan (zac ?_)))))
 refine zaa (zbz BsF.h ZeF.h (pl := []) rfl rfl ?_)
 refine zaa (zcd rfl fun H3 hk3 hr3 => ?_)
 obtain ⟨bw, hbw⟩ : ∃ b, b = H2.nx := ⟨_, rfl⟩
 rw [← hbw] at hr3 ⊢
 have W3 : Li bw H3 .nils ⟨0, 0, 0, []⟩ := ⟨hr3, Own.nil _ _, id⟩
 have hk03 := hk02.trans0 hk3
 have hr33 := hr2.keep0 hk3
 have hbl : bx < bw := by rw [hbw]; exact hr2.1
 have hLp3 : IsLs Non (IsPc Non) 4 H3 vp p := hLp.keep hk03 fun _ _ _ h => h.keep hk03
 have keepP : ∀ H' u', Wk bw H3 .nils H' u' → IsLs Non (IsPc Non) 4 H' vp p := fun H' u' k => hLp3.keepS k.keep (fun c hc => hc.elim) fun _ _ _ h => h.keepS k.keep fun c hc => hc.elim
 obtain ⟨els, hsl, _⟩ := zbc hLp3
 refine zae rfl ?_
 refine zab (zak (zac ?_))
 refine zae rfl ?_; (repeat ((refine zaa ?_; first | refine zad FpF.h (by decide) rfl ?_ | refine zaf PlF.h rfl hr33 rfl ?_ | refine za8 rfl rfl rfl UnF.h rfl hsl ?_); refine zae rfl ?_))
 refine zab (zam ?_)
 refine zbw (fun (i : Nat) => [(6, .ptr bw 0), (20, vp), (21, .int .i64 (p.length : Int)), (22, .int .i64 (i : Int))]) (fun i H' => i ≤ p.length ∧ ∃ u' s', Wk bw H3 .nils H' u' ∧ Li bw H' u' s' ∧ s'.rows = lPs (p.take i) 0) (fun i => p.length - i) ?_ 0 _ H3 ⟨rfl, rfl, rfl, rfl, trivial⟩
  ⟨Nat.zero_le _, .nils, _, .refl _ _ _, W3, rfl⟩
 rintro i H4 ⟨hle, u4, s4, k34, W4, hrows⟩
 have hlen := zo1 (p.take i) 0
 have htk := zew p i
 refine zac ?_
 by_cases hi : i < p.length
 rotate_left
 ·refine zaa (zcb rfl rfl (decide_eq_false (by omega)) (zab (zak (zag rfl (zbn (zac ?_))))))
  rw [List.take_of_length_le (by omega)] at hrows
  have hr4 := W4.row
  refine zae rfl ?_; (repeat ((refine zaa ?_; first | refine za5 rfl ?_ | refine zad FpF.h (by decide) rfl ?_ | refine zaf PlF.h rfl hr4 rfl ?_); refine zae rfl ?_))
  have hk24 : Keep Non H2 H4 := hk3.trans k34.keep fun c hc => .inr (hc.elim (fun hc => by rw [hc, hbw]; exact Nat.le_refl _) fun hc => hc.elim)
  refine zab (zao ⟨_, rfl, hY hok hdp u4 H4 (hk02.trans0 hk24) ?_ fun c hc => ?_⟩)
  ·have := W4.own
   rw [hrows] at this
   exact this
  ·have := k34.new c hc
   rcases this with h | h
   ·exact h.elim
   ·have := hk03.nx; omega
 obtain ⟨x, hx⟩ : ∃ x, p[i]? = some x := ⟨_, List.getElem?_eq_getElem hi⟩
 have hxm := List.mem_of_getElem? hx
 have hokx := zqj hok hxm
 have hdpx := zpw hxm
 simp only [okP, Bool.and_eq_true] at hokx
 refine zaa (zcb rfl rfl (decide_eq_true (by omega)) (zab (zak (zah rfl (zan (zak (zam (zac ?_))))))))
 obtain ⟨els4, hsl4, hel4⟩ := zbc (keepP H4 u4 k34)
 obtain ⟨cx, hcx, hEx⟩ := hel4 i x hx
 have hEx0 := hEx
 obtain ⟨vm, vb, rfl, hnm, hty, hml, hbl2, hLm, hLb⟩ := hEx
 have hsx : sizPs (p.take i) + sizP x ≤ sizPs p := by
  have := zew p (i + 1)
  rw [zbt hx, zga] at this
  exact this
 have hsP : sizP x = 1 + x.name.length / 8 + x.params.length + sizM x.params + sizSs x.body := rfl
 refine zae rfl ?_
 refine zaa (za3 UnF.h SzF.h rfl hsl4 rfl rfl hi fun q0 hq0 => ?_)
 rw [hcx] at hq0
 refine zaa (zaq (k := 4) PlF.h rfl (by decide) rfl hq0 ?_)
 refine zaa (zci ZeF.h fun H5 hk5 hr5 => ?_)
 refine zae rfl ?_
 obtain ⟨by_, hby⟩ : ∃ b, b = H4.nx := ⟨_, rfl⟩
 have hoff5 : Off bw H5 u4 by_ := by
  have := hr5.1
  rw [hby]
  exact W4.fresh this
 rw [← hby] at hr5 ⊢
 refine zaa (zbv (k := 4) SzF.h rfl rfl rfl (zhg hEx0) hr5 rfl fun H6 hk6 hn6 hr6 => ?_)
 have hk46 : Keep Non H4 H6 := (hk5.trans hk6 fun c hc => .inr (by rw [hc, hby]; exact Nat.le_refl _)).wide fun _ h => h
 have W6 := W4.keep0 hk46
 have hoff6 : Off bw H6 u4 by_ := ⟨by rw [hn6]; exact hoff5.1, hoff5.2.1, hoff5.2.2⟩
 have k36 : Wk bw H3 .nils H6 u4 := k34.trans (.of hk46)
 refine zab (zac ?_)
 refine zae rfl ?_
 refine zaa (zbz BsF.h ZeF.h PsF.h rfl ?_)
 refine zae rfl ?_
 have hr6w := W6.row
 refine zae rfl ?_; (repeat ((refine zaa ?_; first | refine za5 rfl ?_ | refine zad FpF.h (by decide) rfl ?_); refine zae rfl ?_))
 refine zaa (znx (k := 3) SzF.h rfl rfl rfl rfl hr6w (by simp) fun H7 hk7 hn7 hr7 => ?_)
 have W7 : Li bw H7 u4 ⟨i, 0, 0, s4.rows⟩ := ⟨hr7, W6.own.keep hk7 fun c hc h => W6.ne (h ▸ hc), W6.ne⟩
 have k67 : Wk bw H6 u4 H7 u4 := ⟨hk7.wide fun c hc => Or.inl hc, fun c hc => .inl hc⟩
 have k37 := k36.trans k67
 have hr67 := k67.row hoff6 hr6
 have hoff7 := k67.off hoff6
 have hE7 : IsPc Non H7 [S x.name, vm, .int .i64 x.type, vb] x := (hEx0.keep hk46).keepS k67.keep fun c hc => hc.elim
 have hK7 : KeysIn H7 := (hK.keep hk03).keep k37.keep
 refine zab (zac ?_)
 refine zae rfl ?_
 refine zaa (zaq (k := 4) PlF.h rfl (by decide) rfl hr67.pts ?_)
 refine zaa (zaj rfl rfl rfl (vhead_ok hE7 (fun a ha => ha.elim) hK7 (by omega) hokx.1 fun H8 hk8 => ?_))
 have hlenH : (joinW (wdH x ++ [[123]])).length < 10000000 := by
  have h1 := zft ((zvk hokx.1).app (Sh.cons (by decide) Sh.nil) : Sh (wdH x ++ [[123]]))
  have h2 := zkw x ⟨[], false, 0⟩
  rw [(zkv x).yes ⟨[], false, 0⟩ rfl hokx.1] at h2
  simp only [List.nil_append, List.length_nil] at h2
  simp only [List.length_append, List.length_cons, List.length_nil] at h1
  omega
 have hl4 : s4.rows.length ≤ 3 * sizPs (p.take i) := by rw [hrows]; exact hlen
 refine zaa (zaj rfl rfl rfl (zfu (ws := wdH x ++ [[123]]) (W7.keep0 hk8) rfl (Nat.zero_le _) hlenH (by show s4.rows.length + 1 < 1000000; omega) fun u9 H9 k9 W9 => ?_))
 have k79 : Wk bw H7 u4 H9 u9 := (Wk.of hk8).trans k9
 have hr9 := k79.row hoff7 hr67
 have hoff9 := k79.off hoff7
 have k39 := k37.trans k79
 have hb9 : IsLs Non (IsS Non) 7 H9 vb x.body := by
  obtain ⟨vm', vb', h, _, _, _, _, _, h2⟩ := hE7.keepS k79.keep fun c hc => hc.elim
  simp only [List.cons.injEq] at h
  rw [h.2.2.2.1]
  exact h2
 refine zab (zac ?_)
 refine zae rfl ?_; (repeat ((refine zaa ?_; first | refine zad FpF.h (by decide) rfl ?_ | refine zaf PlF.h rfl hr9 rfl ?_); refine zae rfl ?_))
 refine zaa (zaj rfl rfl rfl (znj (k := szSs x.body) (zqd _) (Nat.le_refl _) hb9 (fun a ha => ha.elim) (hK7.keep k79.keep) W9 hokx.2 (by show dpSs x.body 1 ≤ 60; omega) (Nat.zero_le _) (by omega) (by show 0 + sizSs x.body < 100000; omega) (by rw [zi6]; show s4.rows.length + 1 + 3 * sizSs x.body < 100000; omega) hbl2 fun u10 H10 k10 W10 => ?_))
 refine zab (zaw ?_)
 refine zae rfl ?_
 have hcx2 := zjn x.body
 refine zaa (zaj rfl rfl rfl (zty W10 (by show 0 + cSs x.body < 1000000; omega) fun H11 k11 W11 => ?_))
 have hl10 := ze5 i x.body (0 + 1) 0
 refine zaa (zaj rfl rfl rfl (zfu (ws := [[125]]) W11 rfl (Nat.zero_le _) (by decide) (by simp only [lstB, Ls.put, List.length_append, List.length_cons, List.length_nil]; omega) fun u12 H12 k12 W12 => ?_))
 refine zab (zaw ?_)
 refine zaa (za0 (c := ((i + 1 : Nat) : Int)) rfl rfl Ju ?_)
 refine zae rfl ?_
 refine zab ⟨i + 1, ?_, ⟨rfl, rfl, rfl, rfl, trivial⟩, by omega, u12, _, k39.trans (k10.trans (k11.trans k12)), W12, ?_⟩
 ·show p.length - (i + 1) < p.length - i
  omega
 ·rw [zbt hx, zp7, List.length_take, Nat.min_eq_left (by omega), Nat.zero_add]
  simp only [lstB, Ls.put, hrows, lP, Nat.zero_add, List.append_assoc, List.cons_append, List.nil_append]
  simp
end
end Go.Proofs.YtbmedhaopnhggaaGreatDoor
