/-
  Checking a program (parallaxref04: first, call, Returns, stmt), walked: they answer. Conditions: none but the forms in memory.
-/
import Derived.Test.YtbmedhaopnhggaaGreatDoorChkC
namespace Go.Proofs.YtbmedhaopnhggaaGreatDoor
open Go Eng Tryz
set_option maxHeartbeats 0
section
variable {tb : List FuncId} {gl : List (List AV)} {A : Nat → Prop} {H : Heap} {u v w : AV} {b : Nat} {Q : AV → Heap → Prop}
theorem first_ok {es : List Int} (hs : IsSl H v 1 es.length (es.flatMap fun e => [.int .i64 e])) (hn : es.length < 1000000) (hQ : ∀ e, Q (.int .i64 e) H) : WpF prog tb gl 134 [v] H Q := by
 refine fa func134 b134_eq v134_eq r134_eq (.inr (by simp)) ?_
 (repeat' first | (refine zae rfl ?_; (refine zab ?_)) | refine zac ?_ | refine zak ?_ | refine zam ?_)
 refine zbw (fun (i : Nat) => [(0, v), (3, .int .i64 (i : Int))]) (fun i H' => H' = H ∧ i ≤ es.length) (fun i => es.length - i) ?_ 0 _ H ⟨rfl, rfl, trivial⟩ ⟨rfl, Nat.zero_le _⟩
 rintro i H' ⟨rfl, hle⟩
 by_cases hi : i < es.length
 rotate_left
 ·(repeat' first | (refine zae rfl ?_; first | (refine zaa ?_; first | refine za8 rfl rfl rfl UnF.h rfl hs ?_ | refine zbp rfl rfl (by omega) ?_) | refine zab ?_) | refine zag rfl ?_ | refine zac ?_ | refine zak ?_ | refine zbn ?_ | (refine zao ?_; refine zbm rfl ?_))
  exact hQ _
 obtain ⟨x, hx⟩ : ∃ x, es[i]? = some x := ⟨_, List.getElem?_eq_getElem hi⟩
 (repeat' first | (refine zae rfl ?_; first | (refine zaa ?_; first | refine za8 rfl rfl rfl UnF.h rfl hs ?_ | refine zcq (f := fun e : Int => [AV.int .i64 e]) (fun _ => rfl) UnF.h SzF.h rfl hs rfl rfl hx (fun q0 hq0 => ?_) | refine zbh PlF.h rfl hq0 rfl ?_ | refine za0 (c := ((i + 1 : Nat) : Int)) rfl rfl Ju ?_ | refine zbx rfl rfl (by omega) ?_ | refine zc7 rfl rfl (fun hc => ?_) (fun hc => ?_)) | refine zab ?_) | refine zah rfl ?_ | refine zag rfl ?_ | refine zac ?_ | refine zak ?_ | refine zaw ?_ | refine zam ?_ | refine zan ?_ | (refine zao ?_; refine zbm rfl ?_))
 ·refine ⟨i + 1, ?_, ⟨rfl, rfl, trivial⟩, rfl, by omega⟩
  show es.length - (i + 1) < es.length - i
  omega
 ·exact hQ _
theorem zhw : ∀ (k : Nat) {l : List Stm} {v : AV} {H : Heap} {Q : AV → Heap → Prop}, szSs l < k → IsLs Non (IsS Non) 7 H v l → l.length ≤ rB → (∀ b, Q (.bool b) H) → WpF prog tb gl 75 [v] H Q
 | 0, _, _, _, _, h, _, _, _ => by omega
 | k + 1, l, v, H, Q, hk, hL, hll, hQ => by
  have hrB : rB = 140737488351232 := rfl
  refine fa func75 b75_eq v75_eq r75_eq (.inr (by simp)) ?_
  (repeat' first | (refine zae rfl ?_; (refine zab ?_)) | refine zac ?_ | refine zak ?_ | refine zam ?_)
  refine zbw (fun (i : Nat) => [(0, v), (3, .int .i64 (i : Int))]) (fun i H' => H' = H ∧ i ≤ l.length) (fun i => l.length - i) ?_ 0 _ H ⟨rfl, rfl, trivial⟩ ⟨rfl, Nat.zero_le _⟩
  rintro i H' ⟨rfl, hle⟩
  by_cases hi : i < l.length
  rotate_left
  ·(repeat' first | (refine zae rfl ?_; first | (refine zaa ?_; first | refine za7 rfl rfl rfl UnF.h rfl hL ?_ | refine zbp rfl rfl (by omega) ?_) | refine zab ?_) | refine zag rfl ?_ | refine zac ?_ | refine zak ?_ | refine zbn ?_ | (refine zao ?_; refine zbm rfl ?_))
   exact hQ _
  obtain ⟨x, hx⟩ : ∃ x, l[i]? = some x := ⟨_, List.getElem?_eq_getElem hi⟩
  have hsx := zfe (List.mem_of_getElem? hx)
  have hszx : szS x = szSs x.body + szSs x.els + 1 := by cases x; simp only [szS]; rfl
  have fin : ∀ l', lk 0 l' = some v → lk 3 l' = some (.int .i64 (i : Int)) → VA prog tb gl (.reg [.op (some 8) (.move (.tmp 3)), .op (some 9) (.binOp .add 3 (.tmp 8) (.const (.int .i64 1)) 3), .op (some 3) (.assign (.tmp 9))]) l' H' (roundA (fun (i : Nat) => [(0, v), (3, .int .i64 (i : Int))]) (fun i H'' => H'' = H' ∧ i ≤ l.length) (fun i => l.length - i) i (exitA 0 (seqA prog tb gl v75t2 (leftA [.tmp 2] Q)))) := by
   intro l' g0 g3
   refine VA.sub (l0 := [(0, v), (3, .int .i64 (i : Int))]) ⟨g0, g3, trivial⟩ (zaw ?_)
   refine zae rfl ?_
   refine zaa (za0 (c := ((i + 1 : Nat) : Int)) rfl rfl Ju ?_)
   refine zae rfl ?_
   refine zab ⟨i + 1, ?_, ⟨rfl, rfl, trivial⟩, rfl, by omega⟩
   show l.length - (i + 1) < l.length - i
   omega
  refine zak (zac ?_)
  refine zae rfl ?_
  refine zaa (za7 rfl rfl rfl UnF.h rfl hL ?_)
  refine zaa (zbx rfl rfl (by omega) ?_)
  refine zab (zah rfl (zan (zak (zam (zak (zac ?_))))))
  refine zae rfl ?_
  refine zaa (zba UnF.h SzF.h rfl hL rfl rfl hx fun q0 c0 hR0 hcl0 hq0 => ?_)
  obtain ⟨v1, v2, v3, rfl, _⟩ := hR0.out
  refine zaa (zas FpF.h (by decide) rfl hq0 fun p2 hp2 => ?_)
  refine zaa (zbh PlF.h rfl hp2 rfl ?_)
  by_cases e7 : x.kind = 7
  ·(repeat' first | (refine zae rfl ?_; first | (((refine zaa ?_)); (refine zax rfl rfl (by omega) ?_)) | refine zab ?_) | refine zah rfl ?_ | refine zac ?_ | (refine zao ?_; refine zbm rfl ?_))
   exact hQ _
  refine zaa (zat rfl rfl e7 (zab (zag rfl (zan (zac ?_)))))
  refine zae rfl ?_
  refine zaa (zba UnF.h SzF.h rfl hL rfl rfl hx fun q1 c1 hR1 hcl1 hq1 => ?_)
  obtain ⟨w1, w2, w3, rfl, _⟩ := hR1.out
  refine zaa (zas FpF.h (by decide) rfl hq1 fun p3 hp3 => ?_)
  refine zaa (zbh PlF.h rfl hp3 rfl ?_)
  by_cases e4 : x.kind = 4
  rotate_left
  ·refine zaa (zat rfl rfl e4 ?_)
   refine zae rfl ?_
   refine zbb rfl (zbb rfl (zbb rfl (zbb rfl (zbb rfl (zbb rfl ?_)))))
   refine zaa (za1 rfl rfl ?_)
   refine zae rfl ?_
   refine zbb rfl (zbb rfl (zbb rfl (zbb rfl (zbb rfl (zbb rfl ?_)))))
   refine zaa (za1 rfl rfl ?_)
   exact zab (zag rfl (zan (fin _ rfl rfl)))
  refine zaa (zax rfl rfl e4 ?_)
  refine zae rfl ?_
  refine zav rfl (zal rfl (zav rfl (zal rfl (zav rfl (zba UnF.h SzF.h rfl hL rfl rfl hx fun q2 c2 hR2 hcl2 hq2 => ?_)))))
  obtain ⟨x1, x2, x3, rfl, _, _, _, _, _, hlb, _, _, hLb, _⟩ := hR2.out
  refine zav rfl (zas FpF.h (by decide) rfl hq2 fun p4 hp4 => ?_)
  refine zav rfl (zbh PlF.h rfl hp4 rfl ?_)
  refine zav rfl (zaj rfl rfl rfl (zhw k (by omega) hLb hlb fun b1 => ?_))
  refine zaa (zo9 rfl rfl rfl ?_)
  cases b1 with
  | false =>
   refine zae rfl ?_
   refine zbb rfl (zbb rfl (zbb rfl (zbb rfl (zbb rfl (zbb rfl ?_)))))
   refine zaa (za1 rfl rfl ?_)
   exact zab (zag rfl (zan (fin _ rfl rfl)))
  | true =>
   refine zae rfl ?_
   refine zav rfl (zal rfl (zav rfl (zal rfl (zav rfl (zba UnF.h SzF.h rfl hL rfl rfl hx fun q5 c5 hR5 hcl5 hq5 => ?_)))))
   obtain ⟨y1, y2, y3, rfl, _, _, _, _, _, _, hlf, _, _, hLf⟩ := hR5.out
   refine zav rfl (zas FpF.h (by decide) rfl hq5 fun p6 hp6 => ?_)
   refine zav rfl (zbh PlF.h rfl hp6 rfl ?_)
   refine zav rfl (zaj rfl rfl rfl (zhw k (by omega) hLf hlf fun b2 => ?_))
   refine zaa (zo9 rfl rfl rfl ?_)
   cases b2 with
   | false => exact zab (zag rfl (zan (fin _ rfl rfl)))
   | true =>
    refine zab (zah rfl (zac ?_))
    refine zae rfl ?_
    exact zab (zao ⟨_, rfl, hQ _⟩)
theorem ccall_ok {p : List Prc} {x : Stm} {c : List AV} {vs : List Vr} {mk : Int} (hp : IsPg Non H w p) (hE : IsS Non H c x) (hv : IsVs H v vs) (hQ : ∀ e H', Keep Non H H' → Q (.int .i64 e) H') : WpF prog tb gl 136 [w, .agg c, v, .int .i64 mk] H Q := by
 have hrB : rB = 140737488351232 := rfl
 obtain ⟨hpl, vp, rfl, hLp⟩ := hp
 obtain ⟨ve, vb, vf, rfl, _, _, hxn, hxp, hxl, _, _, hLe, _, _⟩ := hE.out
 refine fa func136 b136_eq v136_eq r136_eq (.inr (by simp)) ?_
 refine zac ?_
 refine zaa (zcd rfl fun H1 hk1 hr1 => ?_)
 obtain ⟨bp, hbp⟩ : ∃ b, b = H.nx := ⟨_, rfl⟩
 rw [← hbp] at hr1 ⊢
 have hr1 : IsRow H1 bp [vp] false false := hr1
 refine zaa (zcd rfl fun H2 hk2 hr2 => ?_)
 obtain ⟨bs, hbs⟩ : ∃ b, b = H1.nx := ⟨_, rfl⟩
 rw [← hbs] at hr2 ⊢
 have hrs : IsRow H2 bs [.int .i64 x.kind, S x.name, S x.proc, .int .i64 x.num, ve, vb, vf] false false := hr2
 have hrp := hr1.keep0 hk2
 have hk02 := hk1.trans0 hk2
 have hLp2 : IsLs Non (IsPc Non) 4 H2 vp p := hLp.keep hk02 fun _ _ _ h => h.keep hk02
 have hLe2 : IsLs Non (IsE Non) 4 H2 ve x.e := hLe.keep hk02 fun _ _ _ h => h.keep hk02
 have hv2 := hv.keep hk02
 clear hr1 hr2 hLp hE hLe hv
 refine zae rfl ?_
 refine zab (zac ?_)
 refine zae rfl ?_
 refine zab (zak (zac ?_))
 refine zae rfl ?_; (repeat ((refine zaa ?_; first | refine zad FpF.h (by decide) rfl ?_ | refine zaf PlF.h rfl hrp rfl ?_); refine zae rfl ?_))
 refine zaa (za7 rfl rfl rfl UnF.h rfl hLp2 ?_)
 refine zaa (zc8 (c := (p.length : Int) - 1) rfl rfl Ju ?_)
 refine zae rfl ?_
 refine zab (zam ?_)
 refine zbw (fun (i : Nat × Int) => [(2, v), (3, .int .i64 mk), (4, .ptr bp 0), (5, .ptr bs 0), (9, .int .i64 i.2), (10, .int .i64 ((i.1 : Int) - 1))]) (fun i H' => H' = H2 ∧ i.1 ≤ p.length ∧ -1 ≤ i.2 ∧ i.2 < p.length) (fun i => i.1) ?_ (p.length, -1) _ H2 ⟨rfl, rfl, rfl, rfl, rfl, rfl, trivial⟩ ⟨rfl, Nat.le_refl _, by show (-1 : Int) ≤ -1; omega, by show (-1 : Int) < _; omega⟩
 rintro ⟨j, at_⟩ H' ⟨rfl, hle, ha1, ha2⟩
 simp only at hle ha1 ha2
 refine VA.sub (l0 := [(2, v), (3, .int .i64 mk), (4, .ptr bp 0), (5, .ptr bs 0), (9, .int .i64 at_), (10, .int .i64 ((j : Int) - 1))]) ⟨rfl, rfl, rfl, rfl, rfl, rfl, trivial⟩ ?_
 by_cases hj : 0 < j
 ·obtain ⟨x0, hx0⟩ : ∃ x0, p[j - 1]? = some x0 := ⟨_, List.getElem?_eq_getElem (by omega)⟩
  (repeat' first | (refine zae rfl ?_; first | (refine zaa ?_; first | refine zad FpF.h (by decide) rfl ?_ | refine zaf PlF.h rfl hrp rfl ?_ | refine zaf PlF.h rfl hrs rfl ?_ | refine zba (j := j - 1) UnF.h SzF.h rfl hLp2 rfl (by omega) hx0 (fun q0 c0 ⟨v1, w1, hc0, _⟩ hcl0 hq0 => ?_) | refine zas FpF.h (by decide) rfl (hc0 ▸ hq0) (fun p2 hp2 => ?_) | refine zbh PlF.h rfl hp2 rfl ?_ | refine zc8 (c := (((j - 1 : Nat) : Int)) - 1) rfl rfl Ju ?_ | refine ze8 rfl rfl (by omega) ?_ | refine zf7 rfl rfl (fun hc => ?_) (fun hc => ?_)) | refine zab ?_) | refine zah rfl ?_ | refine zag rfl ?_ | refine zac ?_ | refine zak ?_ | refine zaw ?_ | refine zam ?_ | refine zan ?_)
  ·exact ⟨(j - 1, (j : Int) - 1), by show j - 1 < j; omega, ⟨rfl, rfl, rfl, rfl, rfl, rfl, trivial⟩, rfl, by show j - 1 ≤ _; omega, by show -1 ≤ (j : Int) - 1; omega, by show (j : Int) - 1 < _; omega⟩
  ·exact ⟨(j - 1, at_), by show j - 1 < j; omega, ⟨rfl, rfl, rfl, rfl, rfl, rfl, trivial⟩, rfl, by show j - 1 ≤ _; omega, ha1, ha2⟩
 refine zak (zac ?_)
 refine zae rfl ?_
 refine zaa (zgy rfl rfl (by omega) ?_)
 refine zab (zag rfl (zbn (zak (zac ?_))))
 refine zae rfl ?_
 by_cases hneg : at_ < 0
 ·(repeat' first | (refine zae rfl ?_; first | (((refine zaa ?_)); (refine zbx rfl rfl (by omega) ?_)) | refine zab ?_) | refine zah rfl ?_ | refine zac ?_ | (refine zao ?_; refine zbm rfl ?_))
  exact hQ _ _ hk02
 refine zaa (zbp rfl rfl hneg (zab (zag rfl (zan (zac ?_)))))
 obtain ⟨q, hq⟩ : ∃ q, p[at_.toNat]? = some q := ⟨_, List.getElem?_eq_getElem (by omega)⟩
 refine zae rfl ?_; (repeat ((refine zaa ?_; first | refine zad FpF.h (by decide) rfl ?_ | refine zaf PlF.h rfl hrp rfl ?_); refine zae rfl ?_))
 refine zaa (zba (j := at_.toNat) UnF.h SzF.h rfl hLp2 rfl (by omega) hq fun q0 c0 hR0 hcl0 hq0 => ?_)
 have hR00 := hR0
 obtain ⟨vm, vb', rfl, hqn, hqt, hml, hbl, hLm, hLb⟩ := hR0
 refine zaa (zaq (k := 4) PlF.h rfl (by decide) rfl hq0 ?_)
 refine zaa (zci ZeF.h fun H3 hk3 hr3 => ?_)
 refine zae rfl ?_
 obtain ⟨bq, hbq⟩ : ∃ b, b = H'.nx := ⟨_, rfl⟩
 rw [← hbq] at hr3 ⊢
 refine zaa (zbv (k := 4) SzF.h rfl rfl rfl (zhg hR00) hr3 rfl fun H4 hk4 hn4 hr4 => ?_)
 have hk24 : Keep Non H' H4 := (hk3.trans hk4 fun c hc => .inr (by rw [hc, hbq]; exact Nat.le_refl _)).wide fun _ h => h
 have hk04 := hk02.trans0 hk24
 have hrs4 := hrs.keep0 hk24
 have hLe4 : IsLs Non (IsE Non) 4 H4 ve x.e := hLe2.keep hk24 fun _ _ _ h => h.keep hk24
 have hLm4 : IsLs Non IsPm 2 H4 vm q.params := hLm.keep hk24 fun _ _ _ h => h
 have hv4 := hv2.keep hk24
 refine zab (zak (zac ?_))
 by_cases hne : q.params.length = x.e.length
 rotate_left
 ·(repeat' first | (refine zae rfl ?_; first | (refine zaa ?_; first | refine zad FpF.h (by decide) rfl ?_ | refine zaf PlF.h rfl hr4 rfl ?_ | refine zaf PlF.h rfl hrs4 rfl ?_ | refine za7 rfl rfl rfl UnF.h rfl hLm4 ?_ | refine za7 rfl rfl rfl UnF.h rfl hLe4 ?_ | refine zcr rfl rfl (by omega) ?_) | refine zab ?_) | refine zah rfl ?_ | refine zac ?_ | (refine zao ?_; refine zbm rfl ?_))
  exact hQ _ _ hk04
 refine zae rfl ?_; (repeat ((refine zaa ?_; first | refine zad FpF.h (by decide) rfl ?_ | refine zaf PlF.h rfl hr4 rfl ?_); refine zae rfl ?_))
 refine zaa (za7 rfl rfl rfl UnF.h rfl hLm4 ?_)
 refine zae rfl ?_; (repeat ((refine zaa ?_; first | refine zad FpF.h (by decide) rfl ?_ | refine zaf PlF.h rfl hrs4 rfl ?_); refine zae rfl ?_))
 refine zaa (za7 rfl rfl rfl UnF.h rfl hLe4 ?_)
 refine zaa (zcf rfl rfl (by omega) (zab (zag rfl (zan (zak (zac ?_))))))
 refine zae rfl ?_
 refine zab (zam ?_)
 refine zbw (fun (i : Nat) => [(2, v), (3, .int .i64 mk), (5, .ptr bs 0), (11, .ptr bq 0), (12, .int .i64 (i : Int))]) (fun i H' => i ≤ x.e.length ∧ Keep Non H4 H') (fun i => x.e.length - i) ?_ 0 _ H4 ⟨rfl, rfl, rfl, rfl, rfl, trivial⟩ ⟨Nat.zero_le _, .refl _ _⟩
 rintro i H5 ⟨hle5, hk5⟩
 have hrs5 := hrs4.keep0 hk5
 have hrq5 := hr4.keep0 hk5
 have hLe5 : IsLs Non (IsE Non) 4 H5 ve x.e := hLe4.keep hk5 fun _ _ _ h => h.keep hk5
 have hLm5 : IsLs Non IsPm 2 H5 vm q.params := hLm4.keep hk5 fun _ _ _ h => h
 have hv5 := hv4.keep hk5
 have hk05 := hk04.trans0 hk5
 by_cases hi : i < x.e.length
 ·obtain ⟨y, hy⟩ : ∃ y, x.e[i]? = some y := ⟨_, List.getElem?_eq_getElem hi⟩
  obtain ⟨z, hz⟩ : ∃ z, q.params[i]? = some z := ⟨_, List.getElem?_eq_getElem (by omega)⟩
  (repeat' first | (refine zae rfl ?_; first | (refine zaa ?_; first | refine zad FpF.h (by decide) rfl ?_ | refine zaf PlF.h rfl hrs5 rfl ?_ | refine zaf PlF.h rfl hrq5 rfl ?_ | refine za7 rfl rfl rfl UnF.h rfl hLe5 ?_ | refine zba UnF.h SzF.h rfl hLe5 rfl rfl hy (fun q1 c1 hR1 hcl1 hq1 => ?_) | refine zaq PlF.h hcl1 (by decide) rfl hq1 ?_ | refine zba UnF.h SzF.h rfl hLm5 rfl rfl hz (fun q2 c2 ⟨hc2, _⟩ hcl2 hq2 => ?_) | refine zas FpF.h (by decide) rfl (hc2 ▸ hq2) (fun p2 hp2 => ?_) | refine zbh PlF.h rfl hp2 rfl ?_ | refine zaj rfl rfl rfl (zrn hR1 hv5 fun H6 hk6 => ?_) | refine za0 (c := ((i + 1 : Nat) : Int)) rfl rfl Ju ?_ | refine zbx rfl rfl (by omega) ?_ | refine zc7 rfl rfl (fun hc => ?_) (fun hc => ?_)) | refine zab ?_) | refine zah rfl ?_ | refine zag rfl ?_ | refine zac ?_ | refine zak ?_ | refine zaw ?_ | refine zam ?_ | refine zan ?_ | (refine zao ?_; refine zbm rfl ?_))
  ·refine ⟨i + 1, ?_, ⟨rfl, rfl, rfl, rfl, rfl, trivial⟩, by omega, hk5.trans0 hk6⟩
   show x.e.length - (i + 1) < x.e.length - i
   omega
  ·exact hQ _ _ (hk05.trans0 hk6)
 refine zak (zac ?_)
 refine zae rfl ?_; (repeat ((refine zaa ?_; first | refine zad FpF.h (by decide) rfl ?_ | refine zaf PlF.h rfl hrs5 rfl ?_); refine zae rfl ?_))
 refine zaa (za7 rfl rfl rfl UnF.h rfl hLe5 ?_)
 refine zaa (zbp rfl rfl (by omega) ?_)
 refine zab (zag rfl (zbn (zak (zac ?_))))
 refine zae rfl ?_; (repeat ((refine zaa ?_; first | refine zad FpF.h (by decide) rfl ?_ | refine zaf PlF.h rfl hrs5 rfl ?_); refine zae rfl ?_))
 by_cases hn0 : x.name = []
 ·(repeat' first | (refine zae rfl ?_; first | (((refine zaa ?_)); (refine zi9 rfl rfl (by (assumption)) ?_)) | refine zab ?_) | refine zah rfl ?_ | refine zac ?_ | (refine zao ?_; refine zbm rfl ?_))
  exact hQ _ _ hk05
 refine zaa (zi8 rfl rfl hn0 (zab (zag rfl (zan (zac ?_)))))
 refine zae rfl ?_; (repeat ((refine zaa ?_; first | refine zad FpF.h (by decide) rfl ?_ | refine zaf PlF.h rfl hrs5 rfl ?_); refine zae rfl ?_))
 refine zaa (zaj rfl rfl rfl (zfq hv5 ?_))
 rcases zd3 x.name mk vs 0 with hf | ⟨j, vr, hj, hf, _⟩
 ·have h40 : holdT vs x.name mk false 0 = 40 := by
   unfold holdT
   rw [hf]
   split
   ·rw [if_pos (by omega)]
   ·rfl
  rw [h40]
  (repeat' first | (refine zae rfl ?_; first | (((refine zaa ?_)); (refine zcr rfl rfl (by omega) ?_)) | refine zab ?_) | refine zah rfl ?_ | refine zac ?_ | refine zak ?_ | (refine zao ?_; refine zbm rfl ?_))
  exact hQ _ _ hk05
 rw [Nat.zero_add] at hf
 (repeat' first | (refine zae rfl ?_; first | refine zbb rfl ?_ | ((first | refine zaa ?_ | refine zav rfl ?_); first | refine zal rfl ?_ | refine zaz rfl rfl rfl ?_ | refine za1 rfl rfl ?_ | refine zad FpF.h (by decide) rfl ?_ | refine zaf PlF.h rfl hrs5 rfl ?_ | refine zaf PlF.h rfl hrq5 rfl ?_ | refine zaj rfl rfl rfl (zdw hv5 hf ?_) | refine zcq zff UnF.h SzF.h rfl hv5.1 rfl rfl hj (fun q0 hq0 => ?_) | refine zas FpF.h (by decide) rfl hq0 (fun p2 hp2 => ?_) | refine zbh PlF.h rfl hp2 rfl ?_ | refine zh6 rfl rfl (fun hc => ?_) (fun hc => ?_) | refine zc7 rfl rfl (fun hc => ?_) (fun hc => ?_)) | refine ia_ckgN rfl ?_ | refine ia_ckgY rfl ?_ | refine zik PlF.h rfl hrq5 rfl rfl ?_ | refine zab ?_) | refine zah rfl ?_ | refine zag rfl ?_ | refine zac ?_ | refine zak ?_ | refine zan ?_ | (refine zao ?_; refine zbm rfl ?_))
 all_goals exact hQ _ _ hk05
end
end Go.Proofs.YtbmedhaopnhggaaGreatDoor
