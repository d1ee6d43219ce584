/-
  Checking a program (parallaxref04: stmt, proc), walked: they answer. Conditions: how many statements there are.
-/
import Derived.Test.YtbmedhaopnhggaaGreatDoorChkD
namespace Go.Proofs.YtbmedhaopnhggaaGreatDoor
open Go Eng Tryz
set_option maxHeartbeats 0
def v28c0 : CV := Jt [Ji 4 0, Ji 5 2] (.ret)
def v28h2 : CV := Jt [Jg 14 74 3 1, Jf 15 71 14, Jj 16 15 71, Jc 17 (.binOp .gtr 3 (Ja 16) (Jb 8) 3), Jd 18 17, Jp 18 false 19 6, Js 18 false 20 (.call ⟨.builtin .len, #[(Ja 19)], #[90]⟩), Js 18 false 21 (.binOp .gtr 3 (Ja 20) (Jb 60) 3), Jc 22 (.pick (Ja 18) (.const (.bool true)) (Ja 21))] (.cond (Ja 22) v28c0 (.skip))
def v28l1h0 : CV := Jt [Jd 23 7, Jd 24 6, Jj 25 24 90, Jc 26 (.binOp .lss 3 (Ja 23) (Ja 25) 3)] (.cond (Ja 26) (.skip) (.exit 0))
def v28l2h0 : CV := Jt [Jd 29 8, Jd 30 7, Jc 31 (.binOp .lss 3 (Ja 29) (Ja 30) 3)] (.cond (Ja 31) (.skip) (.exit 2))
def v28c3 : CV := Jt [Ji 4 0, Ji 5 40] (.ret)
def v28k1 : CV := Jt [Jd 34 6, Jd 35 8, Jk 36 90 34 35, Jg 37 143 36 0, Jf 38 9 37, Jd 39 6, Jd 40 7, Jk 41 90 39 40, Jg 42 143 41 0, Jf 43 9 42, Jc 44 (.binOp .eql 9 (Ja 38) (Ja 43) 9)] (.cond (Ja 44) v28c3 (.skip))
def v28l2t1 : CV := .seq (.block 3 v28k1) (.reg [Jd 32 8, Jc 33 (.binOp .add 3 (Ja 32) (Jb 1) 3), Jh 8 33])
def v28l2 : CV := .seq v28l2h0 v28l2t1
def v28k0 : CV := Jt [Ji 8 0] (.block 2 (.loop v28l2))
def v28l1t1 : CV := .seq (.block 1 v28k0) (.reg [Jd 27 7, Jc 28 (.binOp .add 3 (Ja 27) (Jb 1) 3), Jh 7 28])
def v28l1 : CV := .seq v28l1h0 v28l1t1
def v28h3 : CV := Jt [Ji 7 0] (.block 0 (.loop v28l1))
def v28l4h0 : CV := Jt [Jd 48 10, Jd 49 9, Jj 50 49 172, Jc 51 (.binOp .lss 3 (Ja 48) (Ja 50) 3)] (.cond (Ja 51) (.skip) (.exit 4))
def v28c5 : CV := Jt [Jd 67 10, Jc 68 (.binOp .add 3 (Ja 67) (Jb 1) 3), Jd 69 11, Jh 4 68, Jh 5 69] (.ret)
def v28k2t1 : CV := Jt [Jd 65 11, Jc 66 (.binOp .neq 28 (Ja 65) (Jb 0) 28)] (.cond (Ja 66) v28c5 (.skip))
def v28k2 : CV := Jt [Jf 54 24 2, Jf 55 74 3, Jd 56 9, Jd 57 10, Jk 58 172 56 57, Jg 59 176 58 0, Jf 60 157 59, Jd 61 6, Jd 62 10, Jc 63 (.binOp .add 3 (Ja 62) (Jb 1) 3), Jc 64 (.call ⟨.value (.func 74), #[(Ja 54), (Ja 55), (Ja 60), (Ja 61), (Ja 63)], #[24, 74, 157, 90, 3]⟩), Jh 11 64] v28k2t1
def v28l4t1 : CV := .seq (.block 5 v28k2) (.reg [Jd 52 10, Jc 53 (.binOp .add 3 (Ja 52) (Jb 1) 3), Jh 10 53])
def v28l4 : CV := .seq v28l4h0 v28l4t1
def v28h5 : CV := Jt [Ji 10 0] (.block 4 (.loop v28l4))
def v28c6 : CV := Jt [Jd 79 9, Jj 80 79 172, Jc 81 (.binOp .add 3 (Ja 80) (Jb 1) 3), Jh 4 81, Ji 5 43] (.ret)
def v28h6 : CV := Jt [Jg 70 74 3 2, Jf 71 3 70, Jc 72 (.binOp .neq 3 (Ja 71) (Jb 0) 3), Jd 73 72, Jq 73 true 74 74 3 3, Jr 73 true 75 72 74, Js 73 true 76 (.call ⟨.value (.func 75), #[(Ja 75)], #[72]⟩), Js 73 true 77 (.unOp .not 4 (Ja 76)), Jc 78 (.pick (Ja 73) (Ja 77) (.const (.bool false)))] (.cond (Ja 78) v28c6 (.skip))
def v28t7 : CV := Jt [Ji 4 0, Ji 5 0] (.ret)
def v28t6 : CV := .seq v28h6 v28t7
def v28t5 : CV := .seq v28h5 v28t6
def v28t4 : CV := Jt [Jg 45 74 3 3, Jf 46 72 45, Jc 47 (.call ⟨.value (.func 73), #[(Ja 46), (Jb 1)], #[72, 3]⟩), Jh 9 47] v28t5
def v28t3 : CV := .seq v28h3 v28t4
def v28t2 : CV := .seq v28h2 v28t3
def v28t1 : CV := Jt [Jf 12 74 3, Jn 13 29 12 74, Jh 6 13] v28t2
def v28 : CV := Jt [Jc 2 (.box 24 (Ja 0)), Jc 3 (.box 74 (Ja 1)), Ji 4 0, Ji 5 0] v28t1
noncomputable def b28 : Code := f28.body.getD .skip
theorem b28_eq : f28.body = some b28 := by kernel_rfl
theorem v28_eq : viewC prog b28 = some v28 := by kernel_rfl
theorem r28_eq : f28.results.toList = [.tmp 4, .tmp 5] := by kernel_rfl
section
variable {tb : List FuncId} {gl : List (List AV)} {A : Nat → Prop} {H : Heap} {u v w : AV} {b : Nat} {Q : AV → Heap → Prop}
theorem zrk {n : List UInt8} {vs : List Vr} {mk t : Int} {arr : Bool} (hf : findV n mk vs 0 = -1) : holdT vs n mk arr t = 40 := by
 unfold holdT
 rw [hf]
 split
 ·rw [if_pos (by omega)]
 ·rfl
theorem zte {n : List UInt8} {vs : List Vr} {mk t z : Int} {arr : Bool} (hz : holdT vs n mk arr t = z) (hv : IsVs H v vs) (hQ : Q (.int .i64 z) H) : WpF prog tb gl 131 [v, S n, .int .i64 mk, .bool arr, .int .i64 t] H Q := zfq hv (by rw [hz]; exact hQ)
theorem zs7 {a b c : Int} (hs : IsSl H v 1 3 [.int .i64 a, .int .i64 b, .int .i64 c]) (hQ : ∀ e, Q (.int .i64 e) H) : WpF prog tb gl 134 [v] H Q := first_ok (es := [a, b, c]) hs (by simp) hQ
set_option maxRecDepth 100000 in
theorem cstmt_ok {p : List Prc} {q : Prc} {cq : List AV} {x : Stm} {c : List AV} {vs : List Vr} {mk : Int} (hp : IsPg Non H w p) (hP : IsPc Non H cq q) (hE : IsS Non H c x) (hv : IsVs H v vs) (hQ : ∀ e H', Keep Non H H' → Q (.int .i64 e) H') : WpF prog tb gl 74 [w, .agg cq, .agg c, v, .int .i64 mk] H Q := by
  have hrB : rB = 140737488351232 := rfl
  have hc1 : w.cells.length = 1 ∧ w = .agg w.cells := by
    obtain ⟨_, u, rfl, _⟩ := hp
    exact ⟨rfl, rfl⟩
  have hE0 := hE
  obtain ⟨ve, vb, vf, rfl, _, _, hxn, hxp, hxl, hbl, hfl, hLe, hLb, hLf⟩ := hE.out
  obtain ⟨vm, vB, rfl, _⟩ := hP
  refine fa func74 b74_eq v74_eq r74_eq (.inr (by simp)) ?_
  refine zac ?_
  refine zaa (zcd rfl fun H1 hk1 hr1 => ?_)
  obtain ⟨bp, hbp⟩ : ∃ b, b = H.nx := ⟨_, rfl⟩
  rw [← hbp] at hr1 ⊢
  refine zaa (zcd rfl fun H2 hk2 hr2 => ?_)
  obtain ⟨bq, hbq⟩ : ∃ b, b = H1.nx := ⟨_, rfl⟩
  rw [← hbq] at hr2 ⊢
  have hr2 : IsRow H2 bq [S q.name, vm, .int .i64 q.type, vB] false false := hr2
  refine zaa (zcd rfl fun H3 hk3 hr3 => ?_)
  obtain ⟨bs, hbs⟩ : ∃ b, b = H2.nx := ⟨_, rfl⟩
  rw [← hbs] at hr3 ⊢
  have hr3 : IsRow H3 bs [.int .i64 x.kind, S x.name, S x.proc, .int .i64 x.num, ve, vb, vf] false false := hr3
  have hk03 := (hk1.trans0 hk2).trans0 hk3
  refine zae rfl ?_
  refine zab (zac ?_)
  refine zae rfl ?_; (repeat ((refine zaa ?_; first | refine zad FpF.h (by decide) rfl ?_ | refine zaf PlF.h rfl hr3 rfl ?_); refine zae rfl ?_))
  refine zaa (zaj rfl rfl rfl (zi5 x.kind fun H4 hk4 => ?_))
  have hk04 := hk03.trans0 hk4
  have hrp := (hr1.keep0 hk2).keep0 (hk3.trans0 hk4)
  have hrq := hr2.keep0 (hk3.trans0 hk4)
  have hrs := hr3.keep0 hk4
  have hp4 := hp.keep hk04
  have hE4 := hE0.keep hk04
  have hL4 : IsLs Non (IsE Non) 4 H4 ve x.e := hLe.keep hk04 fun _ _ _ h => h.keep hk04
  have hB4 : IsLs Non (IsS Non) 7 H4 vb x.body := hLb.keep hk04 fun _ _ _ h => h.keep hk04
  have hF4 : IsLs Non (IsS Non) 7 H4 vf x.els := hLf.keep hk04 fun _ _ _ h => h.keep hk04
  have hv4 := hv.keep hk04
  clear hr1 hr2 hr3 hp hE hE0 hLe hLb hLf hv
  obtain ⟨n, hn⟩ : ∃ n, n = kindsT x.kind := ⟨_, rfl⟩
  rw [← hn]
  have hQ := fun e H' (h : Keep Non H4 H') => hQ e H' (hk04.trans0 h)
  refine zae rfl ?_
  refine zab (zak ?_)
  refine VA.sub (l0 := [(3, v), (4, .int .i64 mk), (5, .ptr bp 0), (6, .ptr bq 0), (7, .ptr bs 0), (11, .int .i64 n)]) ⟨rfl, rfl, rfl, rfl, rfl, rfl, trivial⟩ ?_
  -- behind the first two looks
  have key : n ≠ -2 → (0 ≤ n → (x.e.length : Int) = n) → (x.kind = 7 → x.e.length ≤ 1) → VA prog tb gl v74t4 [(3, v), (4, .int .i64 mk), (5, .ptr bp 0), (6, .ptr bq 0), (7, .ptr bs 0), (11, .int .i64 n)] H4 (leftA [.tmp 10] Q) := by
    intro h1 h2 h3
    have hk : 1 ≤ x.kind ∧ x.kind ≤ 10 := by
      rw [hn] at h1
      unfold kindsT at h1
      by_cases h : x.kind < 1 ∨ 10 < x.kind
      · rw [if_pos h] at h1; exact absurd rfl h1
      · omega
    have hlen : ∀ m : Int, kindsT x.kind = m → 0 ≤ m → (x.e.length : Int) = m := fun m h h' => by rw [← h, ← hn]; exact h2 (by rw [hn, h]; exact h')
    clear h1 h2 hn
    by_cases e1 : x.kind = 1
    · (repeat' first | (refine zae rfl ?_; first | (refine zaa ?_; first | refine zad FpF.h (by decide) rfl ?_ | refine zaf PlF.h rfl hrs rfl ?_ | refine zax rfl rfl (by omega) ?_ | refine zgz rfl rfl (fun hc => ?_) (fun hc => ?_)) | refine zab ?_) | refine zah rfl ?_ | refine zag rfl ?_ | refine zac ?_ | refine zak ?_ | refine zam ?_ | refine zan ?_ | (refine zao ?_; refine zbm rfl ?_))
      all_goals exact hQ _ _ (.refl _ _)
    by_cases e2 : x.kind = 2
    · have hl := hlen 1 (by rw [e2]; rfl) (by omega)
      obtain ⟨a, ha0⟩ : ∃ a, x.e[0]? = some a := ⟨_, List.getElem?_eq_getElem (by omega)⟩
      rcases zd3 x.name mk vs 0 with hf | ⟨j, vr, hj, hf, _⟩
      · have h40 : holdT vs x.name mk false 0 = 40 := zrk hf
        (repeat' first | (refine zae rfl ?_; first | (refine zaa ?_; first | refine zad FpF.h (by decide) rfl ?_ | refine zaf PlF.h rfl hrs rfl ?_ | refine zaj rfl rfl rfl (zte h40 hv4 ?_) | refine zax rfl rfl (by omega) ?_ | refine zat rfl rfl (by omega) ?_ | refine zcr rfl rfl (by omega) ?_) | refine zab ?_) | refine zah rfl ?_ | refine zag rfl ?_ | refine zac ?_ | refine zak ?_ | refine zam ?_ | (refine zao ?_; refine zbm rfl ?_))
        all_goals exact hQ _ _ (.refl _ _)
      · rw [Nat.zero_add] at hf
        (repeat' first | (refine zae rfl ?_; first | (refine zaa ?_; first | refine zad FpF.h (by decide) rfl ?_ | refine zaf PlF.h rfl hrs rfl ?_ | refine zaj rfl rfl rfl (zfq hv4 ?_) | refine zba (j := 0) UnF.h SzF.h rfl hL4 rfl rfl ha0 (fun q1 c1 hR1 hcl1 hq1 => ?_) | refine zaq PlF.h hcl1 (by decide) rfl hq1 ?_ | refine zaj rfl rfl rfl (zdw hv4 hf ?_) | refine zcq zff UnF.h SzF.h rfl hv4.1 rfl rfl hj (fun q0 hq0 => ?_) | refine zas FpF.h (by decide) rfl hq0 (fun p2 hp2 => ?_) | refine zbh PlF.h rfl hp2 rfl ?_ | refine zaj rfl rfl rfl (zrn hR1 hv4 fun H5 hk5 => ?_) | refine zax rfl rfl (by omega) ?_ | refine zat rfl rfl (by omega) ?_ | refine zc7 rfl rfl (fun hc => ?_) (fun hc => ?_)) | refine zik PlF.h rfl hrs rfl rfl ?_ | refine zl7 PlF.h hcl1 (by decide) rfl hq1 rfl ?_ | refine zab ?_) | refine zah rfl ?_ | refine zag rfl ?_ | refine zac ?_ | refine zak ?_ | refine zam ?_ | refine zan ?_ | (refine zao ?_; refine zbm rfl ?_))
        all_goals first | exact hQ _ _ (.refl _ _) | exact hQ _ _ hk5
    by_cases e3 : x.kind = 3
    · have hl := hlen 2 (by rw [e3]; rfl) (by omega)
      obtain ⟨a, ha0⟩ : ∃ a, x.e[0]? = some a := ⟨_, List.getElem?_eq_getElem (by omega)⟩
      obtain ⟨a', ha1⟩ : ∃ a, x.e[1]? = some a := ⟨_, List.getElem?_eq_getElem (by omega)⟩
      (repeat' first | (refine zae rfl ?_; first | (refine zaa ?_; first | refine zad FpF.h (by decide) rfl ?_ | refine zaf PlF.h rfl hrs rfl ?_ | refine zba (j := 0) UnF.h SzF.h rfl hL4 rfl rfl ha0 (fun q1 c1 hR1 hcl1 hq1 => ?_) | refine zba (j := 1) UnF.h SzF.h rfl hL4 rfl rfl ha1 (fun q2 c2 hR2 hcl2 hq2 => ?_) | refine zaq PlF.h hcl2 (by decide) rfl hq2 ?_ | refine zaq PlF.h hcl1 (by decide) rfl hq1 ?_ | refine zaj rfl rfl rfl (zfq hv4 ?_) | refine zaj rfl rfl rfl (zrn hR1 hv4 fun H5 hk5 => ?_) | refine zaj rfl rfl rfl (zrn (hR2.keep hk5) (hv4.keep hk5) fun H6 hk6 => ?_) | refine zar (n := 3) ElF.h (by decide) rfl rfl (fun H7 hk7 hr7 => ?_) | refine zaj rfl rfl rfl (zs7 (IsRow.sl (es := 1) (n := 3) hr7 rfl (Nat.le_refl 3)) fun e => ?_) | refine zax rfl rfl (by omega) ?_ | refine zat rfl rfl (by omega) ?_) | refine zik PlF.h rfl hrs rfl rfl ?_ | refine zik PlF.h rfl (hrs.keep0 hk5) rfl rfl ?_ | refine zl7 PlF.h hcl1 (by decide) rfl hq1 rfl ?_ | refine zl7 PlF.h hcl2 (by decide) rfl hq2 rfl ?_ | refine zl7 PlF.h hcl2 (by decide) rfl (hq2.keep hk5 fun _ h => h) rfl ?_ | refine zab ?_) | refine zah rfl ?_ | refine zag rfl ?_ | refine zac ?_ | refine zak ?_ | refine zam ?_ | (refine zao ?_; refine zbm rfl ?_))
      exact hQ _ _ (hk5.trans0 (hk6.trans0 hk7))
    by_cases e45 : x.kind = 4 ∨ x.kind = 5 ∨ x.kind = 10
    · have hl := hlen 1 (by rcases e45 with h | h | h <;> rw [h] <;> rfl) (by omega)
      obtain ⟨a, ha0⟩ : ∃ a, x.e[0]? = some a := ⟨_, List.getElem?_eq_getElem (by omega)⟩
      rcases e45 with h | h | h <;>
        ((repeat' first | (refine zae rfl ?_; first | (refine zaa ?_; first | refine zad FpF.h (by decide) rfl ?_ | refine zaf PlF.h rfl hrs rfl ?_ | refine zba (j := 0) UnF.h SzF.h rfl hL4 rfl rfl ha0 (fun q1 c1 hR1 hcl1 hq1 => ?_) | refine zaq PlF.h hcl1 (by decide) rfl hq1 ?_ | refine zaj rfl rfl rfl (zrn hR1 hv4 fun H5 hk5 => ?_) | refine zax rfl rfl (by omega) ?_ | refine zat rfl rfl (by omega) ?_) | refine zab ?_) | refine zah rfl ?_ | refine zag rfl ?_ | refine zac ?_ | refine zak ?_ | refine zaw ?_ | refine zam ?_ | refine zan ?_ | (refine zao ?_; refine zbm rfl ?_))
         exact hQ _ _ hk5)
    by_cases e8 : x.kind = 8
    · have hl := hlen 1 (by rw [e8]; rfl) (by omega)
      obtain ⟨a, ha0⟩ : ∃ a, x.e[0]? = some a := ⟨_, List.getElem?_eq_getElem (by omega)⟩
      (repeat' first | (refine zae rfl ?_; first | (refine zaa ?_; first | refine zad FpF.h (by decide) rfl ?_ | refine zaf PlF.h rfl hrs rfl ?_ | refine zba (j := 0) UnF.h SzF.h rfl hL4 rfl rfl ha0 (fun q1 c1 hR1 hcl1 hq1 => ?_) | refine zaq PlF.h hcl1 (by decide) rfl hq1 ?_ | refine zaj rfl rfl rfl (zjh (szE a + 1) Non a c1 vs v mk H4 _ (by omega) hR1 hv4 fun H5 hk5 => ?_) | refine zax rfl rfl (by omega) ?_ | refine zat rfl rfl (by omega) ?_) | refine zab ?_) | refine zah rfl ?_ | refine zag rfl ?_ | refine zac ?_ | refine zak ?_ | refine zaw ?_ | refine zam ?_ | (refine zao ?_; refine zbm rfl ?_))
      exact hQ _ _ hk5
    by_cases e9 : x.kind = 9
    · (repeat' first | (refine zae rfl ?_; first | (refine zaa ?_; first | refine zad FpF.h (by decide) rfl ?_ | refine zaf PlF.h rfl hrs rfl ?_ | refine zaj rfl rfl rfl (zfq hv4 ?_) | refine zax rfl rfl (by omega) ?_ | refine zat rfl rfl (by omega) ?_) | refine zab ?_) | refine zah rfl ?_ | refine zag rfl ?_ | refine zac ?_ | refine zak ?_ | refine zaw ?_ | refine zam ?_ | (refine zao ?_; refine zbm rfl ?_))
      exact hQ _ _ (.refl _ _)
    by_cases e6 : x.kind = 6
    · have hw := hc1.2
      (repeat' first | (refine zae rfl ?_; first | (refine zaa ?_; first | refine zad FpF.h (by decide) rfl ?_ | refine zaf PlF.h rfl hrs rfl ?_ | refine zaq PlF.h hc1.1 (by decide) rfl hrp.pts ?_ | refine zaq (k := 7) PlF.h rfl (by decide) rfl hrs.pts ?_ | refine zaj rfl rfl rfl (ccall_ok (by rw [← hw]; exact hp4) hE4 hv4 fun e H5 hk5 => ?_) | refine zax rfl rfl (by omega) ?_ | refine zat rfl rfl (by omega) ?_) | refine zab ?_) | refine zah rfl ?_ | refine zag rfl ?_ | refine zac ?_ | refine zak ?_ | refine zaw ?_ | refine zam ?_ | (refine zao ?_; refine zbm rfl ?_))
      exact hQ _ _ hk5
    have e7 : x.kind = 7 := by omega
    have hl := h3 e7
    by_cases h0 : x.e.length = 0
    · by_cases ht : q.type = 0
      · (repeat' first | (refine zae rfl ?_; first | (refine zaa ?_; first | refine zad FpF.h (by decide) rfl ?_ | refine zaf PlF.h rfl hrs rfl ?_ | refine zaf PlF.h rfl hrq rfl ?_ | refine za7 rfl rfl rfl UnF.h rfl hL4 ?_ | refine zb9 rfl rfl (by omega) ?_ | refine zax rfl rfl (by omega) ?_ | refine zat rfl rfl (by omega) ?_ | refine zcf rfl rfl (by omega) ?_ | refine ze7 UnF.h rfl rfl ?_) | refine zab ?_) | refine zah rfl ?_ | refine zag rfl ?_ | refine zac ?_ | refine zak ?_ | refine zaw ?_ | refine zam ?_ | refine zan ?_ | (refine zao ?_; refine zbm rfl ?_))
        exact hQ _ _ (.refl _ _)
      · (repeat' first | (refine zae rfl ?_; first | (refine zaa ?_; first | refine zad FpF.h (by decide) rfl ?_ | refine zaf PlF.h rfl hrs rfl ?_ | refine zaf PlF.h rfl hrq rfl ?_ | refine za7 rfl rfl rfl UnF.h rfl hL4 ?_ | refine zb9 rfl rfl (by omega) ?_ | refine zax rfl rfl (by omega) ?_ | refine zat rfl rfl (by omega) ?_ | refine zcr rfl rfl (by omega) ?_ | refine ze7 UnF.h rfl rfl ?_) | refine zab ?_) | refine zah rfl ?_ | refine zag rfl ?_ | refine zac ?_ | refine zak ?_ | refine zaw ?_ | refine zam ?_ | (refine zao ?_; refine zbm rfl ?_))
        exact hQ _ _ (.refl _ _)
    · obtain ⟨a, ha0⟩ : ∃ a, x.e[0]? = some a := ⟨_, List.getElem?_eq_getElem (by omega)⟩
      by_cases ht : q.type = 0
      · (repeat' first | (refine zae rfl ?_; first | (refine zaa ?_; first | refine zad FpF.h (by decide) rfl ?_ | refine zaf PlF.h rfl hrs rfl ?_ | refine zaf PlF.h rfl hrq rfl ?_ | refine za7 rfl rfl rfl UnF.h rfl hL4 ?_ | refine zcu rfl rfl (by omega) ?_ | refine zax rfl rfl (by omega) ?_ | refine zat rfl rfl (by omega) ?_ | refine zcf rfl rfl (by omega) ?_ | refine ze7 UnF.h rfl rfl ?_) | refine zab ?_) | refine zah rfl ?_ | refine zag rfl ?_ | refine zac ?_ | refine zak ?_ | refine zaw ?_ | refine zam ?_ | (refine zao ?_; refine zbm rfl ?_))
        exact hQ _ _ (.refl _ _)
      · (repeat' first | (refine zae rfl ?_; first | (refine zaa ?_; first | refine zad FpF.h (by decide) rfl ?_ | refine zaf PlF.h rfl hrs rfl ?_ | refine zaf PlF.h rfl hrq rfl ?_ | refine za7 rfl rfl rfl UnF.h rfl hL4 ?_ | refine zba (j := 0) UnF.h SzF.h rfl hL4 rfl rfl ha0 (fun q1 c1 hR1 hcl1 hq1 => ?_) | refine zaq PlF.h hcl1 (by decide) rfl hq1 ?_ | refine zaj rfl rfl rfl (zrn hR1 hv4 fun H5 hk5 => ?_) | refine zcu rfl rfl (by omega) ?_ | refine zax rfl rfl (by omega) ?_ | refine zat rfl rfl (by omega) ?_ | refine zcr rfl rfl (by omega) ?_ | refine ze7 UnF.h rfl rfl ?_) | refine zab ?_) | refine zah rfl ?_ | refine zag rfl ?_ | refine zac ?_ | refine zak ?_ | refine zaw ?_ | refine zam ?_ | refine zan ?_ | (refine zao ?_; refine zbm rfl ?_))
        exact hQ _ _ hk5
  have t3 : VA prog tb gl v74t3 [(3, v), (4, .int .i64 mk), (5, .ptr bp 0), (6, .ptr bq 0), (7, .ptr bs 0), (11, .int .i64 n)] H4 (leftA [.tmp 10] Q) := by
    refine zak ?_
    have r1 : ∀ l', resLA l' [.tmp 10] = some [.int .i64 32] → (seqA prog tb gl v74t4 (leftA [.tmp 10] Q)) .ret l' H4 := fun l' h => ⟨_, h, hQ _ _ (.refl _ _)⟩
    have r2 : ∀ l', Sb [(3, v), (4, .int .i64 mk), (5, .ptr bp 0), (6, .ptr bq 0), (7, .ptr bs 0), (11, .int .i64 n)] l' → n ≠ -2 → (0 ≤ n → (x.e.length : Int) = n) → (x.kind = 7 → x.e.length ≤ 1) → (seqA prog tb gl v74t4 (leftA [.tmp 10] Q)) .normal l' H4 := fun l' hs h1 h2 h3 => VA.sub hs (key h1 h2 h3)
    generalize seqA prog tb gl v74t4 (leftA [.tmp 10] Q) = R at r1 r2 ⊢
    clear key hQ hn hrp hrq hB4 hF4 hv4 hp4 hE4
    (repeat' first | (refine zae rfl ?_; first | refine zbb rfl ?_ | refine zef rfl ?_ | ((first | refine zaa ?_ | refine zav rfl ?_); first | refine zal rfl ?_ | refine zaz rfl rfl rfl ?_ | refine za1 rfl rfl ?_ | refine zad FpF.h (by decide) rfl ?_ | refine zaf PlF.h rfl hrs rfl ?_ | refine za7 rfl rfl rfl UnF.h rfl hL4 ?_ | refine zgz rfl rfl (fun hc => ?_) (fun hc => ?_) | refine zt6 rfl rfl (fun hc => ?_) (fun hc => ?_) | refine zh6 rfl rfl (fun hc => ?_) (fun hc => ?_) | refine zc7 rfl rfl (fun hc => ?_) (fun hc => ?_)) | refine zab ?_) | refine zah rfl ?_ | refine zag rfl ?_ | refine zac ?_ | refine zan ?_)
    all_goals first
      | exact zao (r1 _ rfl)
      | exact r2 _ ⟨rfl, rfl, rfl, rfl, rfl, rfl, trivial⟩ (by omega) (by omega) (by omega)
  have r1 : ∀ l', resLA l' [.tmp 10] = some [.int .i64 32] → (seqA prog tb gl v74t3 (leftA [.tmp 10] Q)) .ret l' H4 := fun l' h => ⟨_, h, hQ _ _ (.refl _ _)⟩
  have r2 : ∀ l', Sb [(3, v), (4, .int .i64 mk), (5, .ptr bp 0), (6, .ptr bq 0), (7, .ptr bs 0), (11, .int .i64 n)] l' → (seqA prog tb gl v74t3 (leftA [.tmp 10] Q)) .normal l' H4 := fun l' hs => VA.sub hs t3
  generalize seqA prog tb gl v74t3 (leftA [.tmp 10] Q) = R at r1 r2 ⊢
  clear key t3 hQ hn hrp hrq hv4 hp4 hE4
  by_cases h0 : x.body.length = 0 <;> by_cases h1 : x.els.length = 0 <;>
    ((repeat' first | (refine zae rfl ?_; first | refine zbb rfl ?_ | refine zef rfl ?_ | ((first | refine zaa ?_ | refine zav rfl ?_); first | refine zal rfl ?_ | refine zaz rfl rfl rfl ?_ | refine za1 rfl rfl ?_ | refine zad FpF.h (by decide) rfl ?_ | refine zaf PlF.h rfl hrs rfl ?_ | refine za7 rfl rfl rfl UnF.h rfl hB4 ?_ | refine za7 rfl rfl rfl UnF.h rfl hF4 ?_ | refine zcu rfl rfl (by omega) ?_ | refine zb9 rfl rfl (by omega) ?_ | refine zat rfl rfl (by omega) ?_ | refine zcr rfl rfl (by omega) ?_ | refine zcf rfl rfl (by omega) ?_ | refine zub rfl rfl (fun hc => ?_) (fun hc => ?_) | refine zh6 rfl rfl (fun hc => ?_) (fun hc => ?_) | refine zc7 rfl rfl (fun hc => ?_) (fun hc => ?_)) | refine zab ?_) | refine zah rfl ?_ | refine zag rfl ?_ | refine zac ?_ | refine zan ?_)
     all_goals first
      | exact zao (r1 _ rfl)
      | exact r2 _ ⟨rfl, rfl, rfl, rfl, rfl, rfl, trivial⟩)
theorem cproc_ok {p : List Prc} {q : Prc} {cq : List AV} (hp : IsPg Non H w p) (hP : IsPc Non H cq q) (hc : cSs q.body + q.params.length < 400000) (hQ : ∀ m e H', Keep Non H H' → Q (.tup [.int .i64 m, .int .i64 e]) H') : WpF prog tb gl 28 [w, .agg cq] H Q := by
 have hrB : rB = 140737488351232 := rfl
 have hc1 : w.cells.length = 1 ∧ w = .agg w.cells := by
  obtain ⟨_, u, rfl, _⟩ := hp
  exact ⟨rfl, rfl⟩
 have hw := hc1.2
 have hP0 := hP
 obtain ⟨vm, vB, rfl, _, _, hml, hbl, hLm, hLb⟩ := hP
 refine fa func28 b28_eq v28_eq r28_eq (.inr (by simp)) ?_
 refine zac ?_
 refine zaa (zcd rfl fun H1 hk1 hr1 => ?_)
 obtain ⟨bp, hbp⟩ : ∃ b, b = H.nx := ⟨_, rfl⟩
 rw [← hbp] at hr1 ⊢
 refine zaa (zcd rfl fun H2 hk2 hr2 => ?_)
 obtain ⟨bq, hbq⟩ : ∃ b, b = H1.nx := ⟨_, rfl⟩
 rw [← hbq] at hr2 ⊢
 have hr2 : IsRow H2 bq [S q.name, vm, .int .i64 q.type, vB] false false := hr2
 have hk02 := hk1.trans0 hk2
 refine zae rfl ?_
 refine zab (zac ?_)
 refine zaa (zaq (k := 4) PlF.h rfl (by decide) rfl hr2.pts ?_)
 refine zaa (zaj rfl rfl rfl (zsf (hP0.keep hk02) hc fun uv H3 hk3 hO3 _ => ?_))
 have hk03 := hk02.trans0 hk3
 have hrp := hr1.keep0 (hk2.trans0 hk3)
 have hrq := hr2.keep0 hk3
 obtain ⟨vs, hvs⟩ : ∃ vs, vs = varsP q := ⟨_, rfl⟩
 have hvl : vs.length < 1000000 := by
  rw [hvs]
  unfold varsP
  have h1 := zmy (rowT q.body 1) 0
  rw [zho] at h1
  simp only [List.length_append, vrMs, List.length_map]
  omega
 rw [← hvs] at hO3
 have hv : IsVs H3 uv vs := ⟨Own.sl hO3, hvl⟩
 have hLm3 : IsLs Non IsPm 2 H3 vm q.params := hLm.keep hk03 fun _ _ _ h => h
 refine zae rfl ?_
 refine zab (zak ?_)
 refine VA.sub (l0 := [(2, .ptr bp 0), (3, .ptr bq 0), (6, uv)]) ⟨rfl, rfl, rfl, trivial⟩ ?_
 have r1 : ∀ l' (m e : Int), resLA l' [.tmp 4, .tmp 5] = some [.int .i64 m, .int .i64 e] → (seqA prog tb gl v28t3 (leftA [.tmp 4, .tmp 5] Q)) .ret l' H3 := fun l' m e h => ⟨_, h, hQ m e _ hk03⟩
 have r2 : VA prog tb gl v28t3 [(2, .ptr bp 0), (3, .ptr bq 0), (6, uv)] H3 (leftA [.tmp 4, .tmp 5] Q) := by
  refine zak (zac ?_)
  refine zae rfl ?_
  refine zab (zam ?_)
  refine zbw (fun (i : Nat) => [(2, .ptr bp 0), (3, .ptr bq 0), (6, uv), (7, .int .i64 (i : Int))]) (fun i H' => H' = H3 ∧ i ≤ vs.length) (fun i => vs.length - i) ?_ 0 _ H3 ⟨rfl, rfl, rfl, rfl, trivial⟩ ⟨rfl, Nat.zero_le _⟩
  rintro i H' ⟨rfl, hle⟩
  refine zak (zac ?_)
  refine zae rfl ?_
  refine zaa (za8 rfl rfl rfl UnF.h rfl hv.1 ?_)
  by_cases hi : i < vs.length
  ·obtain ⟨x, hx⟩ : ∃ x, vs[i]? = some x := ⟨_, List.getElem?_eq_getElem hi⟩
   refine zaa (zbx rfl rfl (by omega) ?_)
   refine zab (zah rfl (zan (zak (zam (zac ?_)))))
   refine zae rfl ?_
   refine zab (zam ?_)
   refine zbw (fun (k : Nat) => [(2, .ptr bp 0), (3, .ptr bq 0), (6, uv), (7, .int .i64 (i : Int)), (8, .int .i64 (k : Int))]) (fun k H'' => H'' = H' ∧ k ≤ i) (fun k => i - k) ?_ 0 _ H' ⟨rfl, rfl, rfl, rfl, rfl, trivial⟩ ⟨rfl, Nat.zero_le _⟩
   rintro k H'' ⟨rfl, hke⟩
   by_cases hki : k < i
   ·obtain ⟨y, hy⟩ : ∃ y, vs[k]? = some y := ⟨_, List.getElem?_eq_getElem (by omega)⟩
    (repeat' first | (refine zae rfl ?_; first | (refine zaa ?_; first | refine zcq (j := k) zff UnF.h SzF.h rfl hv.1 rfl rfl hy (fun q0 hq0 => ?_) | refine zcq (j := i) zff UnF.h SzF.h rfl hv.1 rfl rfl hx (fun q0 hq0 => ?_) | refine zas FpF.h (by decide) rfl hq0 (fun p2 hp2 => ?_) | refine zbh PlF.h rfl hp2 rfl ?_ | refine za0 (c := ((k + 1 : Nat) : Int)) rfl rfl Ju ?_ | refine zbx rfl rfl (by omega) ?_ | refine zf7 rfl rfl (fun hc => ?_) (fun hc => ?_)) | refine zab ?_) | refine zah rfl ?_ | refine zag rfl ?_ | refine zac ?_ | refine zak ?_ | refine zaw ?_ | refine zam ?_ | refine zan ?_ | (refine zao ?_; refine zbm rfl ?_))
    ·exact hQ _ _ _ hk03
    ·refine ⟨k + 1, ?_, ⟨rfl, rfl, rfl, rfl, rfl, trivial⟩, rfl, by omega⟩
     show i - (k + 1) < i - k
     omega
   ·(repeat' first | (refine zae rfl ?_; first | (refine zaa ?_; first | refine za0 (c := ((i + 1 : Nat) : Int)) rfl rfl Ju ?_ | refine zbp rfl rfl (by omega) ?_) | refine zab ?_) | refine zag rfl ?_ | refine zac ?_ | refine zak ?_ | refine zaw ?_ | refine zbn ?_)
    refine ⟨i + 1, ?_, ⟨rfl, rfl, rfl, rfl, trivial⟩, rfl, by omega⟩
    show vs.length - (i + 1) < vs.length - i
    omega
  refine zaa (zbp rfl rfl (by omega) ?_)
  refine zab (zag rfl (zbn (zac ?_)))
  have hLb3 : IsLs Non (IsS Non) 7 H' vB q.body := hLb.keep hk03 fun _ _ _ h => h.keep hk03
  refine zae rfl ?_; (repeat ((refine zaa ?_; first | refine zad FpF.h (by decide) rfl ?_ | refine zaf PlF.h rfl hrq rfl ?_); refine zae rfl ?_))
  refine zaa (zaj rfl rfl rfl (zpm (next := 1) (szSs q.body + 1) (by omega) hLb3 hbl (by omega) fun ui H4 hk4 hI _ => ?_))
  have hli := zho q.body 1
  obtain ⟨its, hits⟩ : ∃ its, its = rowT q.body 1 := ⟨_, rfl⟩
  rw [← hits] at hI hli
  refine zae rfl ?_
  refine zab (zak (zac ?_))
  refine zae rfl ?_
  refine zab (zam ?_)
  refine zbw (fun (i : Nat) => [(2, .ptr bp 0), (3, .ptr bq 0), (6, uv), (9, ui), (10, .int .i64 (i : Int))]) (fun i H5 => i ≤ its.length ∧ Keep Non H4 H5) (fun i => its.length - i) ?_ 0 _ H4 ⟨rfl, rfl, rfl, rfl, rfl, trivial⟩ ⟨Nat.zero_le _, .refl _ _⟩
  rintro i H5 ⟨hle5, hk5⟩
  have hI5 := hI.keep hk5 fun _ _ h => h
  have hk35 := hk4.trans0 hk5
  have hk05 := hk03.trans0 hk35
  have hrp5 := hrp.keep0 hk35
  have hrq5 := hrq.keep0 hk35
  have hv5 := hv.keep hk35
  by_cases hi5 : i < its.length
  ·obtain ⟨x, hx⟩ : ∃ x, its[i]? = some x := ⟨_, List.getElem?_eq_getElem hi5⟩
   refine zak (zac ?_)
   refine zae rfl ?_
   refine zaa (za7 rfl rfl rfl UnF.h rfl hI5.ls ?_)
   refine zaa (zbx rfl rfl (by omega) ?_)
   refine zab (zah rfl (zan (zak (zam (zac ?_)))))
   refine zaa (zaq PlF.h hc1.1 (by decide) rfl hrp5.pts ?_)
   refine zaa (zaq (k := 4) PlF.h rfl (by decide) rfl hrq5.pts ?_)
   refine zae rfl ?_
   refine zaa (zba UnF.h SzF.h rfl hI5.ls rfl rfl hx fun q0 c0 ⟨d0, hR0, hS0⟩ hcl0 hq0 => ?_)
   subst hR0
   have hS00 := hS0
   obtain ⟨v1, v2, v3, rfl, _⟩ := hS0.out
   refine zaa (zas FpF.h (by decide) rfl hq0 fun p2 hp2 => ?_)
   have hp2 : PtsTo H5 p2 ([.int .i64 x.1.kind, S x.1.name, S x.1.proc, .int .i64 x.1.num, v1, v2, v3] ++ [.int .i64 x.2]) := hp2
   refine zaa (zaq (k := 7) PlF.h rfl (by decide) rfl hp2.pre ?_)
   refine zae rfl ?_
   refine zaa (za0 (c := ((i + 1 : Nat) : Int)) rfl rfl Ju ?_)
   rw [← hw]
   refine zaa (zaj rfl rfl rfl (cstmt_ok (hp.keep hk05) (hP0.keep hk05) hS00 hv5 fun e H6 hk6 => ?_))
   (repeat' first | (refine zae rfl ?_; first | (refine zaa ?_; first | refine za0 (c := ((i + 1 : Nat) : Int)) rfl rfl Ju ?_ | refine zc7 rfl rfl (fun hc => ?_) (fun hc => ?_)) | refine zab ?_) | refine zah rfl ?_ | refine zag rfl ?_ | refine zac ?_ | refine zaw ?_ | refine zan ?_ | (refine zao ?_; refine zbm rfl ?_))
   ·refine ⟨i + 1, ?_, ⟨rfl, rfl, rfl, rfl, rfl, trivial⟩, by omega, hk5.trans0 hk6⟩
    show its.length - (i + 1) < its.length - i
    omega
   ·exact hQ _ _ _ (hk05.trans0 hk6)
  have hLb5 : IsLs Non (IsS Non) 7 H5 vB q.body := hLb.keep hk05 fun _ _ _ h => h.keep hk05
  refine zak (zac ?_)
  refine zae rfl ?_
  refine zaa (za7 rfl rfl rfl UnF.h rfl hI5.ls ?_)
  refine zaa (zbp rfl rfl (by omega) ?_)
  refine zab (zag rfl (zbn ?_))
  by_cases ht : q.type = 0
  ·(repeat' first | (refine zae rfl ?_; first | refine zbb rfl ?_ | (refine zaa ?_; first | refine za1 rfl rfl ?_ | refine zad FpF.h (by decide) rfl ?_ | refine zaf PlF.h rfl hrq5 rfl ?_ | refine zcf rfl rfl (by omega) ?_) | refine zab ?_) | refine zag rfl ?_ | refine zac ?_ | refine zak ?_ | refine zan ?_ | (refine zao ?_; refine zbm rfl ?_))
   exact hQ _ _ _ hk05
  ·refine zak (zac ?_)
   refine zae rfl ?_; (repeat ((refine zaa ?_; first | refine zad FpF.h (by decide) rfl ?_ | refine zaf PlF.h rfl hrq5 rfl ?_); refine zae rfl ?_))
   refine zaa (zcr rfl rfl ht ?_)
   refine zae rfl ?_
   refine zav rfl (zad FpF.h (by decide) rfl (zav rfl (zaf PlF.h rfl hrq5 rfl ?_)))
   refine zav rfl (zaj rfl rfl rfl (zhw (szSs q.body + 1) (by omega) hLb5 hbl fun b => ?_))
   cases b with
   | true =>
    (repeat' first | (refine zae rfl ?_; first | ((first | refine zaa ?_ | refine zav rfl ?_); first | refine zaz rfl rfl rfl ?_ | refine znw rfl ?_) | refine zab ?_) | refine zag rfl ?_ | refine zac ?_ | refine zan ?_ | (refine zao ?_; refine zbm rfl ?_))
    exact hQ _ _ _ hk05
   | false =>
    (repeat' first | (refine zae rfl ?_; first | ((first | refine zaa ?_ | refine zav rfl ?_); first | refine zaz rfl rfl rfl ?_ | refine znw rfl ?_ | refine za7 rfl rfl rfl UnF.h rfl hI5.ls ?_ | refine za0 (c := (its.length : Int) + 1) rfl rfl Ju ?_) | refine zab ?_) | refine zah rfl ?_ | refine zac ?_ | (refine zao ?_; refine zbm rfl ?_))
    exact hQ _ _ _ hk05
 have r3 : ∀ l', Sb [(2, .ptr bp 0), (3, .ptr bq 0), (6, uv)] l' → (seqA prog tb gl v28t3 (leftA [.tmp 4, .tmp 5] Q)) .normal l' H3 := fun l' hs => VA.sub hs r2
 generalize seqA prog tb gl v28t3 (leftA [.tmp 4, .tmp 5] Q) = R at r1 r3 ⊢
 (repeat' first | (refine zae rfl ?_; first | refine zbb rfl ?_ | ((first | refine zaa ?_ | refine zav rfl ?_); first | refine zal rfl ?_ | refine zaz rfl rfl rfl ?_ | refine za1 rfl rfl ?_ | refine zad FpF.h (by decide) rfl ?_ | refine zaf PlF.h rfl hrq rfl ?_ | refine za7 rfl rfl rfl UnF.h rfl hLm3 ?_ | refine za8 rfl rfl rfl UnF.h rfl hv.1 ?_ | refine zgz rfl rfl (fun hc => ?_) (fun hc => ?_)) | refine zab ?_) | refine zah rfl ?_ | refine zag rfl ?_ | refine zac ?_ | refine zan ?_)
 all_goals first
  | exact zao (r1 _ _ _ rfl)
  | exact r3 _ ⟨rfl, rfl, rfl, trivial⟩
end
end Go.Proofs.YtbmedhaopnhggaaGreatDoor
