/-
  Each mark has its row (ViewMarks): the plain law and the walk. Conditions: how many statements there are.
-/
import Derived.Test.YtbmedhaopnhggaaGreatDoorChkF
import Derived.Test.YtbmedhaopnhggaaGreatDoorLiY
import Derived.Test.YtbmedhaopnhggaaGreatDoorVFind
import Derived.Test.YtbmedhaopnhggaaGreatDoorGreat
namespace Go.Proofs.YtbmedhaopnhggaaGreatDoor
open Go Eng Tryz
def v4c0 : CV := Jt [Jc 25 (.call ⟨.value (.func 6), #[], #[]⟩), Jh 2 25] (.ret)
def v4h2 : CV := Jt [Jd 19 5, Jc 20 (.binOp .neq 28 (Ja 19) (Jb 0) 28), Jd 21 20, Jr 21 false 22 24 1, Js 21 false 23 (.call ⟨.value (.func 5), #[(Ja 22)], #[24]⟩), Jc 24 (.pick (Ja 21) (.const (.bool true)) (Ja 23))] (.cond (Ja 24) v4c0 (.skip))
def v4c1 : CV := Jt [Jc 33 (.call ⟨.value (.func 6), #[], #[]⟩), Jh 2 33] (.ret)
def v4h4 : CV := Jt [Jd 31 7, Jc 32 (.binOp .neq 28 (Ja 31) (Jb 0) 28)] (.cond (Ja 32) v4c1 (.skip))
def v4l2h0 : CV := Jt [Jd 34 9, Jg 35 24 1 0, Jf 36 22 35, Jj 37 36 22, Jc 38 (.binOp .lss 3 (Ja 34) (Ja 37) 3)] (.cond (Ja 38) (.skip) (.exit 0))
def v4l3h0 : CV := Jt [Jd 41 10, Jg 42 42 3 1, Jf 43 40 42, Jd 44 9, Jk 45 40 43 44, Jf 46 3 45, Jc 47 (.binOp .add 3 (Ja 46) (Jb 1) 3), Jc 48 (.binOp .leq 3 (Ja 41) (Ja 47) 3)] (.cond (Ja 48) (.skip) (.exit 2))
def v4c4 : CV := Jt [Jc 2 (.assign (.const (.bool false)))] (.ret)
def v4k1h1 : CV := Jt [Jd 55 11, Jd 56 8, Jc 57 (.binOp .lss 3 (Ja 55) (Ja 56) 3), Jd 58 57, Jp 58 true 59 9, Js 58 true 60 (.binOp .eql 3 (Ja 59) (Jb 0) 3), Jp 58 true 61 60, Jp 61 true 62 10, Js 61 true 63 (.binOp .eql 3 (Ja 62) (Jb 0) 3), Js 58 true 64 (.pick (Ja 61) (Ja 63) (.const (.bool false))), Jp 58 true 65 64, Jp 65 true 66 11, Js 65 true 67 (.binOp .eql 3 (Ja 66) (Jb 0) 3), Js 58 true 68 (.pick (Ja 65) (Ja 67) (.const (.bool false))), Js 58 true 69 (.unOp .not 4 (Ja 68)), Jc 70 (.pick (Ja 58) (Ja 69) (.const (.bool false))), Jd 71 70, Jp 71 false 72 11, Js 71 false 73 (.binOp .lss 3 (Ja 72) (Jb 0) 3), Jc 74 (.pick (Ja 71) (.const (.bool true)) (Ja 73)), Jd 75 74, Jp 75 false 76 11, Jp 75 false 77 6, Js 75 false 78 (.call ⟨.builtin .len, #[(Ja 77)], #[27]⟩), Js 75 false 79 (.binOp .geq 3 (Ja 76) (Ja 78) 3), Jc 80 (.pick (Ja 75) (.const (.bool true)) (Ja 79))] (.cond (Ja 80) v4c4 (.skip))
def v4l5h0 : CV := Jt [Jd 81 12, Jd 82 6, Jj 83 82 27, Jc 84 (.binOp .lss 3 (Ja 81) (Ja 83) 3)] (.cond (Ja 84) (.skip) (.exit 4))
def v4c6 : CV := Jt [Jc 2 (.assign (.const (.bool false)))] (.ret)
def v4k2 : CV := Jt [Jd 87 12, Jd 88 11, Jc 89 (.binOp .neq 3 (Ja 87) (Ja 88) 3), Jd 90 89, Jp 90 true 91 6, Jp 90 true 92 12, Js 90 true 93 (.indexAddr 27 (Ja 91) (Ja 92)), Jq 90 true 94 32 93 1, Jr 90 true 95 3 94, Jp 90 true 96 9, Js 90 true 97 (.binOp .eql 3 (Ja 95) (Ja 96) 3), Jc 98 (.pick (Ja 90) (Ja 97) (.const (.bool false))), Jd 99 98, Jp 99 true 100 6, Jp 99 true 101 12, Js 99 true 102 (.indexAddr 27 (Ja 100) (Ja 101)), Jq 99 true 103 32 102 2, Jr 99 true 104 3 103, Jp 99 true 105 10, Js 99 true 106 (.binOp .eql 3 (Ja 104) (Ja 105) 3), Jc 107 (.pick (Ja 99) (Ja 106) (.const (.bool false)))] (.cond (Ja 107) v4c6 (.skip))
def v4l5t1 : CV := .seq (.block 5 v4k2) (.reg [Jd 85 12, Jc 86 (.binOp .add 3 (Ja 85) (Jb 1) 3), Jh 12 86])
def v4l5 : CV := .seq v4l5h0 v4l5t1
def v4k1h2 : CV := Jt [Ji 12 0] (.block 4 (.loop v4l5))
def v4k1t2 : CV := .seq v4k1h2 (.reg [Jd 108 11, Jc 109 (.binOp .add 3 (Ja 108) (Jb 1) 3), Jh 8 109])
def v4k1t1 : CV := .seq v4k1h1 v4k1t2
def v4k1 : CV := Jt [Jd 51 6, Jd 52 9, Jd 53 10, Jc 54 (.call ⟨.value (.func 12), #[(Ja 51), (Ja 52), (Ja 53)], #[27, 3, 3]⟩), Jh 11 54] v4k1t1
def v4l3t1 : CV := .seq (.block 3 v4k1) (.reg [Jd 49 10, Jc 50 (.binOp .add 3 (Ja 49) (Jb 1) 3), Jh 10 50])
def v4l3 : CV := .seq v4l3h0 v4l3t1
def v4k0 : CV := Jt [Ji 10 0] (.block 2 (.loop v4l3))
def v4l2t1 : CV := .seq (.block 1 v4k0) (.reg [Jd 39 9, Jc 40 (.binOp .add 3 (Ja 39) (Jb 1) 3), Jh 9 40])
def v4l2 : CV := .seq v4l2h0 v4l2t1
def v4h6 : CV := Jt [Ji 9 0] (.block 0 (.loop v4l2))
def v4t7 : CV := Jt [Jd 110 8, Jd 111 6, Jj 112 111 27, Jc 113 (.binOp .eql 3 (Ja 110) (Ja 112) 3), Jd 114 113, Js 114 true 115 (.call ⟨.value (.func 6), #[], #[]⟩), Jc 116 (.pick (Ja 114) (Ja 115) (.const (.bool false))), Jh 2 116] (.ret)
def v4t6 : CV := .seq v4h6 v4t7
def v4t5 : CV := Jt [Ji 8 0] v4t6
def v4t4 : CV := .seq v4h4 v4t5
def v4t3 : CV := Jt [Jf 27 24 1, Jn 28 7 27 24, Jd 26 28, Jl 29 26 0, Jl 30 26 1, Jh 6 29, Jh 7 30] v4t4
def v4t2 : CV := .seq v4h2 v4t3
def v4t1 : CV := Jt [Jf 14 24 1, Jn 15 11 14 24, Jd 13 15, Jl 16 13 0, Jl 17 13 1, Jl 18 13 2, Jc 3 (.alloc 42), Jc 4 (.alloc 44), .op none (.store 42 (Ja 3) (Ja 16)), .op none (.store 44 (Ja 4) (Ja 17)), Jh 5 18] v4t2
def v4 : CV := Jt [Jc 1 (.box 24 (Ja 0)), Jc 2 (.assign (.const (.bool false)))] v4t1
noncomputable def b4 : Code := f4.body.getD .skip
theorem b4_eq : f4.body = some b4 := by kernel_rfl
theorem v4_eq : viewC prog b4 = some v4 := by kernel_rfl
theorem r4_eq : f4.results.toList = [.tmp 2] := by kernel_rfl
def keysPs : List Prc → Nat → List (Nat × Int)
 | [], _ => []
 | x :: l, i => mks i 0 (cSs x.body + 2) ++ keysPs l (i + 1)
theorem zny : ∀ {l : List Prc}, okPs l = true → ∀ x ∈ l, okSs x.body = true
 | [], _, _, h => by cases h
 | y :: l, ho, x, h => by
  simp only [okPs, okP, Bool.and_eq_true] at ho
  rcases List.mem_cons.1 h with rfl | h
  ·exact ho.1.2
  ·exact zny ho.2 x h
theorem zp5 : ∀ (l : List Prc) (i : Nat), (∀ x ∈ l, okSs x.body = true) → keysR (lPs l i) = keysPs l i
 | [], _, _ => rfl
 | x :: l, i, h => by
  simp only [lPs, keysPs, zcv, keys_lP i x (h x (by simp)), zp5 l (i + 1) fun y hy => h y (by simp [hy])]
theorem zo2 {p a n : Nat} {q : Nat × Int} (h : q ∈ mks p a n) : q.1 = p ∧ (a : Int) ≤ q.2 := by
 unfold mks at h
 obtain ⟨j, hj, rfl⟩ := List.mem_map.1 h
 rw [List.mem_range'_1] at hj
 exact ⟨rfl, by show (a : Int) ≤ (j : Int); omega⟩
theorem zno (p : Nat) : ∀ n a, (mks p a n).Nodup
 | 0, _ => List.nodup_nil
 | n + 1, a => by
  rw [zf5, List.nodup_cons]
  refine ⟨fun h => ?_, zno p n (a + 1)⟩
  have h1 := (zo2 h).2
  simp only at h1
  omega
theorem zlf : ∀ {l : List Prc} {i : Nat} {q : Nat × Int}, q ∈ keysPs l i → i ≤ q.1
 | [], _, _, h => by cases h
 | x :: l, i, q, h => by
  simp only [keysPs] at h
  rcases List.mem_append.1 h with h | h
  ·have := (zo2 h).1; omega
  ·have := zlf h; omega
theorem zim : ∀ (l : List Prc) (i : Nat), (keysPs l i).Nodup
 | [], _ => List.nodup_nil
 | x :: l, i => by
  simp only [keysPs]
  rw [List.nodup_append]
  refine ⟨zno _ _ _, zim l (i + 1), fun a ha b hb => ?_⟩
  intro e
  subst e
  have h1 := (zo2 ha).1
  have h2 := zlf hb
  omega
theorem zj6 : ∀ {B : List LR} {q : Nat × Int} {rest : List (Nat × Int)}, keysR B = q :: rest → ∃ N r B', B = N ++ r :: B' ∧ keysR N = [] ∧ keyR r = some q ∧ keysR B' = rest
 | [], _, _, h => by cases h
 | r :: B, q, rest, h => by
  rw [zdk] at h
  cases hk : keyR r with
  | some k =>
   rw [hk] at h
   simp only [List.singleton_append, List.cons.injEq] at h
   exact ⟨[], r, B, rfl, rfl, by rw [← h.1]; exact hk, h.2⟩
  | none =>
   rw [hk] at h
   simp only [List.nil_append] at h
   obtain ⟨N, s, B', h1, h2, h3, h4⟩ := zj6 h
   refine ⟨r :: N, s, B', by rw [h1]; rfl, ?_, h3, h4⟩
   rw [zdk, hk, h2]
   rfl
theorem zoz {r : LR} {i : Nat} {m : Int} (hm : 0 ≤ m) (h1 : (r.proc : Int) = (i : Int)) (h2 : r.mark = m) : keyR r = some (i, m) := by
 unfold keyR
 rw [if_pos (by omega), h2, show r.proc = i by omega]
theorem zhh {r : LR} {B : List LR} {q : Nat × Int} (h : r ∈ B) (k : keyR r = some q) : q ∈ keysR B := List.mem_filterMap.2 ⟨r, h, k⟩
theorem zla {p m : Int} : ∀ (l : List Rw) (r : List Rw) (i : Nat), (∀ x ∈ l, ¬ (x.proc = p ∧ x.mark = m)) → findR p m (l ++ r) i = findR p m r (i + l.length)
 | [], r, i, _ => rfl
 | x :: l, r, i, h => by
  rw [List.cons_append, findR, if_neg (h x (by simp)), zla l r (i + 1) fun y hy => h y (by simp [hy]), List.length_cons]
  congr 1
  omega
theorem ztu {L A B : List LR} {i : Nat} {m : Int} {rest : List (Nat × Int)} (hL : L = A ++ B) (hn : (keysR L).Nodup) (hm : 0 ≤ m) (hB : keysR B = (i, m) :: rest) :
  ∃ at_ : Nat, foundR (L.map LR.rw) (i : Int) m = (at_ : Int) ∧ A.length ≤ at_ ∧ at_ < L.length ∧ (∀ (j : Nat) (r : Rw), (L.map LR.rw)[j]? = some r → r.proc = (i : Int) → r.mark = m → j = at_) ∧ ∃ A' B', L = A' ++ B' ∧ A'.length = at_ + 1 ∧ keysR B' = rest := by
 obtain ⟨N, r, B', rfl, hN, hr, hB'⟩ := zj6 hB
 have hks : keysR L = keysR A ++ (i, m) :: rest := by rw [hL, zcv, hB]
 rw [hks, List.nodup_append] at hn
 obtain ⟨_, hn2, hn3⟩ := hn
 rw [List.nodup_cons] at hn2
 have nA : ∀ x ∈ A, ¬ (((x.proc : Int) = (i : Int)) ∧ x.mark = m) := fun x hx ⟨h1, h2⟩ => hn3 _ (zhh hx (zoz hm h1 h2)) (i, m) (by simp) rfl
 have nN : ∀ x ∈ N, ¬ (((x.proc : Int) = (i : Int)) ∧ x.mark = m) := fun x hx ⟨h1, h2⟩ => by
  have := zhh hx (zoz hm h1 h2)
  rw [hN] at this
  cases this
 have nB : ∀ x ∈ B', ¬ (((x.proc : Int) = (i : Int)) ∧ x.mark = m) := fun x hx ⟨h1, h2⟩ => hn2.1 (by have := zhh hx (zoz hm h1 h2); rw [hB'] at this; exact this)
 have hrr : ((r.proc : Int) = (i : Int)) ∧ r.mark = m := by
  unfold keyR at hr
  split at hr
  ·simp only [Option.some.injEq, Prod.mk.injEq] at hr
   exact ⟨by rw [hr.1], hr.2⟩
  ·cases hr
 have hLe : L = (A ++ N) ++ r :: B' := by rw [hL, List.append_assoc]
 have nAN : ∀ x ∈ A ++ N, ¬ (((x.proc : Int) = (i : Int)) ∧ x.mark = m) := fun x hx => (List.mem_append.1 hx).elim (nA x) (nN x)
 refine ⟨(A ++ N).length, ?_, by rw [List.length_append]; omega, by rw [hLe]; simp only [List.length_append, List.length_cons]; omega, fun j q hj h1 h2 => ?_, (A ++ N) ++ [r], B', by rw [hLe]; simp, by simp only [List.length_append, List.length_singleton], hB'⟩
 ·unfold foundR
  rw [if_neg (by omega), hLe, List.map_append, zla _ _ _ fun x hx => by
   obtain ⟨y, hy, rfl⟩ := List.mem_map.1 hx
   exact nAN y hy]
  rw [List.map_cons, findR, if_pos (show r.rw.proc = (i : Int) ∧ r.rw.mark = m from hrr), List.length_map, Nat.zero_add]
 ·rw [List.getElem?_map] at hj
  cases hx : L[j]? with
  | none => rw [hx] at hj; cases hj
  | some y =>
   rw [hx] at hj
   simp only [Option.map_some, Option.some.injEq] at hj
   subst hj
   have hy : ((y.proc : Int) = (i : Int)) ∧ y.mark = m := ⟨h1, h2⟩
   rw [hLe, List.getElem?_append] at hx
   split at hx
   ·exact absurd hy (nAN y (List.mem_of_getElem? hx))
   ·rename_i hlt
    cases hd : j - (A ++ N).length with
    | zero => omega
    | succ d =>
     rw [hd, List.getElem?_cons_succ] at hx
     exact absurd hy (nB y (List.mem_of_getElem? hx))
theorem zp6 : ∀ (l : List Prc) (i : Nat), l ≠ [] → ∃ r, (lPs l i).getLast? = some r ∧ (keyR r).isSome
 | [], _, h => absurd rfl h
 | [x], i, _ => by
  obtain ⟨r, h1, h2⟩ := lSs_last i x
  exact ⟨r, by simp only [lPs, List.append_nil]; exact h1, h2⟩
 | x :: y :: l, i, _ => by
  obtain ⟨r, h1, h2⟩ := zp6 (y :: l) (i + 1) (by simp)
  refine ⟨r, ?_, h2⟩
  rw [lPs, List.getLast?_append, h1]
  rfl
theorem mark_end {p : List Prc} {A B : List LR} (hL : lPs p 0 = A ++ B) (hB : keysR B = []) : B = [] := by
 cases hb : B with
 | nil => rfl
 | cons b B' =>
  exfalso
  have hp : p ≠ [] := by
   rintro rfl
   rw [hb] at hL
   simp [lPs] at hL
  obtain ⟨r, h1, h2⟩ := zp6 p 0 hp
  rw [hL, List.getLast?_append] at h1
  obtain ⟨C, c, hC⟩ : ∃ C c, B = C ++ [c] := ⟨B.dropLast, B.getLast (by rw [hb]; simp), (List.dropLast_concat_getLast (by rw [hb]; simp)).symm⟩
  rw [hC, List.getLast?_append, List.getLast?_singleton] at h1
  simp only [Option.some_or, Option.some.injEq] at h1
  obtain ⟨q, hq⟩ := Option.isSome_iff_exists.1 h2
  have := zhh (B := B) (r := r) (by rw [hC, h1]; simp) hq
  rw [hB] at this
  cases this
theorem rowsC_rw (l : List LR) : rowsC l = (l.map LR.rw).flatMap rwC := by
 induction l with
 | nil => rfl
 | cons r l ih => simp only [rowsC, List.flatMap_cons, List.map_cons] at ih ⊢; rw [ih]
section
variable {gl : List (List AV)} {H : Heap} {v w : AV} {Q : AV → Heap → Prop}
set_option maxRecDepth 100000 in
set_option maxHeartbeats 0 in
theorem marks_ok (hlaid : Laid gl H) (hK : KeysIn H) {p : List Prc} (hp : IsPg Non H v p) (hc : ∀ x ∈ p, cSs x.body + x.params.length < 400000) (hQ : ∀ H', Q (.bool true) H') :
    WpF prog [6] gl 4 [v] H Q := by
  have hrB : rB = 140737488351232 := rfl
  have hp0 := hp
  obtain ⟨hpl, vp, rfl, hLp⟩ := hp
  refine fa func4 b4_eq v4_eq r4_eq (.inr (by simp)) ?_
  refine zac ?_
  refine zaa (zcd rfl fun H1 hk1 hr1 => ?_)
  obtain ⟨bx, hbx⟩ : ∃ b, b = H.nx := ⟨_, rfl⟩
  rw [← hbx] at hr1 ⊢
  have hr1 : IsRow H1 bx [vp] false false := hr1
  refine zae rfl ?_
  refine zab (zac ?_)
  refine zaa (zaq (k := 1) PlF.h rfl (by decide) rfl hr1.pts ?_)
  refine zaa (zaj rfl rfl rfl (Check_ok (hp0.keep hk1) hc fun ci cp e H2 hk2 l1 l2 s1 s2 hmk => ?_))
  refine zae rfl ?_
  refine zaa (zci ZeF.h fun H3 hk3 hr3 => ?_)
  obtain ⟨bi, hbi⟩ : ∃ b, b = H2.nx := ⟨_, rfl⟩
  rw [← hbi] at hr3 ⊢
  refine zaa (zci ZeF.h fun H4 hk4 hr4 => ?_)
  obtain ⟨bj, hbj⟩ : ∃ b, b = H3.nx := ⟨_, rfl⟩
  rw [← hbj] at hr4 ⊢
  refine zaa (zbv (k := 2) SzF.h l1 rfl rfl s1 (hr3.keep0 hk4) (by rw [l1]; rfl) fun H5 hk5 hn5 hr5 => ?_)
  have n3 := hk3.nx
  have lt3 := hr3.1
  have hr45 := hr4.keep hk5 (.inl (by intro h; omega))
  refine zaa (zbv (k := 2) SzF.h l2 rfl rfl s2 hr45 (by rw [l2]; rfl) fun H6 hk6 hn6 hr6 => ?_)
  have hr56 := hr5.keep hk6 (.inl (by intro h; omega))
  have hk26 : Keep Non H2 H6 := ((hk3.trans0 hk4).trans hk5 fun c hc => .inr (by rw [hc, hbi]; exact Nat.le_refl _)).trans hk6 fun c hc => .inr (by rw [hc, hbj]; exact n3)
  have hk06 := (hk1.trans0 hk2).trans0 hk26
  have hx6 := hr1.keep0 (hk2.trans0 hk26)
  clear hr3 hr4 hr5 hr6 hr45 hk3 hk4 hk5 hk6
  refine zae rfl ?_
  refine zab (zak (zac ?_))
  refine zae rfl ?_
  by_cases he : e = 0
  rotate_left
  · (repeat' first | (refine zae rfl ?_; first | refine zbb rfl ?_ | (refine zaa ?_; first | refine zaz rfl rfl rfl ?_ | refine zi7 rfl (hlaid.keep hk06) ?_ | refine zcr rfl rfl (by omega) ?_) | refine zab ?_) | refine zah rfl ?_ | refine zac ?_ | (refine zao ?_; refine zbm rfl ?_))
    exact hQ _
  obtain ⟨iv, im, hci, hmk'⟩ := hmk he
  clear hmk
  subst hci
  have hmk6 := hmk'.keep0 hk26
  refine zaa (zcf rfl rfl (by omega) ?_)
  refine zae rfl ?_
  refine zav rfl (zaq (k := 1) PlF.h rfl (by decide) rfl hx6.pts ?_)
  refine zav rfl (zaj rfl rfl rfl (great_ok (hp0.keep hk06) fun g H7 hk7 hg => ?_))
  refine zaa (za1 rfl rfl ?_)
  have hk07 := hk06.trans0 hk7
  cases g with
  | true =>
    (repeat' first | (refine zae rfl ?_; first | (((refine zaa ?_)); (refine zi7 rfl (hlaid.keep hk07) ?_)) | refine zab ?_) | refine zah rfl ?_ | refine zac ?_ | (refine zao ?_; refine zbm rfl ?_))
    exact hQ _
  | false =>
  have hsz := hg rfl
  refine zab (zag rfl (zan (zac ?_)))
  refine zaa (zaq (k := 1) PlF.h rfl (by decide) rfl (hx6.keep0 hk7).pts ?_)
  refine zaa (zaj rfl rfl rfl (List_ok (hp0.keep hk07) (hK.keep hk07) hsz (fun e8 H8 hk8 he8 _ => ?_) fun hok hdp u8 H8 hk8 hO8 _ => ?_))
  · (repeat' first | (refine zae rfl ?_; first | (refine zaa ?_; first | refine zi7 rfl (hlaid.keep (hk07.trans0 hk8)) ?_ | refine zcr rfl rfl (by omega) ?_) | refine zab ?_) | refine zah rfl ?_ | refine zac ?_ | refine zak ?_ | (refine zao ?_; refine zbm rfl ?_))
    exact hQ _
  have hk78 := hk7.trans0 hk8
  have hk08 := hk07.trans0 hk8
  have hx8 := hx6.keep0 hk78
  have hi8 : IsRow H8 bi [iv, im] false false := hr56.keep0 hk78
  have hm8 := hmk6.keep0 hk78
  have hLp8 : IsLs Non (IsPc Non) 4 H8 vp p := hLp.keep hk08 fun _ _ _ h => h.keep hk08
  obtain ⟨L, hL⟩ : ∃ L, L = lPs p 0 := ⟨_, rfl⟩
  have hkeys := zp5 p 0 (zny hok)
  have hnd := zim p 0
  rw [← hkeys, ← hL] at hnd
  rw [← hL] at hO8 hkeys
  have hln := zo1 p 0
  rw [← hL] at hln
  have hrows : IsSl H8 u8 3 (L.map LR.rw).length ((L.map LR.rw).flatMap rwC) := by
    rw [← rowsC_rw, List.length_map]
    exact hO8.sl
  refine zae rfl ?_
  refine zab (zak (zac ?_))
  refine zae rfl ?_
  refine zaa (zcf rfl rfl (by simp) (zab (zag rfl (zan (zac ?_)))))
  refine zae rfl ?_
  refine zab (zak (zac ?_))
  refine zae rfl ?_
  refine zab (zam ?_)
  refine zbw (fun (i : Nat × Nat) => [(1, .ptr bx 0), (3, .ptr bi 0), (6, u8), (8, .int .i64 (i.2 : Int)), (9, .int .i64 (i.1 : Int))]) (fun i H' => i.1 ≤ p.length ∧ Keep Non H8 H' ∧ ∃ A B, L = A ++ B ∧ A.length = i.2 ∧ keysR B = keysPs (p.drop i.1) i.1) (fun i => p.length - i.1) ?_ (0, 0) _ H8 ⟨rfl, rfl, rfl, rfl, rfl, trivial⟩
    ⟨Nat.zero_le _, .refl _ _, [], L, rfl, rfl, hkeys⟩
  rintro ⟨i, k⟩ H9 ⟨hle, hk9, A, B, hAB, hAk, hB⟩
  simp only at hle hk9 hAk hB
  refine VA.sub (l0 := [(1, .ptr bx 0), (3, .ptr bi 0), (6, u8), (8, .int .i64 (k : Int)), (9, .int .i64 (i : Int))]) ⟨rfl, rfl, rfl, rfl, rfl, trivial⟩ ?_
  have hx9 := hx8.keep0 hk9
  have hLp9 : IsLs Non (IsPc Non) 4 H9 vp p := hLp8.keep hk9 fun _ _ _ h => h.keep hk9
  have hrows9 := hrows.keep0 hk9
  refine zak (zac ?_)
  refine zae rfl ?_; (repeat ((refine zaa ?_; first | refine zad FpF.h (by decide) rfl ?_ | refine zaf PlF.h rfl hx9 rfl ?_); refine zae rfl ?_))
  refine zaa (za7 rfl rfl rfl UnF.h rfl hLp9 ?_)
  by_cases hi : i < p.length
  rotate_left
  · rw [List.drop_of_length_le (by omega)] at hB
    have hB0 : B = [] := mark_end (hL ▸ hAB) hB
    rw [hB0, List.append_nil] at hAB
    refine zaa (zbp rfl rfl (by omega) ?_)
    refine zab (zag rfl (zbn (zac ?_)))
    refine zae rfl ?_
    refine zaa (za8 rfl rfl rfl UnF.h rfl hrows9 ?_)
    refine zaa (zax rfl rfl (by rw [List.length_map, hAB, hAk]) ?_)
    refine zae rfl ?_
    refine zav rfl (zi7 rfl (hlaid.keep (hk08.trans0 hk9)) ?_)
    refine zaa (zaz rfl rfl rfl ?_)
    refine zae rfl ?_
    exact zab (zao ⟨_, rfl, hQ _⟩)
  obtain ⟨x, hx⟩ : ∃ x, p[i]? = some x := ⟨_, List.getElem?_eq_getElem hi⟩
  have hdr : p.drop i = x :: p.drop (i + 1) := by
    rw [List.drop_eq_getElem_cons hi]
    rw [List.getElem?_eq_getElem hi] at hx
    injection hx with hx
    rw [hx]
  rw [hdr] at hB
  simp only [keysPs] at hB
  have hcx : cSs x.body < 400000 := by have := hc x (List.mem_of_getElem? hx); omega
  have hmi : (mksC p)[i]? = some (.int .i64 (cSs x.body : Int)) := by unfold mksC; rw [List.getElem?_map, hx]; rfl
  refine zaa (zbx rfl rfl (by omega) ?_)
  refine zab (zah rfl (zan (zak (zam (zac ?_)))))
  refine zae rfl ?_
  refine zab (zam ?_)
  refine zbw (fun (j : Nat × Nat) => [(1, .ptr bx 0), (3, .ptr bi 0), (6, u8), (8, .int .i64 (j.2 : Int)), (9, .int .i64 (i : Int)), (10, .int .i64 (j.1 : Int))]) (fun j H' => j.1 ≤ cSs x.body + 2 ∧ Keep Non H8 H' ∧ ∃ A B, L = A ++ B ∧ A.length = j.2 ∧ keysR B = mks i j.1 (cSs x.body + 2 - j.1) ++ keysPs (p.drop (i + 1)) (i + 1)) (fun j => cSs x.body + 2 - j.1) ?_ (0, k) _ H9 ⟨rfl, rfl, rfl, rfl, rfl, rfl, trivial⟩
    ⟨Nat.zero_le _, hk9, A, B, hAB, hAk, hB⟩
  clear hk9 hAB hAk hB hx9 hLp9 hrows9 A B
  rintro ⟨m, k⟩ H9 ⟨hle2, hk9, A, B, hAB, hAk, hB⟩
  simp only at hle2 hk9 hAk hB
  refine VA.sub (l0 := [(1, .ptr bx 0), (3, .ptr bi 0), (6, u8), (8, .int .i64 (k : Int)), (9, .int .i64 (i : Int)), (10, .int .i64 (m : Int))]) ⟨rfl, rfl, rfl, rfl, rfl, rfl, trivial⟩ ?_
  have hi9 := hi8.keep0 hk9
  have hm9 := hm8.keep0 hk9
  have hrows9 := hrows.keep0 hk9
  refine zak (zac ?_)
  refine zae rfl ?_; (repeat ((refine zaa ?_; first | refine zad FpF.h (by decide) rfl ?_ | refine zaf PlF.h rfl hi9 rfl ?_); refine zae rfl ?_))
  refine zaa (za3 (j := i) UnF.h SzF.h rfl hm9 rfl rfl hi fun q0 hq0 => ?_)
  refine zaa (zbh (v := .int .i64 (cSs x.body : Int)) PlF.h rfl hq0 (by rw [List.getElem?_take, if_pos (by decide), List.getElem?_drop, Nat.mul_one, Nat.add_zero]; exact hmi) ?_)
  refine zaa (za0 (c := ((cSs x.body + 1 : Nat) : Int)) rfl rfl Ju ?_)
  by_cases hm : m ≤ cSs x.body + 1
  rotate_left
  · have hm2 : cSs x.body + 2 - m = 0 := by omega
    rw [hm2] at hB
    refine zaa (zeo rfl rfl (by omega) ?_)
    refine zab (zag rfl (zbn (zaw ?_)))
    refine zae rfl ?_
    refine zaa (za0 (c := ((i + 1 : Nat) : Int)) rfl rfl Ju ?_)
    refine zae rfl ?_
    refine zab ⟨(i + 1, k), ?_, ⟨rfl, rfl, rfl, rfl, rfl, trivial⟩, by show i + 1 ≤ _; omega, hk9, A, B, hAB, hAk, hB⟩
    show p.length - (i + 1) < p.length - i
    omega
  have hm2 : cSs x.body + 2 - m = (cSs x.body + 2 - (m + 1)) + 1 := by omega
  rw [hm2, zf5, List.cons_append] at hB
  obtain ⟨at_, hat, hak, hal, huni, A', B', hAB', hAl', hB'⟩ := ztu hAB hnd (by omega) hB
  have hll : L.length < 500000 := by omega
  refine zaa (zec rfl rfl (by omega) ?_)
  refine zab (zah rfl (zan (zak (zam (zac ?_)))))
  refine zae rfl ?_
  refine zaa (zaj rfl rfl rfl (vFind_ok (by rw [List.length_map]; exact hll) hrows9 _ _ fun H10 hk10 => ?_))
  rw [hat]
  have hk810 := hk9.trans0 hk10
  have hrows10 := hrows.keep0 hk810
  have hlm : (L.map LR.rw).length = L.length := List.length_map ..
  refine zae rfl ?_
  (repeat' first | (refine zae rfl ?_; first | refine zbb rfl ?_ | refine zef rfl ?_ | ((first | refine zaa ?_ | refine zav rfl ?_); first | refine zal rfl ?_ | refine za1 rfl rfl ?_ | refine za8 rfl rfl rfl UnF.h rfl hrows10 ?_ | refine zbp rfl rfl (by omega) ?_ | refine zgy rfl rfl (by omega) ?_) | refine zab ?_) | refine zag rfl ?_ | refine zac ?_ | refine zak ?_ | refine zam ?_ | refine zan ?_)
  refine zbw (fun (j : Nat) => [(1, .ptr bx 0), (3, .ptr bi 0), (6, u8), (9, .int .i64 (i : Int)), (10, .int .i64 (m : Int)), (11, .int .i64 (at_ : Int)), (12, .int .i64 (j : Int))]) (fun j H' => H' = H10 ∧ j ≤ L.length) (fun j => L.length - j) ?_ 0 _ H10 ⟨rfl, rfl, rfl, rfl, rfl, rfl, rfl, trivial⟩ ⟨rfl, Nat.zero_le _⟩
  rintro j H' ⟨rfl, hje⟩
  by_cases hj : j < L.length
  · obtain ⟨r, hr⟩ : ∃ r, (L.map LR.rw)[j]? = some r := ⟨_, List.getElem?_eq_getElem (by rw [hlm]; exact hj)⟩
    have huj := huni j r hr
    (repeat' first | (refine zae rfl ?_; first | refine zbb rfl ?_ | ((first | refine zaa ?_ | refine zav rfl ?_); first | refine zal rfl ?_ | refine zaz rfl rfl rfl ?_ | refine za1 rfl rfl ?_ | refine za8 rfl rfl rfl UnF.h rfl hrows10 ?_ | refine zcq zuv UnF.h SzF.h rfl hrows10 rfl rfl hr (fun q0 hq0 => ?_) | refine zas FpF.h (by decide) rfl hq0 (fun p2 hp2 => ?_) | refine zbh PlF.h rfl hp2 rfl ?_ | refine za0 (c := ((j + 1 : Nat) : Int)) rfl rfl Ju ?_ | refine zbx rfl rfl (by omega) ?_ | refine zat rfl rfl (by omega) ?_ | refine zh6 rfl rfl (fun hc => ?_) (fun hc => ?_) | refine zc7 rfl rfl (fun hc => ?_) (fun hc => ?_)) | refine zab ?_) | refine zah rfl ?_ | refine zag rfl ?_ | refine zac ?_ | refine zak ?_ | refine zaw ?_ | refine zam ?_ | refine zan ?_)
    all_goals first
      | (exfalso; have := huj (by assumption) (by assumption); omega)
      | (refine ⟨j + 1, ?_, ⟨rfl, rfl, rfl, rfl, rfl, rfl, rfl, trivial⟩, rfl, by omega⟩
         show L.length - (j + 1) < L.length - j
         omega)
  · (repeat' first | (refine zae rfl ?_; first | (refine zaa ?_; first | refine za8 rfl rfl rfl UnF.h rfl hrows10 ?_ | refine za0 (c := ((at_ + 1 : Nat) : Int)) rfl rfl Ju ?_ | refine za0 (c := ((m + 1 : Nat) : Int)) rfl rfl Ju ?_ | refine zbp rfl rfl (by omega) ?_) | refine zab ?_) | refine zag rfl ?_ | refine zac ?_ | refine zak ?_ | refine zaw ?_ | refine zbn ?_)
    refine ⟨(m + 1, at_ + 1), ?_, ⟨rfl, rfl, rfl, rfl, rfl, rfl, trivial⟩, by show m + 1 ≤ _; omega, hk810, A', B', hAB', hAl', hB'⟩
    show cSs x.body + 2 - (m + 1) < cSs x.body + 2 - m
    omega
end
end Go.Proofs.YtbmedhaopnhggaaGreatDoor
