/-
  Programs as arguments: how large they are (parallaxref03: ExprSize, StmtsSize, Size), walked. Conditions: what IsE, IsS, IsPg say.
-/
import Derived.Test.YtbmedhaopnhggaaGreatDoorTxt
import Derived.Test.YtbmedhaopnhggaaGreatDoorCore9
namespace Go.Proofs.YtbmedhaopnhggaaGreatDoor
open Go Eng Tryz
set_option maxHeartbeats 0
instance isz_180 : SzF prog 180 4 := ⟨by kernel_rfl⟩
instance ifp_180_1 : FpF prog 180 1 ⟨1, false, 1⟩ := ⟨by kernel_rfl⟩
instance ifp_180_3 : FpF prog 180 3 ⟨3, false, 1⟩ := ⟨by kernel_rfl⟩
instance ipl_155 : PlF prog 155 ⟨0, false, 1⟩ := ⟨by kernel_rfl⟩
instance iun_155 : UnF prog 155 (.slice 180) := ⟨by kernel_rfl⟩
instance ipl_180 : PlF prog 180 ⟨0, true, 4⟩ := ⟨by kernel_rfl⟩
instance iun_72 : UnF prog 72 (.slice 157) := ⟨by kernel_rfl⟩
instance iel_72 : ElF prog 72 ⟨157, 7, .agg [.int .i64 0, .str 0 0, .str 0 0, .int .i64 0, .nils, .nils, .nils]⟩ := ⟨by kernel_rfl⟩
instance isz_157 : SzF prog 157 7 := ⟨by kernel_rfl⟩
instance ifp_157_1 : FpF prog 157 1 ⟨1, false, 1⟩ := ⟨by kernel_rfl⟩
instance ifp_157_2 : FpF prog 157 2 ⟨2, false, 1⟩ := ⟨by kernel_rfl⟩
instance ifp_157_4 : FpF prog 157 4 ⟨4, false, 1⟩ := ⟨by kernel_rfl⟩
instance ifp_157_5 : FpF prog 157 5 ⟨5, false, 1⟩ := ⟨by kernel_rfl⟩
instance ipl_72 : PlF prog 72 ⟨0, false, 1⟩ := ⟨by kernel_rfl⟩
instance ifp_157_6 : FpF prog 157 6 ⟨6, false, 1⟩ := ⟨by kernel_rfl⟩
instance ifp_24_0 : FpF prog 24 0 ⟨0, false, 1⟩ := ⟨by kernel_rfl⟩
instance ipl_22 : PlF prog 22 ⟨0, false, 1⟩ := ⟨by kernel_rfl⟩
instance iun_22 : UnF prog 22 (.slice 74) := ⟨by kernel_rfl⟩
instance iel_22 : ElF prog 22 ⟨74, 4, .agg [.str 0 0, .nils, .int .i64 0, .nils]⟩ := ⟨by kernel_rfl⟩
instance isz_74 : SzF prog 74 4 := ⟨by kernel_rfl⟩
instance ifp_74_0 : FpF prog 74 0 ⟨0, false, 1⟩ := ⟨by kernel_rfl⟩
instance ifp_74_1 : FpF prog 74 1 ⟨1, false, 1⟩ := ⟨by kernel_rfl⟩
instance ipl_71 : PlF prog 71 ⟨0, false, 1⟩ := ⟨by kernel_rfl⟩
instance iun_71 : UnF prog 71 (.slice 87) := ⟨by kernel_rfl⟩
instance isz_87 : SzF prog 87 2 := ⟨by kernel_rfl⟩
instance ifp_87_0 : FpF prog 87 0 ⟨0, false, 1⟩ := ⟨by kernel_rfl⟩
instance ifp_74_3 : FpF prog 74 3 ⟨3, false, 1⟩ := ⟨by kernel_rfl⟩
def v76l0h0 : CV := Jt [Jd 12 6, Jg 13 180 2 3, Jf 14 155 13, Jj 15 14 155, Jc 16 (.binOp .lss 3 (Ja 12) (Ja 15) 3), Jd 17 16, Jp 17 true 18 5, Jp 17 true 19 1, Js 17 true 20 (.binOp .leq 3 (Ja 18) (Ja 19) 3), Jc 21 (.pick (Ja 17) (Ja 20) (.const (.bool false)))] (.cond (Ja 21) (.skip) (.exit 0))
def v76l0t1 : CV := .seq (.block 1 (.reg [Jd 24 5, Jg 25 180 2 3, Jf 26 155 25, Jd 27 6, Jk 28 155 26 27, Jf 29 180 28, Jd 30 1, Jd 31 5, Jc 32 (.binOp .sub 3 (Ja 30) (Ja 31) 3), Jo 33 76 29 32 180 3, Jc 34 (.binOp .add 3 (Ja 24) (Ja 33) 3), Jh 5 34])) (.reg [Jd 22 6, Jc 23 (.binOp .add 3 (Ja 22) (Jb 1) 3), Jh 6 23])
def v76l0 : CV := .seq v76l0h0 v76l0t1
def v76h2 : CV := Jt [Ji 6 0] (.block 0 (.loop v76l0))
def v76t3 : CV := Jt [Jd 35 5, Jh 4 35] (.ret)
def v76t2 : CV := .seq v76h2 v76t3
def v76t1 : CV := Jt [Jg 7 180 2 1, Jf 8 9 7, Jj 9 8 9, Jc 10 (.binOp .quo 3 (Ja 9) (Jb 8) 3), Jc 11 (.binOp .add 3 (Jb 1) (Ja 10) 3), Jh 5 11] v76t2
def v76 : CV := Jt [Jc 2 (.box 180 (Ja 0)), Ji 4 0] v76t1
noncomputable def b76 : Code := f76.body.getD .skip
theorem b76_eq : f76.body = some b76 := by kernel_rfl
theorem v76_eq : viewC prog b76 = some v76 := by kernel_rfl
theorem r76_eq : f76.results.toList = [.tmp 4] := by kernel_rfl
def v31l0h0 : CV := Jt [Jd 8 6, Jd 9 0, Jj 10 9 72, Jc 11 (.binOp .lss 3 (Ja 8) (Ja 10) 3), Jd 12 11, Jp 12 true 13 5, Jp 12 true 14 1, Js 12 true 15 (.binOp .leq 3 (Ja 13) (Ja 14) 3), Jc 16 (.pick (Ja 12) (Ja 15) (.const (.bool false)))] (.cond (Ja 16) (.skip) (.exit 0))
def v31l1h0 : CV := Jt [Jd 37 7, Jd 38 0, Jd 39 6, Jk 40 72 38 39, Jg 41 157 40 4, Jf 42 155 41, Jj 43 42 155, Jc 44 (.binOp .lss 3 (Ja 37) (Ja 43) 3), Jd 45 44, Jp 45 true 46 5, Jp 45 true 47 1, Js 45 true 48 (.binOp .leq 3 (Ja 46) (Ja 47) 3), Jc 49 (.pick (Ja 45) (Ja 48) (.const (.bool false)))] (.cond (Ja 49) (.skip) (.exit 2))
def v31l1t1 : CV := .seq (.block 3 (.reg [Jd 52 5, Jd 53 0, Jd 54 6, Jk 55 72 53 54, Jg 56 157 55 4, Jf 57 155 56, Jd 58 7, Jk 59 155 57 58, Jf 60 180 59, Jd 61 1, Jd 62 5, Jc 63 (.binOp .sub 3 (Ja 61) (Ja 62) 3), Jo 64 76 60 63 180 3, Jc 65 (.binOp .add 3 (Ja 52) (Ja 64) 3), Jh 5 65])) (.reg [Jd 50 7, Jc 51 (.binOp .add 3 (Ja 50) (Jb 1) 3), Jh 7 51])
def v31l1 : CV := .seq v31l1h0 v31l1t1
def v31k0h1 : CV := Jt [Ji 7 0] (.block 2 (.loop v31l1))
def v31k0t2 : CV := Jt [Jd 66 5, Jd 67 0, Jd 68 6, Jk 69 72 67 68, Jg 70 157 69 5, Jf 71 72 70, Jd 72 1, Jd 73 5, Jc 74 (.binOp .sub 3 (Ja 72) (Ja 73) 3), Jo 75 31 71 74 72 3, Jc 76 (.binOp .add 3 (Ja 66) (Ja 75) 3), Jh 5 76] (.reg [Jd 77 5, Jd 78 0, Jd 79 6, Jk 80 72 78 79, Jg 81 157 80 6, Jf 82 72 81, Jd 83 1, Jd 84 5, Jc 85 (.binOp .sub 3 (Ja 83) (Ja 84) 3), Jo 86 31 82 85 72 3, Jc 87 (.binOp .add 3 (Ja 77) (Ja 86) 3), Jh 5 87])
def v31k0t1 : CV := .seq v31k0h1 v31k0t2
def v31k0 : CV := Jt [Jd 19 5, Jc 20 (.binOp .add 3 (Ja 19) (Jb 1) 3), Jd 21 0, Jd 22 6, Jk 23 72 21 22, Jg 24 157 23 1, Jf 25 9 24, Jj 26 25 9, Jc 27 (.binOp .quo 3 (Ja 26) (Jb 8) 3), Jc 28 (.binOp .add 3 (Ja 20) (Ja 27) 3), Jd 29 0, Jd 30 6, Jk 31 72 29 30, Jg 32 157 31 2, Jf 33 9 32, Jj 34 33 9, Jc 35 (.binOp .quo 3 (Ja 34) (Jb 8) 3), Jc 36 (.binOp .add 3 (Ja 28) (Ja 35) 3), Jh 5 36] v31k0t1
def v31l0t1 : CV := .seq (.block 1 v31k0) (.reg [Jd 17 6, Jc 18 (.binOp .add 3 (Ja 17) (Jb 1) 3), Jh 6 18])
def v31l0 : CV := .seq v31l0h0 v31l0t1
def v31h2 : CV := Jt [Ji 6 0] (.block 0 (.loop v31l0))
def v31t3 : CV := Jt [Jd 88 5, Jh 4 88] (.ret)
def v31t2 : CV := .seq v31h2 v31t3
def v31t1 : CV := Jt [Ji 5 0] v31t2
def v31 : CV := Jt [Ji 4 0] v31t1
noncomputable def b31 : Code := f31.body.getD .skip
theorem b31_eq : f31.body = some b31 := by kernel_rfl
theorem v31_eq : viewC prog b31 = some v31 := by kernel_rfl
theorem r31_eq : f31.results.toList = [.tmp 4] := by kernel_rfl
def v13l0h0 : CV := Jt [Jd 8 6, Jg 9 24 2 0, Jf 10 22 9, Jj 11 10 22, Jc 12 (.binOp .lss 3 (Ja 8) (Ja 11) 3), Jd 13 12, Jp 13 true 14 5, Jp 13 true 15 1, Js 13 true 16 (.binOp .leq 3 (Ja 14) (Ja 15) 3), Jc 17 (.pick (Ja 13) (Ja 16) (.const (.bool false)))] (.cond (Ja 17) (.skip) (.exit 0))
def v13l1h0 : CV := Jt [Jd 39 7, Jg 40 24 2 0, Jf 41 22 40, Jd 42 6, Jk 43 22 41 42, Jg 44 74 43 1, Jf 45 71 44, Jj 46 45 71, Jc 47 (.binOp .lss 3 (Ja 39) (Ja 46) 3), Jd 48 47, Jp 48 true 49 5, Jp 48 true 50 1, Js 48 true 51 (.binOp .leq 3 (Ja 49) (Ja 50) 3), Jc 52 (.pick (Ja 48) (Ja 51) (.const (.bool false)))] (.cond (Ja 52) (.skip) (.exit 2))
def v13l1t1 : CV := .seq (.block 3 (.reg [Jd 55 5, Jg 56 24 2 0, Jf 57 22 56, Jd 58 6, Jk 59 22 57 58, Jg 60 74 59 1, Jf 61 71 60, Jd 62 7, Jk 63 71 61 62, Jg 64 87 63 0, Jf 65 9 64, Jj 66 65 9, Jc 67 (.binOp .quo 3 (Ja 66) (Jb 8) 3), Jc 68 (.binOp .add 3 (Ja 55) (Ja 67) 3), Jh 5 68])) (.reg [Jd 53 7, Jc 54 (.binOp .add 3 (Ja 53) (Jb 1) 3), Jh 7 54])
def v13l1 : CV := .seq v13l1h0 v13l1t1
def v13k0h1 : CV := Jt [Ji 7 0] (.block 2 (.loop v13l1))
def v13k0t1 : CV := .seq v13k0h1 (.reg [Jd 69 5, Jg 70 24 2 0, Jf 71 22 70, Jd 72 6, Jk 73 22 71 72, Jg 74 74 73 3, Jf 75 72 74, Jd 76 1, Jd 77 5, Jc 78 (.binOp .sub 3 (Ja 76) (Ja 77) 3), Jo 79 31 75 78 72 3, Jc 80 (.binOp .add 3 (Ja 69) (Ja 79) 3), Jh 5 80])
def v13k0 : CV := Jt [Jd 20 5, Jc 21 (.binOp .add 3 (Ja 20) (Jb 1) 3), Jg 22 24 2 0, Jf 23 22 22, Jd 24 6, Jk 25 22 23 24, Jg 26 74 25 0, Jf 27 9 26, Jj 28 27 9, Jc 29 (.binOp .quo 3 (Ja 28) (Jb 8) 3), Jc 30 (.binOp .add 3 (Ja 21) (Ja 29) 3), Jg 31 24 2 0, Jf 32 22 31, Jd 33 6, Jk 34 22 32 33, Jg 35 74 34 1, Jf 36 71 35, Jj 37 36 71, Jc 38 (.binOp .add 3 (Ja 30) (Ja 37) 3), Jh 5 38] v13k0t1
def v13l0t1 : CV := .seq (.block 1 v13k0) (.reg [Jd 18 6, Jc 19 (.binOp .add 3 (Ja 18) (Jb 1) 3), Jh 6 19])
def v13l0 : CV := .seq v13l0h0 v13l0t1
def v13h2 : CV := Jt [Ji 6 0] (.block 0 (.loop v13l0))
def v13t3 : CV := Jt [Jd 81 5, Jh 4 81] (.ret)
def v13t2 : CV := .seq v13h2 v13t3
def v13t1 : CV := Jt [Ji 5 0] v13t2
def v13 : CV := Jt [Jc 2 (.box 24 (Ja 0)), Ji 4 0] v13t1
noncomputable def b13 : Code := f13.body.getD .skip
theorem b13_eq : f13.body = some b13 := by kernel_rfl
theorem v13_eq : viewC prog b13 = some v13 := by kernel_rfl
theorem r13_eq : f13.results.toList = [.tmp 4] := by kernel_rfl
theorem pgT : PgT prog 180 155 157 72 87 71 74 22 24 3 2 9 where
 e := by kernel_rfl
 s := by kernel_rfl
 m := by kernel_rfl
 c := by kernel_rfl
 g := by kernel_rfl
 i := by kernel_rfl
 n := by kernel_rfl
 str := by kernel_rfl
 es := by kernel_rfl
 ss := by kernel_rfl
 ms := by kernel_rfl
 cs := by kernel_rfl
 by_ := by kernel_rfl
mutual
def sizE : Exp → Nat
 | .mk _ s _ l => 1 + s.length / 8 + sizEs l
def sizEs : List Exp → Nat
 | [] => 0
 | e :: l => sizE e + sizEs l
end
mutual
def sizS : Stm → Nat
 | .mk _ s p _ e b d => 1 + s.length / 8 + p.length / 8 + sizEs e + sizSs b + sizSs d
def sizSs : List Stm → Nat
 | [] => 0
 | e :: l => sizS e + sizSs l
end
def sizM : List Prm → Nat
 | [] => 0
 | p :: l => p.name.length / 8 + sizM l
def sizP (p : Prc) : Nat := 1 + p.name.length / 8 + p.params.length + sizM p.params + sizSs p.body
def sizPs : List Prc → Nat
 | [] => 0
 | p :: l => sizP p + sizPs l
theorem zev (e : Exp) : ∀ l : List Exp, sizEs (l ++ [e]) = sizEs l + sizE e
 | [] => by simp [sizEs]
 | x :: l => by simp only [List.cons_append, sizEs, zev e l]; omega
theorem zgb (e : Stm) : ∀ l : List Stm, sizSs (l ++ [e]) = sizSs l + sizS e
 | [] => by simp [sizSs]
 | x :: l => by simp only [List.cons_append, sizSs, zgb e l]; omega
theorem zoa (e : Prm) : ∀ l : List Prm, sizM (l ++ [e]) = sizM l + e.name.length / 8
 | [] => by simp [sizM]
 | x :: l => by simp only [List.cons_append, sizM, zoa e l]; omega
theorem zga (e : Prc) : ∀ l : List Prc, sizPs (l ++ [e]) = sizPs l + sizP e
 | [] => by simp [sizPs]
 | x :: l => by simp only [List.cons_append, sizPs, zga e l]; omega
theorem zbt {α : Type} {l : List α} {i : Nat} {x : α} (h : l[i]? = some x) : l.take (i + 1) = l.take i ++ [x] := by rw [List.take_add_one, h]; rfl
theorem zd5 (l : List Exp) : ∀ i, sizEs (l.take i) ≤ sizEs l := by
 induction l with
 | nil => intro i; simp
 | cons e l ih =>
  intro i
  cases i with
  | zero => simp [sizEs]
  | succ i => simp only [List.take_succ_cons, sizEs]; have := ih i; omega
theorem zex (l : List Stm) : ∀ i, sizSs (l.take i) ≤ sizSs l := by
 induction l with
 | nil => intro i; simp
 | cons e l ih =>
  intro i
  cases i with
  | zero => simp [sizSs]
  | succ i => simp only [List.take_succ_cons, sizSs]; have := ih i; omega
theorem zuz (l : List Prm) : ∀ i, sizM (l.take i) ≤ sizM l := by
 induction l with
 | nil => intro i; simp
 | cons e l ih =>
  intro i
  cases i with
  | zero => simp [sizM]
  | succ i => simp only [List.take_succ_cons, sizM]; have := ih i; omega
theorem zew (l : List Prc) : ∀ i, sizPs (l.take i) ≤ sizPs l := by
 induction l with
 | nil => intro i; simp
 | cons e l ih =>
  intro i
  cases i with
  | zero => simp [sizPs]
  | succ i => simp only [List.take_succ_cons, sizPs]; have := ih i; omega
def Cut (K s : Nat) (m n : Int) : Prop := ((s : Int) ≤ m → n = s) ∧ (m < (s : Int) → m < n) ∧ 0 ≤ n ∧ n ≤ m + K
theorem Cut.add {K s t : Nat} {m n r : Int} (h : Cut K s m n) (hn : n ≤ m) (hr : Cut K t (m - n) r) : Cut K (s + t) m (n + r) := by
 unfold Cut at *
 omega
theorem zie (e : Exp) : sizE e = 1 + e.name.length / 8 + sizEs e.l := by cases e; simp only [sizE]; rfl
theorem zpd (e : Stm) : sizS e = 1 + e.name.length / 8 + e.proc.length / 8 + sizEs e.e + sizSs e.body + sizSs e.els := by cases e; simp only [sizS]; rfl
theorem zbc {α : Type} {A : Nat → Prop} {R : Heap → List AV → α → Prop} {z : Nat} {H : Heap} {v : AV} {xs : List α} (h : IsLs A R z H v xs) : ∃ els : List (List AV), IsSl H v z xs.length els.flatten ∧ ∀ (i : Nat) a, xs[i]? = some a → ∃ c, (els.flatten.drop (i * z)).take z = c ∧ R H c a := by
 obtain ⟨els, h1, h2, h3⟩ := h.len
 refine ⟨els, h1, fun i a ha => ?_⟩
 obtain ⟨c, hc, hr⟩ := h2.get' i a ha
 exact ⟨c, zj0 h3 i c hc, hr⟩
section
variable {tb : List FuncId} {gl : List (List AV)} {A : Nat → Prop} {H : Heap} {v w : AV} {Q : AV → Heap → Prop}
def Ke : Nat := 1 + rB
def Ks : Nat := 1 + 2 * rB
theorem zjg : ∀ (k : Nat) {e : Exp} {c : List AV} {m : Int} {H : Heap} {Q : AV → Heap → Prop}, szE e < k → IsE A H c e → 0 ≤ m → m ≤ 500 → (∀ n H', Keep Non H H' → Cut Ke (sizE e) m n → Q (.int .i64 n) H') → WpF prog tb gl 76 [.agg c, .int .i64 m] H Q
  | 0, _, _, _, _, _, h, _, _, _, _ => by omega
  | k + 1, e, c, m, H, Q, hk, hE, hm0, hm, hQ => by
    have hKe : Ke = 140737488351233 := rfl
    have hrB : rB = 140737488351232 := rfl
    obtain ⟨v, rfl, _, _, hs, hl, hL⟩ := hE.out
    refine fa func76 b76_eq v76_eq r76_eq (.inr (by simp)) ?_
    refine zac ?_
    refine zaa (zcd rfl fun H1 hk1 hr1 => ?_)
    obtain ⟨b, hb⟩ : ∃ b, b = H.nx := ⟨_, rfl⟩
    rw [← hb] at hr1 ⊢
    have hr1 : IsRow H1 b [.int .i64 e.kind, S e.name, .int .i64 e.num, v] false false := hr1
    refine zae rfl ?_; (repeat (((refine zaa (za5 rfl ?_))); refine zae rfl ?_))
    refine zab (zac ?_)
    refine zae rfl ?_; (repeat ((refine zaa ?_; first | refine zad FpF.h (by decide) rfl ?_ | refine zaf PlF.h rfl hr1 rfl ?_); refine zae rfl ?_))
    refine zaa (zcx rfl rfl rfl UnF.h rfl ?_)
    refine zaa (zh8 (c := ((e.name.length / 8 : Nat) : Int)) rfl rfl (by decide) (zb3 (z := ((e.name.length / 8 : Nat) : Int)) (by omega) (by omega)) ?_)
    refine zaa (za0 (c := ((1 + e.name.length / 8 : Nat) : Int)) rfl rfl Ju ?_)
    refine zae rfl ?_
    refine zab (zak (zac ?_))
    refine zae rfl ?_
    refine zab (zam ?_)
    have hsz := zie e
    refine zbw (fun (a : Nat × Int) => [(1, .int .i64 m), (2, .ptr b 0), (5, .int .i64 a.2), (6, .int .i64 (a.1 : Int))]) (fun a H' => Keep Non H1 H' ∧ a.1 ≤ e.l.length ∧ Cut Ke (1 + e.name.length / 8 + sizEs (e.l.take a.1)) m a.2) (fun a => e.l.length - a.1) ?_ (0, ((1 + e.name.length / 8 : Nat) : Int)) _ H1 ⟨rfl, rfl, rfl, rfl, trivial⟩ ⟨.refl _ _, Nat.zero_le _, by simp only [List.take_zero, sizEs, Cut]; omega⟩
    rintro ⟨i, n⟩ H2 ⟨hk2, hle, hC⟩
    dsimp only at hle hC ⊢
    have hr2 := hr1.keep0 hk2
    have hL2 := (hL.keep (hk1.trans0 hk2) fun _ _ _ h => h.keep (hk1.trans0 hk2))
    obtain ⟨els, hsl, hel⟩ := zbc hL2
    have hlt := zd5 e.l i
    refine zak (zac ?_)
    refine zae rfl ?_; (repeat ((refine zaa ?_; first | refine zad FpF.h (by decide) rfl ?_ | refine zaf PlF.h rfl hr2 rfl ?_ | refine za8 rfl rfl rfl UnF.h rfl hsl ?_); refine zae rfl ?_))
    have hC' := hC
    unfold Cut at hC'
    have fin : (i < e.l.length → m < n) → ∀ l', Sb [(5, .int .i64 n)] l' → VA prog tb gl v76t3 l' H2 (leftA [.tmp 4] Q) := by
      intro h l' hs'
      refine VA.sub hs' (zac ?_)
      refine zae rfl ?_
      refine zab (zao ⟨_, rfl, hQ _ _ (hk1.trans0 hk2) ?_⟩)
      rw [hsz]
      by_cases hi : i < e.l.length
      · have := h hi
        unfold Cut
        omega
      · rw [List.take_of_length_le (by omega)] at hC
        exact hC
    by_cases hi : i < e.l.length
    rotate_left
    · (repeat (first | refine zbb rfl ?_ | (refine zaa ?_; first | refine zal rfl ?_ | refine zbp rfl rfl (by omega) ?_ | refine za1 rfl rfl ?_)))
      refine zab (zag rfl (zbn ?_))
      exact fin (fun h => absurd h hi) _ ⟨rfl, trivial⟩
    by_cases hn : n ≤ m
    rotate_left
    · (repeat (((first | refine zaa ?_ | refine zav rfl ?_); first | refine zal rfl ?_ | refine zbx rfl rfl (by omega) ?_ | refine zeo rfl rfl (by omega) ?_ | refine zaz rfl rfl rfl ?_)))
      refine zab (zag rfl (zbn ?_))
      exact fin (fun _ => by omega) _ ⟨rfl, trivial⟩
    (repeat (((first | refine zaa ?_ | refine zav rfl ?_); first | refine zal rfl ?_ | refine zbx rfl rfl (by omega) ?_ | refine zec rfl rfl (by omega) ?_ | refine zaz rfl rfl rfl ?_)))
    refine zab (zah rfl (zan ?_))
    obtain ⟨x, hx⟩ : ∃ x, e.l[i]? = some x := ⟨_, List.getElem?_eq_getElem hi⟩
    obtain ⟨cx, hcx, hEx⟩ := hel i x hx
    obtain ⟨vx, hcx2, _⟩ := hEx.out
    rw [hcx2] at hcx hEx
    have hmem : x ∈ e.l := List.mem_of_getElem? hx
    have hszx : szE x < k := by have := zd0 hmem; have h2 : szE e = szEs e.l + 1 := by cases e; simp only [szE]; rfl
                                omega
    refine zak (zam (zaw ?_))
    refine zae rfl ?_; (repeat ((refine zaa ?_; first | refine zad FpF.h (by decide) rfl ?_ | refine zaf PlF.h rfl hr2 rfl ?_); refine zae rfl ?_))
    refine zaa (za3 UnF.h SzF.h rfl hsl rfl rfl hi fun q0 hq0 => ?_)
    rw [hcx] at hq0
    refine zaa (zaq (k := 4) PlF.h rfl (by decide) rfl hq0 ?_)
    refine zae rfl ?_
    refine zaa (zc8 (c := m - n) rfl rfl (zb3 (by omega) (by omega)) ?_)
    refine zaa (zaj rfl rfl rfl (zjg k hszx hEx (by omega) (by omega) fun r H3 hk3 hr => ?_))
    have hA := hC.add hn hr
    have hA' := hA
    unfold Cut at hA'
    refine zaa (za0 (c := n + r) rfl rfl (zb3 (by omega) (by omega)) ?_)
    refine zae rfl ?_
    refine zab (zaw ?_)
    refine zae rfl ?_
    refine zaa (za0 (c := ((i + 1 : Nat) : Int)) rfl rfl Ju ?_)
    refine zae rfl ?_
    refine zab ⟨(i + 1, n + r), ?_, ⟨rfl, rfl, rfl, rfl, trivial⟩, hk2.trans0 hk3, by dsimp only; omega, ?_⟩
    · show e.l.length - (i + 1) < e.l.length - i
      omega
    · dsimp only
      rw [zbt hx, zev, ← Nat.add_assoc]
      exact hA
theorem Cut.wide {K L s : Nat} {m n : Int} (h : Cut K s m n) (hk : K ≤ L) : Cut L s m n := by
 unfold Cut at *
 omega
def CutS (K s : Nat) (m n : Int) : Prop := (m < 0 → n = 0) ∧ (0 ≤ m → Cut K s m n)
theorem Cut.addS {K s t : Nat} {m n r : Int} (h : Cut K s m n) (hr : CutS K t (m - n) r) : Cut K (s + t) m (n + r) := by
 unfold CutS Cut at *
 obtain ⟨h1, h2⟩ := hr
 by_cases hm : m - n < 0
 ·have := h1 hm; omega
 ·have := h2 (by omega); omega
theorem zfh : ∀ (k : Nat) {l : List Stm} {v : AV} {m : Int} {H : Heap} {Q : AV → Heap → Prop}, szSs l < k → IsLs A (IsS A) 7 H v l → l.length ≤ rB → -1000000000000000 ≤ m → m ≤ 500 → (∀ n H', Keep Non H H' → CutS Ks (sizSs l) m n → Q (.int .i64 n) H') → WpF prog tb gl 31 [v, .int .i64 m] H Q
 | 0, _, _, _, _, _, h, _, _, _, _, _ => by omega
 | k + 1, l, v, m, H, Q, hk, hL, hll, hm0, hm, hQ => by
  have hKe : Ke = 140737488351233 := rfl
  have hKs : Ks = 281474976702465 := rfl
  have hrB : rB = 140737488351232 := rfl
  refine fa func31 b31_eq v31_eq r31_eq (.inr (by simp)) ?_
  refine zac ?_
  refine zae rfl ?_
  refine zab (zac ?_)
  refine zae rfl ?_
  refine zab (zak (zac ?_))
  refine zae rfl ?_
  refine zab (zam ?_)
  refine zbw (fun (a : Nat × Int) => [(0, v), (1, .int .i64 m), (5, .int .i64 a.2), (6, .int .i64 (a.1 : Int))]) (fun a H' => Keep Non H H' ∧ a.1 ≤ l.length ∧ ((m < 0 ∧ a.1 = 0 ∧ a.2 = 0) ∨ (0 ≤ m ∧ Cut Ks (sizSs (l.take a.1)) m a.2))) (fun a => l.length - a.1) ?_ (0, 0) _ H ⟨rfl, rfl, rfl, rfl, trivial⟩ ⟨.refl _ _, Nat.zero_le _, (by
   by_cases h : m < 0
   ·exact .inl ⟨h, rfl, rfl⟩
   ·exact .inr ⟨by omega, by simp only [List.take_zero, sizSs, Cut]; omega⟩)⟩
  rintro ⟨i, n⟩ H2 ⟨hk2, hle, hC⟩
  dsimp only at hle hC ⊢
  have hL2 := (hL.keep hk2 fun _ _ _ h => h.keep hk2)
  obtain ⟨els, hsl, hel⟩ := zbc hL2
  have hlt := zex l i
  have hC' := hC
  unfold Cut at hC'
  refine zak (zac ?_)
  refine zae rfl ?_; (repeat ((refine zaa ?_; first | refine za8 rfl rfl rfl UnF.h rfl hsl ?_); refine zae rfl ?_))
  have fin : (i < l.length → m < n) → ∀ l', Sb [(5, .int .i64 n)] l' → VA prog tb gl v31t3 l' H2 (leftA [.tmp 4] Q) := by
   intro h l' hs'
   refine VA.sub hs' (zac ?_)
   refine zae rfl ?_
   refine zab (zao ⟨_, rfl, hQ _ _ hk2 ?_⟩)
   rcases hC with ⟨h1, h2, h3⟩ | ⟨h1, h2⟩
   ·exact ⟨fun _ => h3, fun h => absurd h (by omega)⟩
   ·refine ⟨fun h => absurd h (by omega), fun _ => ?_⟩
    by_cases hi : i < l.length
    ·have := h hi
     unfold Cut at *
     omega
    ·rw [List.take_of_length_le (by omega)] at h2
     exact h2
  by_cases hi : i < l.length
  rotate_left
  ·(repeat (first | refine zbb rfl ?_ | (refine zaa ?_; first | refine zal rfl ?_ | refine zbp rfl rfl (by omega) ?_ | refine za1 rfl rfl ?_)))
   refine zab (zag rfl (zbn ?_))
   exact fin (fun h => absurd h hi) _ ⟨rfl, trivial⟩
  by_cases hn : n ≤ m
  rotate_left
  ·(repeat (((first | refine zaa ?_ | refine zav rfl ?_); first | refine zal rfl ?_ | refine zbx rfl rfl (by omega) ?_ | refine zeo rfl rfl (by omega) ?_ | refine zaz rfl rfl rfl ?_)))
   refine zab (zag rfl (zbn ?_))
   exact fin (fun _ => by omega) _ ⟨rfl, trivial⟩
  (repeat (((first | refine zaa ?_ | refine zav rfl ?_); first | refine zal rfl ?_ | refine zbx rfl rfl (by omega) ?_ | refine zec rfl rfl (by omega) ?_ | refine zaz rfl rfl rfl ?_)))
  refine zab (zah rfl (zan ?_))
  have hm' : 0 ≤ m := by omega
  have hC1 : Cut Ks (sizSs (l.take i)) m n := by
   rcases hC with ⟨h1, _⟩ | ⟨_, h2⟩
   ·omega
   ·exact h2
  obtain ⟨x, hx⟩ : ∃ x, l[i]? = some x := ⟨_, List.getElem?_eq_getElem hi⟩
  obtain ⟨cx, hcx, hSx⟩ := hel i x hx
  obtain ⟨vx, wx, ux, hcx2, _, _, hs1, hs2, hl1, hl2, hl3, hE1, hB1, hD1⟩ := hSx.out
  rw [hcx2] at hcx
  have hmem : x ∈ l := List.mem_of_getElem? hx
  have hszx : szSs x.body < k ∧ szSs x.els < k := by
   have h1 := zfe hmem
   have h2 : szS x = szSs x.body + szSs x.els + 1 := by cases x; simp only [szS]; rfl
   omega
  refine zak (zam ?_)
  refine zac ?_
  refine zae rfl ?_
  refine zaa (za0 (c := n + 1) rfl rfl (zb3 (by omega) (by omega)) ?_)
  refine zae rfl ?_
  refine zaa (za3 UnF.h SzF.h rfl hsl rfl rfl hi fun q0 hq0 => ?_)
  rw [hcx] at hq0
  refine zaa (zas FpF.h (by decide) rfl hq0 fun q1 hq1 => ?_)
  refine zaa (zbh PlF.h rfl hq1 rfl ?_)
  refine zaa (zcx rfl rfl rfl UnF.h rfl ?_)
  refine zaa (zh8 (c := ((x.name.length / 8 : Nat) : Int)) rfl rfl (by decide) (zb3 (z := ((x.name.length / 8 : Nat) : Int)) (by omega) (by omega)) ?_)
  refine zaa (za0 (c := n + 1 + (x.name.length / 8 : Nat)) rfl rfl (zb3 (by omega) (by omega)) ?_)
  refine zae rfl ?_
  refine zaa (za3 UnF.h SzF.h rfl hsl rfl rfl hi fun q0 hq0 => ?_)
  rw [hcx] at hq0
  refine zaa (zas FpF.h (by decide) rfl hq0 fun q1 hq1 => ?_)
  refine zaa (zbh PlF.h rfl hq1 rfl ?_)
  refine zaa (zcx rfl rfl rfl UnF.h rfl ?_)
  refine zaa (zh8 (c := ((x.proc.length / 8 : Nat) : Int)) rfl rfl (by decide) (zb3 (z := ((x.proc.length / 8 : Nat) : Int)) (by omega) (by omega)) ?_)
  refine zaa (za0 (c := n + 1 + (x.name.length / 8 : Nat) + (x.proc.length / 8 : Nat)) rfl rfl (zb3 (by omega) (by omega)) ?_)
  refine zae rfl ?_
  refine zab (zak ?_)
  -- the expressions
  obtain ⟨ss, hss⟩ : ∃ ss, ss = sizSs (l.take i) + 1 + x.name.length / 8 + x.proc.length / 8 := ⟨_, rfl⟩
  have hC2 : Cut Ks ss m (n + 1 + (x.name.length / 8 : Nat) + (x.proc.length / 8 : Nat)) := by
   unfold Cut at *
   omega
  refine zgj (fun l' H' => ∃ n' : Int, Keep Non H2 H' ∧ Cut Ks (ss + sizEs x.e) m n' ∧ Sb [(0, v), (1, .int .i64 m), (5, .int .i64 n'), (6, .int .i64 (i : Int))] l') ?_ ?_
  ·refine zac ?_
   refine zae rfl ?_
   refine zab (zam ?_)
   refine zbw (fun (a : Nat × Int) => [(0, v), (1, .int .i64 m), (5, .int .i64 a.2), (6, .int .i64 (i : Int)), (7, .int .i64 (a.1 : Int))]) (fun a H' => Keep Non H2 H' ∧ a.1 ≤ x.e.length ∧ Cut Ks (ss + sizEs (x.e.take a.1)) m a.2) (fun a => x.e.length - a.1) ?_ (0, n + 1 + (x.name.length / 8 : Nat) + (x.proc.length / 8 : Nat)) _ H2 ⟨rfl, rfl, rfl, rfl, rfl, trivial⟩ ⟨.refl _ _, Nat.zero_le _, by simp only [List.take_zero, sizEs, Nat.add_zero]; exact hC2⟩
   rintro ⟨j, n'⟩ H3 ⟨hk3, hle3, hC3⟩
   dsimp only at hle3 hC3 ⊢
   have hsl3 := hsl.keep0 hk3
   have hE3 := hE1.keep hk3 fun _ _ _ h => h.keep hk3
   obtain ⟨ees, hesl, heel⟩ := zbc hE3
   have hlt3 := zd5 x.e j
   have hC3' := hC3
   unfold Cut at hC3'
   refine zak (zac ?_)
   refine zae rfl ?_
   refine zaa (za3 UnF.h SzF.h rfl hsl3 rfl rfl hi fun q0 hq0 => ?_)
   rw [hcx] at hq0
   refine zaa (zas FpF.h (by decide) rfl hq0 fun q1 hq1 => ?_)
   refine zaa (zbh PlF.h rfl hq1 rfl ?_)
   refine zaa (za8 rfl rfl rfl UnF.h rfl hesl ?_)
   have fin2 : (j < x.e.length → m < n') → Cut Ks (ss + sizEs x.e) m n' := by
    intro h
    by_cases hj : j < x.e.length
    ·have := h hj
     unfold Cut at *
     omega
    ·rw [List.take_of_length_le (by omega)] at hC3
     exact hC3
   by_cases hj : j < x.e.length
   rotate_left
   ·(repeat (first | refine zbb rfl ?_ | (refine zaa ?_; first | refine zal rfl ?_ | refine zbp rfl rfl (by omega) ?_ | refine za1 rfl rfl ?_)))
    exact zab (zag rfl (zbn ⟨n', hk3, fin2 fun h => absurd h hj, rfl, rfl, rfl, rfl, trivial⟩))
   by_cases hn' : n' ≤ m
   rotate_left
   ·(repeat (((first | refine zaa ?_ | refine zav rfl ?_); first | refine zal rfl ?_ | refine zbx rfl rfl (by omega) ?_ | refine zeo rfl rfl (by omega) ?_ | refine zaz rfl rfl rfl ?_)))
    exact zab (zag rfl (zbn ⟨n', hk3, fin2 fun _ => by omega, rfl, rfl, rfl, rfl, trivial⟩))
   (repeat (((first | refine zaa ?_ | refine zav rfl ?_); first | refine zal rfl ?_ | refine zbx rfl rfl (by omega) ?_ | refine zec rfl rfl (by omega) ?_ | refine zaz rfl rfl rfl ?_)))
   refine zab (zah rfl (zan ?_))
   obtain ⟨y, hy⟩ : ∃ y, x.e[j]? = some y := ⟨_, List.getElem?_eq_getElem hj⟩
   obtain ⟨cy, hcy, hEy⟩ := heel j y hy
   obtain ⟨vy, hcy2, _⟩ := hEy.out
   rw [hcy2] at hcy hEy
   refine zak (zam (zaw ?_))
   refine zae rfl ?_
   refine zaa (za3 UnF.h SzF.h rfl hsl3 rfl rfl hi fun q0 hq0 => ?_)
   rw [hcx] at hq0
   refine zaa (zas FpF.h (by decide) rfl hq0 fun q1 hq1 => ?_)
   refine zaa (zbh PlF.h rfl hq1 rfl ?_)
   refine zae rfl ?_
   refine zaa (za3 UnF.h SzF.h rfl hesl rfl rfl hj fun q0 hq0 => ?_)
   rw [hcy] at hq0
   refine zaa (zaq (k := 4) PlF.h rfl (by decide) rfl hq0 ?_)
   refine zae rfl ?_
   refine zaa (zc8 (c := m - n') rfl rfl (zb3 (by omega) (by omega)) ?_)
   refine zaa (zaj rfl rfl rfl (zjg (szE y + 1) (by omega) hEy (by omega) (by omega) fun r H4 hk4 hr => ?_))
   have hA := hC3.add hn' (hr.wide (by omega))
   have hA' := hA
   unfold Cut at hA'
   refine zaa (za0 (c := n' + r) rfl rfl (zb3 (by omega) (by omega)) ?_)
   refine zae rfl ?_
   refine zab (zaw ?_)
   refine zae rfl ?_
   refine zaa (za0 (c := ((j + 1 : Nat) : Int)) rfl rfl Ju ?_)
   refine zae rfl ?_
   refine zab ⟨(j + 1, n' + r), ?_, ⟨rfl, rfl, rfl, rfl, rfl, trivial⟩, hk3.trans0 hk4, by dsimp only; omega, ?_⟩
   ·show x.e.length - (j + 1) < x.e.length - j
    omega
   ·dsimp only
    rw [zbt hy, zev, ← Nat.add_assoc]
    exact hA
  rintro l3 H3 ⟨n3, hk3, hC3, hs3⟩
  have hC3' := hC3
  unfold Cut at hC3'
  have hsl3 := hsl.keep0 hk3
  refine VA.sub hs3 (zac ?_)
  refine zae rfl ?_
  refine zaa (za3 UnF.h SzF.h rfl hsl3 rfl rfl hi fun q0 hq0 => ?_)
  rw [hcx] at hq0
  refine zaa (zas FpF.h (by decide) rfl hq0 fun q1 hq1 => ?_)
  refine zaa (zbh PlF.h rfl hq1 rfl ?_)
  refine zae rfl ?_
  refine zaa (zc8 (c := m - n3) rfl rfl (zb3 (by omega) (by omega)) ?_)
  refine zaa (zaj rfl rfl rfl (zfh k hszx.1 (hB1.keep hk3 fun _ _ _ h => h.keep hk3) hl2 (by omega) (by omega) fun r H4 hk4 hr => ?_))
  have hC4 := hC3.addS hr
  have hC4' := hC4
  unfold Cut at hC4'
  have hsl4 := hsl3.keep0 hk4
  refine zaa (za0 (c := n3 + r) rfl rfl (zb3 (by omega) (by omega)) ?_)
  refine zae rfl ?_
  refine zab (zaw ?_)
  refine zae rfl ?_
  refine zaa (za3 UnF.h SzF.h rfl hsl4 rfl rfl hi fun q0 hq0 => ?_)
  rw [hcx] at hq0
  refine zaa (zas FpF.h (by decide) rfl hq0 fun q1 hq1 => ?_)
  refine zaa (zbh PlF.h rfl hq1 rfl ?_)
  refine zae rfl ?_
  refine zaa (zc8 (c := m - (n3 + r)) rfl rfl (zb3 (by omega) (by omega)) ?_)
  refine zaa (zaj rfl rfl rfl (zfh k hszx.2 ((hD1.keep hk3 fun _ _ _ h => h.keep hk3).keep hk4 fun _ _ _ h => h.keep hk4) hl3 (by omega) (by omega) fun r' H5 hk5 hr' => ?_))
  have hC5 := hC4.addS hr'
  have hC5' := hC5
  unfold Cut at hC5'
  refine zaa (za0 (c := n3 + r + r') rfl rfl (zb3 (by omega) (by omega)) ?_)
  refine zae rfl ?_
  refine zab (zaw ?_)
  refine zae rfl ?_
  refine zaa (za0 (c := ((i + 1 : Nat) : Int)) rfl rfl Ju ?_)
  refine zae rfl ?_
  refine zab ⟨(i + 1, n3 + r + r'), ?_, ⟨rfl, rfl, rfl, rfl, trivial⟩, hk2.trans0 (hk3.trans0 (hk4.trans0 hk5)), by dsimp only; omega, .inr ⟨hm', ?_⟩⟩
  ·show l.length - (i + 1) < l.length - i
   omega
  ·dsimp only
   rw [zbt hx, zgb, zpd]
   have : sizSs (l.take i) + (1 + x.name.length / 8 + x.proc.length / 8 + sizEs x.e + sizSs x.body + sizSs x.els) = ss + sizEs x.e + sizSs x.body + sizSs x.els := by omega
   rw [this]
   exact hC5
def Kp : Nat := 1 + 3 * rB
theorem Size_ok {p : List Prc} (hp : IsPg A H v p) (hQ : ∀ n H', Keep Non H H' → Cut Kp (sizPs p) 500 n → Q (.int .i64 n) H') : WpF prog tb gl 13 [v, .int .i64 500] H Q := by
 have hKs : Ks = 281474976702465 := rfl
 have hKp : Kp = 422212465053697 := rfl
 have hrB : rB = 140737488351232 := rfl
 obtain ⟨hpl, u, rfl, hL⟩ := hp
 refine fa func13 b13_eq v13_eq r13_eq (.inr (by simp)) ?_
 refine zac ?_
 refine zaa (zcd rfl fun H1 hk1 hr1 => ?_)
 obtain ⟨b, hb⟩ : ∃ b, b = H.nx := ⟨_, rfl⟩
 rw [← hb] at hr1 ⊢
 have hr1 : IsRow H1 b [u] false false := hr1
 refine zae rfl ?_; (repeat (((refine zaa (za5 rfl ?_))); refine zae rfl ?_))
 refine zab (zac ?_)
 refine zae rfl ?_
 refine zab (zak (zac ?_))
 refine zae rfl ?_
 refine zab (zam ?_)
 refine zbw (fun (a : Nat × Int) => [(1, .int .i64 500), (2, .ptr b 0), (5, .int .i64 a.2), (6, .int .i64 (a.1 : Int))]) (fun a H' => Keep Non H1 H' ∧ a.1 ≤ p.length ∧ Cut Kp (sizPs (p.take a.1)) 500 a.2) (fun a => p.length - a.1) ?_ (0, 0) _ H1 ⟨rfl, rfl, rfl, rfl, trivial⟩ ⟨.refl _ _, Nat.zero_le _, by simp only [List.take_zero, sizPs, Cut]; omega⟩
 rintro ⟨i, n⟩ H2 ⟨hk2, hle, hC⟩
 dsimp only at hle hC ⊢
 have hr2 := hr1.keep0 hk2
 have hL2 := (hL.keep (hk1.trans0 hk2) fun _ _ _ h => h.keep (hk1.trans0 hk2))
 obtain ⟨els, hsl, hel⟩ := zbc hL2
 have hlt := zew p i
 have hC' := hC
 unfold Cut at hC'
 refine zak (zac ?_)
 refine zae rfl ?_; (repeat ((refine zaa ?_; first | refine zad FpF.h (by decide) rfl ?_ | refine zaf PlF.h rfl hr2 rfl ?_ | refine za8 rfl rfl rfl UnF.h rfl hsl ?_); refine zae rfl ?_))
 have fin : (i < p.length → 500 < n) → ∀ l', Sb [(5, .int .i64 n)] l' → VA prog tb gl v13t3 l' H2 (leftA [.tmp 4] Q) := by
  intro h l' hs'
  refine VA.sub hs' (zac ?_)
  refine zae rfl ?_
  refine zab (zao ⟨_, rfl, hQ _ _ (hk1.trans0 hk2) ?_⟩)
  by_cases hi : i < p.length
  ·have := h hi
   unfold Cut
   omega
  ·rw [List.take_of_length_le (by omega)] at hC
   exact hC
 by_cases hi : i < p.length
 rotate_left
 ·(repeat (first | refine zbb rfl ?_ | (refine zaa ?_; first | refine zal rfl ?_ | refine zbp rfl rfl (by omega) ?_ | refine za1 rfl rfl ?_)))
  refine zab (zag rfl (zbn ?_))
  exact fin (fun h => absurd h hi) _ ⟨rfl, trivial⟩
 by_cases hn : n ≤ 500
 rotate_left
 ·(repeat (((first | refine zaa ?_ | refine zav rfl ?_); first | refine zal rfl ?_ | refine zbx rfl rfl (by omega) ?_ | refine zeo rfl rfl (by omega) ?_ | refine zaz rfl rfl rfl ?_)))
  refine zab (zag rfl (zbn ?_))
  exact fin (fun _ => by omega) _ ⟨rfl, trivial⟩
 (repeat (((first | refine zaa ?_ | refine zav rfl ?_); first | refine zal rfl ?_ | refine zbx rfl rfl (by omega) ?_ | refine zec rfl rfl (by omega) ?_ | refine zaz rfl rfl rfl ?_)))
 refine zab (zah rfl (zan ?_))
 obtain ⟨x, hx⟩ : ∃ x, p[i]? = some x := ⟨_, List.getElem?_eq_getElem hi⟩
 obtain ⟨cx, hcx, hPx⟩ := hel i x hx
 obtain ⟨vm, vb, hcx2, hs1, _, hl1, hl2, hM1, hB1⟩ := hPx
 rw [hcx2] at hcx
 obtain ⟨mels, hmsl, hmel⟩ := zbc hM1
 refine zak (zam ?_)
 refine zac ?_
 refine zae rfl ?_
 refine zaa (za0 (c := n + 1) rfl rfl (zb3 (by omega) (by omega)) ?_)
 refine zae rfl ?_; (repeat ((refine zaa ?_; first | refine zad FpF.h (by decide) rfl ?_ | refine zaf PlF.h rfl hr2 rfl ?_); refine zae rfl ?_))
 refine zaa (za3 UnF.h SzF.h rfl hsl rfl rfl hi fun q0 hq0 => ?_)
 rw [hcx] at hq0
 refine zaa (zas FpF.h (by decide) rfl hq0 fun q1 hq1 => ?_)
 refine zaa (zbh PlF.h rfl hq1 rfl ?_)
 refine zaa (zcx rfl rfl rfl UnF.h rfl ?_)
 refine zaa (zh8 (c := ((x.name.length / 8 : Nat) : Int)) rfl rfl (by decide) (zb3 (z := ((x.name.length / 8 : Nat) : Int)) (by omega) (by omega)) ?_)
 refine zaa (za0 (c := n + 1 + (x.name.length / 8 : Nat)) rfl rfl (zb3 (by omega) (by omega)) ?_)
 refine zae rfl ?_; (repeat ((refine zaa ?_; first | refine zad FpF.h (by decide) rfl ?_ | refine zaf PlF.h rfl hr2 rfl ?_); refine zae rfl ?_))
 refine zaa (za3 UnF.h SzF.h rfl hsl rfl rfl hi fun q0 hq0 => ?_)
 rw [hcx] at hq0
 refine zaa (zas FpF.h (by decide) rfl hq0 fun q1 hq1 => ?_)
 refine zaa (zbh PlF.h rfl hq1 rfl ?_)
 refine zaa (za8 rfl rfl rfl UnF.h rfl hmsl ?_)
 refine zaa (za0 (c := n + 1 + (x.name.length / 8 : Nat) + (x.params.length : Nat)) rfl rfl (zb3 (by omega) (by omega)) ?_)
 refine zae rfl ?_
 refine zab (zak ?_)
 obtain ⟨ss, hss⟩ : ∃ ss, ss = sizPs (p.take i) + 1 + x.name.length / 8 + x.params.length := ⟨_, rfl⟩
 have hC2 : Cut Kp ss 500 (n + 1 + (x.name.length / 8 : Nat) + (x.params.length : Nat)) := by
  unfold Cut at *
  omega
 refine zgj (fun l' H' => ∃ n' : Int, Keep Non H2 H' ∧ Cut Kp (ss + sizM x.params) 500 n' ∧ Sb [(1, .int .i64 500), (2, .ptr b 0), (5, .int .i64 n'), (6, .int .i64 (i : Int))] l') ?_ ?_
 ·refine zac ?_
  refine zae rfl ?_
  refine zab (zam ?_)
  refine zbw (fun (a : Nat × Int) => [(1, .int .i64 500), (2, .ptr b 0), (5, .int .i64 a.2), (6, .int .i64 (i : Int)), (7, .int .i64 (a.1 : Int))]) (fun a H' => H' = H2 ∧ a.1 ≤ x.params.length ∧ Cut Kp (ss + sizM (x.params.take a.1)) 500 a.2) (fun a => x.params.length - a.1) ?_ (0, n + 1 + (x.name.length / 8 : Nat) + (x.params.length : Nat)) _ H2 ⟨rfl, rfl, rfl, rfl, rfl, trivial⟩ ⟨rfl, Nat.zero_le _, by simp only [List.take_zero, sizM, Nat.add_zero]; exact hC2⟩
  rintro ⟨j, n'⟩ H3 ⟨hH3, hle3, hC3⟩
  subst hH3
  dsimp only at hle3 hC3 ⊢
  have hlt3 := zuz x.params j
  have hC3' := hC3
  unfold Cut at hC3'
  refine zak (zac ?_)
  refine zae rfl ?_; (repeat ((refine zaa ?_; first | refine zad FpF.h (by decide) rfl ?_ | refine zaf PlF.h rfl hr2 rfl ?_); refine zae rfl ?_))
  refine zaa (za3 UnF.h SzF.h rfl hsl rfl rfl hi fun q0 hq0 => ?_)
  rw [hcx] at hq0
  refine zaa (zas FpF.h (by decide) rfl hq0 fun q1 hq1 => ?_)
  refine zaa (zbh PlF.h rfl hq1 rfl ?_)
  refine zaa (za8 rfl rfl rfl UnF.h rfl hmsl ?_)
  have fin2 : (j < x.params.length → 500 < n') → Cut Kp (ss + sizM x.params) 500 n' := by
   intro h
   by_cases hj : j < x.params.length
   ·have := h hj
    unfold Cut at *
    omega
   ·rw [List.take_of_length_le (by omega)] at hC3
    exact hC3
  by_cases hj : j < x.params.length
  rotate_left
  ·(repeat (first | refine zbb rfl ?_ | (refine zaa ?_; first | refine zal rfl ?_ | refine zbp rfl rfl (by omega) ?_ | refine za1 rfl rfl ?_)))
   exact zab (zag rfl (zbn ⟨n', .refl _ _, fin2 fun h => absurd h hj, rfl, rfl, rfl, rfl, trivial⟩))
  by_cases hn' : n' ≤ 500
  rotate_left
  ·(repeat (((first | refine zaa ?_ | refine zav rfl ?_); first | refine zal rfl ?_ | refine zbx rfl rfl (by omega) ?_ | refine zeo rfl rfl (by omega) ?_ | refine zaz rfl rfl rfl ?_)))
   exact zab (zag rfl (zbn ⟨n', .refl _ _, fin2 fun _ => by omega, rfl, rfl, rfl, rfl, trivial⟩))
  (repeat (((first | refine zaa ?_ | refine zav rfl ?_); first | refine zal rfl ?_ | refine zbx rfl rfl (by omega) ?_ | refine zec rfl rfl (by omega) ?_ | refine zaz rfl rfl rfl ?_)))
  refine zab (zah rfl (zan ?_))
  obtain ⟨y, hy⟩ : ∃ y, x.params[j]? = some y := ⟨_, List.getElem?_eq_getElem hj⟩
  obtain ⟨cy, hcy, hcy2, hys, _⟩ := hmel j y hy
  rw [hcy2] at hcy
  refine zak (zam (zaw ?_))
  refine zae rfl ?_; (repeat ((refine zaa ?_; first | refine zad FpF.h (by decide) rfl ?_ | refine zaf PlF.h rfl hr2 rfl ?_); refine zae rfl ?_))
  refine zaa (za3 UnF.h SzF.h rfl hsl rfl rfl hi fun q0 hq0 => ?_)
  rw [hcx] at hq0
  refine zaa (zas FpF.h (by decide) rfl hq0 fun q1 hq1 => ?_)
  refine zaa (zbh PlF.h rfl hq1 rfl ?_)
  refine zae rfl ?_
  refine zaa (za3 UnF.h SzF.h rfl hmsl rfl rfl hj fun q0 hq0 => ?_)
  rw [hcy] at hq0
  refine zaa (zas FpF.h (by decide) rfl hq0 fun q1 hq1 => ?_)
  refine zaa (zbh PlF.h rfl hq1 rfl ?_)
  refine zaa (zcx rfl rfl rfl UnF.h rfl ?_)
  refine zaa (zh8 (c := ((y.name.length / 8 : Nat) : Int)) rfl rfl (by decide) (zb3 (z := ((y.name.length / 8 : Nat) : Int)) (by omega) (by omega)) ?_)
  refine zaa (za0 (c := n' + (y.name.length / 8 : Nat)) rfl rfl (zb3 (by omega) (by omega)) ?_)
  refine zae rfl ?_
  refine zab (zaw ?_)
  refine zae rfl ?_
  refine zaa (za0 (c := ((j + 1 : Nat) : Int)) rfl rfl Ju ?_)
  refine zae rfl ?_
  refine zab ⟨(j + 1, n' + (y.name.length / 8 : Nat)), ?_, ⟨rfl, rfl, rfl, rfl, rfl, trivial⟩, rfl, by dsimp only; omega, ?_⟩
  ·show x.params.length - (j + 1) < x.params.length - j
   omega
  ·dsimp only
   rw [zbt hy, zoa, ← Nat.add_assoc]
   unfold Cut at *
   omega
 rintro l3 H3 ⟨n3, hk3, hC3, hs3⟩
 have hC3' := hC3
 unfold Cut at hC3'
 have hsl3 := hsl.keep0 hk3
 have hr3 := hr2.keep0 hk3
 refine VA.sub hs3 (zaw ?_)
 refine zae rfl ?_; (repeat ((refine zaa ?_; first | refine zad FpF.h (by decide) rfl ?_ | refine zaf PlF.h rfl hr3 rfl ?_); refine zae rfl ?_))
 refine zaa (za3 UnF.h SzF.h rfl hsl3 rfl rfl hi fun q0 hq0 => ?_)
 rw [hcx] at hq0
 refine zaa (zas FpF.h (by decide) rfl hq0 fun q1 hq1 => ?_)
 refine zaa (zbh PlF.h rfl hq1 rfl ?_)
 refine zae rfl ?_
 refine zaa (zc8 (c := 500 - n3) rfl rfl (zb3 (by omega) (by omega)) ?_)
 refine zaa (zaj rfl rfl rfl (zfh (szSs x.body + 1) (by omega) (hB1.keep hk3 fun _ _ _ h => h.keep hk3) hl2 (by omega) (by omega) fun r H4 hk4 hr => ?_))
 have hC4 : Cut Kp (ss + sizM x.params + sizSs x.body) 500 (n3 + r) := hC3.addS ⟨hr.1, fun h => (hr.2 h).wide (by omega)⟩
 have hC4' := hC4
 unfold Cut at hC4'
 refine zaa (za0 (c := n3 + r) rfl rfl (zb3 (by omega) (by omega)) ?_)
 refine zae rfl ?_
 refine zab (zaw ?_)
 refine zae rfl ?_
 refine zaa (za0 (c := ((i + 1 : Nat) : Int)) rfl rfl Ju ?_)
 refine zae rfl ?_
 refine zab ⟨(i + 1, n3 + r), ?_, ⟨rfl, rfl, rfl, rfl, trivial⟩, hk2.trans0 (hk3.trans0 hk4), by dsimp only; omega, ?_⟩
 ·show p.length - (i + 1) < p.length - i
  omega
 ·dsimp only
  rw [zbt hx, zga]
  have : sizPs (p.take i) + sizP x = ss + sizM x.params + sizSs x.body := by simp only [sizP]; omega
  rw [this]
  exact hC4
end
end Go.Proofs.YtbmedhaopnhggaaGreatDoor
