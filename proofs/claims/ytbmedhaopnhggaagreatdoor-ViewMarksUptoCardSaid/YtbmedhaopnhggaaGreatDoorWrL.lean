/-
  The printer's lists of expressions, types, key words (syntax.writer.list, typeOf, declares, word), walked. Conditions: the sizes.
-/
import Derived.Test.YtbmedhaopnhggaaGreatDoorWrE
namespace Go.Proofs.YtbmedhaopnhggaaGreatDoor
open Go Eng Tryz
set_option maxHeartbeats 0
instance ize_180 : ZeF prog 180 (.agg [.int .i64 0, .str 0 0, .int .i64 0, .nils]) := ⟨by kernel_rfl⟩
instance ifp_157_3 : FpF prog 157 3 ⟨3, false, 1⟩ := ⟨by kernel_rfl⟩
def v226k0h1 : CV := Jt [Jd 18 6, Jc 19 (.binOp .gtr 3 (Ja 18) (Jb 0) 3)] (.cond (Ja 19) (.reg [Jd 20 0, Jc 21 (.buildSlice 49 1 #[(0, (.const (.string ⟨⟨[44]⟩⟩)))]), Jo 22 104 20 21 148 49]) (.skip))
def v226k0t1 : CV := .seq v226k0h1 (.reg [Jd 23 0, Jf 24 180 7, Jd 25 2, Jc 26 (.call ⟨.value (.func 224), #[(Ja 23), (Ja 24), (Ja 25)], #[148, 180, 3]⟩)])
def v226k0 : CV := Jt [Jd 15 13, Jk 16 155 11 13, Jf 17 180 16, Jc 7 (.alloc 180), Jh 6 15, .op none (.store 180 (Ja 7) (Ja 17))] v226k0t1
def v226l0t2 : CV := .seq (.block 1 v226k0) (.reg [Jc 27 (.binOp .add 3 (Ja 13) (Jb 1) 3), Jd 13 27])
def v226l0t1 : CV := .seq (.cond (Ja 14) (.skip) (.exit 0)) v226l0t2
def v226l0 : CV := Jt [Jc 14 (.binOp .lss 3 (Ja 13) (Ja 12) 3)] v226l0t1
def v226h1 : CV := Jt [Jd 11 1, Jj 12 11 155, Je 13 0] (.block 0 (.loop v226l0))
def v226t1 : CV := .seq v226h1 (.reg [Jd 28 0, Jc 29 (.buildSlice 49 1 #[(0, (.const (.string ⟨⟨[41]⟩⟩)))]), Jo 30 104 28 29 148 49])
def v226 : CV := Jt [Jd 8 0, Jc 9 (.buildSlice 49 1 #[(0, (.const (.string ⟨⟨[40]⟩⟩)))]), Jo 10 104 8 9 148 49] v226t1
noncomputable def b226 : Code := f226.body.getD .skip
theorem b226_eq : f226.body = some b226 := by kernel_rfl
theorem v226_eq : viewC prog b226 = some v226 := by kernel_rfl
theorem r226_eq : f226.results.toList = [] := by kernel_rfl
def v106t1 : CV := Jt [Jd 12 1, Jc 13 (.binOp .eql 3 (Ja 12) (Jb 1) 3)] (.cond (Ja 13) (.reg [Jd 14 0, Jc 15 (.buildSlice 49 1 #[(0, (.const (.string ⟨⟨[105, 110, 116]⟩⟩)))]), Jo 16 104 14 15 148 49]) (.reg [Jd 17 0, Jc 18 (.buildSlice 49 1 #[(0, (.const (.string ⟨⟨[98, 111, 111, 108]⟩⟩)))]), Jo 19 104 17 18 148 49]))
def v106 : CV := Jt [Jd 4 0, Jd 5 1, Jc 6 (.binOp .eql 3 (Ja 5) (Jb 1) 3), Jd 7 6, Jp 7 false 8 1, Js 7 false 9 (.binOp .eql 3 (Ja 8) (Jb 2) 3), Jc 10 (.pick (Ja 7) (.const (.bool true)) (Ja 9)), Jo 11 167 4 10 148 4] v106t1
noncomputable def b106 : Code := f106.body.getD .skip
theorem b106_eq : f106.body = some b106 := by kernel_rfl
theorem v106_eq : viewC prog b106 = some v106 := by kernel_rfl
theorem r106_eq : f106.results.toList = [] := by kernel_rfl
def v225h2 : CV := Jt [Jg 7 157 3 3, Jf 8 2 7, Jc 9 (.binOp .eql 2 (Ja 8) (Jb (-1)) 2)] (.cond (Ja 9) (.reg [Jd 10 0, Jc 11 (.buildSlice 49 1 #[(0, (.const (.string ⟨⟨[98, 111, 111, 108]⟩⟩)))]), Jo 12 104 10 11 148 49]) (.skip))
def v225t4 : CV := Jt [Jg 17 157 3 3, Jf 18 2 17, Jc 19 (.binOp .gtr 2 (Ja 18) (Jb 0) 2)] (.cond (Ja 19) (.reg [Jd 20 0, Jg 21 157 3 3, Jf 22 2 21, Jn 23 32 22 2, Jc 24 (.buildSlice 49 3 #[(0, (.const (.string ⟨⟨[91]⟩⟩))), (1, (Ja 23)), (2, (.const (.string ⟨⟨[93]⟩⟩)))]), Jo 25 104 20 24 148 49]) (.skip))
def v225t3 : CV := Jt [Jd 13 0, Jg 14 157 3 1, Jf 15 9 14, Jo 16 105 13 15 148 9] v225t4
def v225t2 : CV := .seq v225h2 v225t3
def v225t1 : CV := Jt [Jd 4 0, Jc 5 (.buildSlice 49 1 #[(0, (.const (.string ⟨⟨[118, 97, 114]⟩⟩)))]), Jo 6 104 4 5 148 49] v225t2
def v225 : CV := Jt [Jc 3 (.box 157 (Ja 1))] v225t1
noncomputable def b225 : Code := f225.body.getD .skip
theorem b225_eq : f225.body = some b225 := by kernel_rfl
theorem v225_eq : viewC prog b225 = some v225 := by kernel_rfl
theorem r225_eq : f225.results.toList = [] := by kernel_rfl
def v223c0 : CV := Jt [Jc 2 (.assign (.const (.string ⟨⟨[105, 102]⟩⟩)))] (.ret)
def v223c2 : CV := Jt [Jc 2 (.assign (.const (.string ⟨⟨[119, 104, 105, 108, 101]⟩⟩)))] (.ret)
def v223c4 : CV := Jt [Jc 2 (.assign (.const (.string ⟨⟨[114, 101, 116, 117, 114, 110]⟩⟩)))] (.ret)
def v223c6 : CV := Jt [Jc 2 (.assign (.const (.string ⟨⟨[112, 114, 105, 110, 116]⟩⟩)))] (.ret)
def v223c5 : CV := Jt [Jc 11 (.binOp .eql 3 (Ja 3) (Jb 8) 3), Jh 10 11] (.cond (Ja 10) v223c6 (.skip))
def v223c3 : CV := Jt [Jc 9 (.binOp .eql 3 (Ja 3) (Jb 7) 3), Jh 8 9] (.cond (Ja 8) v223c4 v223c5)
def v223c1 : CV := Jt [Jc 7 (.binOp .eql 3 (Ja 3) (Jb 5) 3), Jh 6 7] (.cond (Ja 6) v223c2 v223c3)
def v223k0 : CV := Jt [Jc 5 (.binOp .eql 3 (Ja 3) (Jb 4) 3), Jh 4 5] (.cond (Ja 4) v223c0 v223c1)
def v223h1 : CV := Jt [Jd 3 0] (.block 0 v223k0)
def v223t2 : CV := Jt [Jc 2 (.assign (.const (.string ⟨⟨[97, 115, 115, 101, 114, 116]⟩⟩)))] (.ret)
def v223t1 : CV := .seq v223h1 v223t2
def v223 : CV := Jt [Jc 2 (.assign (.const (.string ⟨⟨[]⟩⟩)))] v223t1
noncomputable def b223 : Code := f223.body.getD .skip
theorem b223_eq : f223.body = some b223 := by kernel_rfl
theorem v223_eq : viewC prog b223 = some v223 := by kernel_rfl
theorem r223_eq : f223.results.toList = [.tmp 2] := by kernel_rfl
def wArg (d : Nat) (s : WS) (x : Exp) (i : Nat) : WS := wE x d (if 0 < i then s.put [[44]] else s)
def wArgs (d : Nat) : List Exp → Nat → WS → WS
 | [], _, s => s
 | x :: l, i, s => wArgs d l (i + 1) (wArg d s x i)
def wList (l : List Exp) (d : Nat) (s : WS) : WS := (wArgs d l 0 (s.put [[40]])).put [[41]]
theorem zll (d : Nat) (x : Exp) : ∀ (l : List Exp) (i : Nat) (s : WS), wArgs d (l ++ [x]) i s = wArg d (wArgs d l i s) x (i + l.length)
 | [], _, _ => rfl
 | y :: l, i, s => by
  simp only [List.cons_append, wArgs, zll d x l, List.length_cons]
  rw [show i + 1 + l.length = i + (l.length + 1) by omega]
theorem wArg_len (d : Nat) (s : WS) (x : Exp) (i : Nat) : (wArg d s x i).words.length + 1 ≤ s.words.length + 5 * sizE x := by
 unfold wArg
 split
 ·have := zgk (szE x + 1) x (by omega) d (s.put [[44]])
  rw [zau] at this
  simp only [List.length_singleton] at this
  omega
 ·have := zgk (szE x + 1) x (by omega) d s; omega
theorem zku (d : Nat) : ∀ (l : List Exp) (i : Nat) (s : WS), (wArgs d l i s).words.length ≤ s.words.length + 5 * sizEs l
 | [], _, _ => by simp [wArgs, sizEs]
 | x :: l, i, s => by
  have h1 := wArg_len d s x i
  have h2 := zku d l (i + 1) (wArg d s x i)
  simp only [wArgs, sizEs]
  omega
def wType (t : Int) (s : WS) : WS := (s.need (decide (t = 1) || decide (t = 2))).put [if t = 1 then [105, 110, 116] else [98, 111, 111, 108]]
def wordB (k : Int) : List UInt8 := if k = 4 then [105, 102] else if k = 5 then [119, 104, 105, 108, 101] else if k = 7 then [114, 101, 116, 117, 114, 110] else if k = 8 then [112, 114, 105, 110, 116] else [97, 115, 115, 101, 114, 116]
section
variable {tb : List FuncId} {gl : List (List AV)} {A : Nat → Prop} {H : Heap} {u v w : AV} {b : Nat} {s : WS} {Q : AV → Heap → Prop}
theorem zp1 {c : List AV} {e : Exp} (h : IsE A H c e) : scalL c = true := by
 obtain ⟨v, rfl, _, _, _, _, els, h, _⟩ := h.out
 obtain ⟨_, ⟨rfl | ⟨a, rfl⟩, _⟩ | ⟨b, o, row, tl, ro, ⟨rfl, _⟩ | ⟨c, rfl, _⟩, _⟩⟩ := h <;> rfl
theorem zvq (k : Int) (hQ : Q (S (wordB k)) H) : WpF prog tb gl 223 [.int .i64 k] H Q := by
 unfold wordB at hQ
 refine fa func223 b223_eq v223_eq r223_eq (.inr (by simp)) ?_
 refine zac ?_
 refine zae rfl ?_
 refine zab (zak (zac ?_))
 refine zae rfl ?_
 refine zab (zam (zac ?_))
 by_cases e1 : k = 4
 ·rw [if_pos e1] at hQ
  (repeat ((refine zaa ?_; first | refine zai rfl ?_ | refine zax rfl rfl (by omega) ?_)))
  refine zab (zah rfl (zac ?_))
  refine zae rfl ?_
  exact zab (zao ⟨_, rfl, hQ⟩)
 rw [if_neg e1] at hQ
 (repeat ((refine zaa ?_; first | refine zai rfl ?_ | refine zat rfl rfl (by omega) ?_)))
 refine zab (zag rfl (zac ?_))
 by_cases e2 : k = 5
 ·rw [if_pos e2] at hQ
  (repeat ((refine zaa ?_; first | refine zai rfl ?_ | refine zax rfl rfl (by omega) ?_)))
  refine zab (zah rfl (zac ?_))
  refine zae rfl ?_
  exact zab (zao ⟨_, rfl, hQ⟩)
 rw [if_neg e2] at hQ
 (repeat ((refine zaa ?_; first | refine zai rfl ?_ | refine zat rfl rfl (by omega) ?_)))
 refine zab (zag rfl (zac ?_))
 by_cases e3 : k = 7
 ·rw [if_pos e3] at hQ
  (repeat ((refine zaa ?_; first | refine zai rfl ?_ | refine zax rfl rfl (by omega) ?_)))
  refine zab (zah rfl (zac ?_))
  refine zae rfl ?_
  exact zab (zao ⟨_, rfl, hQ⟩)
 rw [if_neg e3] at hQ
 (repeat ((refine zaa ?_; first | refine zai rfl ?_ | refine zat rfl rfl (by omega) ?_)))
 refine zab (zag rfl (zac ?_))
 by_cases e4 : k = 8
 ·rw [if_pos e4] at hQ
  (repeat ((refine zaa ?_; first | refine zai rfl ?_ | refine zax rfl rfl (by omega) ?_)))
  refine zab (zah rfl (zac ?_))
  refine zae rfl ?_
  exact zab (zao ⟨_, rfl, hQ⟩)
 rw [if_neg e4] at hQ
 (repeat ((refine zaa ?_; first | refine zai rfl ?_ | refine zat rfl rfl (by omega) ?_)))
 refine zab (zag rfl (zan (zac ?_)))
 refine zae rfl ?_
 exact zab (zao ⟨_, rfl, hQ⟩)
theorem zoe {t : Int} (hW : Wr b H u s) (hl : s.words.length + 1 < 1000000) (hQ : ∀ u' H', Wk b H u H' u' → Wr b H' u' (wType t s) → Q (.tup []) H') : WpF prog tb gl 106 [.ptr b 0, .int .i64 t] H Q := by
 unfold wType at hQ
 refine fa func106 b106_eq v106_eq r106_eq (.inr (by simp)) ?_
 refine zac ?_
 by_cases e1 : t = 1
 ·rw [if_pos e1, decide_eq_true e1, Bool.true_or] at hQ
  (repeat (first | refine zbb rfl ?_ | (refine zaa ?_; first | refine zal rfl ?_ | refine zax rfl rfl (by omega) ?_ | refine zaz rfl rfl rfl ?_)))
  refine zaa (zaj rfl rfl rfl (zgw (ok := true) hW fun H1 k1 W1 => ?_))
  refine zab (zac ?_)
  (repeat ((refine zaa ?_; first | refine zal rfl ?_ | refine zax rfl rfl (by omega) ?_)))
  refine zab (zah rfl (zaw ?_))
  refine zae rfl ?_
  refine zaa (zar (n := 1) ElF.h (by decide) rfl rfl fun H2 hk2 hr2 => ?_)
  refine zaa (zaj rfl rfl rfl (zb6 (ws := [[105, 110, 116]]) (W1.keep0 hk2) (IsRow.sl (es := 1) (n := 1) hr2 rfl (Nat.le_refl 1)) hl fun u' H3 k3 W3 => ?_))
  exact zab ⟨_, rfl, hQ u' H3 ((k1.trans (.of hk2)).trans k3) W3⟩
 ·rw [if_neg e1, decide_eq_false e1, Bool.false_or] at hQ
  have fin : ∀ (ok : Bool), ok = decide (t = 2) → WpF prog tb gl 167 [.ptr b 0, .bool ok] H fun v H' => IA prog tb gl [] (stI (some 11) v [(1, .int .i64 t), (0, .ptr b 0)]) H' fun l' H' => VA prog tb gl v106t1 l' H' (leftA [] Q) := by
   intro ok hok
   refine zgw (ok := ok) hW fun H1 k1 W1 => ?_
   rw [← hok] at hQ
   refine zab (zac ?_)
   (repeat ((refine zaa ?_; first | refine zal rfl ?_ | refine zat rfl rfl (by omega) ?_)))
   refine zab (zag rfl (zaw ?_))
   refine zae rfl ?_
   refine zaa (zar (n := 1) ElF.h (by decide) rfl rfl fun H2 hk2 hr2 => ?_)
   refine zaa (zaj rfl rfl rfl (zb6 (ws := [[98, 111, 111, 108]]) (W1.keep0 hk2) (IsRow.sl (es := 1) (n := 1) hr2 rfl (Nat.le_refl 1)) hl fun u' H3 k3 W3 => ?_))
   exact zab ⟨_, rfl, hQ u' H3 ((k1.trans (.of hk2)).trans k3) W3⟩
  by_cases e2 : t = 2
  ·(repeat (((first | refine zaa ?_ | refine zav rfl ?_); first | refine zal rfl ?_ | refine zat rfl rfl (by omega) ?_ | refine zax rfl rfl (by omega) ?_ | refine za1 rfl rfl ?_)))
   refine zaa (zaj rfl rfl rfl (zgw (ok := true) hW fun H1 k1 W1 => ?_))
   rw [decide_eq_true e2] at hQ
   refine zab (zac ?_)
   (repeat ((refine zaa ?_; first | refine zal rfl ?_ | refine zat rfl rfl (by omega) ?_)))
   refine zab (zag rfl (zaw ?_))
   refine zae rfl ?_
   refine zaa (zar (n := 1) ElF.h (by decide) rfl rfl fun H2 hk2 hr2 => ?_)
   refine zaa (zaj rfl rfl rfl (zb6 (ws := [[98, 111, 111, 108]]) (W1.keep0 hk2) (IsRow.sl (es := 1) (n := 1) hr2 rfl (Nat.le_refl 1)) hl fun u' H3 k3 W3 => ?_))
   exact zab ⟨_, rfl, hQ u' H3 ((k1.trans (.of hk2)).trans k3) W3⟩
  ·(repeat (((first | refine zaa ?_ | refine zav rfl ?_); first | refine zal rfl ?_ | refine zat rfl rfl (by omega) ?_ | refine za1 rfl rfl ?_)))
   refine zaa (zaj rfl rfl rfl (zgw (ok := false) hW fun H1 k1 W1 => ?_))
   rw [decide_eq_false e2] at hQ
   refine zab (zac ?_)
   (repeat ((refine zaa ?_; first | refine zal rfl ?_ | refine zat rfl rfl (by omega) ?_)))
   refine zab (zag rfl (zaw ?_))
   refine zae rfl ?_
   refine zaa (zar (n := 1) ElF.h (by decide) rfl rfl fun H2 hk2 hr2 => ?_)
   refine zaa (zaj rfl rfl rfl (zb6 (ws := [[98, 111, 111, 108]]) (W1.keep0 hk2) (IsRow.sl (es := 1) (n := 1) hr2 rfl (Nat.le_refl 1)) hl fun u' H3 k3 W3 => ?_))
   exact zab ⟨_, rfl, hQ u' H3 ((k1.trans (.of hk2)).trans k3) W3⟩
theorem list_ok {l : List Exp} {d : Nat} (hL : IsLs A (IsE A) 4 H v l) (hA : ∀ a, A a → Off b H u a) (hK : KeysIn H) (hW : Wr b H u s) (hd : d + szEs l < 1000000) (hl : s.words.length + 5 * sizEs l + 2 < 1000000) (hll : l.length ≤ rB)
  (hQ : ∀ u' H', Wk b H u H' u' → Wr b H' u' (wList l d s) → Q (.tup []) H') : WpF prog tb gl 226 [.ptr b 0, v, .int .i64 (d : Int)] H Q := by
 have hrB : rB = 140737488351232 := rfl
 refine fa func226 b226_eq v226_eq r226_eq (.inr (by simp)) ?_
 refine zac ?_
 refine zae rfl ?_
 refine zaa (zar (n := 1) ElF.h (by decide) rfl rfl fun H1 hk1 hr1 => ?_)
 refine zaa (zaj rfl rfl rfl (zb6 (ws := [[40]]) (hW.keep0 hk1) (IsRow.sl (es := 1) (n := 1) hr1 rfl (Nat.le_refl 1)) (by simp only [List.length_singleton]; omega) fun u2 H2 k2 W2 => ?_))
 have kk2 : Wk b H u H2 u2 := (Wk.of hk1).trans k2
 obtain ⟨els, hsl, _⟩ := zbc (kk2.exps hA hL)
 refine zab (zak (zac ?_))
 refine zae rfl ?_
 refine zaa (za8 rfl rfl rfl UnF.h rfl hsl ?_)
 refine zae rfl ?_
 refine zab (zam ?_)
 refine zbw (fun (i : Nat) => [(0, .ptr b 0), (2, .int .i64 (d : Int)), (11, v), (12, .int .i64 (l.length : Int)), (13, .int .i64 (i : Int))]) (fun i H' => i ≤ l.length ∧ ∃ u', Wk b H u H' u' ∧ Wr b H' u' (wArgs d (l.take i) 0 (s.put [[40]]))) (fun i => l.length - i) ?_ 0 _ H2 ⟨rfl, rfl, rfl, rfl, rfl, trivial⟩ ⟨Nat.zero_le _, u2, kk2, W2⟩
 rintro i H3 ⟨hle, u3, kk3, W3⟩
 have hlen := zku d (l.take i) 0 (s.put [[40]])
 have htk := zd5 l i
 rw [zau] at hlen
 simp only [List.length_singleton] at hlen
 refine zac ?_
 by_cases hi : i < l.length
 rotate_left
 ·refine zaa (zcb rfl rfl (decide_eq_false (by omega)) (zab (zak (zag rfl (zbn (zaw ?_))))))
  rw [List.take_of_length_le (by omega)] at W3 hlen
  refine zae rfl ?_
  refine zaa (zar (n := 1) ElF.h (by decide) rfl rfl fun H4 hk4 hr4 => ?_)
  refine zaa (zaj rfl rfl rfl (zb6 (ws := [[41]]) (W3.keep0 hk4) (IsRow.sl (es := 1) (n := 1) hr4 rfl (Nat.le_refl 1)) (by simp only [List.length_singleton]; omega) fun u5 H5 k5 W5 => ?_))
  exact zab ⟨_, rfl, hQ u5 H5 (kk3.trans ((Wk.of hk4).trans k5)) W5⟩
 obtain ⟨x, hx⟩ : ∃ x, l[i]? = some x := ⟨_, List.getElem?_eq_getElem hi⟩
 refine zaa (zcb rfl rfl (decide_eq_true (by omega)) (zab (zak (zah rfl (zan (zak (zam (zac ?_))))))))
 obtain ⟨els3, hsl3, hel3⟩ := zbc (kk3.exps hA hL)
 obtain ⟨cx, hcx, hEx⟩ := hel3 i x hx
 have hcx4 : cx.length = 4 := by obtain ⟨_, h, _⟩ := hEx.out; rw [h]; rfl
 have hsx : szE x < szEs l ∧ sizEs (l.take i) + sizE x ≤ sizEs l := by
  refine ⟨zd0 (List.mem_of_getElem? hx), ?_⟩
  have := zd5 l (i + 1)
  rw [zbt hx, zev] at this
  exact this
 refine zae rfl ?_
 refine zaa (za3 UnF.h SzF.h rfl hsl3 rfl rfl hi fun q0 hq0 => ?_)
 rw [hcx] at hq0
 refine zaa (zaq (k := 4) PlF.h hcx4 (by decide) rfl hq0 ?_)
 refine zaa (zci ZeF.h fun H4 hk4 hr4 => ?_)
 refine zae rfl ?_
 obtain ⟨bx, hbx⟩ : ∃ b, b = H3.nx := ⟨_, rfl⟩
 have hoff : Off b H4 u3 bx := by
  have := hr4.1
  rw [hbx]
  exact W3.fresh this
 rw [← hbx] at hr4 ⊢
 refine zaa (zbv (k := 4) SzF.h hcx4 rfl rfl (zp1 hEx) hr4 hcx4 fun H5 hk5 hn5 hr5 => ?_)
 have hbne : bx ≠ b := hoff.2.1
 have hbu : ¬ ownB u3 bx := hoff.2.2
 have hk35 : Keep Non H3 H5 := (hk4.trans hk5 fun c hc => .inr (by rw [hc, hbx]; exact Nat.le_refl _)).wide fun _ h => h
 have W5 := W3.keep0 hk35
 have hoff5 : Off b H5 u3 bx := ⟨by rw [hn5]; exact hoff.1, hbne, hbu⟩
 have kk5 : Wk b H u H5 u3 := kk3.trans (.of hk35)
 have hE5 := hEx.keep hk35
 obtain ⟨s3, hs3⟩ : ∃ s3, s3 = wArgs d (l.take i) 0 (s.put [[40]]) := ⟨_, rfl⟩
 rw [← hs3] at W5 hlen
 have hA5 : ∀ a, A a → Off b H5 u3 a := fun a ha => kk5.off (hA a ha)
 refine zab (zak ?_)
 refine zgj (fun l' H' => ∃ u6, Wk b H5 u3 H' u6 ∧ Wr b H' u6 (if 0 < i then s3.put [[44]] else s3) ∧ Sb [(0, .ptr b 0), (2, .int .i64 (d : Int)), (7, .ptr bx 0), (11, v), (12, .int .i64 (l.length : Int)), (13, .int .i64 (i : Int))] l') ?_ ?_
 ·refine zac ?_
  by_cases h0 : 0 < i
  ·rw [if_pos h0]
   (repeat ((refine zaa ?_; first | refine zal rfl ?_ | refine zcu rfl rfl (by omega) ?_)))
   refine zab (zah rfl (zaw ?_))
   refine zae rfl ?_
   refine zaa (zar (n := 1) ElF.h (by decide) rfl rfl fun H6 hk6 hr6 => ?_)
   refine zaa (zaj rfl rfl rfl (zb6 (ws := [[44]]) (W5.keep0 hk6) (IsRow.sl (es := 1) (n := 1) hr6 rfl (Nat.le_refl 1)) (by simp only [List.length_singleton]; omega) fun u7 H7 k7 W7 => ?_))
   exact zab ⟨u7, (Wk.of hk6).trans k7, W7, rfl, rfl, rfl, rfl, rfl, rfl, trivial⟩
  ·rw [if_neg h0]
   (repeat ((refine zaa ?_; first | refine zal rfl ?_ | refine zb9 rfl rfl (by omega) ?_)))
   exact zab (zag rfl (zan ⟨u3, .refl _ _ _, W5, rfl, rfl, rfl, rfl, rfl, rfl, trivial⟩))
 rintro l6 H6 ⟨u6, k6, W6, hs6⟩
 have hl6 : (if 0 < i then s3.put [[44]] else s3).words.length ≤ s3.words.length + 1 := by
  split
  ·rw [zau]; simp
  ·omega
 refine VA.sub hs6 (zaw ?_)
 refine zae rfl ?_
 refine zaa (zaq (k := 4) PlF.h hcx4 (by decide) rfl (k6.row hoff5 hr5).pts ?_)
 refine zae rfl ?_
 refine zaa (zaj rfl rfl rfl (zfm (szE x + 1) A x cx d b H6 u6 _ _ (by omega) (k6.exp hA5 hE5) (fun a ha => k6.off (hA5 a ha)) (hK.keep kk5.keep |>.keep k6.keep) W6 (by omega) (by omega) fun u7 H7 k7 W7 => ?_))
 refine zab (zaw ?_)
 refine zaa (za0 (c := ((i + 1 : Nat) : Int)) rfl rfl Ju ?_)
 refine zae rfl ?_
 refine zab ⟨i + 1, ?_, ⟨rfl, rfl, rfl, rfl, rfl, trivial⟩, by omega, u7, kk5.trans (k6.trans k7), ?_⟩
 ·show l.length - (i + 1) < l.length - i
  omega
 ·rw [zbt hx, zll, ← hs3, List.length_take, Nat.min_eq_left (by omega), Nat.zero_add]
  exact W7
end
end Go.Proofs.YtbmedhaopnhggaaGreatDoor
