/-
  The printer's expressions (syntax.writer.expr, operand, PrintExpr), walked. Conditions: how large the expression is.
-/
import Derived.Test.YtbmedhaopnhggaaGreatDoorWrP
namespace Go.Proofs.YtbmedhaopnhggaaGreatDoor
open Go Eng Tryz
set_option maxHeartbeats 0
instance ifp_150_2 : FpF prog 150 2 ⟨2, false, 1⟩ := ⟨by kernel_rfl⟩
instance isz_3 : SzF prog 3 1 := ⟨by kernel_rfl⟩
def v224h3 : CV := Jt [Jd 19 0, Jm 20 19, Jg 21 150 20 1, Jf 22 4 21] (.cond (Ja 22) (.ret) (.skip))
def v224c1 : CV := Jt [Jg 35 180 4 2, Jf 36 2 35, Jc 37 (.binOp .eql 2 (Ja 36) (Jb 1) 2)] (.cond (Ja 37) (.reg [Jd 38 0, Jc 39 (.buildSlice 49 1 #[(0, (.const (.string ⟨⟨[116, 114, 117, 101]⟩⟩)))]), Jo 40 104 38 39 148 49]) (.reg [Jd 41 0, Jc 42 (.buildSlice 49 1 #[(0, (.const (.string ⟨⟨[102, 97, 108, 115, 101]⟩⟩)))]), Jo 43 104 41 42 148 49]))
def v224c2h0 : CV := Jt [Jc 45 (.binOp .eql 3 (Ja 24) (Jb 3) 3), Jh 44 45] (.cond (Ja 44) (.skip) (.reg [Jc 46 (.binOp .eql 3 (Ja 24) (Jb 4) 3), Jh 44 46]))
def v224c4t1 : CV := Jt [Jd 57 0, Jg 58 180 4 3, Jf 59 155 58, Jc 60 (.indexAddr 155 (Ja 59) (Jb 0)), Jf 61 180 60, Jd 62 2, Jc 63 (.binOp .add 3 (Ja 62) (Jb 1) 3), Jc 64 (.call ⟨.value (.func 224), #[(Ja 57), (Ja 61), (Ja 63)], #[148, 180, 3]⟩)] (.reg [Jd 65 0, Jc 66 (.buildSlice 49 1 #[(0, (.const (.string ⟨⟨[93]⟩⟩)))]), Jo 67 104 65 66 148 49])
def v224c4 : CV := Jt [Jd 54 0, Jc 55 (.buildSlice 49 1 #[(0, (.const (.string ⟨⟨[91]⟩⟩)))]), Jo 56 104 54 55 148 49] v224c4t1
def v224c3t1 : CV := Jt [Jg 51 180 4 0, Jf 52 3 51, Jc 53 (.binOp .eql 3 (Ja 52) (Jb 4) 3)] (.cond (Ja 53) v224c4 (.skip))
def v224c3 : CV := Jt [Jd 47 0, Jg 48 180 4 1, Jf 49 9 48, Jo 50 105 47 49 148 9] v224c3t1
def v224c6t1 : CV := Jt [Jd 75 0, Jd 76 0, Jm 77 76, Jg 78 150 77 2, Jf 79 3 78, Jd 80 2, Jc 81 (.binOp .add 3 (Ja 80) (Jb 1) 3), Jc 82 (.call ⟨.builtin .max, #[(Ja 79), (Ja 81)], #[3, 3]⟩), Jm 83 75, Jg 84 150 83 2, .op none (.store 3 (Ja 84) (Ja 82))] (.reg [Jd 85 0, Jg 86 180 4 3, Jf 87 155 86, Jc 88 (.indexAddr 155 (Ja 87) (Jb 0)), Jf 89 180 88, Jd 90 2, Jc 91 (.binOp .add 3 (Ja 90) (Jb 1) 3), Jc 92 (.call ⟨.value (.func 269), #[(Ja 85), (Ja 89), (Ja 91)], #[148, 180, 3]⟩)])
def v224c6 : CV := Jt [Jd 70 0, Jg 71 180 4 1, Jf 72 9 71, Jc 73 (.buildSlice 49 1 #[(0, (Ja 72))]), Jo 74 104 70 73 148 49] v224c6t1
def v224c8t1 : CV := Jt [Jd 102 0, Jg 103 180 4 1, Jf 104 9 103, Jc 105 (.buildSlice 49 1 #[(0, (Ja 104))]), Jo 106 104 102 105 148 49] (.reg [Jd 107 0, Jg 108 180 4 3, Jf 109 155 108, Jc 110 (.indexAddr 155 (Ja 109) (Jb 1)), Jf 111 180 110, Jd 112 2, Jc 113 (.call ⟨.value (.func 269), #[(Ja 107), (Ja 111), (Ja 112)], #[148, 180, 3]⟩)])
def v224c8 : CV := Jt [Jd 95 0, Jg 96 180 4 3, Jf 97 155 96, Jc 98 (.indexAddr 155 (Ja 97) (Jb 0)), Jf 99 180 98, Jd 100 2, Jc 101 (.call ⟨.value (.func 269), #[(Ja 95), (Ja 99), (Ja 100)], #[148, 180, 3]⟩)] v224c8t1
def v224c7 : CV := Jt [Jc 94 (.binOp .eql 3 (Ja 24) (Jb 6) 3), Jh 93 94] (.cond (Ja 93) v224c8 (.skip))
def v224c5 : CV := Jt [Jc 69 (.binOp .eql 3 (Ja 24) (Jb 5) 3), Jh 68 69] (.cond (Ja 68) v224c6 v224c7)
def v224c2 : CV := .seq v224c2h0 (.cond (Ja 44) v224c3 v224c5)
def v224c0 : CV := Jt [Jc 34 (.binOp .eql 3 (Ja 24) (Jb 2) 3), Jh 33 34] (.cond (Ja 33) v224c1 v224c2)
def v224k0 : CV := Jt [Jc 26 (.binOp .eql 3 (Ja 24) (Jb 1) 3), Jh 25 26] (.cond (Ja 25) (.reg [Jd 27 0, Jg 28 180 4 2, Jf 29 2 28, Jn 30 32 29 2, Jc 31 (.buildSlice 49 1 #[(0, (Ja 30))]), Jo 32 104 27 31 148 49]) v224c0)
def v224t4 : CV := Jt [Jg 23 180 4 0, Jf 24 3 23] (.block 0 v224k0)
def v224t3 : CV := .seq v224h3 v224t4
def v224t2 : CV := Jt [Jd 15 0, Jf 16 180 4, Jn 17 268 16 180, Jo 18 167 15 17 148 4] v224t3
def v224t1 : CV := Jt [Jd 6 0, Jd 7 0, Jm 8 7, Jg 9 150 8 2, Jf 10 3 9, Jd 11 2, Jc 12 (.call ⟨.builtin .max, #[(Ja 10), (Ja 11)], #[3, 3]⟩), Jm 13 6, Jg 14 150 13 2, .op none (.store 3 (Ja 14) (Ja 12))] v224t2
def v224 : CV := Jt [Jc 4 (.box 180 (Ja 1))] v224t1
noncomputable def b224 : Code := f224.body.getD .skip
theorem b224_eq : f224.body = some b224 := by kernel_rfl
theorem v224_eq : viewC prog b224 = some v224 := by kernel_rfl
theorem r224_eq : f224.results.toList = [] := by kernel_rfl
def v269c0t2 : CV := Jt [Jd 17 0, Jc 18 (.buildSlice 49 1 #[(0, (.const (.string ⟨⟨[41]⟩⟩)))]), Jo 19 104 17 18 148 49] (.ret)
def v269c0t1 : CV := Jt [Jd 12 0, Jf 13 180 4, Jd 14 2, Jc 15 (.binOp .add 3 (Ja 14) (Jb 1) 3), Jc 16 (.call ⟨.value (.func 224), #[(Ja 12), (Ja 13), (Ja 15)], #[148, 180, 3]⟩)] v269c0t2
def v269c0 : CV := Jt [Jd 9 0, Jc 10 (.buildSlice 49 1 #[(0, (.const (.string ⟨⟨[40]⟩⟩)))]), Jo 11 104 9 10 148 49] v269c0t1
def v269h1 : CV := Jt [Jg 6 180 4 0, Jf 7 3 6, Jc 8 (.binOp .eql 3 (Ja 7) (Jb 6) 3)] (.cond (Ja 8) v269c0 (.skip))
def v269t1 : CV := .seq v269h1 (.reg [Jd 20 0, Jf 21 180 4, Jd 22 2, Jc 23 (.call ⟨.value (.func 224), #[(Ja 20), (Ja 21), (Ja 22)], #[148, 180, 3]⟩)])
def v269 : CV := Jt [Jc 4 (.box 180 (Ja 1))] v269t1
noncomputable def b269 : Code := f269.body.getD .skip
theorem b269_eq : f269.body = some b269 := by kernel_rfl
theorem v269_eq : viewC prog b269 = some v269 := by kernel_rfl
theorem r269_eq : f269.results.toList = [] := by kernel_rfl
def wE : Exp → Nat → WS → WS
 | .mk k n z l, d, s =>
  let s1 := (s.deep d).need (plainE (.mk k n z l))
  if s1.bad = true then s1
  else if k = 1 then s1.put [textZ z]
  else if k = 2 then s1.put [if z = 1 then [116, 114, 117, 101] else [102, 97, 108, 115, 101]]
  else if k = 3 then s1.name n
  else if k = 4 then (match l with | a :: _ => (wE a (d + 1) ((s1.name n).put [[91]])).put [[93]] | [] => s1)
  else if k = 5 then (match l with | a :: _ => if a.kind = 6 then (wE a (d + 1 + 1) (((s1.put [n]).deep (d + 1)).put [[40]])).put [[41]] else wE a (d + 1) ((s1.put [n]).deep (d + 1)) | [] => s1)
  else if k = 6 then (match l with
   | a :: c :: _ =>
    let s2 := if a.kind = 6 then (wE a (d + 1) (s1.put [[40]])).put [[41]] else wE a d s1
    if c.kind = 6 then (wE c (d + 1) ((s2.put [n]).put [[40]])).put [[41]] else wE c d (s2.put [n])
   | _ => s1)
  else s1
termination_by x => szE x
decreasing_by all_goals (simp [szE, szEs]; try omega)
def wOp (x : Exp) (d : Nat) (s : WS) : WS := if x.kind = 6 then (wE x (d + 1) (s.put [[40]])).put [[41]] else wE x d s
theorem zau (s : WS) (ws : List (List UInt8)) : (s.put ws).words.length = s.words.length + ws.length := by simp [WS.put]
theorem zvd (k : Int) (n : List UInt8) (z : Int) (l : List Exp) (d : Nat) (s : WS) : wE (.mk k n z l) d s =
  if ((s.deep d).need (plainE (.mk k n z l))).bad = true then ((s.deep d).need (plainE (.mk k n z l)))
  else if k = 1 then ((s.deep d).need (plainE (.mk k n z l))).put [textZ z]
  else if k = 2 then ((s.deep d).need (plainE (.mk k n z l))).put [if z = 1 then [116, 114, 117, 101] else [102, 97, 108, 115, 101]]
  else if k = 3 then ((s.deep d).need (plainE (.mk k n z l))).name n
  else if k = 4 then (match l with | a :: _ => (wE a (d + 1) ((((s.deep d).need (plainE (.mk k n z l))).name n).put [[91]])).put [[93]] | [] => ((s.deep d).need (plainE (.mk k n z l))))
  else if k = 5 then (match l with | a :: _ => wOp a (d + 1) ((((s.deep d).need (plainE (.mk k n z l))).put [n]).deep (d + 1)) | [] => ((s.deep d).need (plainE (.mk k n z l))))
  else if k = 6 then (match l with | a :: c :: _ => wOp c d ((wOp a d ((s.deep d).need (plainE (.mk k n z l)))).put [n]) | _ => ((s.deep d).need (plainE (.mk k n z l))))
  else ((s.deep d).need (plainE (.mk k n z l))) := by
 conv => lhs; unfold wE
 simp only [wOp]
theorem wE_at (x : Exp) (d : Nat) (s s1 : WS) (hs : s1 = (s.deep d).need (plainE x)) : wE x d s =
  if s1.bad = true then s1
  else if x.kind = 1 then s1.put [textZ x.num]
  else if x.kind = 2 then s1.put [if x.num = 1 then [116, 114, 117, 101] else [102, 97, 108, 115, 101]]
  else if x.kind = 3 then s1.name x.name
  else if x.kind = 4 then (match x.l with | a :: _ => (wE a (d + 1) ((s1.name x.name).put [[91]])).put [[93]] | [] => s1)
  else if x.kind = 5 then (match x.l with | a :: _ => wOp a (d + 1) ((s1.put [x.name]).deep (d + 1)) | [] => s1)
  else if x.kind = 6 then (match x.l with | a :: c :: _ => wOp c d ((wOp a d s1).put [x.name]) | _ => s1)
  else s1 := by
 subst hs
 cases x
 exact zvd _ _ _ _ _ _
theorem len2 {α : Type} {l : List α} (h : l.length = 2) : ∃ a b, l = [a, b] := by
 match l, h with
 | [a, b], _ => exact ⟨a, b, rfl⟩
theorem zch (s : WS) (ok : Bool) : (s.need ok).words.length = s.words.length := rfl
theorem zce (s : WS) (d : Nat) : (s.deep d).words.length = s.words.length := rfl
theorem zbf (s : WS) (n : List UInt8) : (s.name n).words.length = s.words.length + 1 := by simp [WS.name, WS.put, WS.need]
theorem zmz {x : Exp} (h : ∀ d s, (wE x d s).words.length + 2 ≤ s.words.length + 5 * sizE x) (d : Nat) (s : WS) : (wOp x d s).words.length ≤ s.words.length + 5 * sizE x := by
 unfold wOp
 split
 ·have := h (d + 1) (s.put [[40]])
  rw [zau] at this ⊢
  simp only [List.length_singleton] at this ⊢
  omega
 ·have := h d s; omega
theorem zgk : ∀ (k : Nat) (x : Exp), szE x < k → ∀ d s, (wE x d s).words.length + 2 ≤ s.words.length + 5 * sizE x
 | 0, _, h, _, _ => by omega
 | k + 1, .mk kd n z l, h, d, s => by
  rw [zvd]
  obtain ⟨s1, hs1⟩ : ∃ s1, s1 = (s.deep d).need (plainE (.mk kd n z l)) := ⟨_, rfl⟩
  rw [← hs1]
  have hl1 : s1.words.length = s.words.length := by rw [hs1]; rfl
  simp only [sizE]
  split
  ·omega
  split
  ·rw [zau, List.length_singleton]; omega
  split
  ·rw [zau, List.length_singleton]; omega
  split
  ·rw [zbf]; omega
  split
  ·split
   ·rename_i a r
    have h1 := zgk k a (by simp only [szE, szEs] at h; omega) (d + 1) ((s1.name n).put [[91]])
    rw [zau, zbf] at h1
    rw [zau]
    simp only [List.length_singleton, sizEs] at h1 ⊢
    omega
   ·omega
  split
  ·split
   ·rename_i a r
    have h1 := zmz (zgk k a (by simp only [szE, szEs] at h; omega)) (d + 1) ((s1.put [n]).deep (d + 1))
    rw [zce, zau] at h1
    simp only [List.length_singleton, sizEs] at h1 ⊢
    omega
   ·omega
  split
  ·split
   ·rename_i a c r
    have h1 := zmz (zgk k a (by simp only [szE, szEs] at h; omega)) d s1
    have h2 := zmz (zgk k c (by simp only [szE, szEs] at h; omega)) d ((wOp a d s1).put [n])
    rw [zau] at h2
    simp only [List.length_singleton, sizEs] at h2 ⊢
    omega
   ·omega
  ·omega
section
variable {tb : List FuncId} {gl : List (List AV)} {A : Nat → Prop} {H : Heap} {u v w : AV} {b : Nat} {s : WS} {Q : AV → Heap → Prop}
def ExprOK (tb : List FuncId) (gl : List (List AV)) (k : Nat) : Prop := ∀ (A : Nat → Prop) (x : Exp) (c : List AV) (d b : Nat) (H : Heap) (u : AV) (s : WS) (Q : AV → Heap → Prop), szE x < k → IsE A H c x → (∀ a, A a → Off b H u a) → KeysIn H → Wr b H u s → d + szE x < 1000000 → s.words.length + 5 * sizE x < 1000002 →
 (∀ u' H', Wk b H u H' u' → Wr b H' u' (wE x d s) → Q (.tup []) H') → WpF prog tb gl 224 [.ptr b 0, .agg c, .int .i64 (d : Int)] H Q
theorem zh9 {k d : Nat} (ih : ExprOK tb gl k) {x : Exp} {c : List AV} (hk : szE x < k) (hE : IsE A H c x) (hA : ∀ a, A a → Off b H u a) (hK : KeysIn H) (hW : Wr b H u s) (hd : d + 1 + szE x < 1000000) (hl : s.words.length + 5 * sizE x < 1000000)
  (hQ : ∀ u' H', Wk b H u H' u' → Wr b H' u' (wOp x d s) → Q (.tup []) H') : WpF prog tb gl 269 [.ptr b 0, .agg c, .int .i64 (d : Int)] H Q := by
 obtain ⟨v, hc, _⟩ := hE.out
 have hc4 : c.length = 4 := by rw [hc]; rfl
 have hsz : 1 ≤ sizE x := by rw [zie]; omega
 refine fa func269 b269_eq v269_eq r269_eq (.inr (by simp)) ?_
 refine zac ?_
 refine zaa (zcd rfl fun H1 hk1 hr1 => ?_)
 have hW1 := hW.keep0 hk1
 obtain ⟨bx, hbx⟩ : ∃ b, b = H.nx := ⟨_, rfl⟩
 have hoff : Off b H1 u bx := by
  have := hr1.1
  rw [hbx]
  exact hW.fresh this
 rw [← hbx] at hr1 ⊢
 have hr1 : IsRow H1 bx c false false := hr1
 have hr1' : IsRow H1 bx [.int .i64 x.kind, S x.name, .int .i64 x.num, v] false false := hc ▸ hr1
 have hE1 := hE.keep hk1
 have hA1 : ∀ a, A a → Off b H1 u a := fun a ha => (Wk.of hk1).off (hA a ha)
 refine zae rfl ?_
 refine zab (zak (zac ?_))
 unfold wOp at hQ
 by_cases e6 : x.kind = 6
 ·rw [if_pos e6] at hQ
  (repeat ((refine zaa ?_; first | refine zad FpF.h (by decide) rfl ?_ | refine zaf PlF.h rfl hr1' rfl ?_ | refine zax rfl rfl (by omega) ?_)))
  refine zab (zah rfl (zac ?_))
  refine zae rfl ?_
  refine zaa (zar (n := 1) ElF.h (by decide) rfl rfl fun H2 hk2 hr2 => ?_)
  refine zaa (zaj rfl rfl rfl (zb6 (ws := [[40]]) (hW1.keep0 hk2) (IsRow.sl (es := 1) (n := 1) hr2 rfl (Nat.le_refl 1)) (by simp only [List.length_singleton]; omega) fun u3 H3 k3 W3 => ?_))
  have kk3 : Wk b H1 u H3 u3 := (Wk.of hk2).trans k3
  refine zab (zac ?_)
  refine zae rfl ?_
  refine zaa (zaq (k := 4) PlF.h hc4 (by decide) rfl (kk3.row hoff hr1).pts ?_)
  refine zae rfl ?_
  refine zaa (za0 (c := ((d + 1 : Nat) : Int)) rfl rfl Ju ?_)
  refine zaa (zaj rfl rfl rfl (ih A x c (d + 1) b H3 u3 _ _ hk (kk3.exp hA1 hE1) (fun a ha => kk3.off (hA1 a ha)) (hK.keep (hk1.trans0 hk2) |>.keep k3.keep) W3 (by omega) (by rw [zau]; simp only [List.length_singleton]; omega) fun u4 H4 k4 W4 => ?_))
  refine zab (zac ?_)
  refine zae rfl ?_
  refine zaa (zar (n := 1) ElF.h (by decide) rfl rfl fun H5 hk5 hr5 => ?_)
  have hlen := zgk (szE x + 1) x (by omega) (d + 1) (s.put [[40]])
  rw [zau] at hlen
  simp only [List.length_singleton] at hlen
  refine zaa (zaj rfl rfl rfl (zb6 (ws := [[41]]) (W4.keep0 hk5) (IsRow.sl (es := 1) (n := 1) hr5 rfl (Nat.le_refl 1)) (by simp only [List.length_singleton]; omega) fun u6 H6 k6 W6 => ?_))
  refine zab (zao ⟨_, rfl, hQ u6 H6 ?_ W6⟩)
  exact (Wk.of hk1).trans (kk3.trans (k4.trans ((Wk.of hk5).trans k6)))
 ·rw [if_neg e6] at hQ
  (repeat ((refine zaa ?_; first | refine zad FpF.h (by decide) rfl ?_ | refine zaf PlF.h rfl hr1' rfl ?_ | refine zat rfl rfl (by omega) ?_)))
  refine zab (zag rfl (zan (zaw ?_)))
  refine zae rfl ?_
  refine zaa (zaq (k := 4) PlF.h hc4 (by decide) rfl hr1.pts ?_)
  refine zae rfl ?_
  refine zaa (zaj rfl rfl rfl (ih A x c d b H1 u _ _ hk hE1 hA1 (hK.keep hk1) hW1 (by omega) (by omega) fun u4 H4 k4 W4 => ?_))
  exact zab ⟨_, rfl, hQ u4 H4 ((Wk.of hk1).trans k4) W4⟩
theorem zfm : ∀ k, ExprOK tb gl k
 | 0 => fun _ _ _ _ _ _ _ _ _ h => by omega
 | k + 1 => by
  intro A x c d b H u s Q hk hE hA hK hW hd hl hQ
  have ih : ExprOK tb gl k := zfm k
  have hrB : rB = 140737488351232 := rfl
  obtain ⟨v, hc, hkd, hnu, hnl, hll, hL⟩ := hE.out
  have hc4 : c.length = 4 := by rw [hc]; rfl
  have hsz : 1 ≤ sizE x := by rw [zie]; omega
  refine fa func224 b224_eq v224_eq r224_eq (.inr (by simp)) ?_
  refine zac ?_
  refine zaa (zcd rfl fun H1 hk1 hr1 => ?_)
  have hW1 := hW.keep0 hk1
  obtain ⟨bx, hbx⟩ : ∃ b, b = H.nx := ⟨_, rfl⟩
  have hoff : Off b H1 u bx := by
   have := hr1.1
   rw [hbx]
   exact hW.fresh this
  rw [← hbx] at hr1 ⊢
  have hr1 : IsRow H1 bx c false false := hr1
  have hE1 := hE.keep hk1
  have hA1 : ∀ a, A a → Off b H1 u a := fun a ha => (Wk.of hk1).off (hA a ha)
  refine zab (zac ?_)
  -- how deep
  refine zae rfl ?_; (repeat ((refine zaa ?_; first | refine za5 rfl ?_ | refine zad FpF.h (by decide) rfl ?_ | refine zaf PlF.h rfl hW1.row rfl ?_); refine zae rfl ?_))
  refine zaa (zo8 (m := ((max s.most d : Nat) : Int)) rfl rfl rfl rfl (by omega) ?_)
  refine zae rfl ?_; (repeat ((refine zaa ?_; first | refine za5 rfl ?_ | refine zad FpF.h (by decide) rfl ?_); refine zae rfl ?_))
  refine zaa (zcc SzF.h rfl rfl rfl hW1.row (by simp) fun H2 hk2 hn2 hr2 => ?_)
  have k2 : Wk b H1 u H2 u := ⟨hk2.wide fun c hc => Or.inl hc, fun c hc => .inl hc⟩
  have W2 : Wr b H2 u (s.deep d) := ⟨hr2, hW1.own.keep hk2 fun c hc h => hW1.ne (h ▸ hc), hW1.ne⟩
  refine zab (zac ?_)
  refine zae rfl ?_
  refine zaa (zaq (k := 4) PlF.h hc4 (by decide) rfl (k2.row hoff hr1).pts ?_)
  refine zaa (zaj rfl rfl rfl (plain_ok (k2.exp hA1 hE1) fun H3 hk3 => ?_))
  refine zaa (zaj rfl rfl rfl (zgw (W2.keep0 hk3) fun H4 k4 W4 => ?_))
  have kk : Wk b H u H4 u := (Wk.of hk1).trans (k2.trans ((Wk.of hk3).trans k4))
  have kk1 : Wk b H1 u H4 u := k2.trans ((Wk.of hk3).trans k4)
  obtain ⟨s1, hs1⟩ : ∃ s1, s1 = (s.deep d).need (plainE x) := ⟨_, rfl⟩
  rw [← hs1] at W4
  have hl1 : s1.words.length = s.words.length := by rw [hs1]; rfl
  have hoff4 := kk1.off hoff
  have hr4 : IsRow H4 bx [.int .i64 x.kind, S x.name, .int .i64 x.num, v] false false := hc ▸ kk1.row hoff hr1
  have hE4 := kk.exp hA hE
  have hA4 : ∀ a, A a → Off b H4 u a := fun a ha => kk.off (hA a ha)
  have hK4 := hK.keep kk.keep
  refine zab (zak (zac ?_))
  rw [wE_at x d s s1 hs1] at hQ
  have hW4r := W4.row
  cases hbad : s1.bad with
  | true =>
   rw [if_pos hbad] at hQ
   rw [hbad] at hW4r
   refine zae rfl ?_; (repeat ((refine zaa ?_; first | refine za5 rfl ?_ | refine zad FpF.h (by decide) rfl ?_ | refine zaf PlF.h rfl hW4r rfl ?_); refine zae rfl ?_))
   exact zab (zah rfl (zao ⟨_, rfl, hQ u H4 kk W4⟩))
  | false =>
  rw [if_neg (by rw [hbad]; simp)] at hQ
  rw [hbad] at hW4r
  refine zae rfl ?_; (repeat ((refine zaa ?_; first | refine za5 rfl ?_ | refine zad FpF.h (by decide) rfl ?_ | refine zaf PlF.h rfl hW4r rfl ?_); refine zae rfl ?_))
  refine zab (zag rfl (zan (zac ?_)))
  have hform : formE x = true := by
   have h : (s.bad || !plainE x) = false := by rw [← hbad, hs1]; rfl
   simp only [plainE, Bool.or_eq_false_iff, Bool.not_eq_false', Bool.and_eq_true] at h
   exact h.2.2
  unfold formE at hform
  refine zae rfl ?_; (repeat ((refine zaa ?_; first | refine zad FpF.h (by decide) rfl ?_ | refine zaf PlF.h rfl hr4 rfl ?_); refine zae rfl ?_))
  refine zab (zam (zac ?_))
  have put1 : ∀ (t : List UInt8) (l' : Fm) (s2 : WS) (u2 : AV) (H2 : Heap), Wr b H2 u2 s2 → s2.words.length + 1 < 1000000 → True := fun _ _ _ _ _ _ _ => trivial
  clear put1
  by_cases e1 : x.kind = 1
  ·rw [if_pos e1] at hQ
   (repeat ((refine zaa ?_; first | refine zai rfl ?_ | refine zax rfl rfl (by omega) ?_)))
   refine zab (zah rfl (zaw ?_))
   refine zae rfl ?_; (repeat ((refine zaa ?_; first | refine zad FpF.h (by decide) rfl ?_ | refine zaf PlF.h rfl hr4 rfl ?_); refine zae rfl ?_))
   refine zaa (zaj rfl rfl rfl (zse x.num hnu.1 hnu.2 H4 fun H5 hk5 => ?_))
   refine zaa (zar (n := 1) ElF.h (by decide) rfl rfl fun H6 hk6 hr6 => ?_)
   refine zaa (zaj rfl rfl rfl (zb6 (ws := [textZ x.num]) ((W4.keep0 hk5).keep0 hk6) (IsRow.sl (es := 1) (n := 1) hr6 rfl (Nat.le_refl 1)) (by simp only [List.length_singleton]; omega) fun u7 H7 k7 W7 => ?_))
   exact zab ⟨_, rfl, hQ u7 H7 (kk.trans ((Wk.of (hk5.trans0 hk6)).trans k7)) W7⟩
  rw [if_neg e1] at hQ hform
  (repeat ((refine zaa ?_; first | refine zai rfl ?_ | refine zat rfl rfl (by omega) ?_)))
  refine zab (zag rfl (zac ?_))
  by_cases e2 : x.kind = 2
  ·rw [if_pos e2] at hQ
   (repeat ((refine zaa ?_; first | refine zai rfl ?_ | refine zax rfl rfl (by omega) ?_)))
   refine zab (zah rfl (zac ?_))
   by_cases e3 : x.num = 1
   ·rw [if_pos e3] at hQ
    (repeat ((refine zaa ?_; first | refine zad FpF.h (by decide) rfl ?_ | refine zaf PlF.h rfl hr4 rfl ?_ | refine zax rfl rfl (by omega) ?_)))
    refine zab (zah rfl (zaw ?_))
    refine zae rfl ?_
    refine zaa (zar (n := 1) ElF.h (by decide) rfl rfl fun H6 hk6 hr6 => ?_)
    refine zaa (zaj rfl rfl rfl (zb6 (ws := [[116, 114, 117, 101]]) (W4.keep0 hk6) (IsRow.sl (es := 1) (n := 1) hr6 rfl (Nat.le_refl 1)) (by simp only [List.length_singleton]; omega) fun u7 H7 k7 W7 => ?_))
    exact zab ⟨_, rfl, hQ u7 H7 (kk.trans ((Wk.of hk6).trans k7)) W7⟩
   ·rw [if_neg e3] at hQ
    (repeat ((refine zaa ?_; first | refine zad FpF.h (by decide) rfl ?_ | refine zaf PlF.h rfl hr4 rfl ?_ | refine zat rfl rfl (by omega) ?_)))
    refine zab (zag rfl (zaw ?_))
    refine zae rfl ?_
    refine zaa (zar (n := 1) ElF.h (by decide) rfl rfl fun H6 hk6 hr6 => ?_)
    refine zaa (zaj rfl rfl rfl (zb6 (ws := [[102, 97, 108, 115, 101]]) (W4.keep0 hk6) (IsRow.sl (es := 1) (n := 1) hr6 rfl (Nat.le_refl 1)) (by simp only [List.length_singleton]; omega) fun u7 H7 k7 W7 => ?_))
    exact zab ⟨_, rfl, hQ u7 H7 (kk.trans ((Wk.of hk6).trans k7)) W7⟩
  rw [if_neg e2] at hQ hform
  (repeat ((refine zaa ?_; first | refine zai rfl ?_ | refine zat rfl rfl (by omega) ?_)))
  refine zab (zag rfl (zak (zac ?_)))
  have hnm : x.name.length < 9223372036854775808 := by omega
  by_cases e3 : x.kind = 3
  ·rw [if_pos e3] at hQ
   (repeat ((refine zaa ?_; first | refine zai rfl ?_ | refine zax rfl rfl (by omega) ?_)))
   refine zab (zah rfl (zan (zah rfl (zac ?_))))
   refine zae rfl ?_; (repeat ((refine zaa ?_; first | refine zad FpF.h (by decide) rfl ?_ | refine zaf PlF.h rfl hr4 rfl ?_); refine zae rfl ?_))
   refine zaa (zaj rfl rfl rfl (zen (n := x.name) W4 hK4 hnm (by omega) fun u5 H5 k5 W5 => ?_))
   have hr5 := k5.row hoff4 hr4
   refine zab (zac ?_)
   (repeat ((refine zaa ?_; first | refine zad FpF.h (by decide) rfl ?_ | refine zaf PlF.h rfl hr5 rfl ?_ | refine zat rfl rfl (by omega) ?_)))
   exact zab (zag rfl (zan ⟨_, rfl, hQ u5 H5 (kk.trans k5) W5⟩))
  rw [if_neg e3] at hQ hform
  by_cases e4 : x.kind = 4
  ·rw [if_pos e4] at hQ hform
   obtain ⟨a, hxa⟩ : ∃ a, x.l = [a] := List.length_eq_one_iff.1 (of_decide_eq_true hform)
   simp only [hxa] at hQ
   have hsa : szE a < k ∧ sizE a + 1 ≤ sizE x ∧ szE a + 2 ≤ szE x := by
    have h1 : szE x = szEs x.l + 1 := by cases x; simp only [szE]; rfl
    have h2 := zie x
    rw [hxa] at h1 h2
    simp only [szEs, sizEs] at h1 h2
    omega
   (repeat ((refine zaa ?_; first | refine zai rfl ?_ | refine zat rfl rfl (by omega) ?_)))
   refine zab (zag rfl (zaw ?_))
   (repeat ((refine zaa ?_; first | refine zai rfl ?_ | refine zax rfl rfl (by omega) ?_)))
   refine zab (zah rfl (zac ?_))
   refine zae rfl ?_; (repeat ((refine zaa ?_; first | refine zad FpF.h (by decide) rfl ?_ | refine zaf PlF.h rfl hr4 rfl ?_); refine zae rfl ?_))
   refine zaa (zaj rfl rfl rfl (zen (n := x.name) W4 hK4 hnm (by omega) fun u5 H5 k5 W5 => ?_))
   have hr5 := k5.row hoff4 hr4
   refine zab (zac ?_)
   (repeat ((refine zaa ?_; first | refine zad FpF.h (by decide) rfl ?_ | refine zaf PlF.h rfl hr5 rfl ?_ | refine zax rfl rfl (by omega) ?_)))
   refine zab (zah rfl (zac ?_))
   refine zae rfl ?_
   refine zaa (zar (n := 1) ElF.h (by decide) rfl rfl fun H6 hk6 hr6 => ?_)
   refine zaa (zaj rfl rfl rfl (zb6 (ws := [[91]]) (W5.keep0 hk6) (IsRow.sl (es := 1) (n := 1) hr6 rfl (Nat.le_refl 1)) (by rw [zbf]; simp only [List.length_singleton]; omega) fun u7 H7 k7 W7 => ?_))
   have kk7 : Wk b H u H7 u7 := kk.trans (k5.trans ((Wk.of hk6).trans k7))
   have kk47 : Wk b H4 u H7 u7 := k5.trans ((Wk.of hk6).trans k7)
   have hr7 := kk47.row hoff4 hr4
   obtain ⟨els, hsl, hel⟩ := zbc (kk7.exps hA hL)
   obtain ⟨ca, hca, hEa⟩ := hel 0 a (by rw [hxa]; rfl)
   have hca4 : ca.length = 4 := by obtain ⟨_, h, _⟩ := hEa.out; rw [h]; rfl
   refine zab (zac ?_)
   refine zae rfl ?_; (repeat ((refine zaa ?_; first | refine zad FpF.h (by decide) rfl ?_ | refine zaf PlF.h rfl hr7 rfl ?_); refine zae rfl ?_))
   refine zaa (za3 (j := 0) UnF.h SzF.h rfl hsl rfl rfl (by rw [hxa]; simp) fun q0 hq0 => ?_)
   rw [hca] at hq0
   refine zaa (zaq (k := 4) PlF.h hca4 (by decide) rfl hq0 ?_)
   refine zae rfl ?_
   refine zaa (za0 (c := ((d + 1 : Nat) : Int)) rfl rfl Ju ?_)
   refine zaa (zaj rfl rfl rfl (ih A a ca (d + 1) b H7 u7 _ _ hsa.1 hEa (fun a ha => kk7.off (hA a ha)) (hK.keep kk7.keep) W7 (by omega) (by rw [zau, zbf]; simp only [List.length_singleton]; omega) fun u8 H8 k8 W8 => ?_))
   have hlen := zgk (szE a + 1) a (by omega) (d + 1) ((s1.name x.name).put [[91]])
   rw [zau, zbf] at hlen
   simp only [List.length_singleton] at hlen
   refine zab (zaw ?_)
   refine zae rfl ?_
   refine zaa (zar (n := 1) ElF.h (by decide) rfl rfl fun H9 hk9 hr9 => ?_)
   refine zaa (zaj rfl rfl rfl (zb6 (ws := [[93]]) (W8.keep0 hk9) (IsRow.sl (es := 1) (n := 1) hr9 rfl (Nat.le_refl 1)) (by simp only [List.length_singleton]; omega) fun u10 H10 k10 W10 => ?_))
   exact zab ⟨_, rfl, hQ u10 H10 (kk7.trans (k8.trans ((Wk.of hk9).trans k10))) W10⟩
  rw [if_neg e4] at hQ hform
  (repeat ((refine zaa ?_; first | refine zai rfl ?_ | refine zat rfl rfl (by omega) ?_)))
  refine zab (zag rfl (zaw ?_))
  (repeat ((refine zaa ?_; first | refine zai rfl ?_ | refine zat rfl rfl (by omega) ?_)))
  refine zab (zag rfl (zac ?_))
  by_cases e5 : x.kind = 5
  ·rw [if_pos e5] at hQ hform
   obtain ⟨a, hxa⟩ : ∃ a, x.l = [a] := List.length_eq_one_iff.1 (by simp only [Bool.and_eq_true, decide_eq_true_eq] at hform; exact hform.2)
   simp only [hxa] at hQ
   have hsa : szE a < k ∧ sizE a + 1 ≤ sizE x ∧ szE a + 2 ≤ szE x := by
    have h1 : szE x = szEs x.l + 1 := by cases x; simp only [szE]; rfl
    have h2 := zie x
    rw [hxa] at h1 h2
    simp only [szEs, sizEs] at h1 h2
    omega
   (repeat ((refine zaa ?_; first | refine zai rfl ?_ | refine zax rfl rfl (by omega) ?_)))
   refine zab (zah rfl (zac ?_))
   refine zae rfl ?_; (repeat ((refine zaa ?_; first | refine zad FpF.h (by decide) rfl ?_ | refine zaf PlF.h rfl hr4 rfl ?_); refine zae rfl ?_))
   refine zaa (zar (n := 1) ElF.h (by decide) rfl rfl fun H6 hk6 hr6 => ?_)
   refine zaa (zaj rfl rfl rfl (zb6 (ws := [x.name]) (W4.keep0 hk6) (IsRow.sl (es := 1) (n := 1) hr6 rfl (Nat.le_refl 1)) (by simp only [List.length_singleton]; omega) fun u7 H7 k7 W7 => ?_))
   have kk47 : Wk b H4 u H7 u7 := (Wk.of hk6).trans k7
   refine zab (zac ?_)
   refine zae rfl ?_; (repeat ((refine zaa ?_; first | refine za5 rfl ?_ | refine zad FpF.h (by decide) rfl ?_ | refine zaf PlF.h rfl W7.row rfl ?_); refine zae rfl ?_))
   refine zaa (za0 (c := ((d + 1 : Nat) : Int)) rfl rfl Ju ?_)
   refine zaa (zo8 (m := ((max (s1.put [x.name]).most (d + 1) : Nat) : Int)) rfl rfl rfl rfl (by omega) ?_)
   refine zae rfl ?_; (repeat ((refine zaa ?_; first | refine za5 rfl ?_ | refine zad FpF.h (by decide) rfl ?_); refine zae rfl ?_))
   refine zaa (zcc SzF.h rfl rfl rfl W7.row (by simp) fun H8 hk8 hn8 hr8 => ?_)
   have k8 : Wk b H7 u7 H8 u7 := ⟨hk8.wide fun c hc => Or.inl hc, fun c hc => .inl hc⟩
   have W8 : Wr b H8 u7 ((s1.put [x.name]).deep (d + 1)) := ⟨hr8, W7.own.keep hk8 fun c hc h => W7.ne (h ▸ hc), W7.ne⟩
   have kk48 : Wk b H4 u H8 u7 := kk47.trans k8
   have kk8 : Wk b H u H8 u7 := kk.trans kk48
   have hr8' := kk48.row hoff4 hr4
   obtain ⟨els, hsl, hel⟩ := zbc (kk8.exps hA hL)
   obtain ⟨ca, hca, hEa⟩ := hel 0 a (by rw [hxa]; rfl)
   have hca4 : ca.length = 4 := by obtain ⟨_, h, _⟩ := hEa.out; rw [h]; rfl
   refine zab (zaw ?_)
   refine zae rfl ?_; (repeat ((refine zaa ?_; first | refine zad FpF.h (by decide) rfl ?_ | refine zaf PlF.h rfl hr8' rfl ?_); refine zae rfl ?_))
   refine zaa (za3 (j := 0) UnF.h SzF.h rfl hsl rfl rfl (by rw [hxa]; simp) fun q0 hq0 => ?_)
   rw [hca] at hq0
   refine zaa (zaq (k := 4) PlF.h hca4 (by decide) rfl hq0 ?_)
   refine zae rfl ?_
   refine zaa (za0 (c := ((d + 1 : Nat) : Int)) rfl rfl Ju ?_)
   refine zaa (zaj rfl rfl rfl (zh9 (k := k) (d := d + 1) ih hsa.1 hEa (fun a ha => kk8.off (hA a ha)) (hK.keep kk8.keep) W8 (by omega) (by rw [zce, zau]; simp only [List.length_singleton]; omega) fun u9 H9 k9 W9 => ?_))
   exact zab ⟨_, rfl, hQ u9 H9 (kk8.trans k9) W9⟩
  rw [if_neg e5] at hQ hform
  (repeat ((refine zaa ?_; first | refine zai rfl ?_ | refine zat rfl rfl (by omega) ?_)))
  refine zab (zag rfl (zac ?_))
  by_cases e6 : x.kind = 6
  ·rw [if_pos e6] at hQ hform
   obtain ⟨a, c2, hxa⟩ : ∃ a c2, x.l = [a, c2] := len2 (by simp only [Bool.and_eq_true, decide_eq_true_eq] at hform; exact hform.2)
   simp only [hxa] at hQ
   have hsa : szE a < k ∧ szE c2 < k ∧ sizE a + sizE c2 + 1 ≤ sizE x ∧ szE a + 2 ≤ szE x ∧ szE c2 + 2 ≤ szE x := by
    have h1 : szE x = szEs x.l + 1 := by cases x; simp only [szE]; rfl
    have h2 := zie x
    rw [hxa] at h1 h2
    simp only [szEs, sizEs] at h1 h2
    omega
   (repeat ((refine zaa ?_; first | refine zai rfl ?_ | refine zax rfl rfl (by omega) ?_)))
   refine zab (zah rfl (zac ?_))
   obtain ⟨els, hsl, hel⟩ := zbc (kk.exps hA hL)
   obtain ⟨ca, hca, hEa⟩ := hel 0 a (by rw [hxa]; rfl)
   have hca4 : ca.length = 4 := by obtain ⟨_, h, _⟩ := hEa.out; rw [h]; rfl
   refine zae rfl ?_; (repeat ((refine zaa ?_; first | refine zad FpF.h (by decide) rfl ?_ | refine zaf PlF.h rfl hr4 rfl ?_); refine zae rfl ?_))
   refine zaa (za3 (j := 0) UnF.h SzF.h rfl hsl rfl rfl (by rw [hxa]; simp) fun q0 hq0 => ?_)
   rw [hca] at hq0
   refine zaa (zaq (k := 4) PlF.h hca4 (by decide) rfl hq0 ?_)
   refine zae rfl ?_
   refine zaa (zaj rfl rfl rfl (zh9 (k := k) (d := d) ih hsa.1 hEa hA4 hK4 W4 (by omega) (by omega) fun u5 H5 k5 W5 => ?_))
   have hlen := zmz (zgk (szE a + 1) a (by omega)) d s1
   have hr5 := k5.row hoff4 hr4
   refine zab (zac ?_)
   refine zae rfl ?_; (repeat ((refine zaa ?_; first | refine zad FpF.h (by decide) rfl ?_ | refine zaf PlF.h rfl hr5 rfl ?_); refine zae rfl ?_))
   refine zaa (zar (n := 1) ElF.h (by decide) rfl rfl fun H6 hk6 hr6 => ?_)
   refine zaa (zaj rfl rfl rfl (zb6 (ws := [x.name]) (W5.keep0 hk6) (IsRow.sl (es := 1) (n := 1) hr6 rfl (Nat.le_refl 1)) (by simp only [List.length_singleton]; omega) fun u7 H7 k7 W7 => ?_))
   have kk47 : Wk b H4 u H7 u7 := k5.trans ((Wk.of hk6).trans k7)
   have kk7 : Wk b H u H7 u7 := kk.trans kk47
   have hr7 := kk47.row hoff4 hr4
   obtain ⟨els2, hsl2, hel2⟩ := zbc (kk7.exps hA hL)
   obtain ⟨cc, hcc, hEc⟩ := hel2 1 c2 (by rw [hxa]; rfl)
   have hcc4 : cc.length = 4 := by obtain ⟨_, h, _⟩ := hEc.out; rw [h]; rfl
   refine zab (zaw ?_)
   refine zae rfl ?_; (repeat ((refine zaa ?_; first | refine zad FpF.h (by decide) rfl ?_ | refine zaf PlF.h rfl hr7 rfl ?_); refine zae rfl ?_))
   refine zaa (za3 (j := 1) UnF.h SzF.h rfl hsl2 rfl rfl (by rw [hxa]; simp) fun q0 hq0 => ?_)
   rw [hcc] at hq0
   refine zaa (zaq (k := 4) PlF.h hcc4 (by decide) rfl hq0 ?_)
   refine zae rfl ?_
   refine zaa (zaj rfl rfl rfl (zh9 (k := k) (d := d) ih hsa.2.1 hEc (fun a ha => kk7.off (hA a ha)) (hK.keep kk7.keep) W7 (by omega) (by rw [zau]; simp only [List.length_singleton]; omega) fun u9 H9 k9 W9 => ?_))
   exact zab ⟨_, rfl, hQ u9 H9 (kk7.trans k9) W9⟩
  rw [if_neg e6] at hform
  cases hform
end
end Go.Proofs.YtbmedhaopnhggaaGreatDoor
