/-
  What the printer writes, in one: whether a tree has its form, its words, how deep it is (the writer's plain law, brought to its normal form).
-/
import Derived.Test.YtbmedhaopnhggaaGreatDoorWrS
namespace Go.Proofs.YtbmedhaopnhggaaGreatDoor
open Go Eng Tryz
abbrev Ws := List (List UInt8)
structure Eff (f : WS → WS) (ok : Bool) (ws : Ws) (d : Nat) : Prop where
 bad : ∀ s, s.bad = true → (f s).bad = true
 yes : ∀ s, s.bad = false → ok = true → f s = ⟨s.words ++ ws, false, max s.most d⟩
 no : ∀ s, s.bad = false → ok = false → (f s).bad = true
theorem Eff.put (ws : Ws) : Eff (fun s => s.put ws) true ws 0 := ⟨fun _ h => h, fun s h _ => by simp only [WS.put, h, Nat.max_zero], fun _ _ h => by cases h⟩
theorem Eff.need (ok : Bool) : Eff (fun s => s.need ok) ok [] 0 := ⟨fun s h => by simp [WS.need, h], fun s h e => by simp [WS.need, h, e], fun s h e => by simp [WS.need, h, e]⟩
theorem Eff.deep (d : Nat) : Eff (fun s => s.deep d) true [] d := ⟨fun _ h => h, fun s h _ => by simp [WS.deep, h], fun _ _ h => by cases h⟩
theorem Eff.id : Eff (fun s => s) true [] 0 := ⟨fun _ h => h, fun s h _ => by cases s; simp at h; simp [h], fun _ _ h => by cases h⟩
theorem Eff.seq {f g : WS → WS} {a b : Bool} {v w : Ws} {d e : Nat} (h : Eff f a v d) (k : Eff g b w e) : Eff (fun s => g (f s)) (a && b) (v ++ w) (max d e) := by
 refine ⟨fun s hs => k.bad _ (h.bad s hs), fun s hs hk => ?_, fun s hs hk => ?_⟩
 ·simp only [Bool.and_eq_true] at hk
  have h1 := h.yes s hs hk.1
  have h2 := k.yes (f s) (by rw [h1]) hk.2
  rw [h2, h1]
  simp [Nat.max_assoc]
 ·cases ha : a with
  | false => exact k.bad _ (h.no s hs ha)
  | true => rw [ha, Bool.true_and] at hk; exact k.no _ (by rw [h.yes s hs ha]) hk
theorem Eff.guard {f g : WS → WS} {a b : Bool} {v w : Ws} {d e : Nat} (h : Eff f a v d) (k : Eff g b w e) : Eff (fun s => if (f s).bad = true then f s else g (f s)) (a && b) (v ++ w) (max d e) := by
 refine ⟨fun s hs => ?_, fun s hs hk => ?_, fun s hs hk => ?_⟩
 ·rw [if_pos (h.bad s hs)]; exact h.bad s hs
 ·have ha : a = true := by simp only [Bool.and_eq_true] at hk; exact hk.1
  have h1 := h.yes s hs ha
  rw [if_neg (by rw [h1]; simp)]
  exact (h.seq k).yes s hs hk
 ·by_cases hb : (f s).bad = true
  ·rw [if_pos hb]; exact hb
  ·rw [if_neg hb]; exact (h.seq k).no s hs hk
theorem Eff.of {f g : WS → WS} {a b : Bool} {v w : Ws} {d e : Nat} (h : Eff f a v d) (hf : ∀ s, f s = g s) (ha : a = b) (hv : v = w) (hd : d = e) : Eff g b w e := by
 have : f = g := funext hf
 subst this ha hv hd
 exact h
theorem Eff.name (n : List UInt8) : Eff (fun s => s.name n) (nameB n) [n] 0 := by
 exact Eff.of ((Eff.need (nameB n)).seq (Eff.put [n])) (fun _ => rfl) (by simp) (by simp) (by simp)
mutual
def okE : Exp → Bool
 | .mk k n z l => plainE (.mk k n z l) && (if k = 3 ∨ k = 4 then nameB n else true) && (if k = 4 ∨ k = 5 ∨ k = 6 then okEs l else true)
def okEs : List Exp → Bool
 | [] => true
 | x :: l => okE x && okEs l
end
mutual
def wdE : Exp → Ws
 | .mk k n z l => if k = 1 then [textZ z] else if k = 2 then [if z = 1 then [116, 114, 117, 101] else [102, 97, 108, 115, 101]] else if k = 3 then [n] else if k = 4 then [n, [91]] ++ wdE0 l ++ [[93]] else if k = 5 then n :: wdO0 l else if k = 6 then wdO0 l ++ n :: wdO1 l else []
def wdE0 : List Exp → Ws
 | [] => []
 | x :: _ => wdE x
def wdO0 : List Exp → Ws
 | [] => []
 | x :: _ => if x.kind = 6 then [[40]] ++ wdE x ++ [[41]] else wdE x
def wdO1 : List Exp → Ws
 | [] => []
 | _ :: l => wdO0 l
end
def wdO (x : Exp) : Ws := if x.kind = 6 then [[40]] ++ wdE x ++ [[41]] else wdE x
mutual
def dpE : Exp → Nat → Nat
 | .mk k _ _ l, d => if k = 4 then max d (dpE0 l (d + 1)) else if k = 5 then max d (max (d + 1) (dpO0 l (d + 1))) else if k = 6 then max d (max (dpO0 l d) (dpO1 l d)) else d
def dpE0 : List Exp → Nat → Nat
 | [], _ => 0
 | x :: _, d => dpE x d
def dpO0 : List Exp → Nat → Nat
 | [], _ => 0
 | x :: _, d => if x.kind = 6 then dpE x (d + 1) else dpE x d
def dpO1 : List Exp → Nat → Nat
 | [], _ => 0
 | _ :: l, d => dpO0 l d
end
def dpO (x : Exp) (d : Nat) : Nat := if x.kind = 6 then dpE x (d + 1) else dpE x d
theorem zpi {x : Exp} (h : ∀ d, Eff (wE x d) (okE x) (wdE x) (dpE x d)) (d : Nat) : Eff (wOp x d) (okE x) (wdO x) (dpO x d) := by
 unfold wOp wdO dpO
 by_cases e : x.kind = 6
 ·simp only [if_pos e]
  exact (((Eff.put [[40]]).seq (h (d + 1))).seq (Eff.put [[41]])).of (fun _ => rfl) (by simp) (by simp) (by simp)
 ·simp only [if_neg e]
  exact h d
theorem zl6 (k : Int) (n : List UInt8) (z : Int) (l : List Exp) : formE (.mk k n z l) = (if k = 1 then decide (0 ≤ z) && decide (l.length = 0) else if k = 2 then (decide (z = 0) || decide (z = 1)) && decide (l.length = 0) else if k = 3 then decide (l.length = 0) else if k = 4 then decide (l.length = 1)
 else if k = 5 then (decide (n = [45]) || decide (n = [33])) && decide (l.length = 1) else if k = 6 then decide (0 < levB n) && decide (l.length = 2) else false) := rfl
def wE1 (kd : Int) (n : List UInt8) (z : Int) (l : List Exp) (d : Nat) (s : WS) : WS :=
 if kd = 1 then s.put [textZ z]
 else if kd = 2 then s.put [if z = 1 then [116, 114, 117, 101] else [102, 97, 108, 115, 101]] else if kd = 3 then s.name n
 else if kd = 4 then (match l with | a :: _ => (wE a (d + 1) ((s.name n).put [[91]])).put [[93]] | [] => s)
 else if kd = 5 then (match l with | a :: _ => wOp a (d + 1) ((s.put [n]).deep (d + 1)) | [] => s)
 else if kd = 6 then (match l with | a :: c :: _ => wOp c d ((wOp a d s).put [n]) | _ => s) else s
theorem wE_eq1 (k : Int) (n : List UInt8) (z : Int) (l : List Exp) (d : Nat) (s : WS) : wE (.mk k n z l) d s = if ((s.deep d).need (plainE (.mk k n z l))).bad = true then (s.deep d).need (plainE (.mk k n z l)) else wE1 k n z l d ((s.deep d).need (plainE (.mk k n z l))) := zvd k n z l d s
theorem wE_eff : ∀ (k : Nat) (x : Exp), szE x < k → ∀ d, Eff (wE x d) (okE x) (wdE x) (dpE x d)
 | 0, _, h, _ => by omega
 | k + 1, .mk kd n z l, h, d => by
  have ih := fun (a : Exp) (ha : a ∈ l) => wE_eff k a (by have := zd0 ha; simp only [szE] at h; omega)
  have hf : ∀ (b : Bool) (w : Ws) (e : Nat), Eff (wE1 kd n z l d) b w e →
   okE (.mk kd n z l) = (plainE (.mk kd n z l) && b) → wdE (.mk kd n z l) = w → dpE (.mk kd n z l) d = max d e → Eff (wE (.mk kd n z l) d) (okE (.mk kd n z l)) (wdE (.mk kd n z l)) (dpE (.mk kd n z l) d) := by
   intro b w e hE h1 h2 h3
   have h0 := ((Eff.deep d).seq (Eff.need (plainE (.mk kd n z l)))).guard hE
   exact h0.of (fun s => (wE_eq1 kd n z l d s).symm) (by rw [h1]; simp) (by rw [h2]; simp) (by rw [h3]; simp)
  by_cases hpl : plainE (.mk kd n z l) = true
  rotate_left
  ·have hpl : plainE (.mk kd n z l) = false := by simpa using hpl
   have hok : okE (.mk kd n z l) = false := by simp [okE, hpl]
   have hb : ∀ s : WS, ((s.deep d).need (plainE (.mk kd n z l))).bad = true := fun s => by simp [WS.need, hpl]
   rw [hok]
   exact ⟨fun s _ => by rw [zvd, if_pos (hb s)]; exact hb s, fun _ _ h => (by cases h), fun s _ _ => by rw [zvd, if_pos (hb s)]; exact hb s⟩
  have hform : formE (.mk kd n z l) = true := by simp only [plainE, Bool.and_eq_true] at hpl; exact hpl.2
  rw [zl6] at hform
  by_cases e1 : kd = 1
  ·subst e1
   exact hf true [textZ z] 0 ((Eff.put [textZ z]).of (fun s => rfl) rfl rfl rfl) (by simp [okE]) (by simp [wdE]) (by simp [dpE])
  rw [if_neg e1] at hform
  by_cases e2 : kd = 2
  ·subst e2
   exact hf true _ 0 ((Eff.put [if z = 1 then [116, 114, 117, 101] else [102, 97, 108, 115, 101]]).of (fun s => rfl) rfl rfl rfl) (by simp [okE]) (by simp [wdE]) (by simp [dpE])
  rw [if_neg e2] at hform
  by_cases e3 : kd = 3
  ·subst e3
   exact hf (nameB n) _ 0 ((Eff.name n).of (fun s => rfl) rfl rfl rfl) (by simp [okE]) (by simp [wdE]) (by simp [dpE])
  rw [if_neg e3] at hform
  by_cases e4 : kd = 4
  ·subst e4
   obtain ⟨a, rfl⟩ : ∃ a, l = [a] := List.length_eq_one_iff.1 (of_decide_eq_true hform)
   exact hf _ _ _ (((((Eff.name n).seq (Eff.put [[91]])).seq (ih a (by simp) (d + 1))).seq (Eff.put [[93]])).of (fun s => rfl) rfl rfl rfl) (by simp [okE, okEs, Bool.and_assoc]) (by simp [wdE, wdE0]) (by simp [dpE, dpE0])
  rw [if_neg e4] at hform
  by_cases e5 : kd = 5
  ·subst e5
   obtain ⟨a, rfl⟩ : ∃ a, l = [a] := List.length_eq_one_iff.1 (by simp only [if_true, Bool.and_eq_true, decide_eq_true_eq] at hform; exact hform.2)
   exact hf _ _ _ ((((Eff.put [n]).seq (Eff.deep (d + 1))).seq (zpi (fun d => ih a (by simp) d) (d + 1))).of (fun s => rfl) rfl rfl rfl) (by simp [okE, okEs]) (by simp [wdE, wdO0, wdO]) (by simp [dpE, dpO0, dpO])
  rw [if_neg e5] at hform
  by_cases e6 : kd = 6
  ·subst e6
   obtain ⟨a, c, rfl⟩ := len2 (l := l) (by simp only [if_true, Bool.and_eq_true, decide_eq_true_eq] at hform; exact hform.2)
   exact hf _ _ _ ((((zpi (fun d => ih a (by simp) d) d).seq (Eff.put [n])).seq (zpi (fun d => ih c (by simp) d) d)).of (fun s => rfl) rfl rfl rfl) (by simp [okE, okEs]) (by simp [wdE, wdO0, wdO1, wdO]) (by simp [dpE, dpO0, dpO1, dpO])
  rw [if_neg e6] at hform
  cases hform
theorem wE_eff' (x : Exp) (d : Nat) : Eff (wE x d) (okE x) (wdE x) (dpE x d) := wE_eff (szE x + 1) x (by omega) d
def wdEs : List Exp → Ws
 | [] => []
 | x :: l => wdE x ++ wdEs l
def dpEs (d : Nat) : List Exp → Nat
 | [] => 0
 | x :: l => max (dpE x d) (dpEs d l)
theorem zve (d : Nat) : ∀ l : List Exp, Eff (wEs d l) (okEs l) (wdEs l) (dpEs d l)
 | [] => Eff.id.of (fun _ => rfl) (by simp [okEs]) rfl rfl
 | x :: l => ((wE_eff' x d).seq (zve d l)).of (fun _ => rfl) (by simp [okEs]) rfl rfl
def wdAs : List Exp → Nat → Ws
 | [], _ => []
 | x :: l, i => (if 0 < i then [[44]] else []) ++ wdE x ++ wdAs l (i + 1)
theorem zkt (d : Nat) : ∀ (l : List Exp) (i : Nat), Eff (wArgs d l i) (okEs l) (wdAs l i) (dpEs d l)
 | [], _ => Eff.id.of (fun _ => rfl) (by simp [okEs]) rfl rfl
 | x :: l, i => by
  by_cases h : 0 < i
  ·exact (((Eff.put [[44]]).seq (wE_eff' x d)).seq (zkt d l (i + 1))).of (fun s => by simp [wArgs, wArg, h]) (by simp [okEs]) (by simp [wdAs, h]) (by simp [dpEs])
  ·exact ((wE_eff' x d).seq (zkt d l (i + 1))).of (fun s => by simp [wArgs, wArg, h]) (by simp [okEs]) (by simp [wdAs, h]) (by simp [dpEs])
def wdL (l : List Exp) : Ws := [[40]] ++ wdAs l 0 ++ [[41]]
theorem zvf (l : List Exp) (d : Nat) : Eff (wList l d) (okEs l) (wdL l) (dpEs d l) :=
 (((Eff.put [[40]]).seq (zkt d l 0)).seq (Eff.put [[41]])).of (fun _ => rfl) (by simp) rfl (by simp)
def wdDecl (x : Stm) : Ws := [118, 97, 114] :: ((if x.num = -1 then [[98, 111, 111, 108]] else []) ++ x.name :: (if 0 < x.num then [[91], textZ x.num, [93]] else []))
theorem zvc (x : Stm) : Eff (wDecl x) (nameB x.name) (wdDecl x) 0 := by
 have h1 := Eff.put [[118, 97, 114]]
 have h2 := h1.seq (Eff.put [[98, 111, 111, 108]])
 have n := Eff.name x.name
 have h3 := Eff.put [[91], textZ x.num, [93]]
 unfold wDecl wdDecl
 by_cases a : x.num = -1 <;> by_cases b : 0 < x.num
 ·omega
 ·exact (h2.seq n).of (fun s => by simp [a, b]) (by simp) (by simp [a, b]) (by simp)
 ·exact ((h1.seq n).seq h3).of (fun s => by simp [a, b]) (by simp) (by simp [a, b]) (by simp)
 ·exact (h1.seq n).of (fun s => by simp [a, b]) (by simp) (by simp [a, b]) (by simp)
mutual
def okS : Stm → Bool
 | .mk k n p z e b f => fitsB (.mk k n p z e b f) && (if k = 1 ∨ k = 2 ∨ k = 3 ∨ k = 9 then nameB n else if k = 6 then (decide (n = []) || nameB n) && nameB p else true) && okEs e && okSs b && okSs f
def okSs : List Stm → Bool
 | [] => true
 | x :: l => okS x && okSs l
end
def wdE1 : List Exp → Ws
 | [] => []
 | _ :: l => wdE0 l
mutual
def wdS : Stm → Ws
 | .mk k n p z e b f =>
  if k = 4 ∨ k = 5 then [wordB k, [40]] ++ wdE0 e ++ [[41], [123]] ++ wdSs b ++ [[125]] ++ (if f.length = 0 then [] else [[101, 108, 115, 101], [123]] ++ wdSs f ++ [[125]])
  else if k = 1 then wdDecl (.mk k n p z e b f) ++ [[59]]
  else if k = 6 then (if n = [] then [] else [n, [61]]) ++ [p] ++ wdL e ++ [[59]]
  else if k = 2 then [n, [61]] ++ wdE0 e ++ [[59]]
  else if k = 3 then [n, [91]] ++ wdE0 e ++ [[93], [61]] ++ wdE1 e ++ [[59]]
  else if k = 9 then [[114, 101, 97, 100], n, [59]]
  else [wordB k] ++ wdEs e ++ [[59]]
def wdSs : List Stm → Ws
 | [] => []
 | x :: l => wdS x ++ wdSs l
end
mutual
def dpS : Stm → Nat → Nat
 | .mk _ _ _ _ e b f, d => max d (max (dpEs (d + 1) e) (max (dpSs b (d + 1)) (dpSs f (d + 1))))
def dpSs : List Stm → Nat → Nat
 | [], _ => 0
 | x :: l, d => max (dpS x d) (dpSs l d)
end
theorem zig {l : List Stm} {d : Nat} (h : Eff (wSts l d) (okSs l) (wdSs l) (dpSs l d)) : Eff (wBlock l d) (okSs l) ([[123]] ++ wdSs l ++ [[125]]) (dpSs l d) :=
 (((Eff.put [[123]]).seq h).seq (Eff.put [[125]])).of (fun _ => rfl) (by simp) (by simp) (by simp)
mutual
theorem zpj : ∀ (x : Stm) (d : Nat), Eff (wSt x d) (okS x) (wdS x) (dpS x d)
 | .mk k n p z e b f, d => by
  have hb := zig (zje b (d + 1))
  have hf := zig (zje f (d + 1))
  by_cases hfit : fitsB (.mk k n p z e b f) = true
  rotate_left
  ·have hpl : fitsB (.mk k n p z e b f) = false := by simpa using hfit
   have hok : okS (.mk k n p z e b f) = false := by simp [okS, hpl]
   have hb : ∀ s : WS, ((s.deep d).need (fitsB (.mk k n p z e b f))).bad = true := fun s => by simp [WS.need, hpl]
   rw [hok]
   exact ⟨fun s _ => by rw [zez _ _ _ _ _ _ _ _ _ _ rfl, if_pos (hb s)]; exact hb s, fun _ _ h => (by cases h), fun s _ _ => by rw [zez _ _ _ _ _ _ _ _ _ _ rfl, if_pos (hb s)]; exact hb s⟩
  obtain ⟨f1, f2, f3, f4, f5, f6, f7, _⟩ := zd9 hfit
  simp only [Stm.kind, Stm.e, Stm.els, Stm.body] at f1 f2 f3 f4 f5 f6 f7
  have hG : ∀ (g : WS → WS) (ok : Bool) (w : Ws) (m : Nat), (∀ s, (if ((s.deep d).need (fitsB (.mk k n p z e b f))).bad = true then ((s.deep d).need (fitsB (.mk k n p z e b f))) else g ((s.deep d).need (fitsB (.mk k n p z e b f)))) = wSt (.mk k n p z e b f) d s) → Eff g ok w m →
   okS (.mk k n p z e b f) = ok → wdS (.mk k n p z e b f) = w → dpS (.mk k n p z e b f) d = max d m → Eff (wSt (.mk k n p z e b f) d) (okS (.mk k n p z e b f)) (wdS (.mk k n p z e b f)) (dpS (.mk k n p z e b f) d) := by
   intro g ok w m hg hE h1 h2 h3
   have h0 := ((Eff.deep d).seq (Eff.need (fitsB (.mk k n p z e b f)))).guard hE
   exact h0.of hg (by rw [h1, hfit]; simp) (by rw [h2]; simp) (by rw [h3]; simp)
  by_cases k45 : k = 4 ∨ k = 5
  ·obtain ⟨a, rfl⟩ := f1 k45
   have ha := wE_eff' a (d + 1)
   have hk1 : ¬ (k = 1 ∨ k = 2 ∨ k = 3 ∨ k = 9) := by omega
   have hk6 : k ≠ 6 := by omega
   by_cases hl : f.length = 0
   ·have hl' : f = [] := List.length_eq_zero_iff.1 hl
    subst hl'
    refine hG _ _ _ _ (fun s => ?_) ((((Eff.put [wordB k, [40]]).seq ha).seq (Eff.put [[41]])).seq hb) ?_ ?_ ?_
    ·rw [zez _ _ _ _ _ _ _ _ _ _ rfl]; simp [k45]
    ·simp [okS, hfit, hk1, hk6, okEs, okSs]
    ·simp [wdS, k45, wdE0]
    ·simp [dpS, dpEs, dpSs]
   ·refine hG _ _ _ _ (fun s => ?_) ((((((Eff.put [wordB k, [40]]).seq ha).seq (Eff.put [[41]])).seq hb).seq (Eff.put [[101, 108, 115, 101]])).seq hf) ?_ ?_ ?_
    ·rw [zez _ _ _ _ _ _ _ _ _ _ rfl]; simp [k45, hl]
    ·simp [okS, hfit, hk1, hk6, okEs]
    ·simp [wdS, k45, wdE0, hl]
    ·simp [dpS, dpEs, Nat.max_assoc]
  have hb0 : b = [] := f6 (by omega)
  have hf0 : f = [] := f5 (by omega)
  subst hb0 hf0
  by_cases k1 : k = 1
  ·subst k1
   have he : e = [] := f4 (.inl rfl)
   subst he
   refine hG _ _ _ _ (fun s => ?_) ((zvc (.mk 1 n p z [] [] [])).seq (Eff.put [[59]])) ?_ ?_ ?_
   ·rw [zez _ _ _ _ _ _ _ _ _ _ rfl]; simp
   ·simp [okS, hfit, okEs, okSs, Stm.name]
   ·simp [wdS]
   ·simp [dpS, dpEs, dpSs]
  by_cases k6 : k = 6
  ·subst k6
   have hl := zvf e (d + 1)
   by_cases hn : n = []
   ·subst hn
    refine hG _ _ _ _ (fun s => ?_) (((Eff.name p).seq hl).seq (Eff.put [[59]])) ?_ ?_ ?_
    ·rw [zez _ _ _ _ _ _ _ _ _ _ rfl]; simp
    ·simp [okS, hfit, okSs]
    ·simp [wdS]
    ·simp [dpS, dpSs]
   ·refine hG _ _ _ _ (fun s => ?_) (((((Eff.name n).seq (Eff.put [[61]])).seq (Eff.name p)).seq hl).seq (Eff.put [[59]])) ?_ ?_ ?_
    ·rw [zez _ _ _ _ _ _ _ _ _ _ rfl]; simp [hn]
    ·simp [okS, hfit, okSs, hn]
    ·simp [wdS, hn]
    ·simp [dpS, dpSs]
  by_cases k2 : k = 2
  ·subst k2
   obtain ⟨a, rfl⟩ := f2 rfl
   refine hG _ _ _ _ (fun s => ?_) ((((Eff.name n).seq (Eff.put [[61]])).seq (wE_eff' a (d + 1))).seq (Eff.put [[59]])) ?_ ?_ ?_
   ·rw [zez _ _ _ _ _ _ _ _ _ _ rfl]; simp
   ·simp [okS, hfit, okEs, okSs]
   ·simp [wdS, wdE0]
   ·simp [dpS, dpEs, dpSs]
  by_cases k3 : k = 3
  ·subst k3
   obtain ⟨a, c, rfl⟩ := f3 rfl
   refine hG _ _ _ _ (fun s => ?_) (((((((Eff.name n).seq (Eff.put [[91]])).seq (wE_eff' a (d + 1))).seq (Eff.put [[93]])).seq (Eff.put [[61]])).seq (wE_eff' c (d + 1))).seq (Eff.put [[59]])) ?_ ?_ ?_
   ·rw [zez _ _ _ _ _ _ _ _ _ _ rfl]; simp
   ·simp [okS, hfit, okEs, okSs, Bool.and_assoc]
   ·simp [wdS, wdE0, wdE1]
   ·simp [dpS, dpEs, dpSs]
  by_cases k9 : k = 9
  ·subst k9
   have he : e = [] := f4 (.inr rfl)
   subst he
   refine hG _ _ _ _ (fun s => ?_) (((Eff.put [[114, 101, 97, 100]]).seq (Eff.name n)).seq (Eff.put [[59]])) ?_ ?_ ?_
   ·rw [zez _ _ _ _ _ _ _ _ _ _ rfl]; simp
   ·simp [okS, hfit, okEs, okSs]
   ·simp [wdS]
   ·simp [dpS, dpEs, dpSs]
  have hk1 : ¬ (k = 1 ∨ k = 2 ∨ k = 3 ∨ k = 9) := by omega
  refine hG _ _ _ _ (fun s => ?_) (((Eff.put [wordB k]).seq (zve (d + 1) e)).seq (Eff.put [[59]])) ?_ ?_ ?_
  ·rw [zez _ _ _ _ _ _ _ _ _ _ rfl]; simp [k45, k1, k6, k2, k3, k9]
  ·simp [okS, hfit, okSs, k1, k6, k2, k3, k9]
  ·simp [wdS, k45, k1, k6, k2, k3, k9]
  ·simp [dpS, dpSs]
theorem zje : ∀ (l : List Stm) (d : Nat), Eff (wSts l d) (okSs l) (wdSs l) (dpSs l d)
 | [], _ => Eff.id.of (fun _ => by simp [wSts]) (by simp [okSs]) (by simp [wdSs]) (by simp [dpSs])
 | x :: l, d => ((zpj x d).seq (zje l d)).of (fun _ => by simp [wSts]) (by simp [okSs]) (by simp [wdSs]) (by simp [dpSs])
end
def okT (t : Int) : Bool := decide (t = 1) || decide (t = 2)
def wdT (t : Int) : List UInt8 := if t = 1 then [105, 110, 116] else [98, 111, 111, 108]
theorem zk0 (t : Int) : Eff (wType t) (okT t) [wdT t] 0 := ((Eff.need (okT t)).seq (Eff.put [wdT t])).of (fun _ => rfl) (by simp) (by simp) (by simp)
def okMs : List Prm → Bool
 | [] => true
 | x :: l => okT x.type && nameB x.name && okMs l
def wdMs : List Prm → Nat → Ws
 | [], _ => []
 | x :: l, i => (if 0 < i then [[44]] else []) ++ [wdT x.type, x.name] ++ wdMs l (i + 1)
theorem zkx : ∀ (l : List Prm) (i : Nat), Eff (wPrms l i) (okMs l) (wdMs l i) 0
 | [], _ => Eff.id.of (fun _ => rfl) rfl rfl rfl
 | x :: l, i => by
  have h1 := ((zk0 x.type).seq (Eff.name x.name)).seq (zkx l (i + 1))
  by_cases h : 0 < i
  ·exact (((Eff.put [[44]]).seq ((zk0 x.type).seq (Eff.name x.name))).seq (zkx l (i + 1))).of (fun s => by simp [wPrms, wPrm, h]) (by simp [okMs]) (by simp [wdMs, h]) (by simp)
  ·exact h1.of (fun s => by simp [wPrms, wPrm, h]) (by simp [okMs]) (by simp [wdMs, h]) (by simp)
def okH (p : Prc) : Bool := nameB p.name && okMs p.params && (decide (p.type = 0) || okT p.type)
def wdH (p : Prc) : Ws := [[112, 114, 111, 99], p.name, [40]] ++ wdMs p.params 0 ++ [[41]] ++ (if p.type = 0 then [] else [wdT p.type])
theorem zkv (p : Prc) : Eff (wHead p) (okH p) (wdH p) 0 := by
 have h := ((((Eff.put [[112, 114, 111, 99]]).seq (Eff.name p.name)).seq (Eff.put [[40]])).seq (zkx p.params 0)).seq (Eff.put [[41]])
 unfold wHead okH wdH
 by_cases a : p.type = 0
 ·exact h.of (fun s => by simp [a]) (by simp [a]) (by simp [a]) (by simp)
 ·exact (h.seq (zk0 p.type)).of (fun s => by simp [a]) (by simp [a]) (by simp [a]) (by simp)
def okP (p : Prc) : Bool := okH p && okSs p.body
def wdP (p : Prc) : Ws := wdH p ++ [[123]] ++ wdSs p.body ++ [[125]]
theorem zvg (p : Prc) : Eff (wProc p) (okP p) (wdP p) (dpSs p.body 1) :=
 ((zkv p).seq (zig (zje p.body 1))).of (fun _ => rfl) rfl (by simp [wdP]) (by simp)
def okPs : List Prc → Bool
 | [] => true
 | x :: l => okP x && okPs l
def wdPs : List Prc → Ws
 | [] => []
 | x :: l => wdP x ++ wdPs l
def dpPs : List Prc → Nat
 | [] => 0
 | x :: l => max (dpSs x.body 1) (dpPs l)
theorem zlo : ∀ l : List Prc, Eff (wProcs l) (okPs l) (wdPs l) (dpPs l)
 | [] => Eff.id.of (fun _ => rfl) rfl rfl rfl
 | x :: l => ((zvg x).seq (zlo l)).of (fun _ => rfl) rfl rfl rfl
end Go.Proofs.YtbmedhaopnhggaaGreatDoor
