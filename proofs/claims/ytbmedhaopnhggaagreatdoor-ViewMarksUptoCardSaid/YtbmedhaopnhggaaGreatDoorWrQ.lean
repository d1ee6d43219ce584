/-
  The printer's procedures and what it answers (syntax.writer.proc, done, Print, PrintExpr), walked. Conditions: how large the program is.
-/
import Derived.Test.YtbmedhaopnhggaaGreatDoorWrT
import Derived.Test.YtbmedhaopnhggaaGreatDoorWrN
namespace Go.Proofs.YtbmedhaopnhggaaGreatDoor
open Go Eng Tryz
set_option maxHeartbeats 0
instance ipl_87 : PlF prog 87 ⟨0, true, 2⟩ := ⟨by kernel_rfl⟩
instance ize_87 : ZeF prog 87 (.agg [.str 0 0, .int .i64 0]) := ⟨by kernel_rfl⟩
instance ifp_87_1 : FpF prog 87 1 ⟨1, false, 1⟩ := ⟨by kernel_rfl⟩
instance ifp_74_2 : FpF prog 74 2 ⟨2, false, 1⟩ := ⟨by kernel_rfl⟩
instance ize_150 : ZeF prog 150 (.agg [.nils, .bool false, .int .i64 0]) := ⟨by kernel_rfl⟩
instance ibs_150 : BsF prog 150 := ⟨by kernel_rfl⟩
instance ipl_74 : PlF prog 74 ⟨0, true, 4⟩ := ⟨by kernel_rfl⟩
instance ize_74 : ZeF prog 74 (.agg [.str 0 0, .nils, .int .i64 0, .nils]) := ⟨by kernel_rfl⟩
def v57k0h1 : CV := Jt [Jd 24 4, Jc 25 (.binOp .gtr 3 (Ja 24) (Jb 0) 3)] (.cond (Ja 25) (.reg [Jd 26 0, Jc 27 (.buildSlice 49 1 #[(0, (.const (.string ⟨⟨[44]⟩⟩)))]), Jo 28 104 26 27 148 49]) (.skip))
def v57k0t2 : CV := Jt [Jd 29 0, Jg 30 87 5 1, Jf 31 3 30, Jo 32 106 29 31 148 3] (.reg [Jd 33 0, Jg 34 87 5 0, Jf 35 9 34, Jo 36 105 33 35 148 9])
def v57k0t1 : CV := .seq v57k0h1 v57k0t2
def v57k0 : CV := Jt [Jd 21 19, Jk 22 71 17 19, Jf 23 87 22, Jc 5 (.alloc 87), Jh 4 21, .op none (.store 87 (Ja 5) (Ja 23))] v57k0t1
def v57l0t2 : CV := .seq (.block 1 v57k0) (.reg [Jc 37 (.binOp .add 3 (Ja 19) (Jb 1) 3), Jd 19 37])
def v57l0t1 : CV := .seq (.cond (Ja 20) (.skip) (.exit 0)) v57l0t2
def v57l0 : CV := Jt [Jc 20 (.binOp .lss 3 (Ja 19) (Ja 18) 3)] v57l0t1
def v57h4 : CV := Jt [Jg 16 74 3 1, Jf 17 71 16, Jj 18 17 71, Je 19 0] (.block 0 (.loop v57l0))
def v57h6 : CV := Jt [Jg 41 74 3 2, Jf 42 3 41, Jc 43 (.binOp .neq 3 (Ja 42) (Jb 0) 3)] (.cond (Ja 43) (.reg [Jd 44 0, Jg 45 74 3 2, Jf 46 3 45, Jo 47 106 44 46 148 3]) (.skip))
def v57t6 : CV := .seq v57h6 (.reg [Jd 48 0, Jg 49 74 3 3, Jf 50 72 49, Jc 51 (.call ⟨.value (.func 107), #[(Ja 48), (Ja 50), (Jb 1)], #[148, 72, 3]⟩)])
def v57t5 : CV := Jt [Jd 38 0, Jc 39 (.buildSlice 49 1 #[(0, (.const (.string ⟨⟨[41]⟩⟩)))]), Jo 40 104 38 39 148 49] v57t6
def v57t4 : CV := .seq v57h4 v57t5
def v57t3 : CV := Jt [Jd 13 0, Jc 14 (.buildSlice 49 1 #[(0, (.const (.string ⟨⟨[40]⟩⟩)))]), Jo 15 104 13 14 148 49] v57t4
def v57t2 : CV := Jt [Jd 9 0, Jg 10 74 3 0, Jf 11 9 10, Jo 12 105 9 11 148 9] v57t3
def v57t1 : CV := Jt [Jd 6 0, Jc 7 (.buildSlice 49 1 #[(0, (.const (.string ⟨⟨[112, 114, 111, 99]⟩⟩)))]), Jo 8 104 6 7 148 49] v57t2
def v57 : CV := Jt [Jc 3 (.box 74 (Ja 1))] v57t1
noncomputable def b57 : Code := f57.body.getD .skip
theorem b57_eq : f57.body = some b57 := by kernel_rfl
theorem v57_eq : viewC prog b57 = some v57 := by kernel_rfl
theorem r57_eq : f57.results.toList = [] := by kernel_rfl
def v58c0 : CV := Jt [Jc 2 (.assign (.const (.string ⟨⟨[]⟩⟩))), Ji 3 32] (.ret)
def v58c2 : CV := Jt [Jc 2 (.assign (.const (.string ⟨⟨[]⟩⟩))), Ji 3 31] (.ret)
def v58c1 : CV := Jt [Jd 10 0, Jm 11 10, Jg 12 150 11 2, Jf 13 3 12, Jc 14 (.binOp .gtr 3 (Ja 13) (Jb 60) 3), Jh 9 14] (.cond (Ja 9) v58c2 (.skip))
def v58k0 : CV := Jt [Jd 5 0, Jm 6 5, Jg 7 150 6 1, Jf 8 4 7, Jh 4 8] (.cond (Ja 4) v58c0 v58c1)
def v58t2 : CV := Jt [Jd 15 0, Jm 16 15, Jg 17 150 16 0, Jf 18 49 17, Jn 19 33 18 49, Jh 2 19, Ji 3 0] (.ret)
def v58t1 : CV := .seq (.block 0 v58k0) v58t2
def v58 : CV := Jt [Jc 2 (.assign (.const (.string ⟨⟨[]⟩⟩))), Ji 3 0] v58t1
noncomputable def b58 : Code := f58.body.getD .skip
theorem b58_eq : f58.body = some b58 := by kernel_rfl
theorem v58_eq : viewC prog b58 = some v58 := by kernel_rfl
theorem r58_eq : f58.results.toList = [.tmp 2, .tmp 3] := by kernel_rfl
def v19k0 : CV := Jt [Jk 14 22 10 12, Jf 15 74 14, Jc 6 (.alloc 74), .op none (.store 74 (Ja 6) (Ja 15))] (.reg [Jd 16 4, Jf 17 74 6, Jo 18 57 16 17 148 74])
def v19l0t2 : CV := .seq (.block 1 v19k0) (.reg [Jc 19 (.binOp .add 3 (Ja 12) (Jb 1) 3), Jd 12 19])
def v19l0t1 : CV := .seq (.cond (Ja 13) (.skip) (.exit 0)) v19l0t2
def v19l0 : CV := Jt [Jc 13 (.binOp .lss 3 (Ja 12) (Ja 11) 3)] v19l0t1
def v19h2 : CV := Jt [Jg 9 24 1 0, Jf 10 22 9, Jj 11 10 22, Je 12 0] (.block 0 (.loop v19l0))
def v19t3 : CV := Jt [Jd 20 4, Jn 21 58 20 148, Jl 22 21 0, Jl 23 21 1, Jh 2 22, Jh 3 23] (.ret)
def v19t2 : CV := .seq v19h2 v19t3
def v19t1 : CV := Jt [Jc 7 (.build 150 #[]), Jc 8 (.box 150 (Ja 7)), Jh 4 8] v19t2
def v19 : CV := Jt [Jc 1 (.box 24 (Ja 0)), Jc 2 (.assign (.const (.string ⟨⟨[]⟩⟩))), Ji 3 0] v19t1
noncomputable def b19 : Code := f19.body.getD .skip
theorem b19_eq : f19.body = some b19 := by kernel_rfl
theorem v19_eq : viewC prog b19 = some v19 := by kernel_rfl
theorem r19_eq : f19.results.toList = [.tmp 2, .tmp 3] := by kernel_rfl
def v176t3 : CV := Jt [Jd 10 4, Jn 11 58 10 148, Jl 12 11 0, Jl 13 11 1, Jh 2 12, Jh 3 13] (.ret)
def v176t2 : CV := Jt [Jd 7 4, Jf 8 180 1, Jc 9 (.call ⟨.value (.func 224), #[(Ja 7), (Ja 8), (Jb 1)], #[148, 180, 3]⟩)] v176t3
def v176t1 : CV := Jt [Jc 5 (.build 150 #[]), Jc 6 (.box 150 (Ja 5)), Jh 4 6] v176t2
def v176 : CV := Jt [Jc 1 (.box 180 (Ja 0)), Jc 2 (.assign (.const (.string ⟨⟨[]⟩⟩))), Ji 3 0] v176t1
noncomputable def b176 : Code := f176.body.getD .skip
theorem b176_eq : f176.body = some b176 := by kernel_rfl
theorem v176_eq : viewC prog b176 = some v176 := by kernel_rfl
theorem r176_eq : f176.results.toList = [.tmp 2, .tmp 3] := by kernel_rfl
theorem zc2 {n : List UInt8} (h : nameB n = true) : n.length ≤ 40 := by
 simp only [nameB, Bool.and_eq_true, decide_eq_true_eq] at h
 exact h.1.1.2
theorem zoc {n : Int} (h : ok64 n) : (textZ n).length ≤ 21 := by
 unfold ok64 at h
 have : (textN n.natAbs).length ≤ 20 := zhr 20 _ (by omega) (by decide)
 unfold textZ
 split
 ·rw [List.length_cons]; omega
 ·omega
inductive NumsE : Exp → Prop
 | mk {k z : Int} {n : List UInt8} {l : List Exp} : ok64 z → (∀ x ∈ l, NumsE x) → NumsE (.mk k n z l)
theorem zmb {A : Nat → Prop} {H : Heap} {c : List AV} {e : Exp} (h : IsE A H c e) : NumsE e := by
 induction h with
 | mk hk hn hs hl els h hz he ha ih =>
  refine .mk hn fun x hx => ?_
  obtain ⟨i, hi⟩ := List.getElem?_of_mem hx
  have hlt := (List.getElem?_eq_some_iff.1 hi).1
  exact ih i _ x (List.getElem?_eq_getElem (by omega)) hi
abbrev Sh (ws : Ws) : Prop := ∀ w ∈ ws, w.length ≤ 40
theorem Sh.app {a b : Ws} (h : Sh a) (k : Sh b) : Sh (a ++ b) := fun w hw => (List.mem_append.1 hw).elim (h w) (k w)
theorem Sh.cons {a : List UInt8} {b : Ws} (h : a.length ≤ 40) (k : Sh b) : Sh (a :: b) := fun w hw => (List.mem_cons.1 hw).elim (fun e => e ▸ h) (k w)
theorem Sh.nil : Sh [] := fun _ h => by cases h
theorem levB_len {n : List UInt8} (h : 0 < levB n) : n.length ≤ 2 := by
 unfold levB at h
 split at h
 ·rename_i e; subst e; decide
 split at h
 ·rename_i e; subst e; decide
 split at h
 ·rename_i e; rcases e with e | e | e | e <;> subst e <;> decide
 split at h
 ·rename_i e; rcases e with e | e <;> subst e <;> decide
 split at h
 ·rename_i e; rcases e with e | e | e <;> subst e <;> decide
 ·omega
theorem zvm {x : Exp} (h : Sh (wdE x)) : Sh (wdO x) := by
 unfold wdO
 split
 ·exact ((Sh.cons (by decide) Sh.nil).app h).app (Sh.cons (by decide) Sh.nil)
 ·exact h
theorem wdE_sh : ∀ (k : Nat) (x : Exp), szE x < k → okE x = true → NumsE x → Sh (wdE x)
 | 0, _, h, _, _ => by omega
 | k + 1, .mk kd n z l, h, hok, hn => by
  cases hn with
  | mk hz hl =>
  have ih := fun (a : Exp) (ha : a ∈ l) (ho : okE a = true) => wdE_sh k a (by have := zd0 ha; simp only [szE] at h; omega) ho (hl a ha)
  simp only [okE, Bool.and_eq_true] at hok
  obtain ⟨⟨hpl, hnm⟩, hc⟩ := hok
  have hform : formE (.mk kd n z l) = true := by simp only [plainE, Bool.and_eq_true] at hpl; exact hpl.2
  rw [zl6] at hform
  unfold wdE
  by_cases e1 : kd = 1
  ·rw [if_pos e1]
   exact .cons (by have := zoc hz; omega) .nil
  rw [if_neg e1] at hform ⊢
  by_cases e2 : kd = 2
  ·rw [if_pos e2]
   exact .cons (by split <;> decide) .nil
  rw [if_neg e2] at hform ⊢
  by_cases e3 : kd = 3
  ·rw [if_pos e3]
   rw [if_pos (.inl e3)] at hnm
   exact .cons (zc2 hnm) .nil
  rw [if_neg e3] at hform ⊢
  by_cases e4 : kd = 4
  ·rw [if_pos e4] at hform ⊢
   rw [if_pos (.inr e4)] at hnm
   rw [if_pos (.inl e4)] at hc
   obtain ⟨a, rfl⟩ : ∃ a, l = [a] := List.length_eq_one_iff.1 (of_decide_eq_true hform)
   simp only [okEs, Bool.and_true] at hc
   simp only [wdE0]
   exact ((Sh.cons (zc2 hnm) (Sh.cons (by decide) Sh.nil)).app (ih a (by simp) hc)).app (.cons (by decide) .nil)
  rw [if_neg e4] at hform ⊢
  by_cases e5 : kd = 5
  ·rw [if_pos e5] at hform ⊢
   rw [if_pos (.inr (.inl e5))] at hc
   simp only [Bool.and_eq_true, Bool.or_eq_true, decide_eq_true_eq] at hform
   obtain ⟨a, rfl⟩ : ∃ a, l = [a] := List.length_eq_one_iff.1 hform.2
   simp only [okEs, Bool.and_true] at hc
   simp only [wdO0]
   exact .cons (by rcases hform.1 with e | e <;> subst e <;> decide) (zvm (ih a (by simp) hc))
  rw [if_neg e5] at hform ⊢
  by_cases e6 : kd = 6
  ·rw [if_pos e6] at hform ⊢
   rw [if_pos (.inr (.inr e6))] at hc
   simp only [Bool.and_eq_true, decide_eq_true_eq] at hform
   obtain ⟨a, c, rfl⟩ := len2 hform.2
   simp only [okEs, Bool.and_true, Bool.and_eq_true] at hc
   simp only [wdO0, wdO1]
   exact (zvm (ih a (by simp) hc.1)).app (.cons (by have := levB_len hform.1; omega) (zvm (ih c (by simp) hc.2)))
  ·rw [if_neg e6]; exact .nil
theorem wdE_sh' {x : Exp} (h : okE x = true) (hn : NumsE x) : Sh (wdE x) := wdE_sh (szE x + 1) x (by omega) h hn
theorem zvj : ∀ {l : List Exp}, okEs l = true → (∀ x ∈ l, NumsE x) → Sh (wdEs l)
 | [], _, _ => .nil
 | x :: l, h, hn => by
  simp only [okEs, Bool.and_eq_true] at h
  exact (wdE_sh' h.1 (hn x (by simp))).app (zvj h.2 fun y hy => hn y (by simp [hy]))
theorem zvi : ∀ {l : List Exp} (i : Nat), okEs l = true → (∀ x ∈ l, NumsE x) → Sh (wdAs l i)
 | [], _, _, _ => .nil
 | x :: l, i, h, hn => by
  simp only [okEs, Bool.and_eq_true] at h
  refine (Sh.app ?_ (wdE_sh' h.1 (hn x (by simp)))).app (zvi (i + 1) h.2 fun y hy => hn y (by simp [hy]))
  split
  ·exact .cons (by decide) .nil
  ·exact .nil
inductive NumsS : Stm → Prop
 | mk {k z : Int} {n p : List UInt8} {e : List Exp} {b f : List Stm} : ok64 z → (∀ x ∈ e, NumsE x) → (∀ x ∈ b, NumsS x) → (∀ x ∈ f, NumsS x) → NumsS (.mk k n p z e b f)
theorem f2_mem {α β : Type} {R : α → β → Prop} {l : List α} {m : List β} (h : F2 R l m) {b : β} (hb : b ∈ m) : ∃ a ∈ l, R a b := by
 obtain ⟨i, hi⟩ := List.getElem?_of_mem hb
 obtain ⟨a, ha, hr⟩ := h.get' i b hi
 exact ⟨a, List.mem_of_getElem? ha, hr⟩
theorem zi1 {α : Type} {A : Nat → Prop} {R : Heap → List AV → α → Prop} {z : Nat} {H : Heap} {v : AV} {xs : List α} (h : IsLs A R z H v xs) {a : α} (ha : a ∈ xs) : ∃ c, R H c a := by
 obtain ⟨els, _, h2, _⟩ := h
 obtain ⟨c, _, hr⟩ := f2_mem h2 ha
 exact ⟨c, hr⟩
theorem zmc {A : Nat → Prop} {H : Heap} {c : List AV} {e : Stm} (h : IsS A H c e) : NumsS e := by
 induction h with
 | mk hk hn hs hp hl hb hd he xs ys h hz hx ha h' hz' hy ha' ih ih' =>
  refine .mk hn (fun x hx => ?_) (fun x hx' => ?_) (fun x hx' => ?_)
  ·obtain ⟨c, hc⟩ := zi1 he hx
   exact zmb hc
  ·obtain ⟨i, hi⟩ := List.getElem?_of_mem hx'
   have hlt := (List.getElem?_eq_some_iff.1 hi).1
   exact ih i _ x (List.getElem?_eq_getElem (by omega)) hi
  ·obtain ⟨i, hi⟩ := List.getElem?_of_mem hx'
   have hlt := (List.getElem?_eq_some_iff.1 hi).1
   exact ih' i _ x (List.getElem?_eq_getElem (by omega)) hi
theorem zoj (k : Int) : (wordB k).length ≤ 40 := by unfold wordB; repeat (first | (split; decide) | decide)
theorem wdL_sh {l : List Exp} (h : okEs l = true) (hn : ∀ x ∈ l, NumsE x) : Sh (wdL l) := ((Sh.cons (by decide) Sh.nil).app (zvi 0 h hn)).app (.cons (by decide) .nil)
mutual
theorem zvo : ∀ {x : Stm}, okS x = true → NumsS x → Sh (wdS x)
 | .mk k n p z e b f, hok, hn => by
  cases hn with
  | mk hz he hb hf =>
  have hB := fun (h : okSs b = true) => zm1 h hb
  have hF := fun (h : okSs f = true) => zm1 h hf
  simp only [okS, Bool.and_eq_true] at hok
  obtain ⟨⟨⟨⟨hfit, hnm⟩, hoe⟩, hob⟩, hof⟩ := hok
  have h0 : Sh (wdE0 e) := by
   cases e with
   | nil => exact .nil
   | cons a r => simp only [okEs, Bool.and_eq_true] at hoe; simp only [wdE0]; exact wdE_sh' hoe.1 (he a (by simp))
  have h1 : Sh (wdE1 e) := by
   cases e with
   | nil => exact .nil
   | cons a r =>
    cases r with
    | nil => simp only [wdE1, wdE0]; exact .nil
    | cons c r => simp only [okEs, Bool.and_eq_true] at hoe; simp only [wdE1, wdE0]; exact wdE_sh' hoe.2.1 (he c (by simp))
  have d1 : ([125] : List UInt8).length ≤ 40 := by decide
  have d2 : ([41] : List UInt8).length ≤ 40 := by decide
  unfold wdS
  by_cases e45 : k = 4 ∨ k = 5
  ·rw [if_pos e45]
   refine ((((((Sh.cons (zoj k) (Sh.cons (by decide) Sh.nil)).app h0).app (Sh.cons d2 (Sh.cons (by decide) Sh.nil))).app (hB hob)).app (Sh.cons d1 Sh.nil)).app ?_)
   split
   ·exact .nil
   ·exact ((Sh.cons (by decide) (Sh.cons (by decide) Sh.nil)).app (hF hof)).app (Sh.cons d1 Sh.nil)
  rw [if_neg e45]
  by_cases e1 : k = 1
  ·rw [if_pos e1]
   rw [if_pos (.inl e1)] at hnm
   refine Sh.app ?_ (Sh.cons (by decide) Sh.nil)
   unfold wdDecl
   refine Sh.cons (by decide) (Sh.app ?_ (Sh.cons (zc2 hnm) ?_))
   ·split
    ·exact .cons (by decide) .nil
    ·exact .nil
   ·split
    ·exact .cons (by decide) (.cons (by have := zoc hz; simp only [Stm.num]; omega) (.cons (by decide) .nil))
    ·exact .nil
  rw [if_neg e1]
  by_cases e6 : k = 6
  ·rw [if_pos e6]
   rw [if_neg (by omega), if_pos e6] at hnm
   simp only [Bool.and_eq_true, Bool.or_eq_true, decide_eq_true_eq] at hnm
   refine (Sh.app (Sh.app ?_ (Sh.cons (zc2 hnm.2) Sh.nil)) (wdL_sh hoe he)).app (Sh.cons (by decide) Sh.nil)
   split
   ·exact .nil
   ·rename_i en
    exact .cons (zc2 (hnm.1.resolve_left en)) (.cons (by decide) .nil)
  rw [if_neg e6]
  by_cases e2 : k = 2
  ·rw [if_pos e2]
   rw [if_pos (.inr (.inl e2))] at hnm
   exact ((Sh.cons (zc2 hnm) (Sh.cons (by decide) Sh.nil)).app h0).app (Sh.cons (by decide) Sh.nil)
  rw [if_neg e2]
  by_cases e3 : k = 3
  ·rw [if_pos e3]
   rw [if_pos (.inr (.inr (.inl e3)))] at hnm
   exact ((((Sh.cons (zc2 hnm) (Sh.cons (by decide) Sh.nil)).app h0).app (Sh.cons (by decide) (Sh.cons (by decide) Sh.nil))).app h1).app (Sh.cons (by decide) Sh.nil)
  rw [if_neg e3]
  by_cases e9 : k = 9
  ·rw [if_pos e9]
   rw [if_pos (.inr (.inr (.inr e9)))] at hnm
   exact .cons (by decide) (.cons (zc2 hnm) (.cons (by decide) .nil))
  rw [if_neg e9]
  exact ((Sh.cons (zoj k) Sh.nil).app (zvj hoe he)).app (Sh.cons (by decide) Sh.nil)
theorem zm1 : ∀ {l : List Stm}, okSs l = true → (∀ x ∈ l, NumsS x) → Sh (wdSs l)
 | [], _, _ => by simp only [wdSs]; exact .nil
 | x :: l, h, hn => by
  simp only [okSs, Bool.and_eq_true] at h
  simp only [wdSs]
  exact (zvo h.1 (hn x (by simp))).app (zm1 h.2 fun y hy => hn y (by simp [hy]))
end
theorem zue (t : Int) : (wdT t).length ≤ 40 := by unfold wdT; split <;> decide
theorem zvl : ∀ {l : List Prm} (i : Nat), okMs l = true → Sh (wdMs l i)
 | [], _, _ => .nil
 | x :: l, i, h => by
  simp only [okMs, Bool.and_eq_true] at h
  refine (Sh.app ?_ (Sh.cons (zue _) (Sh.cons (zc2 h.1.2) Sh.nil))).app (zvl (i + 1) h.2)
  split
  ·exact .cons (by decide) .nil
  ·exact .nil
theorem zvk {p : Prc} (h : okH p = true) : Sh (wdH p) := by
 simp only [okH, Bool.and_eq_true] at h
 refine (((Sh.cons (by decide) (Sh.cons (zc2 h.1.1) (Sh.cons (by decide) Sh.nil))).app (zvl 0 h.1.2)).app (Sh.cons (by decide) Sh.nil)).app ?_
 split
 ·exact .nil
 ·exact .cons (zue _) .nil
theorem wdP_sh {p : Prc} (h : okP p = true) (hn : ∀ x ∈ p.body, NumsS x) : Sh (wdP p) := by
 simp only [okP, Bool.and_eq_true] at h
 exact (((zvk h.1).app (Sh.cons (by decide) Sh.nil)).app (zm1 h.2 hn)).app (Sh.cons (by decide) Sh.nil)
theorem zvn : ∀ {l : List Prc}, okPs l = true → (∀ p ∈ l, ∀ x ∈ p.body, NumsS x) → Sh (wdPs l)
 | [], _, _ => .nil
 | x :: l, h, hn => by
  simp only [okPs, Bool.and_eq_true] at h
  exact (wdP_sh h.1 (hn x (by simp))).app (zvn h.2 fun y hy => hn y (by simp [hy]))
theorem zl4 : ∀ {ws : Ws}, Sh ws → (ws.flatMap (32 :: ·)).length ≤ 41 * ws.length
 | [], _ => by simp
 | w :: ws, h => by
  have h1 := h w (by simp)
  have h2 := zl4 (ws := ws) fun x hx => h x (by simp [hx])
  simp only [List.flatMap_cons, List.length_append, List.length_cons] at h2 ⊢
  omega
def outT (ok : Bool) (ws : Ws) (d : Nat) : AV := if ok = false then .tup [S [], .int .i64 32] else if 60 < d then .tup [S [], .int .i64 31] else .tup [S (joinW ws), .int .i64 0]
section
variable {tb : List FuncId} {gl : List (List AV)} {A : Nat → Prop} {H : Heap} {u v w : AV} {b : Nat} {s : WS} {Q : AV → Heap → Prop}
theorem zsz (hW : Wr b H u s) (hn : s.words.length < 500000) (hl : s.bad = false → (s.words.flatMap (32 :: ·)).length < 500000) (hQ : ∀ H', Keep Non H H' → Q (outT (!s.bad) s.words s.most) H') : WpF prog tb gl 58 [.ptr b 0] H Q := by
 unfold outT at hQ
 refine fa func58 b58_eq v58_eq r58_eq (.inr (by simp)) ?_
 refine zac ?_
 refine zae rfl ?_
 refine zab (zak (zam (zac ?_)))
 have hr := hW.row
 cases hbad : s.bad with
 | true =>
  rw [hbad] at hr
  simp only [hbad, Bool.not_true, if_true] at hQ
  refine zae rfl ?_; (repeat ((refine zaa ?_; first | refine za5 rfl ?_ | refine zad FpF.h (by decide) rfl ?_ | refine zaf PlF.h rfl hr rfl ?_); refine zae rfl ?_))
  refine zab (zah rfl (zac ?_))
  refine zae rfl ?_
  exact zab (zao ⟨_, rfl, hQ H (.refl _ _)⟩)
 | false =>
  rw [hbad] at hr
  simp only [hbad, Bool.not_false, Bool.true_eq_false, if_false] at hQ
  refine zae rfl ?_; (repeat ((refine zaa ?_; first | refine za5 rfl ?_ | refine zad FpF.h (by decide) rfl ?_ | refine zaf PlF.h rfl hr rfl ?_); refine zae rfl ?_))
  refine zab (zag rfl (zac ?_))
  refine zae rfl ?_; (repeat ((refine zaa ?_; first | refine za5 rfl ?_ | refine zad FpF.h (by decide) rfl ?_ | refine zaf PlF.h rfl hr rfl ?_); refine zae rfl ?_))
  by_cases hd : 60 < s.most
  ·rw [if_pos hd] at hQ
   refine zaa (zcu rfl rfl (by omega) ?_)
   refine zae rfl ?_
   refine zab (zah rfl (zac ?_))
   refine zae rfl ?_
   exact zab (zao ⟨_, rfl, hQ H (.refl _ _)⟩)
  ·rw [if_neg hd] at hQ
   refine zaa (zb9 rfl rfl (by omega) ?_)
   refine zae rfl ?_
   refine zab (zag rfl (zan (zac ?_)))
   refine zae rfl ?_; (repeat ((refine zaa ?_; first | refine za5 rfl ?_ | refine zad FpF.h (by decide) rfl ?_ | refine zaf PlF.h rfl hr rfl ?_); refine zae rfl ?_))
   refine zaa (zaj rfl rfl rfl (Join_ok hW.own.sl (hl hbad) hn fun H1 hk1 => ?_))
   refine zae rfl ?_
   exact zab (zao ⟨_, rfl, hQ H1 hk1⟩)
theorem wr_new (hr : IsRow H b [.nils, .bool false, .int .i64 0] false false) : Wr b H .nils ⟨[], false, 0⟩ := ⟨hr, Own.nil _ _, id⟩
theorem zm4 {x : Exp} {c : List AV} (hE : IsE A H c x) (hA : ∀ a, A a → a < H.nx) (hK : KeysIn H) (hd : sizE x < 1000) (hQ : ∀ H', Keep Non H H' → Q (outT (okE x) (wdE x) (dpE x 1)) H') : WpF prog tb gl 176 [.agg c] H Q := by
 have hsz := zkn x
 obtain ⟨v, hc, _⟩ := hE.out
 have hc4 : c.length = 4 := by rw [hc]; rfl
 refine fa func176 b176_eq v176_eq r176_eq (.inr (by simp)) ?_
 refine zac ?_
 refine zaa (zcd rfl fun H1 hk1 hr1 => ?_)
 obtain ⟨bx, hbx⟩ : ∃ b, b = H.nx := ⟨_, rfl⟩
 rw [← hbx] at hr1 ⊢
 have hr1 : IsRow H1 bx c false false := hr1
 refine zae rfl ?_
 refine zab (zac ?_)
 refine zaa (zbz BsF.h ZeF.h (pl := []) rfl rfl ?_)
 refine zaa (zcd rfl fun H2 hk2 hr2 => ?_)
 obtain ⟨bw, hbw⟩ : ∃ b, b = H1.nx := ⟨_, rfl⟩
 rw [← hbw] at hr2 ⊢
 have W2 := wr_new hr2
 have hbl : bx < bw := by rw [hbw]; exact hr1.1
 have hnx1 := hk1.nx
 refine zae rfl ?_
 refine zab (zac ?_)
 refine zae rfl ?_
 refine zaa (zaq (k := 4) PlF.h hc4 (by decide) rfl (hr1.keep0 hk2).pts ?_)
 have hk02 := hk1.trans0 hk2
 refine zaa (zaj rfl rfl rfl (zfm (d := 1) (szE x + 1) A x c bw H2 .nils _ _ (by omega) (hE.keep hk02) (fun a ha => ⟨Nat.lt_of_lt_of_le (hA a ha) hk02.nx, by have := hA a ha; omega, id⟩) (hK.keep hk02) W2 (by omega) (by simp only [List.length_nil]; omega) fun u3 H3 k3 W3 => ?_))
 have hlen := wE_len' x 1 ⟨[], false, 0⟩
 simp only [List.length_nil] at hlen
 have heff := wE_eff' x 1
 have hk23 : Keep Non H1 H3 := hk2.trans k3.keep fun c hc => .inr (hc.elim (fun hc => by rw [hc, hbw]; exact Nat.le_refl _) fun hc => hc.elim)
 refine zab (zac ?_)
 refine zae rfl ?_
 have hsh : (wE x 1 ⟨[], false, 0⟩).bad = false → ((wE x 1 ⟨[], false, 0⟩).words.flatMap (32 :: ·)).length < 500000 := by
  intro hb
  have hok : okE x = true := by
   cases h : okE x with
   | true => rfl
   | false => have := heff.no ⟨[], false, 0⟩ rfl h; rw [hb] at this; cases this
  have h1 := heff.yes ⟨[], false, 0⟩ rfl hok
  have h2 := zl4 (wdE_sh' hok (zmb hE))
  rw [h1] at hlen ⊢
  simp only [List.nil_append] at hlen ⊢
  omega
 refine zaa (zaj rfl rfl rfl (zsz W3 (by omega) hsh fun H4 hk4 => ?_))
 have hout : outT (!(wE x 1 ⟨[], false, 0⟩).bad) (wE x 1 ⟨[], false, 0⟩).words (wE x 1 ⟨[], false, 0⟩).most = outT (okE x) (wdE x) (dpE x 1) := by
  cases h : okE x with
  | true => rw [heff.yes ⟨[], false, 0⟩ rfl h]; simp
  | false => rw [heff.no ⟨[], false, 0⟩ rfl h]; simp [outT]
 rw [hout]
 have hfin := hQ H4 (hk1.trans0 (hk23.trans0 hk4))
 obtain ⟨t, e, ht⟩ : ∃ t e, outT (okE x) (wdE x) (dpE x 1) = .tup [t, e] := by
  unfold outT
  split
  ·exact ⟨_, _, rfl⟩
  ·split <;> exact ⟨_, _, rfl⟩
 rw [ht] at hfin ⊢
 refine zae rfl ?_
 exact zab (zao ⟨_, rfl, hfin⟩)
theorem proc_ok {p : Prc} {c : List AV} (hP : IsPc A H c p) (hA : ∀ a, A a → Off b H u a) (hK : KeysIn H) (hW : Wr b H u s) (hd : sizP p < 10000) (hl : s.words.length + 12 * sizP p < 1000000)
  (hQ : ∀ u' H', Wk b H u H' u' → Wr b H' u' (wProc p s) → Q (.tup []) H') : WpF prog tb gl 57 [.ptr b 0, .agg c] H Q := by
 have hrB : rB = 140737488351232 := rfl
 obtain ⟨vm, vb, rfl, hnm, _, hpl, hbl, hLm, hLb⟩ := hP
 have hsp : sizP p = 1 + p.name.length / 8 + p.params.length + sizM p.params + sizSs p.body := rfl
 refine fa func57 b57_eq v57_eq r57_eq (.inr (by simp)) ?_
 refine zac ?_
 refine zaa (zcd rfl fun H1 hk1 hr1 => ?_)
 have hW1 := hW.keep0 hk1
 obtain ⟨bx, hbx⟩ : ∃ b, b = H.nx := ⟨_, rfl⟩
 have hoff : Off b H1 u bx := by
  have := hr1.1
  rw [hbx]
  exact hW.fresh this
 rw [← hbx] at hr1 ⊢
 have hr1 : IsRow H1 bx [S p.name, vm, .int .i64 p.type, vb] false false := hr1
 refine zab (zac ?_)
 refine zae rfl ?_
 refine zaa (zar (n := 1) ElF.h (by decide) rfl rfl fun Hp2 hp2 rp2 => ?_)
 refine zaa (zaj rfl rfl rfl (zb6 (ws := [[112, 114, 111, 99]]) (hW1.keep0 hp2) (IsRow.sl (es := 1) (n := 1) rp2 rfl (Nat.le_refl 1)) (by simp only [zau, zbf, zch, zce, List.length_cons, List.length_nil]; omega) fun u2 H2 k2 W2 => ?_))
 replace k2 := (Wk.of hp2).trans k2
 have hr2 := k2.row hoff hr1
 have kk2 : Wk b H u H2 u2 := (Wk.of hk1).trans k2
 refine zab (zac ?_)
 refine zae rfl ?_; (repeat ((refine zaa ?_; first | refine zad FpF.h (by decide) rfl ?_ | refine zaf PlF.h rfl hr2 rfl ?_); refine zae rfl ?_))
 refine zaa (zaj rfl rfl rfl (zen (n := p.name) W2 (hK.keep kk2.keep) (by omega) (by rw [zau]; simp only [List.length_cons, List.length_nil]; omega) fun u3 H3 k3 W3 => ?_))
 refine zab (zac ?_)
 refine zae rfl ?_
 refine zaa (zar (n := 1) ElF.h (by decide) rfl rfl fun Hp4 hp4 rp4 => ?_)
 refine zaa (zaj rfl rfl rfl (zb6 (ws := [[40]]) (W3.keep0 hp4) (IsRow.sl (es := 1) (n := 1) rp4 rfl (Nat.le_refl 1)) (by simp only [zau, zbf, zch, zce, List.length_cons, List.length_nil]; omega) fun u4 H4 k4 W4 => ?_))
 replace k4 := (Wk.of hp4).trans k4
 have k14 := k2.trans (k3.trans k4)
 have hr4 := k14.row hoff hr1
 have hoff4 := k14.off hoff
 have kk4 : Wk b H u H4 u4 := (Wk.of hk1).trans k14
 have keepM : ∀ H' u', Wk b H u H' u' → IsLs A IsPm 2 H' vm p.params := fun H' u' k => hLm.keepS k.keep (fun c hc hs => hs.elim (hA c hc).2.1 (hA c hc).2.2) fun _ _ _ h => h
 obtain ⟨s4, hs4⟩ : ∃ s4, s4 = ((s.put [[112, 114, 111, 99]]).name p.name).put [[40]] := ⟨_, rfl⟩
 rw [← hs4] at W4
 have hl4 : s4.words.length = s.words.length + 3 := by rw [hs4, zau, zbf, zau]; rfl
 obtain ⟨els, hsl, _⟩ := zbc (keepM H4 u4 kk4)
 refine zab (zak (zac ?_))
 refine zae rfl ?_; (repeat ((refine zaa ?_; first | refine zad FpF.h (by decide) rfl ?_ | refine zaf PlF.h rfl hr4 rfl ?_ | refine za8 rfl rfl rfl UnF.h rfl hsl ?_); refine zae rfl ?_))
 refine zab (zam ?_)
 refine zbw (fun (i : Nat) => [(0, .ptr b 0), (3, .ptr bx 0), (17, vm), (18, .int .i64 (p.params.length : Int)), (19, .int .i64 (i : Int))]) (fun i H' => i ≤ p.params.length ∧ ∃ u', Wk b H4 u4 H' u' ∧ Wr b H' u' (wPrms (p.params.take i) 0 s4)) (fun i => p.params.length - i) ?_ 0 _ H4 ⟨rfl, rfl, rfl, rfl, rfl, trivial⟩ ⟨Nat.zero_le _, u4, .refl _ _ _, W4⟩
 rintro i H5 ⟨hle, u5, k45, W5⟩
 have hlen := zky (p.params.take i) 0 s4
 rw [List.length_take, Nat.min_eq_left hle] at hlen
 refine zac ?_
 by_cases hi : i < p.params.length
 rotate_left
 ·refine zaa (zcb rfl rfl (decide_eq_false (by omega)) (zab (zak (zag rfl (zbn (zac ?_))))))
  rw [List.take_of_length_le (by omega)] at W5 hlen
  refine zae rfl ?_
  refine zaa (zar (n := 1) ElF.h (by decide) rfl rfl fun Hp6 hp6 rp6 => ?_)
  refine zaa (zaj rfl rfl rfl (zb6 (ws := [[41]]) (W5.keep0 hp6) (IsRow.sl (es := 1) (n := 1) rp6 rfl (Nat.le_refl 1)) (by simp only [zau, zbf, zch, zce, List.length_cons, List.length_nil]; omega) fun u6 H6 k6 W6 => ?_))
  replace k6 := (Wk.of hp6).trans k6
  have k46 := k45.trans k6
  have hr6 := k46.row hoff4 hr4
  refine zab (zak ?_)
  unfold wProc wHead at hQ
  obtain ⟨s6, hs6⟩ : ∃ s6, s6 = (wPrms p.params 0 s4).put [[41]] := ⟨_, rfl⟩
  rw [← hs4] at hQ
  rw [← hs6] at W6 hQ
  have hl6 : s6.words.length ≤ s4.words.length + 3 * p.params.length + 1 := by rw [hs6, zau]; simp only [List.length_cons, List.length_nil]; omega
  refine zgj (fun l' H' => ∃ u7, Wk b H6 u6 H' u7 ∧ Wr b H' u7 (if p.type = 0 then s6 else wType p.type s6) ∧ Sb [(0, .ptr b 0), (3, .ptr bx 0)] l') ?_ ?_
  ·refine zac ?_
   by_cases h0 : p.type = 0
   ·rw [if_pos h0]
    (repeat ((refine zaa ?_; first | refine zad FpF.h (by decide) rfl ?_ | refine zaf PlF.h rfl hr6 rfl ?_ | refine zcf rfl rfl (by omega) ?_)))
    exact zab (zag rfl (zan ⟨u6, .refl _ _ _, W6, rfl, rfl, trivial⟩))
   ·rw [if_neg h0]
    (repeat ((refine zaa ?_; first | refine zad FpF.h (by decide) rfl ?_ | refine zaf PlF.h rfl hr6 rfl ?_ | refine zcr rfl rfl (by omega) ?_)))
    refine zab (zah rfl (zaw ?_))
    refine zae rfl ?_; (repeat ((refine zaa ?_; first | refine zad FpF.h (by decide) rfl ?_ | refine zaf PlF.h rfl hr6 rfl ?_); refine zae rfl ?_))
    refine zaa (zaj rfl rfl rfl (zoe W6 (by omega) fun u7 H7 k7 W7 => ?_))
    exact zab ⟨u7, k7, W7, rfl, rfl, trivial⟩
  rintro l7 H7 ⟨u7, k7, W7, hs7⟩
  have k47 := k46.trans k7
  have hr7 := k47.row hoff4 hr4
  have kk7 := kk4.trans k47
  have hl7 : (if p.type = 0 then s6 else wType p.type s6).words.length ≤ s6.words.length + 1 := by
   split
   ·omega
   ·rw [zhv]; omega
  refine VA.sub hs7 (zaw ?_)
  refine zae rfl ?_; (repeat ((refine zaa ?_; first | refine zad FpF.h (by decide) rfl ?_ | refine zaf PlF.h rfl hr7 rfl ?_); refine zae rfl ?_))
  refine zaa (zaj rfl rfl rfl (zlt (d := 1) (k := szSs p.body) (zu1 _) (Nat.le_refl _) (kk7.stms hA hLb) (fun a ha => kk7.off (hA a ha)) (hK.keep kk7.keep) W7 (by omega) (by omega) hbl fun u8 H8 k8 W8 => ?_))
  exact zab ⟨_, rfl, hQ u8 H8 (kk7.trans k8) W8⟩
 obtain ⟨x, hx⟩ : ∃ x, p.params[i]? = some x := ⟨_, List.getElem?_eq_getElem hi⟩
 refine zaa (zcb rfl rfl (decide_eq_true (by omega)) (zab (zak (zah rfl (zan (zak (zam (zac ?_))))))))
 obtain ⟨els5, hsl5, hel5⟩ := zbc (keepM H5 u5 (kk4.trans k45))
 obtain ⟨cx, hcx, rfl, hxn, _⟩ := hel5 i x hx
 refine zae rfl ?_
 refine zaa (za3 UnF.h SzF.h rfl hsl5 rfl rfl hi fun q0 hq0 => ?_)
 rw [hcx] at hq0
 refine zaa (zaq (k := 2) PlF.h rfl (by decide) rfl hq0 ?_)
 refine zaa (zci ZeF.h fun H6 hk6 hr6 => ?_)
 refine zae rfl ?_
 obtain ⟨by_, hby⟩ : ∃ b, b = H5.nx := ⟨_, rfl⟩
 have hoff6 : Off b H6 u5 by_ := by
  have := hr6.1
  rw [hby]
  exact W5.fresh this
 rw [← hby] at hr6 ⊢
 refine zaa (zbv (k := 2) SzF.h rfl rfl rfl rfl hr6 rfl fun H7 hk7 hn7 hr7 => ?_)
 have hk57 : Keep Non H5 H7 := (hk6.trans hk7 fun c hc => .inr (by rw [hc, hby]; exact Nat.le_refl _)).wide fun _ h => h
 have W7 := W5.keep0 hk57
 have k47 : Wk b H4 u4 H7 u5 := k45.trans (.of hk57)
 have hoff7 : Off b H7 u5 by_ := ⟨by rw [hn7]; exact hoff6.1, hoff6.2.1, hoff6.2.2⟩
 obtain ⟨s5, hs5⟩ : ∃ s5, s5 = wPrms (p.params.take i) 0 s4 := ⟨_, rfl⟩
 rw [← hs5] at W7 hlen
 refine zab (zak ?_)
 refine zgj (fun l' H' => ∃ u8, Wk b H7 u5 H' u8 ∧ Wr b H' u8 (if 0 < i then s5.put [[44]] else s5) ∧ Sb [(0, .ptr b 0), (3, .ptr bx 0), (5, .ptr by_ 0), (17, vm), (18, .int .i64 (p.params.length : Int)), (19, .int .i64 (i : Int))] l') ?_ ?_
 ·refine zac ?_
  by_cases h0 : 0 < i
  ·rw [if_pos h0]
   (repeat ((refine zaa ?_; first | refine zal rfl ?_ | refine zcu rfl rfl (by omega) ?_)))
   refine zab (zah rfl (zaw ?_))
   refine zae rfl ?_
   refine zaa (zar (n := 1) ElF.h (by decide) rfl rfl fun Hp8 hp8 rp8 => ?_)
   refine zaa (zaj rfl rfl rfl (zb6 (ws := [[44]]) (W7.keep0 hp8) (IsRow.sl (es := 1) (n := 1) rp8 rfl (Nat.le_refl 1)) (by simp only [zau, zbf, zch, zce, List.length_cons, List.length_nil]; omega) fun u8 H8 k8 W8 => ?_))
   replace k8 := (Wk.of hp8).trans k8
   exact zab ⟨u8, k8, W8, rfl, rfl, rfl, rfl, rfl, rfl, trivial⟩
  ·rw [if_neg h0]
   (repeat ((refine zaa ?_; first | refine zal rfl ?_ | refine zb9 rfl rfl (by omega) ?_)))
   exact zab (zag rfl (zan ⟨u5, .refl _ _ _, W7, rfl, rfl, rfl, rfl, rfl, rfl, trivial⟩))
 rintro l8 H8 ⟨u8, k8, W8, hs8⟩
 have hl8 : (if 0 < i then s5.put [[44]] else s5).words.length ≤ s5.words.length + 1 := by
  split
  ·rw [zau]; simp
  ·omega
 have hr8 := k8.row hoff7 hr7
 have hoff8 := k8.off hoff7
 refine VA.sub hs8 (zac ?_)
 refine zae rfl ?_; (repeat ((refine zaa ?_; first | refine zad FpF.h (by decide) rfl ?_ | refine zaf PlF.h rfl hr8 rfl ?_); refine zae rfl ?_))
 refine zaa (zaj rfl rfl rfl (zoe W8 (by omega) fun u9 H9 k9 W9 => ?_))
 have hr9 := k9.row hoff8 hr8
 refine zab (zaw ?_)
 refine zae rfl ?_; (repeat ((refine zaa ?_; first | refine zad FpF.h (by decide) rfl ?_ | refine zaf PlF.h rfl hr9 rfl ?_); refine zae rfl ?_))
 have k49 := k47.trans (k8.trans k9)
 refine zaa (zaj rfl rfl rfl (zen (n := x.name) W9 (hK.keep (kk4.trans k49).keep) (by omega) (by rw [zhv]; omega) fun u10 H10 k10 W10 => ?_))
 refine zab (zaw ?_)
 refine zaa (za0 (c := ((i + 1 : Nat) : Int)) rfl rfl Ju ?_)
 refine zae rfl ?_
 refine zab ⟨i + 1, ?_, ⟨rfl, rfl, rfl, rfl, rfl, trivial⟩, by omega, u10, k49.trans k10, ?_⟩
 ·show p.params.length - (i + 1) < p.params.length - i
  omega
 ·rw [zbt hx, zln, ← hs5, List.length_take, Nat.min_eq_left (by omega), Nat.zero_add]
  exact W10
theorem zhg {p : Prc} {c : List AV} (h : IsPc A H c p) : scalL c = true := by
 obtain ⟨v, w, rfl, _, _, _, _, h1, h2⟩ := h
 have a1 := zfr h1
 have a2 := zfr h2
 refine zej fun v hv => ?_
 simp only [List.mem_cons, List.not_mem_nil, or_false] at hv
 rcases hv with rfl | rfl | rfl | rfl <;> first | assumption | rfl
theorem zlq {p : List Prc} (hp : IsPg A H v p) (hA : ∀ a, A a → a < H.nx) (hK : KeysIn H) (hd : sizPs p < 1000) (hQ : ∀ H', Keep Non H H' → Q (outT (okPs p) (wdPs p) (dpPs p)) H') : WpF prog tb gl 19 [v] H Q := by
 have hrB : rB = 140737488351232 := rfl
 obtain ⟨hpl, vp, rfl, hLp⟩ := hp
 refine fa func19 b19_eq v19_eq r19_eq (.inr (by simp)) ?_
 refine zac ?_
 refine zaa (zcd rfl fun H1 hk1 hr1 => ?_)
 obtain ⟨bx, hbx⟩ : ∃ b, b = H.nx := ⟨_, rfl⟩
 rw [← hbx] at hr1 ⊢
 have hr1 : IsRow H1 bx [vp] false false := hr1
 refine zae rfl ?_
 refine zab (zac ?_)
 refine zaa (zbz BsF.h ZeF.h (pl := []) rfl rfl ?_)
 refine zaa (zcd rfl fun H2 hk2 hr2 => ?_)
 obtain ⟨bw, hbw⟩ : ∃ b, b = H1.nx := ⟨_, rfl⟩
 rw [← hbw] at hr2 ⊢
 have W2 := wr_new hr2
 have hbl : bx < bw := by rw [hbw]; exact hr1.1
 have hnx1 := hk1.nx
 have hk02 := hk1.trans0 hk2
 have hA2 : ∀ a, A a → Off bw H2 .nils a := fun a ha => ⟨Nat.lt_of_lt_of_le (hA a ha) hk02.nx, by have := hA a ha; omega, id⟩
 have hLp2 : IsLs A (IsPc A) 4 H2 vp p := hLp.keep hk02 fun _ _ _ h => h.keep hk02
 have keepP : ∀ H' u', Wk bw H2 .nils H' u' → IsLs A (IsPc A) 4 H' vp p := fun H' u' k => hLp2.keepS k.keep (fun c hc hs => hs.elim (hA2 c hc).2.1 (hA2 c hc).2.2) fun _ _ _ h => h.keepS k.keep fun c hc hs => hs.elim (hA2 c hc).2.1 (hA2 c hc).2.2
 obtain ⟨els, hsl, _⟩ := zbc hLp2
 refine zae rfl ?_
 refine zab (zak (zac ?_))
 have hr12 := hr1.keep0 hk2
 refine zae rfl ?_; (repeat ((refine zaa ?_; first | refine zad FpF.h (by decide) rfl ?_ | refine zaf PlF.h rfl hr12 rfl ?_ | refine za8 rfl rfl rfl UnF.h rfl hsl ?_); refine zae rfl ?_))
 refine zab (zam ?_)
 refine zbw (fun (i : Nat) => [(4, .ptr bw 0), (10, vp), (11, .int .i64 (p.length : Int)), (12, .int .i64 (i : Int))]) (fun i H' => i ≤ p.length ∧ ∃ u', Wk bw H2 .nils H' u' ∧ Wr bw H' u' (wProcs (p.take i) ⟨[], false, 0⟩)) (fun i => p.length - i) ?_ 0 _ H2 ⟨rfl, rfl, rfl, rfl, trivial⟩ ⟨Nat.zero_le _, .nils, .refl _ _ _, W2⟩
 rintro i H3 ⟨hle, u3, k23, W3⟩
 have hlen := zlp (p.take i) ⟨[], false, 0⟩
 simp only [List.length_nil] at hlen
 have htk := zew p i
 refine zac ?_
 by_cases hi : i < p.length
 rotate_left
 ·refine zaa (zcb rfl rfl (decide_eq_false (by omega)) (zab (zak (zag rfl (zbn (zac ?_))))))
  rw [List.take_of_length_le (by omega)] at W3 hlen
  have heff := zlo p
  have hk23 : Keep Non H1 H3 := hk2.trans k23.keep fun c hc => .inr (hc.elim (fun hc => by rw [hc, hbw]; exact Nat.le_refl _) fun hc => hc.elim)
  refine zae rfl ?_
  have hsh : (wProcs p ⟨[], false, 0⟩).bad = false → ((wProcs p ⟨[], false, 0⟩).words.flatMap (32 :: ·)).length < 500000 := by
   intro hb
   have hok : okPs p = true := by
    cases h : okPs p with
    | true => rfl
    | false => have := heff.no ⟨[], false, 0⟩ rfl h; rw [hb] at this; cases this
   have h1 := heff.yes ⟨[], false, 0⟩ rfl hok
   have h2 := zl4 (zvn hok fun q hq x hx => by
    obtain ⟨c, v1, w1, _, _, _, _, _, _, hb⟩ := zi1 hLp hq
    obtain ⟨c, hc⟩ := zi1 hb hx
    exact zmc hc)
   rw [h1] at hlen ⊢
   simp only [List.nil_append] at hlen ⊢
   omega
  refine zaa (zaj rfl rfl rfl (zsz W3 (by omega) hsh fun H4 hk4 => ?_))
  have hout : outT (!(wProcs p ⟨[], false, 0⟩).bad) (wProcs p ⟨[], false, 0⟩).words (wProcs p ⟨[], false, 0⟩).most = outT (okPs p) (wdPs p) (dpPs p) := by
   cases h : okPs p with
   | true => rw [heff.yes ⟨[], false, 0⟩ rfl h]; simp
   | false => rw [heff.no ⟨[], false, 0⟩ rfl h]; simp [outT]
  rw [hout]
  have hfin := hQ H4 (hk1.trans0 (hk23.trans0 hk4))
  obtain ⟨t, e, ht⟩ : ∃ t e, outT (okPs p) (wdPs p) (dpPs p) = .tup [t, e] := by
   unfold outT
   split
   ·exact ⟨_, _, rfl⟩
   ·split <;> exact ⟨_, _, rfl⟩
  rw [ht] at hfin ⊢
  refine zae rfl ?_
  exact zab (zao ⟨_, rfl, hfin⟩)
 obtain ⟨x, hx⟩ : ∃ x, p[i]? = some x := ⟨_, List.getElem?_eq_getElem hi⟩
 refine zaa (zcb rfl rfl (decide_eq_true (by omega)) (zab (zak (zah rfl (zan (zak (zam (zac ?_))))))))
 obtain ⟨els3, hsl3, hel3⟩ := zbc (keepP H3 u3 k23)
 obtain ⟨cx, hcx, hEx⟩ := hel3 i x hx
 have hcx4 : cx.length = 4 := by obtain ⟨_, _, h, _⟩ := hEx; rw [h]; rfl
 have hsx : sizPs (p.take i) + sizP x ≤ sizPs p := by
  have := zew p (i + 1)
  rw [zbt hx, zga] at this
  exact this
 refine zae rfl ?_
 refine zaa (za3 UnF.h SzF.h rfl hsl3 rfl rfl hi fun q0 hq0 => ?_)
 rw [hcx] at hq0
 refine zaa (zaq (k := 4) PlF.h hcx4 (by decide) rfl hq0 ?_)
 refine zaa (zci ZeF.h fun H4 hk4 hr4 => ?_)
 refine zae rfl ?_
 obtain ⟨by_, hby⟩ : ∃ b, b = H3.nx := ⟨_, rfl⟩
 rw [← hby] at hr4 ⊢
 refine zaa (zbv (k := 4) SzF.h hcx4 rfl rfl (zhg hEx) hr4 hcx4 fun H5 hk5 hn5 hr5 => ?_)
 have hk35 : Keep Non H3 H5 := (hk4.trans hk5 fun c hc => .inr (by rw [hc, hby]; exact Nat.le_refl _)).wide fun _ h => h
 have W5 := W3.keep0 hk35
 have k25 : Wk bw H2 .nils H5 u3 := k23.trans (.of hk35)
 have hE5 := hEx.keep hk35
 refine zab (zaw ?_)
 refine zae rfl ?_
 refine zaa (zaq (k := 4) PlF.h hcx4 (by decide) rfl hr5.pts ?_)
 refine zaa (zaj rfl rfl rfl (proc_ok (p := x) hE5 (fun a ha => k25.off (hA2 a ha)) (hK.keep hk02 |>.keep k25.keep) W5 (by omega) (by omega) fun u7 H7 k7 W7 => ?_))
 refine zab (zaw ?_)
 refine zaa (za0 (c := ((i + 1 : Nat) : Int)) rfl rfl Ju ?_)
 refine zae rfl ?_
 refine zab ⟨i + 1, ?_, ⟨rfl, rfl, rfl, rfl, trivial⟩, by omega, u7, k25.trans k7, ?_⟩
 ·show p.length - (i + 1) < p.length - i
  omega
 ·rw [zbt hx, zkz]
  exact W7
end
end Go.Proofs.YtbmedhaopnhggaaGreatDoor
