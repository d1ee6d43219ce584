/-
  The printer's statements (syntax.writer.stmt, block, proc): the plain law, and how many words they write.
-/
import Derived.Test.YtbmedhaopnhggaaGreatDoorWrG
namespace Go.Proofs.YtbmedhaopnhggaaGreatDoor
open Go Eng Tryz
def wEs (d : Nat) : List Exp → WS → WS
 | [], s => s
 | x :: l, s => wEs d l (wE x d s)
mutual
def wSt : Stm → Nat → WS → WS
 | .mk k n p z e b f, d, s =>
  let s1 := (s.deep d).need (fitsB (.mk k n p z e b f))
  if s1.bad = true then s1
  else if k = 4 ∨ k = 5 then
   match e with
   | x :: _ =>
    let s4 := (wSts b (d + 1) (((wE x (d + 1) (s1.put [wordB k, [40]])).put [[41]]).put [[123]])).put [[125]]
    if f.length = 0 then s4 else (wSts f (d + 1) ((s4.put [[101, 108, 115, 101]]).put [[123]])).put [[125]]
   | [] => s1
  else if k = 1 then (wDecl (.mk k n p z e b f) s1).put [[59]]
  else if k = 6 then (wList e (d + 1) ((if n = [] then s1 else (s1.name n).put [[61]]).name p)).put [[59]]
  else if k = 2 then
   match e with
   | x :: _ => (wE x (d + 1) ((s1.name n).put [[61]])).put [[59]]
   | [] => s1
  else if k = 3 then
   match e with
   | x :: y :: _ => (wE y (d + 1) (((wE x (d + 1) ((s1.name n).put [[91]])).put [[93]]).put [[61]])).put [[59]]
   | _ => s1
  else if k = 9 then ((s1.put [[114, 101, 97, 100]]).name n).put [[59]]
  else (wEs (d + 1) e (s1.put [wordB k])).put [[59]]
def wSts : List Stm → Nat → WS → WS
 | [], _, s => s
 | x :: l, d, s => wSts l d (wSt x d s)
end
def wBlock (l : List Stm) (d : Nat) (s : WS) : WS := (wSts l d (s.put [[123]])).put [[125]]
theorem zez (k : Int) (n p : List UInt8) (z : Int) (e : List Exp) (b f : List Stm) (d : Nat) (s s1 : WS) : s1 = (s.deep d).need (fitsB (.mk k n p z e b f)) → wSt (.mk k n p z e b f) d s =
  if s1.bad = true then s1
  else if k = 4 ∨ k = 5 then
   match e with
   | a :: _ =>
    let s4 := wBlock b (d + 1) ((wE a (d + 1) (s1.put [wordB k, [40]])).put [[41]])
    if f.length = 0 then s4 else wBlock f (d + 1) (s4.put [[101, 108, 115, 101]])
   | [] => s1
  else if k = 1 then (wDecl (.mk k n p z e b f) s1).put [[59]]
  else if k = 6 then (wList e (d + 1) ((if n = [] then s1 else (s1.name n).put [[61]]).name p)).put [[59]]
  else if k = 2 then
   match e with
   | a :: _ => (wE a (d + 1) ((s1.name n).put [[61]])).put [[59]]
   | [] => s1
  else if k = 3 then
   match e with
   | a :: c :: _ => (wE c (d + 1) (((wE a (d + 1) ((s1.name n).put [[91]])).put [[93]]).put [[61]])).put [[59]]
   | _ => s1
  else if k = 9 then ((s1.put [[114, 101, 97, 100]]).name n).put [[59]]
  else (wEs (d + 1) e (s1.put [wordB k])).put [[59]] := by
 intro hs
 subst hs
 simp only [wSt, wBlock]
theorem wSt_at (x : Stm) (d : Nat) (s s1 : WS) (hs : s1 = (s.deep d).need (fitsB x)) : wSt x d s =
  if s1.bad = true then s1
  else if x.kind = 4 ∨ x.kind = 5 then
   match x.e with
   | a :: _ =>
    let s4 := wBlock x.body (d + 1) ((wE a (d + 1) (s1.put [wordB x.kind, [40]])).put [[41]])
    if x.els.length = 0 then s4 else wBlock x.els (d + 1) (s4.put [[101, 108, 115, 101]])
   | [] => s1
  else if x.kind = 1 then (wDecl x s1).put [[59]]
  else if x.kind = 6 then (wList x.e (d + 1) ((if x.name = [] then s1 else (s1.name x.name).put [[61]]).name x.proc)).put [[59]]
  else if x.kind = 2 then
   match x.e with
   | a :: _ => (wE a (d + 1) ((s1.name x.name).put [[61]])).put [[59]]
   | [] => s1
  else if x.kind = 3 then
   match x.e with
   | a :: c :: _ => (wE c (d + 1) (((wE a (d + 1) ((s1.name x.name).put [[91]])).put [[93]]).put [[61]])).put [[59]]
   | _ => s1
  else if x.kind = 9 then ((s1.put [[114, 101, 97, 100]]).name x.name).put [[59]]
  else (wEs (d + 1) x.e (s1.put [wordB x.kind])).put [[59]] := by
 cases x
 exact zez _ _ _ _ _ _ _ _ _ _ hs
theorem zoi (d : Nat) (x : Stm) : ∀ (l : List Stm) (s : WS), wSts (l ++ [x]) d s = wSt x d (wSts l d s)
 | [], _ => by simp [wSts]
 | y :: l, s => by simp only [List.cons_append, wSts, zoi d x l]
theorem zrb (d : Nat) (x : Exp) : ∀ (l : List Exp) (s : WS), wEs d (l ++ [x]) s = wE x d (wEs d l s)
 | [], _ => by simp [wEs]
 | y :: l, s => by simp only [List.cons_append, wEs, zrb d x l]
theorem wE_len' (x : Exp) (d : Nat) (s : WS) : (wE x d s).words.length + 2 ≤ s.words.length + 5 * sizE x := zgk (szE x + 1) x (by omega) d s
theorem zph (d : Nat) : ∀ (l : List Exp) (s : WS), (wEs d l s).words.length ≤ s.words.length + 5 * sizEs l
 | [], _ => by simp [wEs, sizEs]
 | x :: l, s => by
  have h1 := wE_len' x d s
  have h2 := zph d l (wE x d s)
  simp only [wEs, sizEs]
  omega
theorem zoh (l : List Exp) (d : Nat) (s : WS) : (wList l d s).words.length ≤ s.words.length + 5 * sizEs l + 2 := by
 unfold wList
 have := zku d l 0 (s.put [[40]])
 rw [zau] at this
 rw [zau]
 simp only [List.length_singleton] at this ⊢
 omega
mutual
theorem zpk : ∀ (x : Stm) (d : Nat) (s : WS), (wSt x d s).words.length ≤ s.words.length + 12 * sizS x
 | .mk k n p z e b f, d, s => by
  have hb := fun (s : WS) => zhu b (d + 1) s
  have hf := fun (s : WS) => zhu f (d + 1) s
  rw [zez _ _ _ _ _ _ _ _ _ _ rfl]
  obtain ⟨s1, hs1⟩ : ∃ s1, s1 = (s.deep d).need (fitsB (.mk k n p z e b f)) := ⟨_, rfl⟩
  rw [← hs1]
  have hl1 : s1.words.length = s.words.length := by rw [hs1]; rfl
  simp only [sizS]
  by_cases hbd : s1.bad = true
  ·rw [if_pos hbd]; omega
  rw [if_neg hbd]
  by_cases e45 : k = 4 ∨ k = 5
  ·rw [if_pos e45]
   cases e with
   | cons a r =>
    have h1 := wE_len' a (d + 1) (s1.put [wordB k, [40]])
    rw [zau] at h1
    simp only [List.length_cons, List.length_nil] at h1
    have h2 := hb (((wE a (d + 1) (s1.put [wordB k, [40]])).put [[41]]).put [[123]])
    rw [zau, zau] at h2
    simp only [List.length_cons, List.length_nil] at h2
    simp only [sizEs, wBlock]
    by_cases hf0 : f.length = 0
    ·rw [if_pos hf0, zau]
     simp only [List.length_cons, List.length_nil]
     omega
    ·rw [if_neg hf0]
     have h3 := hf ((((wSts b (d + 1) (((wE a (d + 1) (s1.put [wordB k, [40]])).put [[41]]).put [[123]])).put [[125]]).put [[101, 108, 115, 101]]).put [[123]])
     rw [zau, zau, zau] at h3
     rw [zau]
     simp only [List.length_cons, List.length_nil] at h3 ⊢
     omega
   | nil => simp only; omega
  rw [if_neg e45]
  by_cases e1 : k = 1
  ·rw [if_pos e1]
   have := zog (.mk k n p z e b f) s1
   rw [zau]
   simp only [List.length_cons, List.length_nil]
   omega
  rw [if_neg e1]
  by_cases e6 : k = 6
  ·rw [if_pos e6]
   have := zoh e (d + 1) ((if n = [] then s1 else (s1.name n).put [[61]]).name p)
   rw [zbf] at this
   rw [zau]
   have hn : (if n = [] then s1 else (s1.name n).put [[61]]).words.length ≤ s1.words.length + 2 := by
    by_cases hn : n = []
    ·rw [if_pos hn]; omega
    ·rw [if_neg hn, zau, zbf]; simp only [List.length_cons, List.length_nil]; omega
   simp only [List.length_cons, List.length_nil] at this ⊢
   omega
  rw [if_neg e6]
  by_cases e2 : k = 2
  ·rw [if_pos e2]
   cases e with
   | cons a r =>
    have h1 := wE_len' a (d + 1) ((s1.name n).put [[61]])
    rw [zau, zbf] at h1
    simp only
    rw [zau]
    simp only [List.length_cons, List.length_nil, sizEs] at h1 ⊢
    omega
   | nil => simp only; omega
  rw [if_neg e2]
  by_cases e3 : k = 3
  ·rw [if_pos e3]
   cases e with
   | nil => simp only; omega
   | cons a r =>
   cases r with
   | nil => simp only; omega
   | cons c r =>
    have h1 := wE_len' a (d + 1) ((s1.name n).put [[91]])
    rw [zau, zbf] at h1
    have h2 := wE_len' c (d + 1) (((wE a (d + 1) ((s1.name n).put [[91]])).put [[93]]).put [[61]])
    rw [zau, zau] at h2
    simp only
    rw [zau]
    simp only [List.length_cons, List.length_nil, sizEs] at h1 h2 ⊢
    omega
  rw [if_neg e3]
  by_cases e9 : k = 9
  ·rw [if_pos e9, zau, zbf, zau]
   simp only [List.length_cons, List.length_nil]
   omega
  ·rw [if_neg e9]
   have := zph (d + 1) e (s1.put [wordB k])
   rw [zau] at this
   rw [zau]
   simp only [List.length_cons, List.length_nil] at this ⊢
   omega
theorem zhu : ∀ (l : List Stm) (d : Nat) (s : WS), (wSts l d s).words.length ≤ s.words.length + 12 * sizSs l
 | [], _, _ => by simp [wSts, sizSs]
 | x :: l, d, s => by
  have h1 := zpk x d s
  have h2 := zhu l d (wSt x d s)
  simp only [wSts, sizSs]
  omega
end
theorem zlm (l : List Stm) (d : Nat) (s : WS) : (wBlock l d s).words.length ≤ s.words.length + 12 * sizSs l + 2 := by
 have := zhu l d (s.put [[123]])
 unfold wBlock
 rw [zau] at this ⊢
 simp only [List.length_cons, List.length_nil] at this ⊢
 omega
theorem zd9 {x : Stm} (h : fitsB x = true) : (x.kind = 4 ∨ x.kind = 5 → ∃ a, x.e = [a]) ∧ (x.kind = 2 → ∃ a, x.e = [a]) ∧ (x.kind = 3 → ∃ a c, x.e = [a, c]) ∧ (x.kind = 1 ∨ x.kind = 9 → x.e = []) ∧ (x.kind ≠ 4 → x.els = []) ∧ (x.kind ≠ 4 ∧ x.kind ≠ 5 → x.body = []) ∧
  (x.kind = 1 ∨ x.kind = 2 ∨ x.kind = 3 ∨ x.kind = 4 ∨ x.kind = 5 ∨ x.kind = 6 ∨ x.kind = 7 ∨ x.kind = 8 ∨ x.kind = 9 ∨ x.kind = 10) ∧ (x.kind = 7 → x.e.length ≤ 1) ∧ (x.kind = 8 ∨ x.kind = 10 → ∃ a, x.e = [a]) ∧ (x.kind = 4 ∨ x.kind = 5 ∨ x.kind = 7 ∨ x.kind = 8 ∨ x.kind = 10 → x.name = []) ∧ (x.kind ≠ 6 → x.proc = []) ∧ (x.kind ≠ 1 → x.num = 0) ∧ (x.kind = 1 → -1 ≤ x.num) := by
 simp only [fitsB, bareN, formN, Bool.and_eq_true, Bool.or_eq_true, decide_eq_true_eq] at h
 obtain ⟨⟨⟨⟨h1, h2⟩, h3⟩, h4⟩, h5⟩ := h
 refine ⟨fun hk => ?_, fun hk => ?_, fun hk => ?_, fun hk => ?_, fun hk => ?_, fun hk => ?_, ?_, fun hk => ?_, fun hk => ?_, fun hk => ?_, fun hk => ?_, fun hk => ?_, fun hk => ?_⟩
 ·rcases hk with hk | hk <;> simp [hk] at h5 <;> exact List.length_eq_one_iff.1 h5.1
 ·simp [hk] at h5; exact List.length_eq_one_iff.1 h5
 ·simp [hk] at h5; exact len2 h5
 ·rcases hk with hk | hk <;> simp [hk] at h5
  ·exact h5.1
  ·exact h5
 ·rcases h4 with h4 | h4
  ·exact List.length_eq_zero_iff.1 h4
  ·exact absurd h4 hk
 ·rcases h3 with (h3 | h3) | h3
  ·exact List.length_eq_zero_iff.1 h3
  ·exact absurd h3 hk.1
  ·exact absurd h3 hk.2
 ·by_cases a1 : x.kind = 1
  ·omega
  by_cases a9 : x.kind = 9
  ·omega
  by_cases a2 : x.kind = 2
  ·omega
  by_cases a3 : x.kind = 3
  ·omega
  by_cases a6 : x.kind = 6
  ·omega
  by_cases a7 : x.kind = 7
  ·omega
  by_cases a4 : x.kind = 4 ∨ x.kind = 5 ∨ x.kind = 8 ∨ x.kind = 10
  ·omega
  ·simp [a1, a9, a2, a3, a6, a7, a4] at h5
 ·simp [hk] at h5; exact h5.1
 ·rcases hk with hk | hk <;> simp [hk] at h5 <;> exact List.length_eq_one_iff.1 h5.1
 ·rcases hk with hk | hk | hk | hk | hk <;> simp [hk] at h5 <;> exact h5.2
 ·rcases h2 with h2 | h2
  ·exact h2
  ·exact absurd h2 hk
 ·rcases h1 with h1 | h1
  ·exact h1
  ·exact absurd h1 hk
 ·simp [hk] at h5; exact h5.2
def wPrm (s : WS) (x : Prm) (i : Nat) : WS := (wType x.type (if 0 < i then s.put [[44]] else s)).name x.name
def wPrms : List Prm → Nat → WS → WS
 | [], _, s => s
 | x :: l, i, s => wPrms l (i + 1) (wPrm s x i)
def wHead (p : Prc) (s : WS) : WS :=
 let s2 := (wPrms p.params 0 (((s.put [[112, 114, 111, 99]]).name p.name).put [[40]])).put [[41]]
 if p.type = 0 then s2 else wType p.type s2
def wProc (p : Prc) (s : WS) : WS := wBlock p.body 1 (wHead p s)
def wProcs : List Prc → WS → WS
 | [], s => s
 | x :: l, s => wProcs l (wProc x s)
theorem zln (x : Prm) : ∀ (l : List Prm) (i : Nat) (s : WS), wPrms (l ++ [x]) i s = wPrm (wPrms l i s) x (i + l.length)
 | [], _, _ => rfl
 | y :: l, i, s => by
  simp only [List.cons_append, wPrms, zln x l, List.length_cons]
  rw [show i + 1 + l.length = i + (l.length + 1) by omega]
theorem zkz (x : Prc) : ∀ (l : List Prc) (s : WS), wProcs (l ++ [x]) s = wProc x (wProcs l s)
 | [], _ => rfl
 | y :: l, s => by simp only [List.cons_append, wProcs, zkz x l]
theorem zhv (t : Int) (s : WS) : (wType t s).words.length = s.words.length + 1 := by simp [wType, zau, zch]
theorem wPrm_len (s : WS) (x : Prm) (i : Nat) : (wPrm s x i).words.length ≤ s.words.length + 3 := by
 unfold wPrm
 rw [zbf, zhv]
 split
 ·rw [zau]; simp
 ·omega
theorem zky : ∀ (l : List Prm) (i : Nat) (s : WS), (wPrms l i s).words.length ≤ s.words.length + 3 * l.length
 | [], _, _ => by simp [wPrms]
 | x :: l, i, s => by
  have h1 := wPrm_len s x i
  have h2 := zky l (i + 1) (wPrm s x i)
  simp only [wPrms, List.length_cons]
  omega
theorem zkw (p : Prc) (s : WS) : (wHead p s).words.length ≤ s.words.length + 3 * p.params.length + 5 := by
 have h := zky p.params 0 (((s.put [[112, 114, 111, 99]]).name p.name).put [[40]])
 rw [zau, zbf, zau] at h
 unfold wHead
 simp only [List.length_cons, List.length_nil] at h
 split
 ·rw [zau]; simp only [List.length_cons, List.length_nil]; omega
 ·rw [zhv, zau]; simp only [List.length_cons, List.length_nil]; omega
theorem zvh (p : Prc) (s : WS) : (wProc p s).words.length ≤ s.words.length + 12 * sizP p := by
 have h1 := zkw p s
 have h2 := zlm p.body 1 (wHead p s)
 unfold wProc sizP
 omega
theorem zlp : ∀ (l : List Prc) (s : WS), (wProcs l s).words.length ≤ s.words.length + 12 * sizPs l
 | [], _ => by simp [wProcs, sizPs]
 | x :: l, s => by
  have h1 := zvh x s
  have h2 := zlp l (wProc x s)
  simp only [wProcs, sizPs]
  omega
end Go.Proofs.YtbmedhaopnhggaaGreatDoor
