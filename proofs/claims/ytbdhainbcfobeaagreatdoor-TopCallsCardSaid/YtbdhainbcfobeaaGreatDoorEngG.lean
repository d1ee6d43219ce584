/-
  THE ENGINE, part G: the other pure operations.
-/
import Derived.Test.YtbdhainbcfobeaaGreatDoorEngF
namespace Go.Proofs.YtbdhainbcfobeaaGreatDoor
namespace Eng
open Go
section
variable {P : Program} {ρ : Rho} {T : Tm} {a : Act}

theorem oUn_p (o : Oper) (op : UnOp) (t : TypeId) (x : Operand) (ho : o.op = .unOp op t x) (hT : TR ρ T a.tmps) (hG : GOK P ρ) (hx : gl P x = true) (H : Heap) : OKp P o a ρ H (oUn op x T H) := by
  intro v H' h
  unfold oUn at h
  split at h
  · rename_i b e
    rw [fB_eq] at h
    injection h with h1 h2; subst h1
    have := den_bool (ev_den hT hG hx e)
    exact ⟨h2.symm, _, rfl, fun w => by simp [execOp, ho, this, Op.unary]⟩
  · rename_i k n e
    rw [fI_eq, wrapF_eq, ineg_eq] at h
    injection h with h1 h2; subst h1
    have := den_int (ev_den hT hG hx e)
    exact ⟨h2.symm, _, rfl, fun w => by simp [execOp, ho, this, Op.unary, Op.intArith]⟩
  · cases h
theorem oConvert_p (o : Oper) (s d : TypeId) (x : Operand) (ho : o.op = .convert s d x) (hcl : cls P o.op = .pure) (hT : TR ρ T a.tmps) (hG : GOK P ρ) (hx : gl P x = true) (H : Heap) :
    OKp P o a ρ H (oConvert P s d x T H) := by
  intro v H' h
  unfold oConvert at h
  rw [ho] at hcl
  simp only [cls] at hcl
  split at h
  · rename_i k1 k k2 n hs hd e
    rw [fI_eq, wrapF_eq] at h
    injection h with h1 h2; subst h1
    have := den_int (ev_den hT hG hx e)
    exact ⟨h2.symm, _, rfl, fun w => by simp [execOp, ho, this, convert, run_und hs, run_und hd, Conv.intToInt]⟩
  · rename_i n y hs hd e
    injection h with h1 h2; subst h1
    have h3 := ev_den hT hG hx e
    have := den_str h3
    exact ⟨h2.symm, _, h3, fun w => by simp [execOp, ho, this, convert, run_und hs, run_und hd]⟩
  · rename_i hs hd _; rw [hs, hd] at hcl; cases hcl
  · rename_i hs hd _; rw [hs, hd] at hcl; cases hcl
  · cases h
theorem oMakeIface_p (o : Oper) (t : TypeId) (x : Operand) (ho : o.op = .makeInterface t x) (hT : TR ρ T a.tmps) (hG : GOK P ρ) (hx : gl P x = true) (H : Heap) : OKp P o a ρ H (oMakeIface P t x T H) := by
  intro v H' h
  unfold oMakeIface at h
  split at h
  · cases h
  · rename_i d u hn hu e
    injection h with h1 h2; subst h1
    have h3 := ev_den hT hG hx e
    refine ⟨h2.symm, .iface t (a.eval x), by simp [den, h3], fun w => ?_⟩
    simp only [execOp, ho, Instr.makeInterface, Sem.run_bind, run_und hu, Result.andThen_ok]
    cases d <;> simp_all
  · cases h
theorem oMakeFunc_p (o : Oper) (fn : Fn) (first captured : Array Operand) (ho : o.op = .makeFunc fn first captured) (hT : TR ρ T a.tmps) (hG : GOK P ρ) (hx : captured.toList.all (gl P) = true) (H : Heap) :
    OKp P o a ρ H (oMakeFunc fn first captured T H) := by
  intro v H' h
  unfold oMakeFunc at h
  split at h
  · rename_i f l hf hl
    injection h with h1 h2; subst h1
    have h3 := evL_den hT hG hx hl
    refine ⟨h2.symm, .func (.func f) #[] (captured.map a.eval), ?_, fun w => ?_⟩
    · simp only [den, show denL ρ l = some _ from h3]
      congr 2
      apply Array.ext'; simp
    · have : first = #[] := Array.ext' (by simpa using hf)
      simp [execOp, ho, Instr.makeFunc, this]
  · cases h
theorem oAssert_p (o : Oper) (x : Operand) (xt t : TypeId) (ok : Bool) (ho : o.op = .typeAssert x xt t ok) (hT : TR ρ T a.tmps) (hG : GOK P ρ) (hx : gl P x = true) (H : Heap) : OKp P o a ρ H (oAssert P x t ok T H) := by
  intro v H' h
  unfold oAssert at h
  split at h
  · cases h
  · rename_i d u y hn hu e
    obtain ⟨z, hz, e1⟩ := den_ifc (ev_den hT hG hx e)
    have hr : ∀ w, ((execOp a.eval o).run P w) = ((if u = t then (if ok then (pure (Value.tuple #[z, .bool true]) : Sem Value) else pure z) else (if ok then (do pure (.tuple #[← zeroValue t, .bool false])) else runtimePanic (.typeAssertion (some xt) (some u) t ""))).run P w).andThen fun v w' => .ok (.value v) w' := fun w => by
      simp only [execOp, ho, Instr.typeAssert, Sem.run_bind, run_und hu, Result.andThen_ok, e1]
      cases d <;> simp_all [Sem.run_ite] <;> (split <;> simp_all [Sem.run_ite]) <;> (try split) <;> simp_all [Sem.run_ite]
    cases hq : Nat.beq u t with
    | true =>
      rw [hq, cond_true] at h
      have hut : u = t := beq_true.1 hq
      cases ok with
      | true =>
        injection h with h1 h2; subst h1
        exact ⟨h2.symm, .tuple #[z, .bool true], by simp [den, denL, hz], fun w => by rw [hr]; simp [hut]⟩
      | false =>
        injection h with h1 h2; subst h1
        exact ⟨h2.symm, z, hz, fun w => by rw [hr]; simp [hut]⟩
    | false =>
      rw [hq, cond_false] at h
      have hut : ¬ u = t := fun e => by rw [beq_true.2 e] at hq; cases hq
      cases ok with
      | true =>
        rw [cond_true] at h
        split at h
        · rename_i z0 hz0
          injection h with h1 h2; subst h1
          obtain ⟨y0, h3, h4, _⟩ := zeroOf_run hz0
          exact ⟨h2.symm, .tuple #[y0, .bool false], by simp [den, denL, h3], fun w => by rw [hr]; simp [hut, h4]⟩
        · cases h
      | false => cases h
  · cases h
theorem oExtract_p (o : Oper) (x : Operand) (i : Nat) (ho : o.op = .extract x i) (hT : TR ρ T a.tmps) (hG : GOK P ρ) (hx : gl P x = true) (H : Heap) : OKp P o a ρ H (oExtract x i T H) := by
  intro v H' h
  unfold oExtract at h
  split at h
  · rename_i l e
    obtain ⟨m, hm, e1⟩ := den_tup (ev_den hT hG hx e)
    refine okV_p (fun u hu => ?_) v H' h
    obtain ⟨y, h1, h2⟩ := hm.get hu
    exact ⟨y, h2, fun w => by simp [execOp, ho, Instr.extract, e1, h1]⟩
  · cases h

/-! ### literals -/
theorem putL_spec : ∀ (l : List AV) (i : Nat) (vs l' : List AV), putL l i vs = some l' → 0 < vs.length → l'.length = l.length ∧ i + vs.length ≤ l.length ∧ ∀ k : Nat, l'[k]? = if i ≤ k ∧ k < i + vs.length then vs[k - i]? else l[k]?
  | l, i, [], l', _, h => by simp at h
  | [], i, v :: vs, l', h, _ => by simp [putL] at h
  | x :: l, 0, v :: vs, l', h, _ => by
    simp only [putL] at h
    split at h
    · rename_i r hr
      injection h with h; subst h
      cases vs with
      | nil =>
        have : r = l := by cases l <;> simp [putL] at hr <;> first | exact hr.symm | exact hr
        subst this
        refine ⟨by simp, by simp, fun k => ?_⟩
        cases k with
        | zero => simp
        | succ k => rw [if_neg (by simp)]; simp
      | cons v2 vs =>
        obtain ⟨h1, h2, h3⟩ := putL_spec l 0 (v2 :: vs) r hr (by simp)
        refine ⟨by simp [h1], by simp at h2 ⊢; omega, fun k => ?_⟩
        cases k with
        | zero => simp
        | succ k =>
          rw [List.getElem?_cons_succ, h3 k]
          by_cases hk : k < (v2 :: vs).length
          · rw [if_pos ⟨by omega, by omega⟩, if_pos ⟨by omega, by simp at hk ⊢; omega⟩]; simp
          · rw [if_neg (by omega), if_neg (by simp at hk ⊢; omega)]; simp
    · cases h
  | x :: l, i + 1, v :: vs, l', h, _ => by
    simp only [putL] at h
    split at h
    · rename_i r hr
      injection h with h; subst h
      obtain ⟨h1, h2, h3⟩ := putL_spec l i (v :: vs) r hr (by simp)
      refine ⟨by simp [h1], by simp at h2 ⊢; omega, fun k => ?_⟩
      cases k with
      | zero => rw [if_neg (by omega)]; simp
      | succ k =>
        rw [List.getElem?_cons_succ, h3 k, show k + 1 - (i + 1) = k - i by omega, List.getElem?_cons_succ]
        by_cases hk : i ≤ k ∧ k < i + (v :: vs).length
        · rw [if_pos hk, if_pos (by omega)]
        · rw [if_neg hk, if_neg (by omega)]
    · cases h
theorem fold_set : ∀ (xs : List Value) (n off : Nat) (c : Array Value), ((xs.zipIdx n).foldl (fun cs (p : Value × Nat) => cs.setIfInBounds (off + p.2) p.1) c).size = c.size ∧
    ∀ k : Nat, ((xs.zipIdx n).foldl (fun cs (p : Value × Nat) => cs.setIfInBounds (off + p.2) p.1) c)[k]? = if off + n ≤ k ∧ k < off + n + xs.length ∧ k < c.size then xs[k - (off + n)]? else c[k]?
  | [], n, off, c => ⟨rfl, fun k => by rw [if_neg (by simp; omega)]; rfl⟩
  | x :: xs, n, off, c => by
    rw [List.zipIdx_cons, List.foldl_cons]
    obtain ⟨h1, h2⟩ := fold_set xs (n + 1) off (c.setIfInBounds (off + n) x)
    refine ⟨by simpa using h1, fun k => ?_⟩
    rw [h2 k]
    simp only [Array.size_setIfInBounds, List.length_cons, Array.getElem?_setIfInBounds]
    by_cases h3 : off + n = k
    · subst h3
      rw [if_neg (by omega), if_pos rfl]
      by_cases h4 : off + n < c.size
      · rw [if_pos h4, if_pos (by omega)]; simp
      · rw [if_neg h4, if_neg (by omega)]; exact (Array.getElem?_eq_none (by omega)).symm
    · rw [if_neg h3]
      by_cases h4 : off + (n + 1) ≤ k ∧ k < off + (n + 1) + xs.length ∧ k < c.size
      · rw [if_pos h4, if_pos (by omega), show k - (off + n) = (k - (off + (n + 1))) + 1 by omega, List.getElem?_cons_succ]
      · rw [if_neg h4, if_neg (by omega)]
theorem fill_den (hT : TR ρ T a.tmps) (hG : GOK P ρ) (plc : Nat → Option (Nat × Nat)) (place : Nat → Option (Nat × Nat)) (hp : ∀ i q, plc i = some q → place i = some q) :
    ∀ (ps : List (Nat × Operand)) (l l' : List AV) (m : List Value), ps.all (fun p => gl P p.2) = true → DL ρ l m → fillL l plc T ps = some l' →
      ∃ m', DL ρ l' m' ∧ Instr.fill place m.toArray (ps.map fun p => (p.1, a.eval p.2)) = some m'.toArray
  | [], l, l', m, _, hl, h => by simp only [fillL, Option.some.injEq] at h; subst h; exact ⟨m, hl, rfl⟩
  | (i, x) :: r, l, l', m, hg, hl, h => by
    simp only [List.all_cons, Bool.and_eq_true] at hg
    simp only [fillL] at h
    split at h
    · rename_i off sz v hq he
      obtain ⟨hk, h⟩ := cond_some h (by simp)
      simp only [Bool.and_eq_true, beq_true, len'_eq, blt_iff, decide_eq_true_iff] at hk
      obtain ⟨hk, hpos⟩ := hk
      split at h
      · rename_i l1 h1
        have hv := ev_den hT hG hg.1 he
        have hc := den_cells hv
        have hlen : (a.eval x).cells.size = sz := by rw [← hk, hc.length]; simp
        obtain ⟨e1, e2, e3⟩ := putL_spec l off v.cells l1 h1 (by omega)
        obtain ⟨f1, f2⟩ := fold_set (a.eval x).cells.toList 0 off m.toArray
        have hsz : m.length = l.length := hl.length.symm
        have hDL : DL ρ l1 (((a.eval x).cells.toList.zipIdx 0).foldl (fun cs (p : Value × Nat) => cs.setIfInBounds (off + p.2) p.1) m.toArray).toList := by
          refine .of ?_ fun k u hu => ?_
          · rw [e1, ← hsz]; exact f1.symm
          · rw [Array.getElem?_toList, f2 k]
            rw [e3 k] at hu
            by_cases hin : off ≤ k ∧ k < off + v.cells.length
            · rw [if_pos hin] at hu
              obtain ⟨y, hy1, hy2⟩ := hc.get hu
              refine ⟨y, ?_, hy2⟩
              rw [if_pos ⟨by omega, by rw [← hc.length]; omega, by simp; omega⟩]
              simpa using hy1
            · rw [if_neg hin] at hu
              obtain ⟨y, hy1, hy2⟩ := hl.get hu
              refine ⟨y, ?_, hy2⟩
              rw [if_neg (by rw [← hc.length]; omega)]
              simpa using hy1
        obtain ⟨m', hm', hf⟩ := fill_den hT hG plc place hp r l1 l' _ hg.2 hDL h
        refine ⟨m', hm', ?_⟩
        rw [List.map_cons, Instr.fill, hp i _ hq]
        have : ((a.eval x).cells.size ≠ sz || off + (a.eval x).cells.size > m.toArray.size) = false := by
          simp; exact ⟨hlen, by rw [hlen, hsz]; omega⟩
        simp only [this, Bool.false_eq_true, if_false]
        rw [← hf]
        congr 1
        rw [← Array.foldl_toList, Array.toList_zipIdx]
      · cases h
    · cases h
theorem mapM_places : ∀ (fs : List Field), fs.all (fun f => (szOf P f.type).isSome) = true → ∀ w, (fs.mapM (m := Sem) fun f => do pure (f.offset, ← sizeOf f.type)).run P w = .ok (fs.map fun f => (f.offset, (szOf P f.type).getD 0)) w
  | [], _, w => by simp
  | f :: fs, h, w => by
    simp only [List.all_cons, Bool.and_eq_true] at h
    obtain ⟨n, hn⟩ := Option.isSome_iff_exists.1 h.1
    rw [List.mapM_cons]
    simp only [Sem.run_bind, szOf_run hn, Result.andThen_ok, Sem.run_pure, mapM_places fs h.2, List.map_cons, hn, Option.getD_some]
theorem oBuild_p (o : Oper) (t : TypeId) (parts : Array (Nat × Operand)) (ho : o.op = .build t parts) (hT : TR ρ T a.tmps) (hG : GOK P ρ) (hx : parts.toList.all (fun p => gl P p.2) = true) (H : Heap) :
    OKp P o a ρ H (oBuild P t parts T H) := by
  intro v H' h
  unfold oBuild at h
  have hparts : (parts.map fun (p : Nat × Operand) => (p.1, a.eval p.2)).toList = parts.toList.map fun p => (p.1, a.eval p.2) := by simp
  split at h
  · rename_i fs z hu hz
    obtain ⟨hall, h⟩ := cond_some h (by simp)
    split at h
    · rename_i l hl
      injection h with h1 h2; subst h1
      obtain ⟨x, h3, h4, _⟩ := zeroOf_run hz
      have hc := den_cells (h3 ρ)
      have hpl : ∀ i q, structPlc P t i = some q → (fs.map fun f => (f.offset, (szOf P f.type).getD 0))[i]? = some q := fun i q hq => by
        unfold structPlc at hq
        split at hq
        · rename_i p hp
          injection hq with hq; subst hq
          obtain ⟨fs', y, e1, e2, e3, _, e5⟩ := fieldPlc_spec hp
          rw [hu] at e1; injection e1 with e1; injection e1 with e1; subst e1
          simp [e2, e3, e5]
        · cases hq
      obtain ⟨m', hm', hf⟩ := fill_den hT hG _ _ hpl parts.toList z.cells l _ hx hc hl
      refine ⟨h2.symm, .agg m'.toArray, by simp [den, show denL ρ l = some _ from hm'], fun w => ?_⟩
      have hmap : ∀ w, (fs.mapM (m := Sem) fun f => do pure (f.offset, ← sizeOf f.type)).run P w = .ok (fs.map fun f => (f.offset, (szOf P f.type).getD 0)) w := fun w => by
        rw [Array.mapM_eq_mapM_toList, Sem.run_map, mapM_places _ hall]
        simp
        apply Array.ext'; simp
      simp only [execOp, ho, Instr.build, Sem.run_bind, h4, Result.andThen_ok, run_und hu, hmap]
      rw [hparts]
      simp only [Array.toArray_toList] at hf
      rw [hf]
      rfl
    · cases h
  · rename_i n e z hu hz
    split at h
    · rename_i sz hsz
      split at h
      · rename_i l hl
        injection h with h1 h2; subst h1
        obtain ⟨x, h3, h4, _⟩ := zeroOf_run hz
        have hc := den_cells (h3 ρ)
        obtain ⟨m', hm', hf⟩ := fill_den hT hG (rowPlc sz) (fun i => some (i * sz, sz)) (fun i q hq => by simpa [rowPlc] using hq) parts.toList z.cells l _ hx hc hl
        refine ⟨h2.symm, .agg m'.toArray, by simp [den, show denL ρ l = some _ from hm'], fun w => ?_⟩
        simp only [execOp, ho, Instr.build, Sem.run_bind, h4, Result.andThen_ok, run_und hu, szOf_run hsz]
        rw [hparts]
        simp only [Array.toArray_toList] at hf
        rw [hf]
        rfl
      · cases h
    · cases h
  · cases h
end
end Eng
end Go.Proofs.YtbdhainbcfobeaaGreatDoor
