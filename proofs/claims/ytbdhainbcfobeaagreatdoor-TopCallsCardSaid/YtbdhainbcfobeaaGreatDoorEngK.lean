/-
  THE ENGINE, part K: what makes memory.
-/
import Derived.Test.YtbdhainbcfobeaaGreatDoorEngJ
namespace Go.Proofs.YtbdhainbcfobeaaGreatDoor
namespace Eng
open Go
section
variable {P : Program} {ρ : Rho} {T : Tm} {a : Act}

/-- a value that stands for this in every placing that goes on with this one and lays the new block so -/
def Mk (P : Program) (o : Oper) (a : Act) (ρ : Rho) (H : Heap) (v : AV) (H' : Heap) : Prop :=
  ∃ B, H' = ⟨H.bl.set (bits H.nx) (some B), H.nx + 1⟩ ∧ wr B ∧ ∀ w, ∃ x w' obj lim, (execOp a.eval o).run P w = .ok (.value x) w' ∧ w'.heap = w.heap.push obj ∧ w'.os = w.os ∧ w'.tape = w.tape ∧ w'.output = w.output ∧
    (∀ ρ', Sub ρ ρ' → ρ' H.nx = some ⟨w.heap.size, 0, lim⟩ → den ρ' v = some x) ∧
    (∀ ρ' w'', Sub ρ ρ' → w''.heap[w.heap.size]? = some obj → BlkOK ρ' w'' ⟨w.heap.size, 0, lim⟩ B)
theorem cells_ok {ρ' : Rho} {w'' : World} {k : Nat} {l : List AV} {xs : List Value} {c : Array Value} {e : TypeId} {fz : Nat × Nat} (hl : DL ρ l xs) (s : Sub ρ ρ') (hk : w''.heap[k]? = some (.cells c e fz)) (hc : ∀ (i : Nat) (x : Value), xs[i]? = some x → c[i]? = some x)
    (hsz : l.length ≤ c.size) (hf : ∀ i, i < c.size → ¬ (fz.1 ≤ i ∧ i < fz.2)) (tl : Bool) : BlkOK ρ' w'' ⟨k, 0, c.size⟩ (.cells (layT .lf 0 l) l.length tl false) := by
  refine ⟨c, e, fz, hk, hsz, by simp, fun _ i hi => by simpa using hf i hi, fun i v hv => ?_⟩
  rw [get_layT, Tr.get_lf] at hv
  by_cases h : 0 ≤ i ∧ i < 0 + l.length
  · rw [if_pos h] at hv
    obtain ⟨x, h1, h2⟩ := (hl.mono s).get (by simpa using hv)
    exact ⟨by omega, x, h2, by simpa using hc i x (by simpa using h1)⟩
  · rw [if_neg h] at hv; cases hv
theorem newR_mk {o : Oper} {l : List AV} {xs : List Value} {e : TypeId} {H H' : Heap} {v : AV} (hl : DL ρ l xs) (hrun : ∀ w, (execOp a.eval o).run P w = .ok (.value (.pointer (some ⟨w.heap.size, 0, none⟩))) { w with heap := w.heap.push (.cells xs.toArray e) })
    (h : newR H l = .val v H') : Mk P o a ρ H v H' := by
  simp only [newR, layC_eq, fN_eq, newB_eq, len'_eq] at h
  injection h with h1 h2
  subst h1
  refine ⟨_, h2.symm, rfl, fun w => ⟨_, _, _, xs.length, hrun w, rfl, rfl, rfl, rfl, fun ρ' _ hb => ?_, fun ρ' w'' s hk => ?_⟩⟩
  · simp [den, hb]
  · have := cells_ok (c := xs.toArray) hl s hk (fun i x hx => by simpa using hx) (by simp [hl.length]) (fun i _ => by simp) false
    simpa using this
theorem oAlloc_m (o : Oper) (t : TypeId) (ho : o.op = .alloc t) {H H' : Heap} {v : AV} (h : oAlloc P t H = .val v H') : Mk P o a ρ H v H' := by
  unfold oAlloc at h
  split at h
  · rename_i z hz
    obtain ⟨x, h1, h2, _⟩ := zeroOf_run hz
    refine newR_mk (e := t) (den_cells (h1 ρ)) (fun w => ?_) h
    simp [execOp, ho, Instr.alloc, h2, newVar, newRow]
  · cases h
theorem oBox_m (o : Oper) (t : TypeId) (x : Operand) (ho : o.op = .box t x) (hT : TR ρ T a.tmps) (hG : GOK P ρ) (hx : gl P x = true) {H H' : Heap} {v : AV} (h : oBox x T H = .val v H') : Mk P o a ρ H v H' := by
  unfold oBox at h
  split at h
  · rename_i z hz
    refine newR_mk (e := t) (den_cells (ev_den hT hG hx hz)) (fun w => ?_) h
    simp [execOp, ho, Instr.box, newVar, newRow]
  · cases h

theorem repL_len : ∀ (n : Nat) (l : List AV), (repL n l).length = n * l.length
  | 0, l => by simp [repL]
  | n + 1, l => by simp [repL, repL_len n l, Nat.succ_mul, Nat.add_comm]
theorem repL_get : ∀ (n : Nat) (l : List AV) (k : Nat), k < n * l.length → (repL n l)[k]? = l[k % l.length]?
  | 0, l, k, h => by simp at h
  | n + 1, l, k, h => by
    rw [repL]
    by_cases hk : k < l.length
    · rw [List.getElem?_append_left hk, Nat.mod_eq_of_lt hk]
    · rw [Nat.add_mul, Nat.one_mul] at h
      rw [List.getElem?_append_right (by omega), repL_get n l (k - l.length) (by omega)]
      congr 1
      exact (Nat.mod_eq_sub_mod (by omega)).symm
theorem elemI_spec {t : TypeId} {E : EI} (h : elemI P t = some E) : P.underlying t = some (.slice E.e) ∧ 0 < E.z ∧ szOf P E.e = some E.z ∧ zeroOf P E.e = some E.zero ∧ E.zero.cells.length = E.z ∧
    ∃ i, P.info? E.e = some i ∧ i.size = E.z ∧ i.bytes < 1000000 ∧ ∃ x, i.zero = some x ∧ (∀ ρ, den ρ E.zero = some x) ∧ x.cells.size = E.z := by
  unfold elemI at h
  split at h
  · rename_i e hu
    split at h
    · rename_i i v hi hz
      obtain ⟨hc, h⟩ := cond_some h (by simp)
      simp only [Bool.and_eq_true, blt_iff, decide_eq_true_iff, beq_true, limit] at hc
      obtain ⟨⟨c1, c2⟩, c3⟩ := hc
      injection h with h; subst h
      obtain ⟨x, h1, h2, i', h3, h4⟩ := zeroOf_run hz
      rw [hi] at h3; injection h3 with h3; subst h3
      refine ⟨hu, c1, by simp [szOf, hi], hz, c3, i, hi, rfl, c2, x, h4, h1, ?_⟩
      have := (den_cells (h1 (fun _ => none))).length
      rw [← c3, this]; simp
    · cases h
  · cases h
/-- rows of zeros -/
theorem zeros_DL {v : AV} {x : Value} (hv : den ρ v = some x) (n : Nat) (hpos : 0 < v.cells.length) : DL ρ (repL n v.cells) ((Array.range (n * v.cells.length)).map (x.cells[· % x.cells.size]!)).toList := by
  have hc := den_cells hv
  have hs : x.cells.size = v.cells.length := by rw [hc.length]; simp
  refine .of (by simp [repL_len]) fun k u hu => ?_
  have hk : k < n * v.cells.length := by rw [← repL_len]; exact (List.getElem?_eq_some_iff.1 hu).1
  rw [repL_get n _ k hk] at hu
  obtain ⟨y, h1, h2⟩ := hc.get hu
  refine ⟨y, ?_, h2⟩
  have hlt : k % v.cells.length < x.cells.size := by rw [hs]; exact Nat.mod_lt _ hpos
  simp [hs, hk]
  have : x.cells[k % v.cells.length]? = some y := by simpa using h1
  rw [getElem!_def, this]
theorem oBuildSlice_m (o : Oper) (t : TypeId) (len : Nat) (parts : Array (Nat × Operand)) (ho : o.op = .buildSlice t len parts) (hT : TR ρ T a.tmps) (hG : GOK P ρ) (hx : parts.toList.all (fun p => gl P p.2) = true) {H H' : Heap} {v : AV}
    (h : oBuildSlice P t len parts T H = .val v H') : Mk P o a ρ H v H' := by
  unfold oBuildSlice at h
  split at h
  · rename_i E hE
    obtain ⟨hu, hpos, hsz, hz, hzl, i, hi, hiz, hib, x, hx0, hxd, hxs⟩ := elemI_spec hE
    obtain ⟨hlt, h⟩ := cond_some h (by simp)
    rw [blt_iff, decide_eq_true_iff] at hlt
    have hlt : len * E.z < 10000 := hlt
    split at h
    · rename_i l hl
      simp only [layC_eq, fN_eq, newB_eq] at h
      injection h with h1 h2; subst h1
      have hbase := zeros_DL (ρ := ρ) (hxd ρ) len (by omega)
      obtain ⟨m', hm', hf⟩ := fill_den hT hG (rowPlc E.z) (fun i => some (i * E.z, E.z)) (fun i q hq => by simpa [rowPlc] using hq) parts.toList _ _ _ hx hbase hl
      have hlen : l.length = len * E.z := by
        rw [hm'.length]
        have : m'.toArray.size = (Array.map (fun (k : Nat) => x.cells[k % x.cells.size]!) (Array.range (len * E.zero.cells.length))).toList.toArray.size := by
          have key : ∀ (ps : List (Nat × Value)) (c c' : Array Value), Instr.fill (fun i => some (i * E.z, E.z)) c ps = some c' → c'.size = c.size := by
            intro ps
            induction ps with
            | nil => intro c c' h; simp only [Instr.fill, Option.some.injEq] at h; rw [h]
            | cons p ps ih =>
              intro c c' h
              obtain ⟨j, u⟩ := p
              simp only [Instr.fill] at h
              split at h
              · cases h
              · rw [ih _ _ h, ← Array.foldl_toList, Array.toList_zipIdx]
                exact (fold_set _ 0 _ _).1
          exact key _ _ _ hf
        simp [hzl] at this
        exact this
      refine ⟨_, h2.symm, rfl, fun w => ⟨.slice (some ⟨w.heap.size, 0, none⟩) len len, { w with heap := w.heap.push (.cells m'.toArray E.e) }, _, m'.length, ?_, rfl, rfl, rfl, rfl, fun ρ' _ hb => by simp [den, hb], fun ρ' w'' s hk => ?_⟩⟩
      · have hparts : (parts.map fun (p : Nat × Operand) => (p.1, a.eval p.2)).toList = parts.toList.map fun p => (p.1, a.eval p.2) := by simp
        have hbig : ¬ (len * E.z > 2 ^ 24) := by omega
        simp only [Array.toArray_toList, hzl] at hf
        simp only [execOp, ho, Instr.buildSlice, Sem.run_bind, run_und hu, Result.andThen_ok, szOf_run hsz, if_neg hbig, hparts]
        by_cases h0 : len * E.z = 0
        · have hr0 : ∀ f : Nat → Value, (Array.range 0).map f = #[] := fun f => Array.ext' (by simp)
          rw [h0, hr0] at hf
          simp [h0, hr0, hf, newRow]
        · simp [h0, zeroValue, typeInfo, hi, hx0, hf, newRow]
      · have h3 := cells_ok (c := m'.toArray) (tl := false) hm' s hk (fun i x hx => by simpa using hx) (by simp [hm'.length]) (fun i _ => by simp)
        rw [hlen] at h3
        simpa using h3
    · cases h
  · cases h
theorem oMakeSlice_m (o : Oper) (t : TypeId) (lx cx : Operand) (ho : o.op = .makeSlice t lx cx) (hT : TR ρ T a.tmps) (hG : GOK P ρ) (hl : gl P lx = true) (hc : gl P cx = true) {H H' : Heap} {v : AV}
    (h : oMakeSlice P t lx cx T H = .val v H') : Mk P o a ρ H v H' := by
  unfold oMakeSlice at h
  split at h
  · rename_i E k1 n k2 c hE el ec
    obtain ⟨hu, hpos, hsz, hz, hzl, i, hi, hiz, hib, x, hx0, hxd, hxs⟩ := elemI_spec hE
    obtain ⟨hlt, h⟩ := cond_some h (by simp)
    simp only [Bool.and_eq_true, blt_iff, ble_iff, decide_eq_true_iff, limit] at hlt
    obtain ⟨h1, h2⟩ := hlt
    simp only [layC_eq, fN_eq, newB_eq] at h
    injection h with e1 e2; subst e1
    have hle := den_int (ev_den hT hG hl el)
    have hce := den_int (ev_den hT hG hc ec)
    have hbase := zeros_DL (ρ := ρ) (hxd ρ) c (by omega)
    have hlen : (repL c E.zero.cells).length = c * E.z := by rw [repL_len, hzl]
    refine ⟨_, e2.symm, rfl, fun w => ⟨.slice (some ⟨w.heap.size, 0, none⟩) n c, { w with heap := w.heap.push (.cells ((Array.range (c * E.z)).map fun (k : Nat) => x.cells[k % x.cells.size]!) E.e) }, _, c * E.z, ?_, rfl, rfl, rfl, rfl, fun ρ' _ hb => by simp [den, hb], fun ρ' w'' s hk => ?_⟩⟩
    · have w1 : IntKind.i64.wrap (n : Int) = n := by rw [← wrapF_eq]; unfold wrapF; have : inK .i64 (n : Int) = true := by show Nat.blt n pow63 = true; rw [blt_iff]; exact decide_eq_true (by unfold pow63; omega)
                                                     rw [this]; rfl
      have w2 : IntKind.i64.wrap (c : Int) = c := by rw [← wrapF_eq]; unfold wrapF; have : inK .i64 (c : Int) = true := by show Nat.blt c pow63 = true; rw [blt_iff]; exact decide_eq_true (by unfold pow63; omega)
                                                     rw [this]; rfl
      have hb1 : i.bytes * c ≤ 1000000 * 1000000 := Nat.mul_le_mul (by omega) (by omega)
      have hb2 : ¬ ((281474976710656 : Int) < (i.bytes : Int) * (c : Int)) := by
        have : ((i.bytes * c : Nat) : Int) = (i.bytes : Int) * (c : Int) := by simp
        rw [← this]; omega
      have hcond : ((decide ((c : Int) < 0) || decide ((i.bytes : Int) * (c : Int) > 2 ^ 48)) || decide ((n : Int) < 0) || decide ((n : Int) > (c : Int))) = false := by
        simp; omega
      simp only [execOp, ho, Instr.makeSlice, Sem.run_bind, run_und hu, Result.andThen_ok, hle, hce, asInt, asIntOf, Sem.run_pure, run_info hi, Int.ofNat_eq_natCast, w1, w2, hcond, Bool.false_eq_true, if_false, run_askRoom, Int.toNat_natCast, szOf_run hsz]
      by_cases h0 : c * E.z = 0
      · have hr0 : ∀ f : Nat → Value, (Array.range 0).map f = #[] := fun f => Array.ext' (by simp)
        simp [h0, hr0, newRow]
      · simp [h0, zeroValue, typeInfo, hi, hx0, newRow]
    · have h3 := cells_ok (c := (Array.range (c * E.z)).map fun (k : Nat) => x.cells[k % x.cells.size]!) (tl := false) hbase s hk (fun i y hy => by rw [Array.getElem?_toList] at hy; simpa [hzl] using hy) (by simp [hlen]) (fun i _ => by simp)
      rw [hlen] at h3
      simpa using h3
  · cases h
theorem oMakeMap_m (o : Oper) (t : TypeId) (r : Option Operand) (ho : o.op = .makeMap t r) {H H' : Heap} {v : AV} (h : oMakeMap H r = .val v H') : Mk P o a ρ H v H' := by
  unfold oMakeMap at h
  split at h
  · rw [newB_eq] at h
    injection h with h1 h2; subst h1
    exact ⟨_, h2.symm, trivial, fun w => ⟨.map (some w.heap.size), { w with heap := w.heap.push (.map #[] 0) }, _, 0, by simp [execOp, ho, Instr.makeMap], rfl, rfl, rfl, rfl, fun ρ' _ hb => by simp [den, hb],
      fun ρ' w'' _ hk => ⟨#[], 0, hk, .nil, .nil⟩⟩⟩
  · cases h
end
end Eng
end Go.Proofs.YtbdhainbcfobeaaGreatDoor
