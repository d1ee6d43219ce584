/-
  THE ENGINE, part K: what makes memory.
-/
import Derived.Test.YtlajkdbpmkodpaaGreatDoorCore2
import Derived.Lib.ConvBytes
namespace Go.Proofs.YtlajkdbpmkodpaaGreatDoor
namespace Eng
open Go
section
variable {P : Program} {ρ : Rho} {T : Tm} {a : Act}

/-- a value that stands for this in every placing that goes on with this one and lays the new block so -/
def Mk (P : Program) (o : Oper) (a : Act) (ρ : Rho) (H : Heap) (v : AV) (H' : Heap) : Prop :=
  ∃ B, H' = ⟨H.bl.set (bits H.nx) (some B), H.nx + 1⟩ ∧ wr B ∧ ∀ w, ∃ x w' obj lim, (execOp a.eval o).run P w = .ok (.value x) w' ∧ w'.heap = w.heap.push obj ∧ w'.os = w.os ∧ w'.tape = w.tape ∧ w'.output = w.output ∧
    (∀ ρ', Sub ρ ρ' → ρ' H.nx = some ⟨w.heap.size, 0, lim⟩ → den ρ' v = some x) ∧
    (∀ ρ' w'', Sub ρ ρ' → w''.heap[w.heap.size]? = some obj → BlkOK ρ' w'' ⟨w.heap.size, 0, lim⟩ B)
theorem cells_ok {ρ' : Rho} {w'' : World} {k : Nat} {l : List AV} {xs : List Value} {c : Array Value} {e : TypeId} {fz : Nat × Nat} (hl : DL ρ l xs) (s : Sub ρ ρ') (hk : w''.heap[k]? = some (.cells c e fz)) (hc : ∀ (i : Nat) (x : Value), xs[i]? = some x → c[i]? = some x)
    (hsz : l.length ≤ c.size) (hf : ∀ i, i < c.size → ¬ (fz.1 ≤ i ∧ i < fz.2)) (tl : Bool) : BlkOK ρ' w'' ⟨k, 0, c.size⟩ (.cells (layT .lf 0 l) l.length tl false) := by
  refine ⟨c, e, fz, hk, hsz, by simp, fun _ i hi => by simpa using hf i hi, fun i v hv => ?_⟩
  rw [get_layT, Tr.get_lf] at hv
  by_cases h : 0 ≤ i ∧ i < 0 + l.length
  · rw [if_pos h] at hv
    obtain ⟨x, h1, h2⟩ := (hl.mono s).get (by simpa using hv)
    exact ⟨by omega, x, h2, by simpa using hc i x (by simpa using h1)⟩
  · rw [if_neg h] at hv; cases hv
theorem newR_mk {o : Oper} {l : List AV} {xs : List Value} {e : TypeId} {H H' : Heap} {v : AV} (hl : DL ρ l xs) (hrun : ∀ w, (execOp a.eval o).run P w = .ok (.value (.pointer (some ⟨w.heap.size, 0, none⟩))) { w with heap := w.heap.push (.cells xs.toArray e) })
    (h : newR H l = .val v H') : Mk P o a ρ H v H' := by
  simp only [newR, layC_eq, fN_eq, newB_eq, len'_eq] at h
  injection h with h1 h2
  subst h1
  refine ⟨_, h2.symm, rfl, fun w => ⟨_, _, _, xs.length, hrun w, rfl, rfl, rfl, rfl, fun ρ' _ hb => ?_, fun ρ' w'' s hk => ?_⟩⟩
  · simp [den, hb]
  · have := cells_ok (c := xs.toArray) hl s hk (fun i x hx => by simpa using hx) (by simp [hl.length]) (fun i _ => by simp) false
    simpa using this
theorem oAlloc_m (o : Oper) (t : TypeId) (ho : o.op = .alloc t) {H H' : Heap} {v : AV} (h : oAlloc P t H = .val v H') : Mk P o a ρ H v H' := by
  unfold oAlloc at h
  split at h
  · rename_i z hz
    obtain ⟨x, h1, h2, _⟩ := zeroOf_run hz
    refine newR_mk (e := t) (den_cells (h1 ρ)) (fun w => ?_) h
    simp [execOp, ho, Instr.alloc, h2, newVar, newRow]
  · cases h
theorem oBox_m (o : Oper) (t : TypeId) (x : Operand) (ho : o.op = .box t x) (hT : TR ρ T a.tmps) (hG : GOK P ρ) (hx : gl P x = true) {H H' : Heap} {v : AV} (h : oBox x T H = .val v H') : Mk P o a ρ H v H' := by
  unfold oBox at h
  split at h
  · rename_i z hz
    refine newR_mk (e := t) (den_cells (ev_den hT hG hx hz)) (fun w => ?_) h
    simp [execOp, ho, Instr.box, newVar, newRow]
  · cases h

theorem repL_len : ∀ (n : Nat) (l : List AV), (repL n l).length = n * l.length
  | 0, l => by simp [repL]
  | n + 1, l => by simp [repL, repL_len n l, Nat.succ_mul, Nat.add_comm]
theorem repL_get : ∀ (n : Nat) (l : List AV) (k : Nat), k < n * l.length → (repL n l)[k]? = l[k % l.length]?
  | 0, l, k, h => by simp at h
  | n + 1, l, k, h => by
    rw [repL]
    by_cases hk : k < l.length
    · rw [List.getElem?_append_left hk, Nat.mod_eq_of_lt hk]
    · rw [Nat.add_mul, Nat.one_mul] at h
      rw [List.getElem?_append_right (by omega), repL_get n l (k - l.length) (by omega)]
      congr 1
      exact (Nat.mod_eq_sub_mod (by omega)).symm
theorem elemI_spec {t : TypeId} {E : EI} (h : elemI P t = some E) : P.underlying t = some (.slice E.e) ∧ 0 < E.z ∧ szOf P E.e = some E.z ∧ zeroOf P E.e = some E.zero ∧ E.zero.cells.length = E.z ∧
    ∃ i, P.info? E.e = some i ∧ i.size = E.z ∧ i.bytes < 1000000 ∧ ∃ x, i.zero = some x ∧ (∀ ρ, den ρ E.zero = some x) ∧ x.cells.size = E.z := by
  unfold elemI at h
  split at h
  · rename_i e hu
    split at h
    · rename_i i v hi hz
      obtain ⟨hc, h⟩ := cond_some h (by simp)
      simp only [Bool.and_eq_true, blt_iff, decide_eq_true_iff, beq_true, limit] at hc
      obtain ⟨⟨c1, c2⟩, c3⟩ := hc
      injection h with h; subst h
      obtain ⟨x, h1, h2, i', h3, h4⟩ := zeroOf_run hz
      rw [hi] at h3; injection h3 with h3; subst h3
      refine ⟨hu, c1, by simp [szOf, hi], hz, c3, i, hi, rfl, c2, x, h4, h1, ?_⟩
      have := (den_cells (h1 (fun _ => none))).length
      rw [← c3, this]; simp
    · cases h
  · cases h
/-- rows of zeros -/
theorem zeros_DL {v : AV} {x : Value} (hv : den ρ v = some x) (n : Nat) (hpos : 0 < v.cells.length) : DL ρ (repL n v.cells) ((Array.range (n * v.cells.length)).map (x.cells[· % x.cells.size]!)).toList := by
  have hc := den_cells hv
  have hs : x.cells.size = v.cells.length := by rw [hc.length]; simp
  refine .of (by simp [repL_len]) fun k u hu => ?_
  have hk : k < n * v.cells.length := by rw [← repL_len]; exact (List.getElem?_eq_some_iff.1 hu).1
  rw [repL_get n _ k hk] at hu
  obtain ⟨y, h1, h2⟩ := hc.get hu
  refine ⟨y, ?_, h2⟩
  have hlt : k % v.cells.length < x.cells.size := by rw [hs]; exact Nat.mod_lt _ hpos
  simp [hs, hk]
  have : x.cells[k % v.cells.length]? = some y := by simpa using h1
  rw [getElem!_def, this]
theorem oBuildSlice_m (o : Oper) (t : TypeId) (len : Nat) (parts : Array (Nat × Operand)) (ho : o.op = .buildSlice t len parts) (hT : TR ρ T a.tmps) (hG : GOK P ρ) (hx : parts.toList.all (fun p => gl P p.2) = true) {H H' : Heap} {v : AV}
    (h : oBuildSlice P t len parts T H = .val v H') : Mk P o a ρ H v H' := by
  unfold oBuildSlice at h
  split at h
  · rename_i E hE
    obtain ⟨hu, hpos, hsz, hz, hzl, i, hi, hiz, hib, x, hx0, hxd, hxs⟩ := elemI_spec hE
    obtain ⟨hlt, h⟩ := cond_some h (by simp)
    rw [blt_iff, decide_eq_true_iff] at hlt
    have hlt : len * E.z < 10000 := hlt
    split at h
    · rename_i l hl
      simp only [layC_eq, fN_eq, newB_eq] at h
      injection h with h1 h2; subst h1
      have hbase := zeros_DL (ρ := ρ) (hxd ρ) len (by omega)
      obtain ⟨m', hm', hf⟩ := fill_den hT hG (rowPlc E.z) (fun i => some (i * E.z, E.z)) (fun i q hq => by simpa [rowPlc] using hq) parts.toList _ _ _ hx hbase hl
      have hlen : l.length = len * E.z := by
        rw [hm'.length]
        have : m'.toArray.size = (Array.map (fun (k : Nat) => x.cells[k % x.cells.size]!) (Array.range (len * E.zero.cells.length))).toList.toArray.size := by
          have key : ∀ (ps : List (Nat × Value)) (c c' : Array Value), Instr.fill (fun i => some (i * E.z, E.z)) c ps = some c' → c'.size = c.size := by
            intro ps
            induction ps with
            | nil => intro c c' h; simp only [Instr.fill, Option.some.injEq] at h; rw [h]
            | cons p ps ih =>
              intro c c' h
              obtain ⟨j, u⟩ := p
              simp only [Instr.fill] at h
              split at h
              · cases h
              · rw [ih _ _ h, ← Array.foldl_toList, Array.toList_zipIdx]
                exact (fold_set _ 0 _ _).1
          exact key _ _ _ hf
        simp [hzl] at this
        exact this
      refine ⟨_, h2.symm, rfl, fun w => ⟨.slice (some ⟨w.heap.size, 0, none⟩) len len, { w with heap := w.heap.push (.cells m'.toArray E.e) }, _, m'.length, ?_, rfl, rfl, rfl, rfl, fun ρ' _ hb => by simp [den, hb], fun ρ' w'' s hk => ?_⟩⟩
      · have hparts : (parts.map fun (p : Nat × Operand) => (p.1, a.eval p.2)).toList = parts.toList.map fun p => (p.1, a.eval p.2) := by simp
        have hbig : ¬ (len * E.z > 2 ^ 24) := by omega
        simp only [Array.toArray_toList, hzl] at hf
        simp only [execOp, ho, Instr.buildSlice, Sem.run_bind, run_und hu, Result.andThen_ok, szOf_run hsz, if_neg hbig, hparts]
        by_cases h0 : len * E.z = 0
        · have hr0 : ∀ f : Nat → Value, (Array.range 0).map f = #[] := fun f => Array.ext' (by simp)
          rw [h0, hr0] at hf
          simp [h0, hr0, hf, newRow]
        · simp [h0, zeroValue, typeInfo, hi, hx0, hf, newRow]
      · have h3 := cells_ok (c := m'.toArray) (tl := false) hm' s hk (fun i x hx => by simpa using hx) (by simp [hm'.length]) (fun i _ => by simp)
        rw [hlen] at h3
        simpa using h3
    · cases h
  · cases h
theorem oMakeSlice_m (o : Oper) (t : TypeId) (lx cx : Operand) (ho : o.op = .makeSlice t lx cx) (hT : TR ρ T a.tmps) (hG : GOK P ρ) (hl : gl P lx = true) (hc : gl P cx = true) {H H' : Heap} {v : AV}
    (h : oMakeSlice P t lx cx T H = .val v H') : Mk P o a ρ H v H' := by
  unfold oMakeSlice at h
  split at h
  · rename_i E k1 n k2 c hE el ec
    obtain ⟨hu, hpos, hsz, hz, hzl, i, hi, hiz, hib, x, hx0, hxd, hxs⟩ := elemI_spec hE
    obtain ⟨hlt, h⟩ := cond_some h (by simp)
    simp only [Bool.and_eq_true, blt_iff, ble_iff, decide_eq_true_iff, limit] at hlt
    obtain ⟨h1, h2⟩ := hlt
    simp only [layC_eq, fN_eq, newB_eq] at h
    injection h with e1 e2; subst e1
    have hle := den_int (ev_den hT hG hl el)
    have hce := den_int (ev_den hT hG hc ec)
    have hbase := zeros_DL (ρ := ρ) (hxd ρ) c (by omega)
    have hlen : (repL c E.zero.cells).length = c * E.z := by rw [repL_len, hzl]
    refine ⟨_, e2.symm, rfl, fun w => ⟨.slice (some ⟨w.heap.size, 0, none⟩) n c, { w with heap := w.heap.push (.cells ((Array.range (c * E.z)).map fun (k : Nat) => x.cells[k % x.cells.size]!) E.e) }, _, c * E.z, ?_, rfl, rfl, rfl, rfl, fun ρ' _ hb => by simp [den, hb], fun ρ' w'' s hk => ?_⟩⟩
    · have w1 : IntKind.i64.wrap (n : Int) = n := by rw [← wrapF_eq]; unfold wrapF; have : inK .i64 (n : Int) = true := by show Nat.blt n pow63 = true; rw [blt_iff]; exact decide_eq_true (by unfold pow63; omega)
                                                     rw [this]; rfl
      have w2 : IntKind.i64.wrap (c : Int) = c := by rw [← wrapF_eq]; unfold wrapF; have : inK .i64 (c : Int) = true := by show Nat.blt c pow63 = true; rw [blt_iff]; exact decide_eq_true (by unfold pow63; omega)
                                                     rw [this]; rfl
      have hb1 : i.bytes * c ≤ 1000000 * 1000000 := Nat.mul_le_mul (by omega) (by omega)
      have hb2 : ¬ ((281474976710656 : Int) < (i.bytes : Int) * (c : Int)) := by
        have : ((i.bytes * c : Nat) : Int) = (i.bytes : Int) * (c : Int) := by simp
        rw [← this]; omega
      have hcond : ((decide ((c : Int) < 0) || decide ((i.bytes : Int) * (c : Int) > 2 ^ 48)) || decide ((n : Int) < 0) || decide ((n : Int) > (c : Int))) = false := by
        simp; omega
      simp only [execOp, ho, Instr.makeSlice, Sem.run_bind, run_und hu, Result.andThen_ok, hle, hce, asInt, asIntOf, Sem.run_pure, run_info hi, Int.ofNat_eq_natCast, w1, w2, hcond, Bool.false_eq_true, if_false, run_askRoom, Int.toNat_natCast, szOf_run hsz]
      by_cases h0 : c * E.z = 0
      · have hr0 : ∀ f : Nat → Value, (Array.range 0).map f = #[] := fun f => Array.ext' (by simp)
        simp [h0, hr0, newRow]
      · simp [h0, zeroValue, typeInfo, hi, hx0, newRow]
    · have h3 := cells_ok (c := (Array.range (c * E.z)).map fun (k : Nat) => x.cells[k % x.cells.size]!) (tl := false) hbase s hk (fun i y hy => by rw [Array.getElem?_toList] at hy; simpa [hzl] using hy) (by simp [hlen]) (fun i _ => by simp)
      rw [hlen] at h3
      simpa using h3
  · cases h
theorem oMakeMap_m (o : Oper) (t : TypeId) (r : Option Operand) (ho : o.op = .makeMap t r) {H H' : Heap} {v : AV} (h : oMakeMap H r = .val v H') : Mk P o a ρ H v H' := by
  unfold oMakeMap at h
  split at h
  · rw [newB_eq] at h
    injection h with h1 h2; subst h1
    exact ⟨_, h2.symm, trivial, fun w => ⟨.map (some w.heap.size), { w with heap := w.heap.push (.map #[] 0) }, _, 0, by simp [execOp, ho, Instr.makeMap], rfl, rfl, rfl, rfl, fun ρ' _ hb => by simp [den, hb],
      fun ρ' w'' _ hk => ⟨#[], 0, hk, .nil, .nil⟩⟩⟩
  · cases h
end
end Eng
end Go.Proofs.YtlajkdbpmkodpaaGreatDoor
namespace Go.Proofs.YtlajkdbpmkodpaaGreatDoor
namespace Eng
open Go
section
variable {P : Program} {ρ : Rho} {T : Tm} {a : Act}

theorem newOpen_eq {H H' : Heap} {n es : Nat} {l : List AV} {v : AV} (h : newOpen H n es l = .val v H') : n < 1000000 ∧ v = .so H.nx 0 n es ∧ H' = ⟨H.bl.set (bits H.nx) (some (.cells (layT .lf 0 l) (n * es) true false)), H.nx + 1⟩ := by
  unfold newOpen at h
  cases hb : Nat.blt n limit with
  | false => rw [hb] at h; cases h
  | true =>
    rw [hb] at h
    simp only [Bool.not_true, cond_false, layC_eq, fN_eq, newB_eq] at h
    injection h with h1 h2
    rw [blt_iff, decide_eq_true_iff] at hb
    exact ⟨hb, h1.symm, h2.symm⟩
theorem freeze_rest (w : World) (a : Addr) : (w.freeze a 1).os = w.os ∧ (w.freeze a 1).tape = w.tape ∧ (w.freeze a 1).output = w.output := by
  unfold World.freeze; rw [if_neg (by decide)]; exact ⟨rfl, rfl, rfl⟩
theorem oConvert_m (o : Oper) (s d : TypeId) (x : Operand) (ho : o.op = .convert s d x) (hcl : cls P o.op = .make) (hT : TR ρ T a.tmps) (hG : GOK P ρ) (hx : gl P x = true) {H H' : Heap} {v : AV}
    (h : oConvert P s d x T H = .val v H') : Mk P o a ρ H v H' := by
  unfold oConvert at h
  rw [ho] at hcl
  simp only [cls] at hcl
  split at h
  · rename_i hs hd _; rw [hs, hd] at hcl; cases hcl
  · rename_i hs hd _; rw [hs, hd] at hcl; cases hcl
  · rename_i e n y hs hd he
    split at h
    · rename_i hu
      obtain ⟨_, h⟩ := cond_some h (by simp)
      obtain ⟨hn, rfl, rfl⟩ := newOpen_eq h
      have hv := den_str (ev_den hT hG hx he)
      -- the bytes, as cells
      have hel : elemsOf (H := H) (.str n y) 1 = some (n, strCells n y) := by simp [elemsOf]
      have hcells : ∀ (m y : Nat), (strCells m y).length = m ∧ DL ρ (strCells m y) ((unpackL m y).map fun b => Value.int .u8 b.toNat) := by
        intro m
        induction m with
        | zero => intro y; exact ⟨rfl, .nil⟩
        | succ m ih =>
          intro y
          obtain ⟨i1, i2⟩ := ih (y / 256)
          simp only [strCells, fN_eq, unpackL, List.map_cons]
          have e1 : Nat.div y 256 = y / 256 := rfl
          have e2 : Nat.mod y 256 = y % 256 := rfl
          rw [e1, e2]
          refine ⟨by simp [i1], .cons ?_ i2⟩
          simp [den]
      obtain ⟨hl1, hl2⟩ := hcells n y
      refine ⟨_, rfl, rfl, fun w => ?_⟩
      have hcap : n ≤ grownCap w n 0 e := grownCap_ge w n 0 e
      have hcs : (Lib.bytesCells w e (unpack n y)).size = grownCap w n 0 e := by
        have hd : (unpack n y).data.size = n := unpack_size n y
        simp only [Lib.bytesCells, Array.size_append, Array.size_map, Array.size_replicate, hd, unpack_size]; omega
      have hnew := Lib.bytesWorld_at_new w e (unpack n y)
      have hheap : (Lib.bytesWorld w e (unpack n y)).heap = w.heap.push (.cells (Lib.bytesCells w e (unpack n y)) e ((Lib.bytesCells w e (unpack n y)).size, (Lib.bytesCells w e (unpack n y)).size + 1)) := by
        apply Array.ext_getElem?
        intro j
        rw [Array.getElem?_push]
        by_cases hj : j = w.heap.size
        · subst hj; rw [if_pos rfl, hnew]
        · rw [if_neg hj]
          by_cases hj' : j < w.heap.size
          · exact Lib.bytesWorld_at_old w e _ j hj'
          · rw [Array.getElem?_eq_none (by rw [Lib.bytesWorld_size]; omega), Array.getElem?_eq_none (by omega)]
      refine ⟨.slice (some ⟨w.heap.size, 0, none⟩) n (grownCap w n 0 e), Lib.bytesWorld w e (unpack n y), _, grownCap w n 0 e, ?_, hheap, (freeze_rest _ _).1, (freeze_rest _ _).2.1, (freeze_rest _ _).2.2, fun ρ' _ hb => ?_, fun ρ' w'' s hk => ?_⟩
      · have := Lib.run_convert_string_bytes (P := P) w _ _ e (unpack n y) hs hd hu
        rw [unpack_size] at this
        simp [execOp, ho, hv, this]
      · simp [den, hb]
      · have h3 := cells_ok (c := Lib.bytesCells w e (unpack n y)) (tl := true) hl2 s hk (fun i x hx => by
            have hlt : i < n := by
              have := (List.getElem?_eq_some_iff.1 hx).1
              simpa [unpackL_length] using this
            unfold Lib.bytesCells
            rw [Array.getElem?_append_left (by simp [unpack, unpackL_length]; exact hlt)]
            simpa [unpack] using hx) (by rw [hl1, hcs]; exact hcap) (fun i hi => by simp; omega)
        rw [hl1, hcs] at h3
        simpa using h3
    · cases h
  · rename_i hs hd _; rw [hs, hd] at hcl; cases hcl
  · cases h

/-- what a writing operation (no call) gives -/
def Wr (P : Program) (o : Oper) (a : Act) (ρ : Rho) (H : Heap) (w : World) (v : AV) (H' : Heap) : Prop :=
  ∃ x w' ρ', ((execOp a.eval o).run P w = .ok (.value x) w' ∨ (x = undef ∧ (execOp a.eval o).run P w = .ok .skip w')) ∧ den ρ' v = some x ∧ HR ρ' H' w' ∧ Ext ρ H w ρ' H' w'
theorem Mk.wr {o : Oper} {H H' : Heap} {w : World} {v : AV} (h : Mk P o a ρ H v H') (hH : HR ρ H w) (hf : ρ H.nx = none) : Wr P o a ρ H w v H' := by
  obtain ⟨B, rfl, hwr, hm⟩ := h
  obtain ⟨x, w', obj, lim, hrun, hheap, ho, ht, hu, hden, hblk⟩ := hm w
  have hs := Sub.upd (p := ⟨w.heap.size, 0, lim⟩) hf
  obtain ⟨h1, h2⟩ := hH.new hf hheap rfl hwr (hblk _ w' hs (by rw [hheap]; simp)) ho ht hu
  exact ⟨x, w', _, .inl hrun, hden _ hs (upd_self _ _ _), h1, h2⟩

theorem scal_one {v : AV} {x : Value} (h : scal v = true) (hd : den ρ v = some x) : x.oneCell' = true := by
  cases v <;> first
    | (simp [scal] at h; done)
    | (simp only [den] at hd; first | (injection hd with hd; subst hd; rfl) | (split at hd <;> first | (injection hd with hd; subst hd; rfl) | cases hd))
theorem scal_all {vs : List AV} {xs : List Value} (h : ∀ v ∈ vs, scal v = true) (hd : DL ρ vs xs) : ∀ x ∈ xs, x.oneCell' = true := by
  induction vs generalizing xs with
  | nil => rw [hd.eq_nil]; simp
  | cons v vs ih =>
    obtain ⟨x, r, rfl, h1, h2⟩ := hd.uncons
    intro y hy
    rcases List.mem_cons.1 hy with rfl | hy
    · exact scal_one (h v (by simp)) h1
    · exact ih (fun u hu => h u (by simp [hu])) h2 y hy
/-- cells stored in their places -/
theorem write_ok {H : Heap} {w : World} (hH : HR ρ H w) {b n i : Nat} {t : Tr AV} {tl : Bool} {p : Pl} (hB : getB H b = some (.cells t n tl false)) (hp : ρ b = some p) {vs : List AV} {xs : List Value} (hv : DL ρ vs xs)
    (hin : ∀ j, i ≤ j → j < i + vs.length → (t.get (bits j)).isSome) (hs : ∀ v ∈ vs, scal v = true) :
    (storeCells ⟨p.blk, p.off + i, none⟩ xs).run P w = .ok () (w.setCells p.blk (p.off + i) xs) ∧
      HR ρ ⟨H.bl.set (bits b) (some (.cells (layT t i vs) n tl false)), H.nx⟩ (w.setCells p.blk (p.off + i) xs) ∧ Ext ρ H w ρ ⟨H.bl.set (bits b) (some (.cells (layT t i vs) n tl false)), H.nx⟩ (w.setCells p.blk (p.off + i) xs) := by
  obtain ⟨q, hq, c, e, fz, h1, h2, h3, h4, h5⟩ := hH.blk b _ hB
  rw [hp] at hq; injection hq with hq; subst hq
  have hlen := hv.length
  have hix : ∀ j, i ≤ j → j < i + vs.length → j < n ∧ p.off + j < c.size := fun j hj1 hj2 => by
    obtain ⟨u, hu⟩ := Option.isSome_iff_exists.1 (hin j hj1 hj2)
    have := (h5 j u hu).1
    exact ⟨this, by omega⟩
  obtain ⟨s1, s2, s3, s4, s5, s6⟩ := setCells_heap xs w p.blk (p.off + i)
  obtain ⟨c', t1, t2, t3⟩ := s6 c e fz h1
  refine ⟨?_, ?_⟩
  · have := run_storeCells_cells (P := P) p.blk (p.off + i) xs 0 w (fun j hj => ?_) (fun j hj => ?_) (scal_all hs hv)
    · simpa using this
    · obtain ⟨_, hb⟩ := hix (i + j) (by omega) (by omega)
      simp only [World.cell?, h1, Nat.add_zero]
      simp [show p.off + i + j < c.size by omega]
    · obtain ⟨ha, _⟩ := hix (i + j) (by omega) (by omega)
      have := h4 rfl (i + j) (by omega)
      simp only [World.frozen?, h1, Nat.add_zero]
      obtain ⟨lo, hi⟩ := fz
      simp at this ⊢
      intro hlo
      have := this (by omega)
      omega
  · refine hH.turn hB hp rfl rfl ⟨Nat.le_of_eq s1.symm, fun k hk => ?_⟩ s1 ?_ ?_ s2 s3 s4 s5
    · by_cases hkb : k = p.blk
      · subst hkb
        refine .inr ⟨c, c', e, fz, h1, t1, t2, fun j hj => ?_⟩
        rw [t3 j, if_neg]
        rintro ⟨q1, q2, q3⟩
        refine hj ⟨rfl, j - p.off, by omega, .inl ?_⟩
        exact (hix (j - p.off) (by omega) (by omega)).1
      · exact .inl (s5 k hkb)
    · refine ⟨c', e, fz, t1, h2, by omega, h4, fun j v hj => ?_⟩
      rw [get_layT] at hj
      rw [t3]
      by_cases hr : i ≤ j ∧ j < i + vs.length
      · rw [if_pos hr] at hj
        obtain ⟨x, e1, e2⟩ := hv.get hj
        obtain ⟨k1, k2⟩ := hix j hr.1 hr.2
        refine ⟨k1, x, e2, ?_⟩
        rw [if_pos (by omega), show p.off + j - (p.off + i) = j - i by omega]
        exact e1
      · rw [if_neg hr] at hj
        obtain ⟨k1, x, k2, k3⟩ := h5 j v hj
        refine ⟨k1, x, k2, ?_⟩
        rw [if_neg (by omega)]
        exact k3
    · intro k j h; exact h
theorem oStore_w (o : Oper) (t : TypeId) (x y : Operand) (ho : o.op = .store t x y) (hT : TR ρ T a.tmps) (hG : GOK P ρ) (hx : gl P x = true) (hy : gl P y = true) {H H' : Heap} {w : World} (hH : HR ρ H w) {v : AV}
    (h : oStore P t x y T H = .val v H') : Wr P o a ρ H w v H' := by
  unfold oStore at h
  split at h
  · rename_i b i u n he hu hn
    obtain ⟨hl, h⟩ := cond_some h (by simp)
    rw [beq_true, len'_eq] at hl
    unfold storeR at h
    split at h
    · rename_i tr sz tl hB
      obtain ⟨p, hp, hpx⟩ := den_ptr (ev_den hT hG hx he)
      have hv := ev_den hT hG hy hu
      have hc := den_cells hv
      rcases putC_eq u.cells tr i OR.bad (fun t => setB H b (some (.cells t sz tl false)) fun H => .val undefA H) with ⟨e, hin, hs⟩ | e
      · rw [e, setB_eq] at h
        injection h with h1 h2; subst h1
        obtain ⟨k1, k2, k3⟩ := write_ok (P := P) hH hB hp hc hin hs
        refine ⟨undef, _, ρ, .inr ⟨rfl, ?_⟩, rfl, h2 ▸ k2, h2 ▸ k3⟩
        have hsz : (a.eval y).cells.size = n := by rw [← hl, hc.length]; simp
        simp [execOp, ho, Instr.storeAt, hpx, Instr.sureAddr, storeVar, szOf_run hn, hsz, k1]
      · rw [e] at h; cases h
    · cases h
  · cases h
end
end Eng
end Go.Proofs.YtlajkdbpmkodpaaGreatDoor
namespace Go.Proofs.YtlajkdbpmkodpaaGreatDoor
namespace Eng
open Go
section
variable {P : Program} {ρ : Rho} {T : Tm} {a : Act}

/-- the model's append, in place -/
theorem app_in {t u ty : TypeId} {E : EI} (hE : elemI P t = some E) {d : TypeDesc} (hu : P.underlying u = some d) (hd : (∃ e, d = .slice e) ∨ d = .string) {w w' : World} {base : Option Addr} {n m C : Nat} {x : Value} {xs : List Value}
    (hlen : (Builtin.lenOf x).run P w = .ok m w) (hcs : (Builtin.firstCells E.z m x).run P w = .ok xs.toArray w) (hle : n + m ≤ C)
    (hst : ∀ aa, base = some aa → (storeCells (aa.add (n * E.z)) xs).run P w = .ok () w') (hno : base = none → w' = w) :
    (Builtin.append_ #[t, u] ty #[.slice base n C, x]).run P w = .ok (.slice base (n + m) C) w' := by
  obtain ⟨hut, hpos, hsz, hz, hzl, i, hi, hiz, hib, z, hx0, hxd, hxs⟩ := elemI_spec hE
  cases base with
  | none =>
    rw [hno rfl]
    rcases hd with ⟨e, rfl⟩ | rfl <;> simp [Builtin.append_, run_und hut, szOf_run hsz, run_und hu, hlen, hcs, hle]
  | some aa =>
    rcases hd with ⟨e, rfl⟩ | rfl <;> simp [Builtin.append_, run_und hut, szOf_run hsz, run_und hu, hlen, hcs, hle, hst aa rfl]
/-- the model's append, in a new row -/
theorem app_re {t u ty : TypeId} {E : EI} (hE : elemI P t = some E) {d : TypeDesc} (hu : P.underlying u = some d) (hd : (∃ e, d = .slice e) ∨ d = .string) {w : World} {base : Option Addr} {n m C : Nat} {x : Value} {os xs : List Value}
    (hlen : (Builtin.lenOf x).run P w = .ok m w) (hcs : (Builtin.firstCells E.z m x).run P w.drew = .ok xs.toArray w.drew) (hlt : C < n + m) (hsm : n + m < 1000000)
    (hos : (Builtin.firstCells E.z n (.slice base n C)).run P w.drew = .ok os.toArray w.drew) (hol : os.length = n * E.z) (hxl : xs.length = m * E.z) :
    ∃ c, (Builtin.append_ #[t, u] ty #[.slice base n C, x]).run P w = .ok (.slice (some ⟨w.heap.size, 0, none⟩) (n + m) (grownCap w (n + m) C E.e)) (w.drew.alloc (.cells c E.e)) ∧
      c.size = grownCap w (n + m) C E.e * E.z ∧ ∀ (i : Nat) (y : Value), (os ++ xs)[i]? = some y → c[i]? = some y := by
  obtain ⟨hut, hpos, hsz, hz, hzl, i, hi, hiz, hib, z, hx0, hxd, hxs⟩ := elemI_spec hE
  have hge := grownCap_ge w (n + m) C E.e
  have h1 : ¬ (n + m ≤ C) := by omega
  have h63 : ¬ ((9223372036854775807 : Int) < (n : Int) + (m : Int)) := by omega
  have h48 : ¬ (281474976710656 < Builtin.nextslicecap (n + m) C * i.bytes) := by
    have h2 : (n + m) * i.bytes ≤ 1000000 * 1000000 := Nat.mul_le_mul (by omega) (by omega)
    have := growslice_fits (need := n + m) (old := C) (bytes := i.bytes) (by omega) (by omega)
    omega
  refine ⟨os.toArray ++ xs.toArray ++ Builtin.zeroCells z.cells (grownCap w (n + m) C E.e - (n + m)), ?_, ?_, fun i y hy => ?_⟩
  · rcases hd with ⟨e, rfl⟩ | rfl <;>
      simp [Builtin.append_, run_und hut, szOf_run hsz, run_und hu, hlen, hcs, hos, h1, h63, h48, typeInfo, zeroValue, hi, hx0, Question.forced, newRow, grownCap] <;> (congr 2; apply Array.ext'; simp [List.append_assoc])
  · rw [Array.size_append, Array.size_append, size_zeroCells, hxs]
    simp [hol, hxl]
    rw [← Nat.add_mul, ← Nat.add_mul]
    congr 1; omega
  · have := (List.getElem?_eq_some_iff.1 hy).1
    rw [Array.getElem?_append_left (by simpa using this)]
    simpa using hy
/-- a block let go -/
theorem HR.kill {H : Heap} {w : World} (hH : HR ρ H w) {b n : Nat} {t : Tr AV} {tl : Bool} {p : Pl} (hB : getB H b = some (.cells t n tl false)) (hp : ρ b = some p) :
    HR ρ ⟨H.bl.set (bits b) (some (.cells .lf 0 false false)), H.nx⟩ w ∧ Ext ρ H w ρ ⟨H.bl.set (bits b) (some (.cells .lf 0 false false)), H.nx⟩ w := by
  obtain ⟨q, hq, c, e, fz, h1, h2, h3, h4, h5⟩ := hH.blk b _ hB
  rw [hp] at hq; injection hq with hq; subst hq
  refine hH.turn hB hp rfl rfl (.of_eq rfl) rfl ⟨c, e, fz, h1, Nat.zero_le _, h3, h4, fun i v hv => ?_⟩ ?_ rfl rfl rfl (fun _ _ => rfl)
  · rw [Tr.get_lf] at hv; cases hv
  · rintro k i ⟨e1, j, e2, h | ⟨h, _⟩⟩
    · omega
    · cases h
theorem frozen_drew (w : World) (a : Addr) : w.drew.cell? a = w.cell? a := rfl
theorem HR.drew {H : Heap} {w : World} (h : HR ρ H w) : HR ρ H w.drew := ⟨h.blk, h.apart, h.lt⟩
theorem Ext.drew (H : Heap) (w : World) : Ext ρ H w ρ H w.drew := ⟨.refl ρ, fun _ _ => rfl, Nat.le_refl _, Nat.le_refl _, fun _ _ _ => rfl, fun _ h => .inl h, fun _ _ h _ => h, rfl, rfl, rfl⟩
/-- a new row of open capacity, laid -/
theorem HR.openNew {H : Heap} {w : World} (hH : HR ρ H w) (hf : ρ H.nx = none) {l : List AV} {xs : List Value} (hl : DL ρ l xs) {c : Array Value} {e : TypeId} (hc : ∀ (i : Nat) (x : Value), xs[i]? = some x → c[i]? = some x) (hsz : l.length ≤ c.size) {n z : Nat} (hz : l.length = n * z) :
    let H' : Heap := ⟨H.bl.set (bits H.nx) (some (.cells (layT .lf 0 l) (n * z) true false)), H.nx + 1⟩
    let ρ' := upd ρ H.nx ⟨w.heap.size, 0, c.size⟩
    HR ρ' H' (w.alloc (.cells c e)) ∧ Ext ρ H w ρ' H' (w.alloc (.cells c e)) := by
  have h := cells_ok (ρ' := upd ρ H.nx ⟨w.heap.size, 0, c.size⟩) (w'' := w.alloc (.cells c e)) (k := w.heap.size) (e := e) (fz := (0, 0)) (tl := true) hl (.upd hf) (by simp [World.alloc, -World.alloc_eq]) hc hsz (fun i _ => by simp)
  rw [hz] at h
  exact hH.new hf rfl rfl rfl h rfl rfl rfl
theorem se_den {b n z : Nat} {ρ' : Rho} {k C : Nat} (hb : ρ' b = some ⟨k, 0, C * z⟩) (hz : 0 < z) : den ρ' (.so b 0 n z) = some (.slice (some ⟨k, 0, none⟩) n C) := by
  simp [den, hb, Nat.mul_div_cancel _ hz]

theorem exec_append {o : Oper} {c : Call} (ho : o.op = .call c) (hb : c.callee = .builtin .append) {s x : Operand} (ha : c.args.toList = [s, x]) {t u : TypeId} (ht : c.argTypes.toList = [t, u]) {w w' : World} {r : Value}
    (h : (Builtin.append_ #[t, u] o.type #[a.eval s, a.eval x]).run P w = .ok r w') : (execOp a.eval o).run P w = .ok (.value r) w' := by
  obtain ⟨cs, hcs⟩ := exec_builtin (P := P) (a := a) ho hb
  rw [hcs w]
  have e1 : c.args.map a.eval = #[a.eval s, a.eval x] := by rw [args_eq, ha]; rfl
  rw [e1, list2 ht]
  simp [builtin, h]

theorem scalL_all : ∀ {l : List AV}, scalL l = true → ∀ v ∈ l, scal v = true
  | [], _, _, h => by cases h
  | u :: l, h, v, hv => by
    simp only [scalL] at h
    obtain ⟨h1, h2⟩ := cond_some h (by simp)
    rcases List.mem_cons.1 hv with rfl | hv
    · exact h1
    · exact scalL_all h2 v hv
/-- an append to a row whose end is not known: in its place or in a new row, the block is another one -/
theorem open_app {o : Oper} {c : Call} (ho : o.op = .call c) (hb : c.callee = .builtin .append) {s x : Operand} (ha : c.args.toList = [s, x]) {t u : TypeId} (ht : c.argTypes.toList = [t, u]) {E : EI} (hE : elemI P t = some E)
    {d : TypeDesc} (hu : P.underlying u = some d) (hd : (∃ e, d = .slice e) ∨ d = .string) {H : Heap} {w : World} (hH : HR ρ H w) (hf : ρ H.nx = none) {b sz : Nat} {tr : Tr AV} {p : Pl} (hB : getB H b = some (.cells tr sz true false)) (hp : ρ b = some p)
    {o' n m : Nat} {base : Option Addr} {l : List AV} {xs olds : List Value} {t2 : Tr AV} (hes : a.eval s = .slice base n ((p.lim - o') / E.z)) (hbase : n + m ≤ (p.lim - o') / E.z → base = some ⟨p.blk, p.off + o', none⟩) (hol : o' + n * E.z ≤ p.lim)
    (hxs : DL ρ l xs) (hsc : ∀ v ∈ l, scal v = true) (hll : l.length = m * E.z) (hlen : (Builtin.lenOf (a.eval x)).run P w = .ok m w) (hfc : (Builtin.firstCells E.z m (a.eval x)).run P w = .ok xs.toArray w) (hfc' : (Builtin.firstCells E.z m (a.eval x)).run P w.drew = .ok xs.toArray w.drew)
    (hsm : n + m < 1000000) (hfo : (Builtin.firstCells E.z n (.slice base n ((p.lim - o') / E.z))).run P w.drew = .ok olds.toArray w.drew) (holdl : olds.length = n * E.z)
    (hold : ∀ j v, j < n * E.z → tr.get (bits (o' + j)) = some v → ∃ y, den ρ v = some y ∧ olds[j]? = some y)
    (ht2 : ∀ j v, t2.get (bits j) = some v → (j < n * E.z ∧ tr.get (bits (o' + j)) = some v) ∨ (n * E.z ≤ j ∧ j < (n + m) * E.z ∧ l[j - n * E.z]? = some v)) :
    Wr P o a ρ H w (.so H.nx 0 (n + m) E.z) ⟨(H.bl.set (bits b) (some (.cells .lf 0 false false))).set (bits H.nx) (some (.cells t2 ((n + m) * E.z) true false)), H.nx + 1⟩ := by
  obtain ⟨hut, hpos, hsz, hz, hzl, i, hi, hiz, hib, z, hx0, hxd, hxs'⟩ := elemI_spec hE
  obtain ⟨q, hq, cc, ee, fz, g1, g2, g3, g4, g5⟩ := hH.blk b _ hB
  rw [hp] at hq; injection hq with hq; subst hq
  obtain ⟨hk1, hk2⟩ := hH.kill hB hp
  have hbn : b ≠ H.nx := by have := hH.lt b _ hB; omega
  have hxl : xs.length = m * E.z := by rw [← hxs.length, hll]
  let H1 : Heap := ⟨H.bl.set (bits b) (some (.cells .lf 0 false false)), H.nx⟩
  have hownb : own ρ H1 p.blk := ⟨b, .cells .lf 0 false false, p, by show getB H1 b = _; rw [getB_upd, if_pos rfl], hp, rfl, rfl⟩
  by_cases hle : n + m ≤ (p.lim - o') / E.z
  · -- in its place
    have hbs := hbase hle
    have hroom : o' + (n + m) * E.z ≤ p.lim := by
      rw [Nat.le_div_iff_mul_le hpos] at hle
      rcases Nat.eq_zero_or_pos (n + m) with h0 | h0
      · have : n = 0 := by omega
        subst this
        have : m = 0 := by omega
        subst this
        simpa using hol
      · have : 0 < (n + m) * E.z := Nat.mul_pos h0 hpos
        omega
    have hsplit : (n + m) * E.z = n * E.z + m * E.z := Nat.add_mul _ _ _
    let p2 : Pl := ⟨p.blk, p.off + o', p.lim - o'⟩
    obtain ⟨s1, s2, s3, s4, s5, s6⟩ := setCells_heap xs w p.blk (p.off + o' + n * E.z)
    obtain ⟨c', e1, e2, e3⟩ := s6 cc ee fz g1
    have hst : (storeCells ⟨p.blk, p.off + o' + n * E.z, none⟩ xs).run P w = .ok () (w.setCells p.blk (p.off + o' + n * E.z) xs) := by
      have := run_storeCells_cells (P := P) p.blk (p.off + o' + n * E.z) xs 0 w (fun j hj => ?_) (fun j hj => ?_) (scal_all hsc hxs)
      · simpa using this
      · simp only [World.cell?, g1, Nat.add_zero]
        simp [show p.off + o' + n * E.z + j < cc.size by omega]
      · have := g4 rfl (o' + n * E.z + j) (by omega)
        simp only [World.frozen?, g1, Nat.add_zero]
        obtain ⟨lo, hi⟩ := fz
        simp at this ⊢
        intro hlo
        have := this (by omega)
        omega
    have hclaim : ∀ k i, claims p2 (.cells t2 ((n + m) * E.z) true false) k i → claims p (.cells tr sz true false) k i := by
      rintro k i ⟨rfl, j, rfl, hj⟩
      refine ⟨rfl, o' + j, by show p.off + o' + j = _; omega, .inr ⟨rfl, ?_⟩⟩
      rcases hj with hj | ⟨_, hj⟩
      · omega
      · have : j < p.lim - o' := hj; omega
    have hre := hk1.reuse (w' := w.setCells p.blk (p.off + o' + n * E.z) xs) (B := .cells t2 ((n + m) * E.z) true false) (p := p2) hf hownb rfl (fun c2 C q k i hC hq hcl1 hcl2 => ?_) ⟨Nat.le_of_eq s1.symm, fun k hk => ?_⟩ s1 ?_ s2 s3 s4 s5
    · obtain ⟨r1, r2⟩ := hre
      refine ⟨.slice (some ⟨p.blk, p.off + o', none⟩) (n + m) ((p.lim - o') / E.z), _, _, .inl (exec_append ho hb ha ht ?_), ?_, r1, hk2.trans r2⟩
      · rw [hes, hbs]
        refine app_in hE hu hd hlen hfc hle (fun aa haa => ?_) (fun hn => by cases hn)
        injection haa with haa; subst haa
        rw [add_none]
        exact hst
      · have : upd ρ H.nx p2 H.nx = some p2 := upd_self _ _ _
        show den (upd ρ H.nx p2) (.so H.nx 0 (n + m) E.z) = _
        simp [den, this, p2]
    · -- nobody else claims it
      rw [getB_upd] at hC
      by_cases hcb : c2 = b
      · rw [if_pos hcb] at hC
        injection hC with hC; subst hC
        obtain ⟨_, j, _, hj | ⟨hj, _⟩⟩ := hcl1
        · omega
        · cases hj
      · rw [if_neg hcb] at hC
        exact hH.apart c2 b C _ q p k i hcb hC hB hq hp (.inr rfl) hcl1 (hclaim k i hcl2)
    · by_cases hkb : k = p.blk
      · subst hkb
        refine .inr ⟨cc, c', ee, fz, g1, e1, e2, fun j hj => ?_⟩
        rw [e3 j, if_neg]
        rintro ⟨q1, q2, q3⟩
        refine hj ⟨rfl, j - (p.off + o'), ?_, .inl ?_⟩
        · show j = p.off + o' + (j - (p.off + o')); omega
        · omega
      · exact .inl (s5 k hkb)
    · refine ⟨c', ee, fz, e1, ?_, ?_, fun _ i hi => ?_, fun j v hj => ?_⟩
      · show (n + m) * E.z ≤ p.lim - o'; omega
      · show p.off + o' + (p.lim - o') ≤ c'.size; omega
      · have hi : i < p.lim - o' := hi
        have := g4 rfl (o' + i) (by omega)
        show ¬ (fz.1 ≤ p.off + o' + i ∧ p.off + o' + i < fz.2)
        rw [Nat.add_assoc]; exact this
      · have hsub : Sub ρ (upd ρ H.nx p2) := .upd hf
        show j < (n + m) * E.z ∧ ∃ y, den (upd ρ H.nx p2) v = some y ∧ c'[p.off + o' + j]? = some y
        rcases ht2 j v hj with ⟨q1, q2⟩ | ⟨q1, q2, q3⟩
        · obtain ⟨q4, y, q5, q6⟩ := g5 _ v q2
          refine ⟨by omega, y, den_mono hsub v y q5, ?_⟩
          rw [e3, if_neg (by omega), Nat.add_assoc]
          exact q6
        · obtain ⟨y, q4, q5⟩ := hxs.get q3
          refine ⟨q2, y, den_mono hsub v y q5, ?_⟩
          rw [e3, if_pos (by omega), show p.off + o' + j - (p.off + o' + n * E.z) = j - n * E.z by omega]
          exact q4
  · -- a new row
    obtain ⟨c', hrun, hcsz, hcg⟩ := app_re (ty := o.type) hE hu hd hlen hfc' (by omega) hsm hfo holdl hxl
    have hge := grownCap_ge w (n + m) ((p.lim - o') / E.z) E.e
    have hH1 : HR ρ H1 w.drew := hk1.drew
    have hsub : Sub ρ (upd ρ H.nx ⟨w.heap.size, 0, c'.size⟩) := .upd hf
    have hnew := hH1.new (w' := w.drew.alloc (.cells c' E.e)) (B := .cells t2 ((n + m) * E.z) true false) (p := ⟨w.heap.size, 0, c'.size⟩) (o := .cells c' E.e) hf rfl rfl rfl ?_ rfl rfl rfl
    · obtain ⟨r1, r2⟩ := hnew
      refine ⟨_, _, _, .inl (exec_append ho hb ha ht (by rw [hes]; exact hrun)), ?_, r1, (hk2.trans (.drew H1 w)).trans r2⟩
      exact se_den (by rw [upd_self, hcsz]) hpos
    · refine ⟨c', E.e, (0, 0), by show (w.heap.push _)[w.heap.size]? = _; simp, ?_, by simp, fun _ i _ => by simp, fun j v hj => ?_⟩
      · show (n + m) * E.z ≤ c'.size
        rw [hcsz]; exact Nat.mul_le_mul_right _ hge
      · show j < (n + m) * E.z ∧ ∃ y, den (upd ρ H.nx ⟨w.heap.size, 0, c'.size⟩) v = some y ∧ c'[0 + j]? = some y
        rw [Nat.zero_add]
        rcases ht2 j v hj with ⟨q1, q2⟩ | ⟨q1, q2, q3⟩
        · obtain ⟨y, q5, q6⟩ := hold j v q1 q2
          refine ⟨by rw [Nat.add_mul]; omega, y, den_mono hsub v y q5, hcg j y ?_⟩
          rw [List.getElem?_append_left (by rw [holdl]; exact q1)]; exact q6
        · obtain ⟨y, q4, q5⟩ := hxs.get q3
          refine ⟨q2, y, den_mono hsub v y q5, hcg j y ?_⟩
          rw [List.getElem?_append_right (by rw [holdl]; exact q1), holdl]; exact q4
theorem appS_w {o : Oper} {c : Call} (ho : o.op = .call c) (hb : c.callee = .builtin .append) {s x : Operand} (ha : c.args.toList = [s, x]) {t u : TypeId} (ht : c.argTypes.toList = [t, u]) {E : EI} (hE : elemI P t = some E)
    {d : TypeDesc} (hu : P.underlying u = some d) (hd : (∃ e, d = .slice e) ∨ d = .string) {sv xv : AV} (hs : den ρ sv = some (a.eval s)) (hx : den ρ xv = some (a.eval x)) {H H' : Heap} {w : World} (hH : HR ρ H w) (hf : H'.nx = H.nx + 1 → ρ H.nx = none) {v : AV}
    (h : appS E sv xv H = .val v H') : Wr P o a ρ H w v H' := by
  obtain ⟨hut, hpos, hsz, hz, hzl, i, hi, hiz, hib, z, hx0, hxd, hxs⟩ := elemI_spec hE
  unfold appS at h
  split at h
  · rename_i m l hel
    have hcs := cond_some h (by simp)
    clear h
    obtain ⟨hm, h⟩ := hcs
    rw [blt_iff, decide_eq_true_iff] at hm
    have hm : m < 1000000 := hm
    obtain ⟨xs, hxs1, hxs2, hxs3⟩ := elemsOf_spec (P := P) hH.vr hx hel
    obtain ⟨hlen, hfc⟩ := hxs3 w (fun _ _ => rfl)
    obtain ⟨_, hfc'⟩ := hxs3 w.drew (fun _ _ => rfl)
    have hxl : xs.length = m * E.z := by rw [← hxs1.length, hxs2]
    -- in place
    have inplace : ∀ {b o' n C : Nat} {tr : Tr AV} {sz : Nat} {tl : Bool} {p : Pl} {vv : AV}, getB H b = some (.cells tr sz tl false) → ρ b = some p → a.eval s = .slice (some ⟨p.blk, p.off + o', none⟩) n C → n + m ≤ C → den ρ vv = some (.slice (some ⟨p.blk, p.off + o', none⟩) (n + m) C) →
        putC tr (Nat.add o' (Nat.mul n E.z)) l OR.bad (fun t => setB H b (some (.cells t sz tl false)) fun H => fN (Nat.add n m) fun _ => .val vv H) = .val v H' → Wr P o a ρ H w v H' := by
      intro b o' n C tr sz tl p vv hB hp hes hle hvv hput
      rcases putC_eq l tr (Nat.add o' (Nat.mul n E.z)) OR.bad (fun t => setB H b (some (.cells t sz tl false)) fun H => fN (Nat.add n m) fun _ => .val vv H) with ⟨e, hin, hsc⟩ | e
      · rw [e, setB_eq, fN_eq] at hput
        injection hput with h1 h2; subst h1
        obtain ⟨k1, k2, k3⟩ := write_ok (P := P) hH hB hp hxs1 hin hsc
        refine ⟨_, _, ρ, .inl (exec_append ho hb ha ht ?_), hvv, h2 ▸ k2, h2 ▸ k3⟩
        rw [hes]
        refine app_in hE hu hd hlen hfc hle (fun aa haa => ?_) (fun hn => by cases hn)
        injection haa with haa; subst haa
        rw [add_none, Nat.add_assoc]
        exact k1
      · rw [e] at hput; cases hput
    -- in a new row, behind a killing or none
    have fresh : ∀ {H1 : Heap} {base : Option Addr} {n C : Nat} {old : List AV} {olds : List Value}, HR ρ H1 w → Ext ρ H w ρ H1 w → H1.nx = H.nx → a.eval s = .slice base n C → C < n + m → n + m < 1000000 → DL ρ old olds → old.length = n * E.z →
        (Builtin.firstCells E.z n (.slice base n C)).run P w.drew = .ok olds.toArray w.drew → newOpen H1 (n + m) E.z (old ++ l) = .val v H' → Wr P o a ρ H w v H' := by
      intro H1 base n C old olds hH1 hE1 hnx hes hlt hsm hold holdl hfo hno
      obtain ⟨_, rfl, rfl⟩ := newOpen_eq hno
      obtain ⟨c', hrun, hcsz, hcg⟩ := app_re (ty := o.type) hE hu hd hlen hfc' hlt hsm hfo (by rw [← hold.length, holdl]) hxl
      have hf1 : ρ H1.nx = none := by rw [hnx]; exact hf (by show H1.nx + 1 = H.nx + 1; rw [hnx])
      obtain ⟨k1, k2⟩ := hH1.drew.openNew (e := E.e) hf1 (hold.append hxs1) hcg (by rw [hcsz, List.length_append, holdl, hxs2, ← Nat.add_mul]; exact Nat.mul_le_mul_right _ (grownCap_ge _ _ _ _)) (n := n + m) (z := E.z) (by rw [List.length_append, holdl, hxs2, Nat.add_mul])
      refine ⟨_, _, _, .inl (exec_append ho hb ha ht (by rw [hes]; exact hrun)), ?_, k1, (hE1.trans (.drew H1 w)).trans k2⟩
      exact se_den (by rw [upd_self, hcsz]; rfl) hpos
    unfold appendR at h
    split at h
    · -- nil
      have hes : a.eval s = .slice none 0 0 := by simp [den] at hs; exact hs.symm
      cases hm0 : Nat.beq m 0 with
      | true =>
        rw [hm0, cond_true] at h
        injection h with h1 h2; subst h1; subst h2
        have hm0 := beq_true.1 hm0
        subst hm0
        refine ⟨.slice none 0 0, w, ρ, .inl (exec_append ho hb ha ht ?_), rfl, hH, .refl _ _ _⟩
        rw [hes]
        exact app_in (n := 0) hE hu hd hlen hfc (Nat.le_refl _) (fun _ hn => by cases hn) (fun _ => rfl)
      | false =>
        rw [hm0, cond_false] at h
        have hm0 : m ≠ 0 := fun e => by rw [e] at hm0; cases hm0
        have h' : newOpen H (0 + m) E.z ([] ++ l) = .val v H' := by rw [Nat.zero_add]; exact h
        exact fresh hH (.refl _ _ _) rfl hes (by omega) (by omega) .nil (by simp) rfl h'
    · rename_i b o' n C
      obtain ⟨p, hp, hes⟩ := den_sl hs
      cases hle : Nat.ble (Nat.add n m) C with
      | true =>
        rw [hle, cond_true] at h
        have hle : n + m ≤ C := by rw [ble_iff, decide_eq_true_iff] at hle; exact hle
        split at h
        · rename_i tr sz tl hB
          simp only [fN_eq] at h
          refine inplace (vv := .sl b o' (n + m) C) hB hp hes.symm.symm hle (by simp [den, hp]) ?_
          simp only [fN_eq]; exact h
        · cases h
      | false =>
        rw [hle, cond_false] at h
        have hlt : C < n + m := by rw [ble_iff, decide_eq_false_iff_not] at hle; have : ¬ (n + m ≤ C) := hle; omega
        split at h
        · rename_i tr sz tl ro hB
          split at h
          · rename_i old hold
            obtain ⟨olds, k1, k2, k3⟩ := take_of hH.vr hB hp hold
            have k4 := run_takes (P := P) (w := w.drew) (b := p.blk) (o := p.off + o') (xs := olds) k3
            have k5 : olds.length = n * E.z := by rw [← k1.length, k2]; rfl
            rw [k5] at k4
            obtain ⟨hsm, _, _⟩ := newOpen_eq h
            exact fresh hH (.refl _ _ _) rfl hes hlt hsm k1 (by rw [k2]; rfl) k4 h
          · cases h
        · cases h
    · rename_i b o' n z'
      obtain ⟨p, hp, hes⟩ := den_so hs
      have hcs := cond_some h (by simp)
      clear h
      obtain ⟨hzz, h⟩ := hcs
      have hzz : z' = E.z := beq_true.1 hzz
      subst hzz
      split at h
      · rename_i tr sz tl hB
        obtain ⟨q, hq, cc, ee, fz, g1, g2, g3, g4, g5⟩ := hH.blk b _ hB
        rw [hp] at hq; injection hq with hq; subst hq
        cases hle : Nat.ble (Nat.add o' (Nat.mul (Nat.add n m) E.z)) sz with
        | true =>
          rw [hle, cond_true] at h
          have hle : o' + (n + m) * E.z ≤ sz := by rw [ble_iff, decide_eq_true_iff] at hle; exact hle
          have hC : n + m ≤ (p.lim - o') / E.z := by rw [Nat.le_div_iff_mul_le hpos]; omega
          refine inplace (vv := .so b o' (n + m) E.z) hB hp hes hC (by simp [den, hp]) ?_
          simp only [fN_eq] at h ⊢; exact h
        | false =>
          rw [hle, cond_false] at h
          have hle : ¬ (o' + (n + m) * E.z ≤ sz) := by rw [ble_iff, decide_eq_false_iff_not] at hle; exact hle
          have hcs := cond_some h (by simp)
          clear h
          obtain ⟨hc, h⟩ := hcs
          simp only [Bool.and_eq_true, ble_iff, blt_iff, decide_eq_true_iff, limit] at hc
          obtain ⟨⟨⟨rfl, c1⟩, c2⟩, c3⟩ := hc
          have c1 : o' + n * E.z ≤ sz := c1
          have c3 : n + m < 1000000 := c3
          -- what the old cells hold
          have holds : ∃ olds : List Value, olds.length = n * E.z ∧ ∀ j : Nat, j < n * E.z → ∃ y, olds[j]? = some y ∧ cc[p.off + o' + j]? = some y := by
            refine ⟨(cc.toList.drop (p.off + o')).take (n * E.z), by simp; omega, fun j hj => ?_⟩
            have hlt : p.off + o' + j < cc.size := by omega
            refine ⟨cc[p.off + o' + j], ?_, by simp [hlt]⟩
            rw [List.getElem?_take, if_pos hj, List.getElem?_drop]
            simp [hlt]
          obtain ⟨olds, k1, k2⟩ := holds
          have hfo := run_takes (P := P) (w := w.drew) (b := p.blk) (o := p.off + o') (xs := olds) fun j y hj => by
            have hjl : j < n * E.z := by rw [← k1]; exact (List.getElem?_eq_some_iff.1 hj).1
            obtain ⟨y', e1, e2⟩ := k2 j hjl
            rw [hj] at e1; injection e1 with e1; subst e1
            show World.cell? w _ = _
            simp [World.cell?, g1, e2]
          rw [k1] at hfo
          have hold : ∀ j v, j < n * E.z → tr.get (bits (o' + j)) = some v → ∃ y, den ρ v = some y ∧ olds[j]? = some y := fun j v hj hv => by
            obtain ⟨_, y, e1, e2⟩ := g5 _ v hv
            obtain ⟨y', e3, e4⟩ := k2 j hj
            rw [← Nat.add_assoc, e4] at e2; injection e2 with e2; subst e2
            exact ⟨_, e1, e3⟩
          have key : H'.nx = H.nx + 1 → ∀ t2 : Tr AV, (∀ j v, t2.get (bits j) = some v → (j < n * E.z ∧ tr.get (bits (o' + j)) = some v) ∨ (n * E.z ≤ j ∧ j < (n + m) * E.z ∧ l[j - n * E.z]? = some v)) →
              Wr P o a ρ H w (.so H.nx 0 (n + m) E.z) ⟨(H.bl.set (bits b) (some (.cells .lf 0 false false))).set (bits H.nx) (some (.cells t2 ((n + m) * E.z) true false)), H.nx + 1⟩ := fun hnx t2 ht2 =>
            open_app ho hb ha ht hE hu hd hH (hf hnx) hB hp (o' := o') hes (fun _ => rfl) (by omega) hxs1 (scalL_all c2) (by rw [hxs2]) hlen hfc hfc' c3 hfo k1 hold ht2
          cases ho0 : Nat.beq o' 0 with
          | true =>
            rw [ho0, cond_true] at h
            have ho0 : o' = 0 := beq_true.1 ho0
            subst ho0
            simp only [setB_eq, layC_eq, fN_eq, newB_eq] at h
            injection h with h1 h2
            have hnx : H'.nx = H.nx + 1 := by rw [← h2]
            rw [← h1, ← h2]
            refine key hnx _ fun j v hj => ?_
            rw [get_layT] at hj
            have e0 : Nat.mul n E.z = n * E.z := rfl
            rw [e0] at hj
            by_cases hr : n * E.z ≤ j ∧ j < n * E.z + l.length
            · rw [if_pos hr] at hj
              exact .inr ⟨hr.1, by rw [Nat.add_mul, ← hxs2]; exact hr.2, hj⟩
            · rw [if_neg hr] at hj
              have := (g5 j v hj).1
              refine .inl ⟨?_, by rw [Nat.zero_add]; exact hj⟩
              rw [Nat.add_mul] at hle
              omega
          | false =>
            rw [ho0, cond_false] at h
            split at h
            · rename_i old hold'
              rw [setB_eq] at h
              obtain ⟨_, rfl, rfl⟩ := newOpen_eq h
              obtain ⟨j1, j2⟩ := takeC_spec _ _ _ _ hold'
              have j1 : old.length = n * E.z := j1
              refine key rfl _ fun j v hj => ?_
              rw [get_layT, Tr.get_lf] at hj
              by_cases hr : 0 ≤ j ∧ j < 0 + (old ++ l).length
              · rw [if_pos hr, Nat.sub_zero] at hj
                rw [List.length_append, j1, hxs2, ← Nat.add_mul] at hr
                by_cases hjo : j < n * E.z
                · rw [List.getElem?_append_left (by rw [j1]; exact hjo)] at hj
                  exact .inl ⟨hjo, by rw [j2 j hjo]; exact hj⟩
                · rw [List.getElem?_append_right (by rw [j1]; omega), j1] at hj
                  exact .inr ⟨by omega, by omega, hj⟩
              · rw [if_neg hr] at hj; cases hj
            · cases h
      · cases h
    · rename_i b o' was z'
      obtain ⟨p, hp, hes⟩ := den_se hs
      have hcs := cond_some h (by simp)
      clear h
      obtain ⟨hc, h⟩ := hcs
      simp only [Bool.and_eq_true, Bool.not_eq_true', beq_true] at hc
      obtain ⟨⟨rfl, c1⟩, c2⟩ := hc
      have c1 : m ≠ 0 := fun e => by subst e; cases c1
      split at h
      · rename_i tr sz hB
        rw [setB_eq] at h
        obtain ⟨_, rfl, rfl⟩ := newOpen_eq h
        obtain ⟨q, hq, cc, ee, fz, g1, g2, g3, g4, g5⟩ := hH.blk b _ hB
        rw [hp] at hq; injection hq with hq; subst hq
        by_cases hlim : o' ≤ p.lim
        · have hfo : (Builtin.firstCells E.z 0 (.slice (some ⟨p.blk, p.off + (if (p.lim - o') / E.z = 0 then was else o'), none⟩) 0 ((p.lim - o') / E.z))).run P w.drew = .ok ([] : List Value).toArray w.drew := by simp [Builtin.firstCells, loadCells, loadCellsFrom]
          have := open_app (n := 0) (m := m) (olds := []) (t2 := layT .lf 0 l) ho hb ha ht hE hu hd hH (hf rfl) hB hp (o' := o') hes (fun hle => by rw [if_neg (by omega)]) (by omega) hxs1 (scalL_all c2) (by rw [hxs2]) hlen hfc hfc' (by omega) hfo (by simp) (fun j v hj => by omega)
            (fun j v hj => by
              rw [get_layT, Tr.get_lf] at hj
              by_cases hr : 0 ≤ j ∧ j < 0 + l.length
              · rw [if_pos hr] at hj
                exact .inr ⟨by omega, by rw [Nat.zero_add, ← hxs2]; omega, by simpa using hj⟩
              · rw [if_neg hr] at hj; cases hj)
          simpa using this
        · -- no room at all: a new row
          have hC : (p.lim - o') / E.z = 0 := by rw [show p.lim - o' = 0 by omega]; simp
          have hfo : (Builtin.firstCells E.z 0 (.slice (some ⟨p.blk, p.off + was, none⟩) 0 0)).run P w.drew = .ok ([] : List Value).toArray w.drew := by simp [Builtin.firstCells, loadCells, loadCellsFrom]
          obtain ⟨hk1, hk2⟩ := hH.kill hB hp
          rw [hC, if_pos rfl] at hes
          have := fresh (H1 := ⟨H.bl.set (bits b) (some (.cells .lf 0 false false)), H.nx⟩) (old := []) (olds := []) (n := 0) hk1 hk2 rfl hes (by omega) (by omega) .nil (by simp) hfo (by rw [Nat.zero_add]; exact h)
          exact this
      · cases h
    · cases h
  · cases h
end
end Eng
end Go.Proofs.YtlajkdbpmkodpaaGreatDoor
namespace Go.Proofs.YtlajkdbpmkodpaaGreatDoor
namespace Eng
open Go
section
variable {P : Program} {ρ : Rho} {T : Tm} {a : Act}

theorem exec_b2 {o : Oper} {c : Call} {b : Builtin} (ho : o.op = .call c) (hb : c.callee = .builtin b) {m : List Value} (hm : c.args.toList.map a.eval = m) {w w' : World} {r : Value}
    (h : ∀ cs, (builtin b c.argTypes o.type cs m.toArray).run P w = .ok (.value r) w') : (execOp a.eval o).run P w = .ok (.value r) w' := by
  obtain ⟨cs, hcs⟩ := exec_builtin (P := P) (a := a) ho hb
  rw [hcs w, args_eq, hm]
  exact h cs
theorem oCopy_w {o : Oper} {c : Call} (ho : o.op = .call c) (hb : c.callee = .builtin .copy) {xs : List AV} {m : List Value} (hm : DL ρ xs m) (hme : c.args.toList.map a.eval = m) {H H' : Heap} {w : World} (hH : HR ρ H w) {v : AV}
    (h : oCopy P c.argTypes.toList xs H = .val v H') : Wr P o a ρ H w v H' := by
  unfold oCopy at h
  split at h
  · rename_i t u d x hts
    have hts := list2 hts
    obtain ⟨dv, xv, rfl, hd, hx⟩ := two_of_DL hm
    split at h
    · rename_i E hE
      obtain ⟨hut, hpos, hsz, hz, hzl, i, hi, hiz, hib, z, hx0, hxd, hxs⟩ := elemI_spec hE
      have row : ∀ {b o' n C mm : Nat} {l : List AV} {p : Pl}, ρ b = some p → dv = .slice (some ⟨p.blk, p.off + o', none⟩) n C → elemsOf H x E.z = some (mm, l) → copyR H b o' n E.z mm l = .val v H' → Wr P o a ρ H w v H' := by
        intro b o' n C mm l p hp hdv hel hc
        subst hdv
        obtain ⟨ys, e1, e2, e3⟩ := elemsOf_any (P := P) hH.vr hx hel
        obtain ⟨hlen, hfc⟩ := e3 w (fun _ _ => rfl)
        unfold copyR at hc
        split at hc
        · rename_i tr sz tl hB
          rw [fN_eq] at hc
          have hk : Nat.min mm n ≤ mm := Nat.min_le_left _ _
          have hfc := hfc _ hk
          rcases putC_eq (l.take (Nat.mul (Nat.min mm n) E.z)) tr o' OR.bad (fun t => setB H b (some (.cells t sz tl false)) fun H => .val (.int .i64 (.ofNat (Nat.min mm n))) H) with ⟨e, hin, hs⟩ | e
          · rw [e, setB_eq] at hc
            injection hc with h1 h2; subst h1
            obtain ⟨k1, k2, k3⟩ := write_ok (P := P) hH hB hp (e1.take (Nat.mul (Nat.min mm n) E.z)) hin hs
            refine ⟨.int .i64 (Nat.min mm n : Nat), _, ρ, .inl (exec_b2 ho hb hme fun cs => ?_), rfl, h2 ▸ k2, h2 ▸ k3⟩
            have k1' : (storeCells ⟨p.blk, p.off + o', none⟩ (ys.take (Nat.min mm n * E.z))).run P w = _ := k1
            rw [hts]
            simp [builtin, Builtin.copy_, run_und hut, szOf_run hsz, hlen, hfc, k1', goInt]
          · rw [e] at hc; cases hc
        · cases hc
      split at h
      · rename_i mm l b o' n C hel
        obtain ⟨p, hp, hdv⟩ := den_sl hd
        exact row hp hdv hel h
      · rename_i mm l b o' n z' hel
        have hcs := cond_some h (by simp)
        clear h
        obtain ⟨hzz, h⟩ := hcs
        have hzz : z' = E.z := beq_true.1 hzz
        subst hzz
        obtain ⟨p, hp, hdv⟩ := den_so hd
        exact row hp hdv hel h
      · rename_i mm l hel
        injection h with h1 h2; subst h1; subst h2
        have hdv : dv = .slice none 0 0 := by simp [den] at hd; exact hd.symm
        subst hdv
        obtain ⟨ys, e1, e2, e3⟩ := elemsOf_any (P := P) hH.vr hx hel
        obtain ⟨hlen, hfc⟩ := e3 w (fun _ _ => rfl)
        refine ⟨.int .i64 0, w, ρ, .inl (exec_b2 ho hb hme fun cs => ?_), rfl, hH, .refl _ _ _⟩
        have h0 := hfc 0 (Nat.zero_le _)
        rw [hts]
        have hmin : Nat.min mm 0 = 0 := Nat.min_zero mm
        simp [builtin, Builtin.copy_, run_und hut, szOf_run hsz, hlen, h0, goInt]
      · cases h
    · cases h
  · cases h
theorem zeroCells_DL {v : AV} {x : Value} (hv : den ρ v = some x) (n : Nat) (hpos : 0 < v.cells.length) : DL ρ (repL n v.cells) (Builtin.zeroCells x.cells n).toList := by
  have h := zeros_DL hv n hpos
  have hs : x.cells.size = v.cells.length := by rw [(den_cells hv).length]; simp
  unfold Builtin.zeroCells
  rw [hs]
  rw [hs] at h
  exact h
theorem oClear_w {o : Oper} {c : Call} (ho : o.op = .call c) (hb : c.callee = .builtin .clear) {xs : List AV} {m : List Value} (hm : DL ρ xs m) (hme : c.args.toList.map a.eval = m) {H H' : Heap} {w : World} (hH : HR ρ H w) {v : AV}
    (h : oClear P c.argTypes.toList xs H = .val v H') : Wr P o a ρ H w v H' := by
  unfold oClear at h
  split at h
  · rename_i t d hts
    have hts := list1 hts
    obtain ⟨dv, rfl, hd⟩ := one_of_DL hm
    split at h
    · rename_i E hE
      obtain ⟨hut, hpos, hsz, hz, hzl, i, hi, hiz, hib, z, hx0, hxd, hxs⟩ := elemI_spec hE
      have row : ∀ {b o' n C : Nat} {p : Pl}, ρ b = some p → dv = .slice (some ⟨p.blk, p.off + o', none⟩) n C → clearR H b o' n E.zero.cells = .val v H' → Wr P o a ρ H w v H' := by
        intro b o' n C p hp hdv hc
        subst hdv
        have hzc := zeroCells_DL (hxd ρ) n (by omega)
        unfold clearR at hc
        split at hc
        · rename_i tr sz tl hB
          rcases putC_eq (repL n E.zero.cells) tr o' OR.bad (fun t => setB H b (some (.cells t sz tl false)) fun H => .val undefA H) with ⟨e, hin, hs⟩ | e
          · rw [e, setB_eq] at hc
            injection hc with h1 h2; subst h1
            obtain ⟨k1, k2, k3⟩ := write_ok (P := P) hH hB hp hzc hin hs
            cases n with
            | zero =>
              have hnil : (Builtin.zeroCells z.cells 0).toList = [] := by simp [Builtin.zeroCells]
              rw [hnil] at k2 k3
              refine ⟨.tuple #[], w, ρ, .inl (exec_b2 ho hb hme fun cs => ?_), rfl, h2 ▸ k2, h2 ▸ k3⟩
              rw [hts]
              simp [builtin, Builtin.clear_, run_und hut]
            | succ n =>
              refine ⟨.tuple #[], _, ρ, .inl (exec_b2 ho hb hme fun cs => ?_), rfl, h2 ▸ k2, h2 ▸ k3⟩
              rw [hts]
              simp [builtin, Builtin.clear_, run_und hut, zeroValue, typeInfo, hi, hx0, k1]
          · rw [e] at hc; cases hc
        · cases hc
      split at h
      · injection h with h1 h2; subst h1; subst h2
        have hdv : dv = .slice none 0 0 := by simp [den] at hd; exact hd.symm
        subst hdv
        refine ⟨.tuple #[], w, ρ, .inl (exec_b2 ho hb hme fun cs => ?_), rfl, hH, .refl _ _ _⟩
        rw [hts]
        simp [builtin, Builtin.clear_, run_und hut]
      · obtain ⟨p, hp, hdv⟩ := den_sl hd
        exact row hp hdv h
      · rename_i y
        have hcs := cond_some h (by simp)
        clear h
        obtain ⟨_, h⟩ := hcs
        obtain ⟨p, hp, hdv⟩ := den_so hd
        exact row hp hdv h
      · cases h
    · cases h
  · cases h
theorem setE_map : ∀ (es : List (AV × AV)) (i : Nat) (k v : AV), (setE es i k v).map (·.1) = (es.map (·.1)).set i k ∧ (setE es i k v).map (·.2) = (es.map (·.2)).set i v
  | [], i, k, v => by simp [setE]
  | x :: l, 0, k, v => by simp [setE]
  | x :: l, i + 1, k, v => by simp [setE, setE_map l i k v]
theorem DL.set {l : List AV} {m : List Value} (h : DL ρ l m) (i : Nat) {v : AV} {x : Value} (hv : den ρ v = some x) : DL ρ (l.set i v) (m.set i x) :=
  .of (by simp [h.length]) fun j u hu => by
    rw [List.getElem?_set] at hu ⊢
    have hl := h.length
    by_cases e : i = j
    · rw [if_pos e] at hu ⊢
      split at hu
      · injection hu with hu; subst hu
        rw [if_pos (by omega)]
        exact ⟨x, rfl, hv⟩
      · cases hu
    · rw [if_neg e] at hu ⊢
      exact h.get hu
theorem same_bits {d : TypeDesc} {k k' : AV} {x y : Value} (h : keyEq d k k' = some true) (hx : den ρ k = some x) (hy : den ρ k' = some y) : Instr.sameBits 10000 y x = true := by
  unfold keyEq at h
  split at h
  · have hcs := cond_some h (by simp)
    clear h
    obtain ⟨hk, h⟩ := hcs
    injection h with h
    rw [ieq_eq] at h
    rw [den_int hx, den_int hy]
    simp at hk h
    simp [Instr.sameBits, hk, h]
  · injection h with h
    rw [strEq_eq] at h
    have h := eq_of_beq h
    rw [den_str hx, den_str hy]
    simp only [Instr.sameBits]
    rw [beq_toListBytes, h]; simp
  · cases h
theorem flatEq_same : ∀ (ds : List TypeDesc) (l m : List AV) (xs ys : List Value), flatEq ds l m = some true → DL ρ l xs → DL ρ m ys → ∀ n, xs.length = ys.length ∧ (ys.zip xs).all (fun p => Instr.sameBits n p.1 p.2) = true
  | [], l, m, xs, ys, h, hl, hm, n => by
    have := flatEq_nil h
    have e1 := hl.length
    have e2 := hm.length
    simp only [List.length_nil] at this
    obtain rfl : xs = [] := List.eq_nil_of_length_eq_zero (by omega)
    obtain rfl : ys = [] := List.eq_nil_of_length_eq_zero (by omega)
    simp
  | d :: ds, l, m, xs, ys, h, hl, hm, n => by
    have hlen := flatEq_nil h
    cases l with
    | nil => simp at hlen
    | cons a l =>
      cases m with
      | nil => simp at hlen
      | cons b m =>
        obtain ⟨c1, c2, h1, h2, hc⟩ := flatEq_cons h
        obtain ⟨rfl, rfl⟩ : c1 = true ∧ c2 = true := by
          clear h1 h2 hl hm hlen h
          revert hc; cases c1 <;> cases c2 <;> decide
        obtain ⟨x, xs', rfl, hx, hxs⟩ := hl.uncons
        obtain ⟨y, ys', rfl, hy, hys⟩ := hm.uncons
        obtain ⟨e1, e2⟩ := flatEq_same ds l m xs' ys' h2 hxs hys n
        refine ⟨by simp [e1], ?_⟩
        simp only [List.zip_cons_cons, List.all_cons, e2, Bool.and_true]
        unfold eq1 at h1
        split at h1
        · injection h1 with h1
          rw [den_bool hx, den_bool hy]
          simp only [beq_iff_eq] at h1
          cases n <;> simp [Instr.sameBits, h1]
        · have hcs := cond_some h1 (by simp)
          clear h1
          obtain ⟨hk, h1⟩ := hcs
          injection h1 with h1
          rw [ieq_eq] at h1
          rw [den_int hx, den_int hy]
          simp at hk h1
          cases n <;> simp [Instr.sameBits, hk, h1]
        · injection h1 with h1
          rw [strEq_eq] at h1
          have h1 := eq_of_beq h1
          rw [den_str hx, den_str hy]
          have hb := beq_toListBytes
          cases n <;> (unfold Instr.sameBits; rw [hb, h1]; exact beq_self_eq_true _)
        · cases h1
theorem same_bitsS {ds : List TypeDesc} {k k' : AV} {x y : Value} (h : keyS ds k k' = some true) (hx : den ρ k = some x) (hy : den ρ k' = some y) : Instr.sameBits 10000 y x = true := by
  unfold keyS at h
  split at h
  · obtain ⟨xs, hxs, rfl⟩ := den_agg hx
    obtain ⟨ys, hys, rfl⟩ := den_agg hy
    obtain ⟨e1, e2⟩ := flatEq_same ds _ _ xs ys h hxs hys 9999
    rw [show (10000 : Nat) = 9999 + 1 from rfl, Instr.sameBits]
    simp only [Bool.and_eq_true]
    exact ⟨by simp [e1], e2⟩
  · cases h
theorem oMapUpdate_w (o : Oper) (t : TypeId) (mx k x : Operand) (ho : o.op = .mapUpdate t mx k x) (hT : TR ρ T a.tmps) (hG : GOK P ρ) (hm : gl P mx = true) (hk : gl P k = true) (hx : gl P x = true) {H H' : Heap} {w : World} (hH : HR ρ H w) {v : AV}
    (h : oMapUpdate P t mx k x T H = .val v H') : Wr P o a ρ H w v H' := by
  unfold oMapUpdate at h
  split at h
  · rename_i kt e b kv xv hu eb ek ex
    split at h
    · rename_i d es hd hB
      obtain ⟨p, hp, hmx⟩ := den_map (ev_den hT hG hm eb)
      have hkx := ev_den hT hG hk ek
      have hxx := ev_den hT hG hx ex
      obtain ⟨q, hq, es', ck, h3, h4, h5⟩ := hH.blk b _ hB
      rw [hp] at hq; injection hq with hq; subst hq
      have hlt := lt_of_some h3
      have fin : ∀ (nes : List (AV × AV)) (nes' : Array MapEntry) (nck : Nat), DL ρ (nes.map (·.1)) (nes'.toList.map (·.key)) → DL ρ (nes.map (·.2)) (nes'.toList.map (·.val)) →
          (execOp a.eval o).run P w = .ok .skip { w with heap := w.heap.setIfInBounds p.blk (.map nes' nck) } → H' = ⟨H.bl.set (bits b) (some (.mp nes)), H.nx⟩ → Wr P o a ρ H w undefA H' := by
        intro nes nes' nck d1 d2 hrun hH'
        subst hH'
        have hset : ({ w with heap := w.heap.setIfInBounds p.blk (.map nes' nck) } : World).heap[p.blk]? = some (.map nes' nck) := by simp [hlt]
        have hoth : ∀ j, j ≠ p.blk → ({ w with heap := w.heap.setIfInBounds p.blk (.map nes' nck) } : World).heap[j]? = w.heap[j]? := fun j hj => by
          show (w.heap.setIfInBounds p.blk _)[j]? = _
          rw [Array.getElem?_setIfInBounds, if_neg (fun e => hj e.symm)]
        -- the other blocks stay: none of them lies there
        have hkeep : ∀ c C q, c ≠ b → getB H c = some C → ρ c = some q → BlkOK ρ w q C → BlkOK ρ { w with heap := w.heap.setIfInBounds p.blk (.map nes' nck) } q C := by
          intro c C q hne hC hq hok
          have hqb : q.blk ≠ p.blk := by
            intro e
            cases C with
            | mp es2 => exact hH.apart c b _ _ q p p.blk 0 hne hC hB hq hp (.inr trivial) e rfl
            | cells t2 n2 tl2 ro2 =>
              obtain ⟨_, _, _, g1, _⟩ := hok
              rw [e, h3] at g1; cases g1
          cases C with
          | mp es2 =>
            obtain ⟨e1, e2, g1, g2, g3⟩ := hok
            exact ⟨e1, e2, by rw [hoth _ hqb]; exact g1, g2, g3⟩
          | cells t2 n2 tl2 ro2 =>
            obtain ⟨e1, e2, e3, g1, g2⟩ := hok
            exact ⟨e1, e2, e3, by rw [hoth _ hqb]; exact g1, g2⟩
        refine ⟨undef, _, ρ, .inr ⟨rfl, hrun⟩, rfl, ⟨?_, ?_, ?_⟩, ⟨.refl ρ, fun _ _ => rfl, Nat.le_refl _, by simp, ?_, ?_, ?_, rfl, rfl, rfl⟩⟩
        · intro c C hC
          rw [getB_upd] at hC
          by_cases e : c = b
          · subst e; rw [if_pos rfl] at hC; injection hC with hC; subst hC
            exact ⟨p, hp, nes', nck, hset, d1, d2⟩
          · rw [if_neg e] at hC
            obtain ⟨q, hq, hok⟩ := hH.blk c C hC
            exact ⟨q, hq, hkeep c C q e hC hq hok⟩
        · intro c c' C C' q q' k2 i2 hne hC hC' hq hq' hwr2 h1 h2
          rw [getB_upd] at hC hC'
          have old : ∀ c C, (if c = b then some (Blk.mp nes) else getB H c) = some C → ∃ C0, getB H c = some C0 ∧ (wr C → wr C0) ∧ ∀ q k i, claims q C k i → claims q C0 k i := fun c C hC => by
            by_cases e : c = b
            · subst e; rw [if_pos rfl] at hC; injection hC with hC; subst hC; exact ⟨_, hB, fun _ => trivial, fun _ _ _ h => h⟩
            · rw [if_neg e] at hC; exact ⟨C, hC, id, fun _ _ _ h => h⟩
          obtain ⟨C0, g1, gw, g2⟩ := old c C hC
          obtain ⟨C0', g3, gw', g4⟩ := old c' C' hC'
          exact hH.apart c c' C0 C0' q q' k2 i2 hne g1 g3 hq hq' (hwr2.imp gw gw') (g2 _ _ _ h1) (g4 _ _ _ h2)
        · intro c C hC
          rw [getB_upd] at hC
          by_cases e : c = b
          · subst e; exact hH.lt c _ hB
          · rw [if_neg e] at hC; exact hH.lt c C hC
        · intro c _ hno
          exact hoth c fun e => hno ⟨b, _, p, hB, hp, e.symm, trivial⟩
        · rintro c ⟨c2, C, q, hC, hq, hqc, hwC⟩
          rw [getB_upd] at hC
          by_cases e : c2 = b
          · subst e; rw [hp] at hq; injection hq with hq; subst hq; exact .inl ⟨c2, _, p, hB, hp, hqc, trivial⟩
          · rw [if_neg e] at hC; exact .inl ⟨c2, C, q, hC, hq, hqc, hwC⟩
        · intro c C hC hwC
          rw [getB_upd] at hC
          by_cases e : c = b
          · subst e; rw [if_pos rfl] at hC; injection hC with hC; subst hC; exact absurd trivial hwC
          · rwa [if_neg e] at hC
      have pre : ∀ r, (∀ b w, (Instr.checkKey b 10000 kt (a.eval k)).run P w = .ok () w) → (∀ w, (Instr.findKey kt (a.eval k) es'.toList).run P w = .ok r w) → (execOp a.eval o).run P w = ((match r with
          | some (i, _) => (do
              let key ← Instr.keyThatStays (((es'[i]?).map fun (e : MapEntry) => e.key).getD (a.eval k)) (a.eval k)
              setObj p.blk (.map (es'.modify i fun e => { e with key, val := a.eval x }) ck) : Sem Unit)
          | none => setObj p.blk (.map (es'.push { key := a.eval k, val := a.eval x, born := ck }) (ck + 1))).run P w).andThen fun _ w' => .ok .skip w' := by
        intro r hck hfk
        simp only [execOp, ho, Instr.mapUpdate, Sem.run_bind, run_und hu, Result.andThen_ok, hmx]
        simp only [getObj, Sem.run, h3, Result.andThen_ok, Sem.run_bind, Sem.run_pure, hck, hfk]
        cases r <;> rfl
      have hso : ∀ (ob : Obj), (setObj p.blk ob).run P w = .ok () { w with heap := w.heap.setIfInBounds p.blk ob } := fun ob => by simp [setObj, Sem.run, h3]
      have upd1 : ∀ (i : Nat) (v' : AV) (y : Value), (∀ b w, (Instr.checkKey b 10000 kt (a.eval k)).run P w = .ok () w) → (∀ w, (Instr.findKey kt (a.eval k) es'.toList).run P w = .ok (some (i, y)) w) →
          (∀ ent, es'[i]? = some ent → Instr.sameBits 10000 ent.key (a.eval k) = true) → (∃ ent, es'[i]? = some ent) → H' = ⟨H.bl.set (bits b) (some (.mp (setE es i kv xv))), H.nx⟩ → Wr P o a ρ H w undefA H' := by
        intro i v' y hck hfk hsb ⟨ent, hget⟩ h2
        have hsb := hsb ent hget
        obtain ⟨m1, m2⟩ := setE_map es i kv xv
        refine fin (setE es i kv xv) (es'.modify i fun e => { e with key := a.eval k, val := a.eval x }) ck ?_ ?_ ?_ h2
        · rw [m1]
          have : (es'.modify i fun e => { e with key := a.eval k, val := a.eval x }).toList.map (·.key) = (es'.toList.map (·.key)).set i (a.eval k) := by
            apply List.ext_getElem?
            intro j
            simp [List.getElem?_set]
            by_cases e : i = j
            · subst e; simp; by_cases hq : i < es'.size <;> simp [hq]
            · simp [e]
          rw [this]; exact h4.set i hkx
        · rw [m2]
          have : (es'.modify i fun e => { e with key := a.eval k, val := a.eval x }).toList.map (·.val) = (es'.toList.map (·.val)).set i (a.eval x) := by
            apply List.ext_getElem?
            intro j
            simp [List.getElem?_set]
            by_cases e : i = j
            · subst e; simp; by_cases hq : i < es'.size <;> simp [hq]
            · simp [e]
          rw [this]; exact h5.set i hxx
        · rw [pre _ hck hfk]
          simp [hget, Instr.keyThatStays, hsb, hso]
      have upd2 : (∀ b w, (Instr.checkKey b 10000 kt (a.eval k)).run P w = .ok () w) → (∀ w, (Instr.findKey kt (a.eval k) es'.toList).run P w = .ok none w) → H' = ⟨H.bl.set (bits b) (some (.mp (es ++ [(kv, xv)]))), H.nx⟩ → Wr P o a ρ H w undefA H' := by
        intro hck hfk h2
        refine fin (es ++ [(kv, xv)]) (es'.push { key := a.eval k, val := a.eval x, born := ck }) (ck + 1) ?_ ?_ ?_ h2
        · simp only [List.map_append, List.map_cons, List.map_nil, Array.toList_push]
          exact h4.append (.cons hkx .nil)
        · simp only [List.map_append, List.map_cons, List.map_nil, Array.toList_push]
          exact h5.append (.cons hxx .nil)
        · rw [pre _ hck hfk]
          simp [hso]
      cases hpl : plainK d with
      | true =>
        rw [hpl, cond_true] at h
        have hck := keyEq_plain (P := P) (x := a.eval k) (_k := kv) kt hd (plainK_or hpl)
        have hfk : ∀ r, Instr.findNow d (a.eval k) es'.toList 0 = some r → ∀ w, (Instr.findKey kt (a.eval k) es'.toList).run P w = .ok r w := fun r hr w => by simp [Instr.findKey, run_und hd, hr]
        split at h
        · rename_i i v' hf
          rw [setB_eq] at h
          injection h with h1 h2; subst h1
          obtain ⟨_, y, hy, hf', ent, he', k', hk', hkk, hkd⟩ := findE_now hkx es es'.toList 0 _ h4 h5 hf
          simp only [Nat.sub_zero] at he' hk'
          have hget : es'[i]? = some ent := by simpa using he'
          exact upd1 i v' y hck (hfk _ hf') (fun ent' he => by rw [hget] at he; injection he with he; subst he; exact same_bits hkk hkx hkd) ⟨ent, hget⟩ h2.symm
        · rename_i hf
          rw [setB_eq] at h
          injection h with h1 h2; subst h1
          exact upd2 hck (hfk _ (findE_now hkx es es'.toList 0 _ h4 h5 hf)) h2.symm
        · cases h
      | false =>
        rw [hpl, cond_false] at h
        split at h
        · rename_i nes hup
          rw [setB_eq] at h
          injection h with h1 h2; subst h1
          unfold upS at hup
          split at hup
          · rename_i ds hsd
            obtain ⟨fs, hu2, hf⟩ := structD_eq hsd
            unfold findKS at hup
            cases hl : isLen ds.length kv with
            | false => rw [hl] at hup; cases hup
            | true =>
              rw [hl, cond_true] at hup
              have hck := fun b w => checkS hu2 hf hkx hl b w
              split at hup
              · rename_i i v' hfs
                injection hup with hup; subst hup
                obtain ⟨_, y, hy, hrun, ent, he', k', hk', hkk, hkd⟩ := findS_now hu2 hf hkx es es'.toList 0 _ h4 h5 hfs
                simp only [Nat.sub_zero] at he' hk'
                have hget : es'[i]? = some ent := by simpa using he'
                have hfk := findS_key hu2 hf hkx h4 h5 hfs
                exact upd1 i v' y hck (fun w => (hfk w).trans (hrun w)) (fun ent' he => by rw [hget] at he; injection he with he; subst he; exact same_bitsS hkk hkx hkd) ⟨ent, hget⟩ h2.symm
              · rename_i hfs
                injection hup with hup; subst hup
                have hrun := findS_now hu2 hf hkx es es'.toList 0 _ h4 h5 hfs
                have hfk := findS_key hu2 hf hkx h4 h5 hfs
                exact upd2 hck (fun w => (hfk w).trans (hrun w)) h2.symm
              · cases hup
          · cases hup
        · cases h
    · cases h
  · cases h
end
end Eng
end Go.Proofs.YtlajkdbpmkodpaaGreatDoor
namespace Go.Proofs.YtlajkdbpmkodpaaGreatDoor
namespace Eng
open Go
section
variable {P : Program} {ρ : Rho} {T : Tm} {a : Act}

/-- all global names in an operation's operands are of variables -/
def opG (P : Program) (o : Op) : Bool := o.operands.toList.all (gl P)

def w₀ : World := { heap := #[], tape := fun _ _ => 0, drawn := 0, os := Os.initial #[] #[] ByteArray.empty, output := #[] }
theorem callArgs {c : Call} (h : c.operands.toList.all (gl P) = true) : c.args.toList.all (gl P) = true := by
  unfold Call.operands at h
  simp only [Array.toList_append, List.all_append, Bool.and_eq_true] at h
  exact h.2
theorem callFn {c : Call} {f : Operand} (hc : c.callee = .value f) (h : c.operands.toList.all (gl P) = true) : gl P f = true := by
  unfold Call.operands at h
  simp only [hc, Array.toList_append, List.all_append, Bool.and_eq_true] at h
  simpa using h.1

theorem oper_pure {call : CallF} {o : Oper} (hcl : cls P o.op = .pure) (hg : opG P o.op = true) (hT : TR ρ T a.tmps) (hG : GOK P ρ) (H : Heap) : OKp P o a ρ H (oper P call o.op T H) := by
  obtain ⟨dst, op, ty, pos, af, gd⟩ := o
  cases op <;> simp only [cls] at hcl <;> simp only [opG, Op.operands] at hg <;> simp only [oper]
  case move x => exact oMove_p _ x (.inl rfl) hT hG (by simpa using hg) H
  case assign x => exact oMove_p _ x (.inr rfl) hT hG (by simpa using hg) H
  case pick c x y => simp only [List.all_cons, List.all_nil, Bool.and_eq_true, Bool.and_true] at hg; exact oPick_p _ c x y rfl hT hG hg.1 hg.2.1 hg.2.2 H
  case build t ps => exact oBuild_p _ t ps rfl hT hG (by simpa [List.all_map] using hg) H
  case nilCheck x => exact oNilCheck_p _ x rfl hT hG (by simpa using hg) H
  case binOp op t x y yt => simp only [List.all_cons, List.all_nil, Bool.and_eq_true, Bool.and_true] at hg; exact oBin_p _ op t yt x y rfl hT hG hg.1 hg.2 H
  case unOp op t x => exact oUn_p _ op t x rfl hT hG (by simpa using hg) H
  case convert s d x => exact oConvert_p _ s d x rfl (by simpa [cls] using hcl) hT hG (by simpa using hg) H
  case makeInterface t x => exact oMakeIface_p _ t x rfl hT hG (by simpa using hg) H
  case makeFunc fn f c => exact oMakeFunc_p _ fn f c rfl hT hG (by simp only [Array.toList_append, List.all_append, Bool.and_eq_true] at hg; exact hg.2) H
  case slice t x lo hi mx =>
    simp only [Array.toList_append, List.all_append, Bool.and_eq_true] at hg
    refine oSlice_p _ t x lo hi mx rfl (by simpa [cls] using hcl) hT hG (by simpa using hg.1.1.1) ?_ ?_ ?_ H
    · cases lo <;> simp_all [glO]
    · cases hi <;> simp_all [glO]
    · cases mx <;> simp_all [glO]
  case fieldAddr t x f => exact oFieldAddr_p _ t x f rfl hT hG (by simpa using hg) H
  case field t x f => exact oField_p _ t x f rfl hT hG (by simpa using hg) H
  case indexAddr t x i => simp only [List.all_cons, List.all_nil, Bool.and_eq_true, Bool.and_true] at hg; exact oIndexAddr_p _ t x i rfl hT hG hg.1 hg.2 H
  case index t x i => simp only [List.all_cons, List.all_nil, Bool.and_eq_true, Bool.and_true] at hg; exact oIndex_p _ t x i rfl hT hG hg.1 hg.2 H
  case typeAssert x xt t ok => exact oAssert_p _ x xt t ok rfl hT hG (by simpa using hg) H
  case extract x i => exact oExtract_p _ x i rfl hT hG (by simpa using hg) H
  case call c =>
    intro v H' h
    simp only [oCall] at h
    split at h
    · rename_i xs hxs
      have hm := evL_den hT hG (callArgs hg) hxs
      split at h
      · rename_i b hb
        have fin : ∀ {b' : Builtin}, b = b' → BV P ρ b' c.argTypes (c.args.toList.map a.eval) v → Gives P ⟨dst, .call c, ty, pos, af, gd⟩ a ρ v := fun e ⟨y, h1, h2⟩ =>
          ⟨y, h1, fun w => exec_b2 (o := ⟨dst, .call c, ty, pos, af, gd⟩) rfl (e ▸ hb) rfl fun cs => h2 _ cs w⟩
        obtain ⟨ca, cb, cc⟩ := c
        simp only at hb hm
        subst hb
        cases b <;> simp only [] at hcl <;> (try cases hcl) <;> simp only [oBuiltin] at h
        · obtain ⟨h1, h2⟩ := oCap_b (P := P) hm h; exact ⟨h1, fin rfl h2⟩
        · have hno : ∀ k e, (cc[0]?).bind P.underlying ≠ some (.map k e) := fun k e he => by rw [he] at hcl; cases hcl
          obtain ⟨h1, _, h3⟩ := oLen_b (P := P) (w := w₀) hm (fun ⟨k, e, he⟩ => absurd he (hno k e)) h
          exact ⟨h1, fin rfl (h3 hno)⟩
        · obtain ⟨h1, h2⟩ := oMinMax_b (P := P) true hm _ h; exact ⟨h1, fin rfl h2⟩
        · obtain ⟨h1, h2⟩ := oMinMax_b (P := P) false hm _ h; exact ⟨h1, fin rfl h2⟩
      · rename_i f hf
        obtain ⟨ca, cb, cc⟩ := c
        simp only at hf; subst hf; simp only [] at hcl; cases hcl
      · cases h
    · cases h
  all_goals first | cases hcl | (simp at hcl; done)
theorem oper_read {call : CallF} {o : Oper} (hcl : cls P o.op = .read) (hg : opG P o.op = true) (hT : TR ρ T a.tmps) (hG : GOK P ρ) {H H' : Heap} {w : World} (hH : VR ρ H w) {v : AV}
    (h : oper P call o.op T H = .val v H') : H' = H ∧ GivesIn P o a ρ w v := by
  obtain ⟨dst, op, ty, pos, af, gd⟩ := o
  cases op <;> simp only [cls] at hcl <;> simp only [opG, Op.operands] at hg <;> simp only [oper] at h
  case load t x => exact oLoad_r _ t x rfl hT hG (by simpa using hg) hH h
  case lookup t m x ok => simp only [List.all_cons, List.all_nil, Bool.and_eq_true, Bool.and_true] at hg; exact oLookup_r _ t m x ok rfl hT hG hg.1 hg.2 hH h
  case convert s d x => exact oConvert_r _ s d x rfl (by simpa [cls] using hcl) hT hG (by simpa using hg) hH h
  case slice t x lo hi mx =>
    simp only [Array.toList_append, List.all_append, Bool.and_eq_true] at hg
    refine oSlice_r _ t x lo hi mx rfl (by simpa [cls] using hcl) hH hT hG (by simpa using hg.1.1.1) ?_ ?_ ?_ h
    · cases lo <;> simp_all [glO]
    · cases hi <;> simp_all [glO]
    · cases mx <;> simp_all [glO]
  case call c =>
    simp only [oCall] at h
    split at h
    · rename_i xs hxs
      have hm := evL_den hT hG (callArgs hg) hxs
      split at h
      · rename_i b hb
        obtain ⟨ca, cb, cc⟩ := c
        simp only at hb hm
        subst hb
        cases b <;> simp only [] at hcl <;> (try cases hcl) <;> simp only [oBuiltin] at h
        · obtain ⟨h1, y, h2, h3⟩ := oCap_b (P := P) hm h
          exact ⟨h1, y, h2, exec_b2 (o := ⟨dst, .call ⟨.builtin .cap, cb, cc⟩, ty, pos, af, gd⟩) rfl rfl rfl fun cs => h3 _ cs w⟩
        · obtain ⟨h1, ⟨y, h2, h3⟩, _⟩ := oLen_b (P := P) hm (fun _ => hH) h
          exact ⟨h1, y, h2, exec_b2 (o := ⟨dst, .call ⟨.builtin .len, cb, cc⟩, ty, pos, af, gd⟩) rfl rfl rfl fun cs => h3 _ cs⟩
      · rename_i f hf
        obtain ⟨ca, cb, cc⟩ := c
        simp only at hf; subst hf; simp only [] at hcl; cases hcl
      · cases h
    · cases h
  all_goals first | cases hcl | (simp at hcl; done)
theorem oper_make {call : CallF} {o : Oper} (hcl : cls P o.op = .make) (hg : opG P o.op = true) (hT : TR ρ T a.tmps) (hG : GOK P ρ) {H H' : Heap} {v : AV}
    (h : oper P call o.op T H = .val v H') : Mk P o a ρ H v H' := by
  obtain ⟨dst, op, ty, pos, af, gd⟩ := o
  cases op <;> simp only [cls] at hcl <;> simp only [opG, Op.operands] at hg <;> simp only [oper] at h
  case alloc t => exact oAlloc_m _ t rfl h
  case box t x => exact oBox_m _ t x rfl hT hG (by simpa using hg) h
  case buildSlice t n ps => exact oBuildSlice_m _ t n ps rfl hT hG (by simpa [List.all_map] using hg) h
  case makeMap t r => exact oMakeMap_m _ t r rfl h
  case makeSlice t l c => simp only [List.all_cons, List.all_nil, Bool.and_eq_true, Bool.and_true] at hg; exact oMakeSlice_m _ t l c rfl hT hG hg.1 hg.2 h
  case convert s d x => exact oConvert_m _ s d x rfl (by simpa [cls] using hcl) hT hG (by simpa using hg) h
  case slice t x lo hi mx => split at hcl <;> cases hcl
  case call c =>
    obtain ⟨ca, cb, cc⟩ := c
    cases ca <;> simp only [] at hcl
    · cases hcl
    · cases hcl
    · split at hcl <;> first | cases hcl | (split at hcl <;> cases hcl)
  all_goals first | cases hcl | (simp at hcl; done)
/-- what is loud and calls nothing -/
theorem oper_loud {call : CallF} {o : Oper} (hcl : cls P o.op = .loud) (hno : ∀ c f, o.op = .call c → c.callee ≠ .value f) (hg : opG P o.op = true) (hT : TR ρ T a.tmps) (hG : GOK P ρ) {H H' : Heap} {w : World} (hH : HR ρ H w) (hf : H'.nx = H.nx + 1 → ρ H.nx = none) {v : AV}
    (h : oper P call o.op T H = .val v H') : Wr P o a ρ H w v H' := by
  obtain ⟨dst, op, ty, pos, af, gd⟩ := o
  cases op <;> simp only [cls] at hcl <;> simp only [opG, Op.operands] at hg <;> simp only [oper] at h
  case store t x y => simp only [List.all_cons, List.all_nil, Bool.and_eq_true, Bool.and_true] at hg; exact oStore_w _ t x y rfl hT hG hg.1 hg.2 hH h
  case mapUpdate t m k x => simp only [List.all_cons, List.all_nil, Bool.and_eq_true, Bool.and_true] at hg; exact oMapUpdate_w _ t m k x rfl hT hG hg.1 hg.2.1 hg.2.2 hH h
  case defer c =>
    simp only [oDefer] at h
    split at h
    · split at h
      · split at h <;> cases h
      · cases h
    · cases h
  case panic x => simp only [oPanic] at h; split at h <;> cases h
  case convert s d x => split at hcl <;> cases hcl
  case slice t x lo hi mx => split at hcl <;> cases hcl
  case call c =>
    simp only [oCall] at h
    split at h
    · rename_i xs hxs
      have hm := evL_den hT hG (callArgs hg) hxs
      split at h
      · rename_i b hb
        obtain ⟨ca, cb, cc⟩ := c
        simp only at hb hm hxs
        subst hb
        cases b <;> simp only [] at hcl <;> (try cases hcl) <;> simp only [oBuiltin] at h
        all_goals first
          | (split at hcl <;> cases hcl; done)
          | (cases h; done)
          | exact oCopy_w (o := ⟨dst, .call ⟨.builtin .copy, cb, cc⟩, ty, pos, af, gd⟩) rfl rfl hm rfl hH h
          | exact oClear_w (o := ⟨dst, .call ⟨.builtin .clear, cb, cc⟩, ty, pos, af, gd⟩) rfl rfl hm rfl hH h
          | (split at h <;> cases h; done)
          | skip
        -- append
        unfold oAppend at h
        split at h
        · rename_i t u s x hts
          have hcb : ∃ sx xx, cb.toList = [sx, xx] := by
            have hl : cb.toList.length = 2 := by
              have := hm.length
              simp at this
              simp [← this]
            match cb.toList, hl with
            | [p, q], _ => exact ⟨p, q, rfl⟩
          obtain ⟨sx, xx, hsx⟩ := hcb
          rw [hsx] at hm
          obtain ⟨uu, vv, e, e1, e2⟩ := two_of_DL hm
          simp only [List.map_cons, List.map_nil, List.cons.injEq, and_true] at e
          obtain ⟨rfl, rfl⟩ := e
          split at h
          · rename_i E y hE hu
            exact appS_w (o := ⟨dst, .call ⟨.builtin .append, cb, cc⟩, ty, pos, af, gd⟩) rfl rfl hsx hts hE hu (.inl ⟨_, rfl⟩) e1 e2 hH hf h
          · rename_i E hE hu
            exact appS_w (o := ⟨dst, .call ⟨.builtin .append, cb, cc⟩, ty, pos, af, gd⟩) rfl rfl hsx hts hE hu (.inr rfl) e1 e2 hH hf h
          · cases h
        · cases h
      · rename_i f hf
        exact absurd hf (hno c f rfl)
      · cases h
    · cases h
  all_goals first | cases hcl | (simp at hcl; done)
end
end Eng
end Go.Proofs.YtlajkdbpmkodpaaGreatDoor
