/-
  THE ENGINE, part L: what writes: stores, appends, copies, maps.
-/
import Derived.Test.YtbdhainbcfobeaaGreatDoorEngK
import Derived.Lib.ConvBytes
namespace Go.Proofs.YtbdhainbcfobeaaGreatDoor
namespace Eng
open Go
section
variable {P : Program} {ρ : Rho} {T : Tm} {a : Act}

theorem newOpen_eq {H H' : Heap} {n es : Nat} {l : List AV} {v : AV} (h : newOpen H n es l = .val v H') : n < 1000000 ∧ v = .so H.nx 0 n es ∧ H' = ⟨H.bl.set (bits H.nx) (some (.cells (layT .lf 0 l) (n * es) true false)), H.nx + 1⟩ := by
  unfold newOpen at h
  cases hb : Nat.blt n limit with
  | false => rw [hb] at h; cases h
  | true =>
    rw [hb] at h
    simp only [Bool.not_true, cond_false, layC_eq, fN_eq, newB_eq] at h
    injection h with h1 h2
    rw [blt_iff, decide_eq_true_iff] at hb
    exact ⟨hb, h1.symm, h2.symm⟩
theorem freeze_rest (w : World) (a : Addr) : (w.freeze a 1).os = w.os ∧ (w.freeze a 1).tape = w.tape ∧ (w.freeze a 1).output = w.output := by
  unfold World.freeze; rw [if_neg (by decide)]; exact ⟨rfl, rfl, rfl⟩
theorem oConvert_m (o : Oper) (s d : TypeId) (x : Operand) (ho : o.op = .convert s d x) (hcl : cls P o.op = .make) (hT : TR ρ T a.tmps) (hG : GOK P ρ) (hx : gl P x = true) {H H' : Heap} {v : AV}
    (h : oConvert P s d x T H = .val v H') : Mk P o a ρ H v H' := by
  unfold oConvert at h
  rw [ho] at hcl
  simp only [cls] at hcl
  split at h
  · rename_i hs hd _; rw [hs, hd] at hcl; cases hcl
  · rename_i hs hd _; rw [hs, hd] at hcl; cases hcl
  · rename_i e n y hs hd he
    split at h
    · rename_i hu
      obtain ⟨_, h⟩ := cond_some h (by simp)
      obtain ⟨hn, rfl, rfl⟩ := newOpen_eq h
      have hv := den_str (ev_den hT hG hx he)
      -- the bytes, as cells
      have hel : elemsOf (H := H) (.str n y) 1 = some (n, strCells n y) := by simp [elemsOf]
      have hcells : ∀ (m y : Nat), (strCells m y).length = m ∧ DL ρ (strCells m y) ((unpackL m y).map fun b => Value.int .u8 b.toNat) := by
        intro m
        induction m with
        | zero => intro y; exact ⟨rfl, .nil⟩
        | succ m ih =>
          intro y
          obtain ⟨i1, i2⟩ := ih (y / 256)
          simp only [strCells, fN_eq, unpackL, List.map_cons]
          have e1 : Nat.div y 256 = y / 256 := rfl
          have e2 : Nat.mod y 256 = y % 256 := rfl
          rw [e1, e2]
          refine ⟨by simp [i1], .cons ?_ i2⟩
          simp [den]
      obtain ⟨hl1, hl2⟩ := hcells n y
      refine ⟨_, rfl, rfl, fun w => ?_⟩
      have hcap : n ≤ grownCap w n 0 e := grownCap_ge w n 0 e
      have hcs : (Lib.bytesCells w e (unpack n y)).size = grownCap w n 0 e := by
        have hd : (unpack n y).data.size = n := unpack_size n y
        simp only [Lib.bytesCells, Array.size_append, Array.size_map, Array.size_replicate, hd, unpack_size]; omega
      have hnew := Lib.bytesWorld_at_new w e (unpack n y)
      have hheap : (Lib.bytesWorld w e (unpack n y)).heap = w.heap.push (.cells (Lib.bytesCells w e (unpack n y)) e ((Lib.bytesCells w e (unpack n y)).size, (Lib.bytesCells w e (unpack n y)).size + 1)) := by
        apply Array.ext_getElem?
        intro j
        rw [Array.getElem?_push]
        by_cases hj : j = w.heap.size
        · subst hj; rw [if_pos rfl, hnew]
        · rw [if_neg hj]
          by_cases hj' : j < w.heap.size
          · exact Lib.bytesWorld_at_old w e _ j hj'
          · rw [Array.getElem?_eq_none (by rw [Lib.bytesWorld_size]; omega), Array.getElem?_eq_none (by omega)]
      refine ⟨.slice (some ⟨w.heap.size, 0, none⟩) n (grownCap w n 0 e), Lib.bytesWorld w e (unpack n y), _, grownCap w n 0 e, ?_, hheap, (freeze_rest _ _).1, (freeze_rest _ _).2.1, (freeze_rest _ _).2.2, fun ρ' _ hb => ?_, fun ρ' w'' s hk => ?_⟩
      · have := Lib.run_convert_string_bytes (P := P) w _ _ e (unpack n y) hs hd hu
        rw [unpack_size] at this
        simp [execOp, ho, hv, this]
      · simp [den, hb]
      · have h3 := cells_ok (c := Lib.bytesCells w e (unpack n y)) (tl := true) hl2 s hk (fun i x hx => by
            have hlt : i < n := by
              have := (List.getElem?_eq_some_iff.1 hx).1
              simpa [unpackL_length] using this
            unfold Lib.bytesCells
            rw [Array.getElem?_append_left (by simp [unpack, unpackL_length]; exact hlt)]
            simpa [unpack] using hx) (by rw [hl1, hcs]; exact hcap) (fun i hi => by simp; omega)
        rw [hl1, hcs] at h3
        simpa using h3
    · cases h
  · rename_i hs hd _; rw [hs, hd] at hcl; cases hcl
  · cases h

/-- what a writing operation (no call) gives -/
def Wr (P : Program) (o : Oper) (a : Act) (ρ : Rho) (H : Heap) (w : World) (v : AV) (H' : Heap) : Prop :=
  ∃ x w' ρ', ((execOp a.eval o).run P w = .ok (.value x) w' ∨ (x = undef ∧ (execOp a.eval o).run P w = .ok .skip w')) ∧ den ρ' v = some x ∧ HR ρ' H' w' ∧ Ext ρ H w ρ' H' w'
theorem Mk.wr {o : Oper} {H H' : Heap} {w : World} {v : AV} (h : Mk P o a ρ H v H') (hH : HR ρ H w) (hf : ρ H.nx = none) : Wr P o a ρ H w v H' := by
  obtain ⟨B, rfl, hwr, hm⟩ := h
  obtain ⟨x, w', obj, lim, hrun, hheap, ho, ht, hu, hden, hblk⟩ := hm w
  have hs := Sub.upd (p := ⟨w.heap.size, 0, lim⟩) hf
  obtain ⟨h1, h2⟩ := hH.new hf hheap rfl hwr (hblk _ w' hs (by rw [hheap]; simp)) ho ht hu
  exact ⟨x, w', _, .inl hrun, hden _ hs (upd_self _ _ _), h1, h2⟩

theorem scal_one {v : AV} {x : Value} (h : scal v = true) (hd : den ρ v = some x) : x.oneCell' = true := by
  cases v <;> first
    | (simp [scal] at h; done)
    | (simp only [den] at hd; first | (injection hd with hd; subst hd; rfl) | (split at hd <;> first | (injection hd with hd; subst hd; rfl) | cases hd))
theorem scal_all {vs : List AV} {xs : List Value} (h : ∀ v ∈ vs, scal v = true) (hd : DL ρ vs xs) : ∀ x ∈ xs, x.oneCell' = true := by
  induction vs generalizing xs with
  | nil => rw [hd.eq_nil]; simp
  | cons v vs ih =>
    obtain ⟨x, r, rfl, h1, h2⟩ := hd.uncons
    intro y hy
    rcases List.mem_cons.1 hy with rfl | hy
    · exact scal_one (h v (by simp)) h1
    · exact ih (fun u hu => h u (by simp [hu])) h2 y hy
/-- cells stored in their places -/
theorem write_ok {H : Heap} {w : World} (hH : HR ρ H w) {b n i : Nat} {t : Tr AV} {tl : Bool} {p : Pl} (hB : getB H b = some (.cells t n tl false)) (hp : ρ b = some p) {vs : List AV} {xs : List Value} (hv : DL ρ vs xs)
    (hin : ∀ j, i ≤ j → j < i + vs.length → (t.get (bits j)).isSome) (hs : ∀ v ∈ vs, scal v = true) :
    (storeCells ⟨p.blk, p.off + i, none⟩ xs).run P w = .ok () (w.setCells p.blk (p.off + i) xs) ∧
      HR ρ ⟨H.bl.set (bits b) (some (.cells (layT t i vs) n tl false)), H.nx⟩ (w.setCells p.blk (p.off + i) xs) ∧ Ext ρ H w ρ ⟨H.bl.set (bits b) (some (.cells (layT t i vs) n tl false)), H.nx⟩ (w.setCells p.blk (p.off + i) xs) := by
  obtain ⟨q, hq, c, e, fz, h1, h2, h3, h4, h5⟩ := hH.blk b _ hB
  rw [hp] at hq; injection hq with hq; subst hq
  have hlen := hv.length
  have hix : ∀ j, i ≤ j → j < i + vs.length → j < n ∧ p.off + j < c.size := fun j hj1 hj2 => by
    obtain ⟨u, hu⟩ := Option.isSome_iff_exists.1 (hin j hj1 hj2)
    have := (h5 j u hu).1
    exact ⟨this, by omega⟩
  obtain ⟨s1, s2, s3, s4, s5, s6⟩ := setCells_heap xs w p.blk (p.off + i)
  obtain ⟨c', t1, t2, t3⟩ := s6 c e fz h1
  refine ⟨?_, ?_⟩
  · have := run_storeCells_cells (P := P) p.blk (p.off + i) xs 0 w (fun j hj => ?_) (fun j hj => ?_) (scal_all hs hv)
    · simpa using this
    · obtain ⟨_, hb⟩ := hix (i + j) (by omega) (by omega)
      simp only [World.cell?, h1, Nat.add_zero]
      simp [show p.off + i + j < c.size by omega]
    · obtain ⟨ha, _⟩ := hix (i + j) (by omega) (by omega)
      have := h4 rfl (i + j) (by omega)
      simp only [World.frozen?, h1, Nat.add_zero]
      obtain ⟨lo, hi⟩ := fz
      simp at this ⊢
      intro hlo
      have := this (by omega)
      omega
  · refine hH.turn hB hp rfl rfl ⟨Nat.le_of_eq s1.symm, fun k hk => ?_⟩ s1 ?_ ?_ s2 s3 s4 s5
    · by_cases hkb : k = p.blk
      · subst hkb
        refine .inr ⟨c, c', e, fz, h1, t1, t2, fun j hj => ?_⟩
        rw [t3 j, if_neg]
        rintro ⟨q1, q2, q3⟩
        refine hj ⟨rfl, j - p.off, by omega, .inl ?_⟩
        exact (hix (j - p.off) (by omega) (by omega)).1
      · exact .inl (s5 k hkb)
    · refine ⟨c', e, fz, t1, h2, by omega, h4, fun j v hj => ?_⟩
      rw [get_layT] at hj
      rw [t3]
      by_cases hr : i ≤ j ∧ j < i + vs.length
      · rw [if_pos hr] at hj
        obtain ⟨x, e1, e2⟩ := hv.get hj
        obtain ⟨k1, k2⟩ := hix j hr.1 hr.2
        refine ⟨k1, x, e2, ?_⟩
        rw [if_pos (by omega), show p.off + j - (p.off + i) = j - i by omega]
        exact e1
      · rw [if_neg hr] at hj
        obtain ⟨k1, x, k2, k3⟩ := h5 j v hj
        refine ⟨k1, x, k2, ?_⟩
        rw [if_neg (by omega)]
        exact k3
    · intro k j h; exact h
theorem oStore_w (o : Oper) (t : TypeId) (x y : Operand) (ho : o.op = .store t x y) (hT : TR ρ T a.tmps) (hG : GOK P ρ) (hx : gl P x = true) (hy : gl P y = true) {H H' : Heap} {w : World} (hH : HR ρ H w) {v : AV}
    (h : oStore P t x y T H = .val v H') : Wr P o a ρ H w v H' := by
  unfold oStore at h
  split at h
  · rename_i b i u n he hu hn
    obtain ⟨hl, h⟩ := cond_some h (by simp)
    rw [beq_true, len'_eq] at hl
    unfold storeR at h
    split at h
    · rename_i tr sz tl hB
      obtain ⟨p, hp, hpx⟩ := den_ptr (ev_den hT hG hx he)
      have hv := ev_den hT hG hy hu
      have hc := den_cells hv
      rcases putC_eq u.cells tr i OR.bad (fun t => setB H b (some (.cells t sz tl false)) fun H => .val undefA H) with ⟨e, hin, hs⟩ | e
      · rw [e, setB_eq] at h
        injection h with h1 h2; subst h1
        obtain ⟨k1, k2, k3⟩ := write_ok (P := P) hH hB hp hc hin hs
        refine ⟨undef, _, ρ, .inr ⟨rfl, ?_⟩, rfl, h2 ▸ k2, h2 ▸ k3⟩
        have hsz : (a.eval y).cells.size = n := by rw [← hl, hc.length]; simp
        simp [execOp, ho, Instr.storeAt, hpx, Instr.sureAddr, storeVar, szOf_run hn, hsz, k1]
      · rw [e] at h; cases h
    · cases h
  · cases h
end
end Eng
end Go.Proofs.YtbdhainbcfobeaaGreatDoor
