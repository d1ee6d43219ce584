/-
  THE ENGINE, part M: append, copy, clear, maps written.
-/
import Derived.Test.YtbdhainbcfobeaaGreatDoorEngL
namespace Go.Proofs.YtbdhainbcfobeaaGreatDoor
namespace Eng
open Go
section
variable {P : Program} {ρ : Rho} {T : Tm} {a : Act}

/-- the model's append, in place -/
theorem app_in {t u ty : TypeId} {E : EI} (hE : elemI P t = some E) {d : TypeDesc} (hu : P.underlying u = some d) (hd : (∃ e, d = .slice e) ∨ d = .string) {w w' : World} {base : Option Addr} {n m C : Nat} {x : Value} {xs : List Value}
    (hlen : (Builtin.lenOf x).run P w = .ok m w) (hcs : (Builtin.firstCells E.z m x).run P w = .ok xs.toArray w) (hle : n + m ≤ C)
    (hst : ∀ aa, base = some aa → (storeCells (aa.add (n * E.z)) xs).run P w = .ok () w') (hno : base = none → w' = w) :
    (Builtin.append_ #[t, u] ty #[.slice base n C, x]).run P w = .ok (.slice base (n + m) C) w' := by
  obtain ⟨hut, hpos, hsz, hz, hzl, i, hi, hiz, hib, z, hx0, hxd, hxs⟩ := elemI_spec hE
  cases base with
  | none =>
    rw [hno rfl]
    rcases hd with ⟨e, rfl⟩ | rfl <;> simp [Builtin.append_, run_und hut, szOf_run hsz, run_und hu, hlen, hcs, hle]
  | some aa =>
    rcases hd with ⟨e, rfl⟩ | rfl <;> simp [Builtin.append_, run_und hut, szOf_run hsz, run_und hu, hlen, hcs, hle, hst aa rfl]
/-- the model's append, in a new row -/
theorem app_re {t u ty : TypeId} {E : EI} (hE : elemI P t = some E) {d : TypeDesc} (hu : P.underlying u = some d) (hd : (∃ e, d = .slice e) ∨ d = .string) {w : World} {base : Option Addr} {n m C : Nat} {x : Value} {os xs : List Value}
    (hlen : (Builtin.lenOf x).run P w = .ok m w) (hcs : (Builtin.firstCells E.z m x).run P w.drew = .ok xs.toArray w.drew) (hlt : C < n + m) (hsm : n + m < 1000000)
    (hos : (Builtin.firstCells E.z n (.slice base n C)).run P w.drew = .ok os.toArray w.drew) (hol : os.length = n * E.z) (hxl : xs.length = m * E.z) :
    ∃ c, (Builtin.append_ #[t, u] ty #[.slice base n C, x]).run P w = .ok (.slice (some ⟨w.heap.size, 0, none⟩) (n + m) (grownCap w (n + m) C E.e)) (w.drew.alloc (.cells c E.e)) ∧
      c.size = grownCap w (n + m) C E.e * E.z ∧ ∀ (i : Nat) (y : Value), (os ++ xs)[i]? = some y → c[i]? = some y := by
  obtain ⟨hut, hpos, hsz, hz, hzl, i, hi, hiz, hib, z, hx0, hxd, hxs⟩ := elemI_spec hE
  have hge := grownCap_ge w (n + m) C E.e
  have h1 : ¬ (n + m ≤ C) := by omega
  have h63 : ¬ ((9223372036854775807 : Int) < (n : Int) + (m : Int)) := by omega
  have h48 : ¬ (281474976710656 < Builtin.nextslicecap (n + m) C * i.bytes) := by
    have h2 : (n + m) * i.bytes ≤ 1000000 * 1000000 := Nat.mul_le_mul (by omega) (by omega)
    have := growslice_fits (need := n + m) (old := C) (bytes := i.bytes) (by omega) (by omega)
    omega
  refine ⟨os.toArray ++ xs.toArray ++ Builtin.zeroCells z.cells (grownCap w (n + m) C E.e - (n + m)), ?_, ?_, fun i y hy => ?_⟩
  · rcases hd with ⟨e, rfl⟩ | rfl <;>
      simp [Builtin.append_, run_und hut, szOf_run hsz, run_und hu, hlen, hcs, hos, h1, h63, h48, typeInfo, zeroValue, hi, hx0, Question.forced, newRow, grownCap] <;> (congr 2; apply Array.ext'; simp [List.append_assoc])
  · rw [Array.size_append, Array.size_append, size_zeroCells, hxs]
    simp [hol, hxl]
    rw [← Nat.add_mul, ← Nat.add_mul]
    congr 1; omega
  · have := (List.getElem?_eq_some_iff.1 hy).1
    rw [Array.getElem?_append_left (by simpa using this)]
    simpa using hy
/-- a block let go -/
theorem HR.kill {H : Heap} {w : World} (hH : HR ρ H w) {b n : Nat} {t : Tr AV} {tl : Bool} {p : Pl} (hB : getB H b = some (.cells t n tl false)) (hp : ρ b = some p) :
    HR ρ ⟨H.bl.set (bits b) (some (.cells .lf 0 false false)), H.nx⟩ w ∧ Ext ρ H w ρ ⟨H.bl.set (bits b) (some (.cells .lf 0 false false)), H.nx⟩ w := by
  obtain ⟨q, hq, c, e, fz, h1, h2, h3, h4, h5⟩ := hH.blk b _ hB
  rw [hp] at hq; injection hq with hq; subst hq
  refine hH.turn hB hp rfl rfl (.of_eq rfl) rfl ⟨c, e, fz, h1, Nat.zero_le _, h3, h4, fun i v hv => ?_⟩ ?_ rfl rfl rfl (fun _ _ => rfl)
  · rw [Tr.get_lf] at hv; cases hv
  · rintro k i ⟨e1, j, e2, h | ⟨h, _⟩⟩
    · omega
    · cases h
theorem frozen_drew (w : World) (a : Addr) : w.drew.cell? a = w.cell? a := rfl
theorem HR.drew {H : Heap} {w : World} (h : HR ρ H w) : HR ρ H w.drew := ⟨h.blk, h.apart, h.lt⟩
theorem Ext.drew (H : Heap) (w : World) : Ext ρ H w ρ H w.drew := ⟨.refl ρ, fun _ _ => rfl, Nat.le_refl _, Nat.le_refl _, fun _ _ _ => rfl, fun _ h => .inl h, fun _ _ h _ => h, rfl, rfl, rfl⟩
/-- a new row of open capacity, laid -/
theorem HR.openNew {H : Heap} {w : World} (hH : HR ρ H w) (hf : ρ H.nx = none) {l : List AV} {xs : List Value} (hl : DL ρ l xs) {c : Array Value} {e : TypeId} (hc : ∀ (i : Nat) (x : Value), xs[i]? = some x → c[i]? = some x) (hsz : l.length ≤ c.size) {n z : Nat} (hz : l.length = n * z) :
    let H' : Heap := ⟨H.bl.set (bits H.nx) (some (.cells (layT .lf 0 l) (n * z) true false)), H.nx + 1⟩
    let ρ' := upd ρ H.nx ⟨w.heap.size, 0, c.size⟩
    HR ρ' H' (w.alloc (.cells c e)) ∧ Ext ρ H w ρ' H' (w.alloc (.cells c e)) := by
  have h := cells_ok (ρ' := upd ρ H.nx ⟨w.heap.size, 0, c.size⟩) (w'' := w.alloc (.cells c e)) (k := w.heap.size) (e := e) (fz := (0, 0)) (tl := true) hl (.upd hf) (by simp [World.alloc, -World.alloc_eq]) hc hsz (fun i _ => by simp)
  rw [hz] at h
  exact hH.new hf rfl rfl rfl h rfl rfl rfl
theorem se_den {b n z : Nat} {ρ' : Rho} {k C : Nat} (hb : ρ' b = some ⟨k, 0, C * z⟩) (hz : 0 < z) : den ρ' (.so b 0 n z) = some (.slice (some ⟨k, 0, none⟩) n C) := by
  simp [den, hb, Nat.mul_div_cancel _ hz]

theorem exec_append {o : Oper} {c : Call} (ho : o.op = .call c) (hb : c.callee = .builtin .append) {s x : Operand} (ha : c.args.toList = [s, x]) {t u : TypeId} (ht : c.argTypes.toList = [t, u]) {w w' : World} {r : Value}
    (h : (Builtin.append_ #[t, u] o.type #[a.eval s, a.eval x]).run P w = .ok r w') : (execOp a.eval o).run P w = .ok (.value r) w' := by
  obtain ⟨cs, hcs⟩ := exec_builtin (P := P) (a := a) ho hb
  rw [hcs w]
  have e1 : c.args.map a.eval = #[a.eval s, a.eval x] := by rw [args_eq, ha]; rfl
  rw [e1, list2 ht]
  simp [builtin, h]

theorem scalL_all : ∀ {l : List AV}, scalL l = true → ∀ v ∈ l, scal v = true
  | [], _, _, h => by cases h
  | u :: l, h, v, hv => by
    simp only [scalL] at h
    obtain ⟨h1, h2⟩ := cond_some h (by simp)
    rcases List.mem_cons.1 hv with rfl | hv
    · exact h1
    · exact scalL_all h2 v hv
/-- an append to a row whose end is not known: in its place or in a new row, the block is another one -/
theorem open_app {o : Oper} {c : Call} (ho : o.op = .call c) (hb : c.callee = .builtin .append) {s x : Operand} (ha : c.args.toList = [s, x]) {t u : TypeId} (ht : c.argTypes.toList = [t, u]) {E : EI} (hE : elemI P t = some E)
    {d : TypeDesc} (hu : P.underlying u = some d) (hd : (∃ e, d = .slice e) ∨ d = .string) {H : Heap} {w : World} (hH : HR ρ H w) (hf : ρ H.nx = none) {b sz : Nat} {tr : Tr AV} {p : Pl} (hB : getB H b = some (.cells tr sz true false)) (hp : ρ b = some p)
    {o' n m : Nat} {base : Option Addr} {l : List AV} {xs olds : List Value} {t2 : Tr AV} (hes : a.eval s = .slice base n ((p.lim - o') / E.z)) (hbase : n + m ≤ (p.lim - o') / E.z → base = some ⟨p.blk, p.off + o', none⟩) (hol : o' + n * E.z ≤ p.lim)
    (hxs : DL ρ l xs) (hsc : ∀ v ∈ l, scal v = true) (hll : l.length = m * E.z) (hlen : (Builtin.lenOf (a.eval x)).run P w = .ok m w) (hfc : (Builtin.firstCells E.z m (a.eval x)).run P w = .ok xs.toArray w) (hfc' : (Builtin.firstCells E.z m (a.eval x)).run P w.drew = .ok xs.toArray w.drew)
    (hsm : n + m < 1000000) (hfo : (Builtin.firstCells E.z n (.slice base n ((p.lim - o') / E.z))).run P w.drew = .ok olds.toArray w.drew) (holdl : olds.length = n * E.z)
    (hold : ∀ j v, j < n * E.z → tr.get (bits (o' + j)) = some v → ∃ y, den ρ v = some y ∧ olds[j]? = some y)
    (ht2 : ∀ j v, t2.get (bits j) = some v → (j < n * E.z ∧ tr.get (bits (o' + j)) = some v) ∨ (n * E.z ≤ j ∧ j < (n + m) * E.z ∧ l[j - n * E.z]? = some v)) :
    Wr P o a ρ H w (.so H.nx 0 (n + m) E.z) ⟨(H.bl.set (bits b) (some (.cells .lf 0 false false))).set (bits H.nx) (some (.cells t2 ((n + m) * E.z) true false)), H.nx + 1⟩ := by
  obtain ⟨hut, hpos, hsz, hz, hzl, i, hi, hiz, hib, z, hx0, hxd, hxs'⟩ := elemI_spec hE
  obtain ⟨q, hq, cc, ee, fz, g1, g2, g3, g4, g5⟩ := hH.blk b _ hB
  rw [hp] at hq; injection hq with hq; subst hq
  obtain ⟨hk1, hk2⟩ := hH.kill hB hp
  have hbn : b ≠ H.nx := by have := hH.lt b _ hB; omega
  have hxl : xs.length = m * E.z := by rw [← hxs.length, hll]
  let H1 : Heap := ⟨H.bl.set (bits b) (some (.cells .lf 0 false false)), H.nx⟩
  have hownb : own ρ H1 p.blk := ⟨b, .cells .lf 0 false false, p, by show getB H1 b = _; rw [getB_upd, if_pos rfl], hp, rfl, rfl⟩
  by_cases hle : n + m ≤ (p.lim - o') / E.z
  · -- in its place
    have hbs := hbase hle
    have hroom : o' + (n + m) * E.z ≤ p.lim := by
      rw [Nat.le_div_iff_mul_le hpos] at hle
      rcases Nat.eq_zero_or_pos (n + m) with h0 | h0
      · have : n = 0 := by omega
        subst this
        have : m = 0 := by omega
        subst this
        simpa using hol
      · have : 0 < (n + m) * E.z := Nat.mul_pos h0 hpos
        omega
    have hsplit : (n + m) * E.z = n * E.z + m * E.z := Nat.add_mul _ _ _
    let p2 : Pl := ⟨p.blk, p.off + o', p.lim - o'⟩
    obtain ⟨s1, s2, s3, s4, s5, s6⟩ := setCells_heap xs w p.blk (p.off + o' + n * E.z)
    obtain ⟨c', e1, e2, e3⟩ := s6 cc ee fz g1
    have hst : (storeCells ⟨p.blk, p.off + o' + n * E.z, none⟩ xs).run P w = .ok () (w.setCells p.blk (p.off + o' + n * E.z) xs) := by
      have := run_storeCells_cells (P := P) p.blk (p.off + o' + n * E.z) xs 0 w (fun j hj => ?_) (fun j hj => ?_) (scal_all hsc hxs)
      · simpa using this
      · simp only [World.cell?, g1, Nat.add_zero]
        simp [show p.off + o' + n * E.z + j < cc.size by omega]
      · have := g4 rfl (o' + n * E.z + j) (by omega)
        simp only [World.frozen?, g1, Nat.add_zero]
        obtain ⟨lo, hi⟩ := fz
        simp at this ⊢
        intro hlo
        have := this (by omega)
        omega
    have hclaim : ∀ k i, claims p2 (.cells t2 ((n + m) * E.z) true false) k i → claims p (.cells tr sz true false) k i := by
      rintro k i ⟨rfl, j, rfl, hj⟩
      refine ⟨rfl, o' + j, by show p.off + o' + j = _; omega, .inr ⟨rfl, ?_⟩⟩
      rcases hj with hj | ⟨_, hj⟩
      · omega
      · have : j < p.lim - o' := hj; omega
    have hre := hk1.reuse (w' := w.setCells p.blk (p.off + o' + n * E.z) xs) (B := .cells t2 ((n + m) * E.z) true false) (p := p2) hf hownb rfl (fun c2 C q k i hC hq hcl1 hcl2 => ?_) ⟨Nat.le_of_eq s1.symm, fun k hk => ?_⟩ s1 ?_ s2 s3 s4 s5
    · obtain ⟨r1, r2⟩ := hre
      refine ⟨.slice (some ⟨p.blk, p.off + o', none⟩) (n + m) ((p.lim - o') / E.z), _, _, .inl (exec_append ho hb ha ht ?_), ?_, r1, hk2.trans r2⟩
      · rw [hes, hbs]
        refine app_in hE hu hd hlen hfc hle (fun aa haa => ?_) (fun hn => by cases hn)
        injection haa with haa; subst haa
        rw [add_none]
        exact hst
      · have : upd ρ H.nx p2 H.nx = some p2 := upd_self _ _ _
        show den (upd ρ H.nx p2) (.so H.nx 0 (n + m) E.z) = _
        simp [den, this, p2]
    · -- nobody else claims it
      rw [getB_upd] at hC
      by_cases hcb : c2 = b
      · rw [if_pos hcb] at hC
        injection hC with hC; subst hC
        obtain ⟨_, j, _, hj | ⟨hj, _⟩⟩ := hcl1
        · omega
        · cases hj
      · rw [if_neg hcb] at hC
        exact hH.apart c2 b C _ q p k i hcb hC hB hq hp hcl1 (hclaim k i hcl2)
    · by_cases hkb : k = p.blk
      · subst hkb
        refine .inr ⟨cc, c', ee, fz, g1, e1, e2, fun j hj => ?_⟩
        rw [e3 j, if_neg]
        rintro ⟨q1, q2, q3⟩
        refine hj ⟨rfl, j - (p.off + o'), ?_, .inl ?_⟩
        · show j = p.off + o' + (j - (p.off + o')); omega
        · omega
      · exact .inl (s5 k hkb)
    · refine ⟨c', ee, fz, e1, ?_, ?_, fun _ i hi => ?_, fun j v hj => ?_⟩
      · show (n + m) * E.z ≤ p.lim - o'; omega
      · show p.off + o' + (p.lim - o') ≤ c'.size; omega
      · have hi : i < p.lim - o' := hi
        have := g4 rfl (o' + i) (by omega)
        show ¬ (fz.1 ≤ p.off + o' + i ∧ p.off + o' + i < fz.2)
        rw [Nat.add_assoc]; exact this
      · have hsub : Sub ρ (upd ρ H.nx p2) := .upd hf
        show j < (n + m) * E.z ∧ ∃ y, den (upd ρ H.nx p2) v = some y ∧ c'[p.off + o' + j]? = some y
        rcases ht2 j v hj with ⟨q1, q2⟩ | ⟨q1, q2, q3⟩
        · obtain ⟨q4, y, q5, q6⟩ := g5 _ v q2
          refine ⟨by omega, y, den_mono hsub v y q5, ?_⟩
          rw [e3, if_neg (by omega), Nat.add_assoc]
          exact q6
        · obtain ⟨y, q4, q5⟩ := hxs.get q3
          refine ⟨q2, y, den_mono hsub v y q5, ?_⟩
          rw [e3, if_pos (by omega), show p.off + o' + j - (p.off + o' + n * E.z) = j - n * E.z by omega]
          exact q4
  · -- a new row
    obtain ⟨c', hrun, hcsz, hcg⟩ := app_re (ty := o.type) hE hu hd hlen hfc' (by omega) hsm hfo holdl hxl
    have hge := grownCap_ge w (n + m) ((p.lim - o') / E.z) E.e
    have hH1 : HR ρ H1 w.drew := hk1.drew
    have hsub : Sub ρ (upd ρ H.nx ⟨w.heap.size, 0, c'.size⟩) := .upd hf
    have hnew := hH1.new (w' := w.drew.alloc (.cells c' E.e)) (B := .cells t2 ((n + m) * E.z) true false) (p := ⟨w.heap.size, 0, c'.size⟩) (o := .cells c' E.e) hf rfl rfl rfl ?_ rfl rfl rfl
    · obtain ⟨r1, r2⟩ := hnew
      refine ⟨_, _, _, .inl (exec_append ho hb ha ht (by rw [hes]; exact hrun)), ?_, r1, (hk2.trans (.drew H1 w)).trans r2⟩
      exact se_den (by rw [upd_self, hcsz]) hpos
    · refine ⟨c', E.e, (0, 0), by show (w.heap.push _)[w.heap.size]? = _; simp, ?_, by simp, fun _ i _ => by simp, fun j v hj => ?_⟩
      · show (n + m) * E.z ≤ c'.size
        rw [hcsz]; exact Nat.mul_le_mul_right _ hge
      · show j < (n + m) * E.z ∧ ∃ y, den (upd ρ H.nx ⟨w.heap.size, 0, c'.size⟩) v = some y ∧ c'[0 + j]? = some y
        rw [Nat.zero_add]
        rcases ht2 j v hj with ⟨q1, q2⟩ | ⟨q1, q2, q3⟩
        · obtain ⟨y, q5, q6⟩ := hold j v q1 q2
          refine ⟨by rw [Nat.add_mul]; omega, y, den_mono hsub v y q5, hcg j y ?_⟩
          rw [List.getElem?_append_left (by rw [holdl]; exact q1)]; exact q6
        · obtain ⟨y, q4, q5⟩ := hxs.get q3
          refine ⟨q2, y, den_mono hsub v y q5, hcg j y ?_⟩
          rw [List.getElem?_append_right (by rw [holdl]; exact q1), holdl]; exact q4
theorem appS_w {o : Oper} {c : Call} (ho : o.op = .call c) (hb : c.callee = .builtin .append) {s x : Operand} (ha : c.args.toList = [s, x]) {t u : TypeId} (ht : c.argTypes.toList = [t, u]) {E : EI} (hE : elemI P t = some E)
    {d : TypeDesc} (hu : P.underlying u = some d) (hd : (∃ e, d = .slice e) ∨ d = .string) {sv xv : AV} (hs : den ρ sv = some (a.eval s)) (hx : den ρ xv = some (a.eval x)) {H H' : Heap} {w : World} (hH : HR ρ H w) (hf : H'.nx = H.nx + 1 → ρ H.nx = none) {v : AV}
    (h : appS E sv xv H = .val v H') : Wr P o a ρ H w v H' := by
  obtain ⟨hut, hpos, hsz, hz, hzl, i, hi, hiz, hib, z, hx0, hxd, hxs⟩ := elemI_spec hE
  unfold appS at h
  split at h
  · rename_i m l hel
    have hcs := cond_some h (by simp)
    clear h
    obtain ⟨hm, h⟩ := hcs
    rw [blt_iff, decide_eq_true_iff] at hm
    have hm : m < 1000000 := hm
    obtain ⟨xs, hxs1, hxs2, hxs3⟩ := elemsOf_spec (P := P) hH.vr hx hel
    obtain ⟨hlen, hfc⟩ := hxs3 w (fun _ _ => rfl)
    obtain ⟨_, hfc'⟩ := hxs3 w.drew (fun _ _ => rfl)
    have hxl : xs.length = m * E.z := by rw [← hxs1.length, hxs2]
    -- in place
    have inplace : ∀ {b o' n C : Nat} {tr : Tr AV} {sz : Nat} {tl : Bool} {p : Pl} {vv : AV}, getB H b = some (.cells tr sz tl false) → ρ b = some p → a.eval s = .slice (some ⟨p.blk, p.off + o', none⟩) n C → n + m ≤ C → den ρ vv = some (.slice (some ⟨p.blk, p.off + o', none⟩) (n + m) C) →
        putC tr (Nat.add o' (Nat.mul n E.z)) l OR.bad (fun t => setB H b (some (.cells t sz tl false)) fun H => fN (Nat.add n m) fun _ => .val vv H) = .val v H' → Wr P o a ρ H w v H' := by
      intro b o' n C tr sz tl p vv hB hp hes hle hvv hput
      rcases putC_eq l tr (Nat.add o' (Nat.mul n E.z)) OR.bad (fun t => setB H b (some (.cells t sz tl false)) fun H => fN (Nat.add n m) fun _ => .val vv H) with ⟨e, hin, hsc⟩ | e
      · rw [e, setB_eq, fN_eq] at hput
        injection hput with h1 h2; subst h1
        obtain ⟨k1, k2, k3⟩ := write_ok (P := P) hH hB hp hxs1 hin hsc
        refine ⟨_, _, ρ, .inl (exec_append ho hb ha ht ?_), hvv, h2 ▸ k2, h2 ▸ k3⟩
        rw [hes]
        refine app_in hE hu hd hlen hfc hle (fun aa haa => ?_) (fun hn => by cases hn)
        injection haa with haa; subst haa
        rw [add_none, Nat.add_assoc]
        exact k1
      · rw [e] at hput; cases hput
    -- in a new row, behind a killing or none
    have fresh : ∀ {H1 : Heap} {base : Option Addr} {n C : Nat} {old : List AV} {olds : List Value}, HR ρ H1 w → Ext ρ H w ρ H1 w → H1.nx = H.nx → a.eval s = .slice base n C → C < n + m → n + m < 1000000 → DL ρ old olds → old.length = n * E.z →
        (Builtin.firstCells E.z n (.slice base n C)).run P w.drew = .ok olds.toArray w.drew → newOpen H1 (n + m) E.z (old ++ l) = .val v H' → Wr P o a ρ H w v H' := by
      intro H1 base n C old olds hH1 hE1 hnx hes hlt hsm hold holdl hfo hno
      obtain ⟨_, rfl, rfl⟩ := newOpen_eq hno
      obtain ⟨c', hrun, hcsz, hcg⟩ := app_re (ty := o.type) hE hu hd hlen hfc' hlt hsm hfo (by rw [← hold.length, holdl]) hxl
      have hf1 : ρ H1.nx = none := by rw [hnx]; exact hf (by show H1.nx + 1 = H.nx + 1; rw [hnx])
      obtain ⟨k1, k2⟩ := hH1.drew.openNew (e := E.e) hf1 (hold.append hxs1) hcg (by rw [hcsz, List.length_append, holdl, hxs2, ← Nat.add_mul]; exact Nat.mul_le_mul_right _ (grownCap_ge _ _ _ _)) (n := n + m) (z := E.z) (by rw [List.length_append, holdl, hxs2, Nat.add_mul])
      refine ⟨_, _, _, .inl (exec_append ho hb ha ht (by rw [hes]; exact hrun)), ?_, k1, (hE1.trans (.drew H1 w)).trans k2⟩
      exact se_den (by rw [upd_self, hcsz]; rfl) hpos
    unfold appendR at h
    split at h
    · -- nil
      have hes : a.eval s = .slice none 0 0 := by simp [den] at hs; exact hs.symm
      cases hm0 : Nat.beq m 0 with
      | true =>
        rw [hm0, cond_true] at h
        injection h with h1 h2; subst h1; subst h2
        have hm0 := beq_true.1 hm0
        subst hm0
        refine ⟨.slice none 0 0, w, ρ, .inl (exec_append ho hb ha ht ?_), rfl, hH, .refl _ _ _⟩
        rw [hes]
        exact app_in (n := 0) hE hu hd hlen hfc (Nat.le_refl _) (fun _ hn => by cases hn) (fun _ => rfl)
      | false =>
        rw [hm0, cond_false] at h
        have hm0 : m ≠ 0 := fun e => by rw [e] at hm0; cases hm0
        have h' : newOpen H (0 + m) E.z ([] ++ l) = .val v H' := by rw [Nat.zero_add]; exact h
        exact fresh hH (.refl _ _ _) rfl hes (by omega) (by omega) .nil (by simp) rfl h'
    · rename_i b o' n C
      obtain ⟨p, hp, hes⟩ := den_sl hs
      cases hle : Nat.ble (Nat.add n m) C with
      | true =>
        rw [hle, cond_true] at h
        have hle : n + m ≤ C := by rw [ble_iff, decide_eq_true_iff] at hle; exact hle
        split at h
        · rename_i tr sz tl hB
          simp only [fN_eq] at h
          refine inplace (vv := .sl b o' (n + m) C) hB hp hes.symm.symm hle (by simp [den, hp]) ?_
          simp only [fN_eq]; exact h
        · cases h
      | false =>
        rw [hle, cond_false] at h
        have hlt : C < n + m := by rw [ble_iff, decide_eq_false_iff_not] at hle; have : ¬ (n + m ≤ C) := hle; omega
        split at h
        · rename_i tr sz tl ro hB
          split at h
          · rename_i old hold
            obtain ⟨olds, k1, k2, k3⟩ := take_of hH.vr hB hp hold
            have k4 := run_takes (P := P) (w := w.drew) (b := p.blk) (o := p.off + o') (xs := olds) k3
            have k5 : olds.length = n * E.z := by rw [← k1.length, k2]; rfl
            rw [k5] at k4
            obtain ⟨hsm, _, _⟩ := newOpen_eq h
            exact fresh hH (.refl _ _ _) rfl hes hlt hsm k1 (by rw [k2]; rfl) k4 h
          · cases h
        · cases h
    · rename_i b o' n z'
      obtain ⟨p, hp, hes⟩ := den_so hs
      have hcs := cond_some h (by simp)
      clear h
      obtain ⟨hzz, h⟩ := hcs
      have hzz : z' = E.z := beq_true.1 hzz
      subst hzz
      split at h
      · rename_i tr sz tl hB
        obtain ⟨q, hq, cc, ee, fz, g1, g2, g3, g4, g5⟩ := hH.blk b _ hB
        rw [hp] at hq; injection hq with hq; subst hq
        cases hle : Nat.ble (Nat.add o' (Nat.mul (Nat.add n m) E.z)) sz with
        | true =>
          rw [hle, cond_true] at h
          have hle : o' + (n + m) * E.z ≤ sz := by rw [ble_iff, decide_eq_true_iff] at hle; exact hle
          have hC : n + m ≤ (p.lim - o') / E.z := by rw [Nat.le_div_iff_mul_le hpos]; omega
          refine inplace (vv := .so b o' (n + m) E.z) hB hp hes hC (by simp [den, hp]) ?_
          simp only [fN_eq] at h ⊢; exact h
        | false =>
          rw [hle, cond_false] at h
          have hle : ¬ (o' + (n + m) * E.z ≤ sz) := by rw [ble_iff, decide_eq_false_iff_not] at hle; exact hle
          have hcs := cond_some h (by simp)
          clear h
          obtain ⟨hc, h⟩ := hcs
          simp only [Bool.and_eq_true, ble_iff, blt_iff, decide_eq_true_iff, limit] at hc
          obtain ⟨⟨⟨rfl, c1⟩, c2⟩, c3⟩ := hc
          have c1 : o' + n * E.z ≤ sz := c1
          have c3 : n + m < 1000000 := c3
          -- what the old cells hold
          have holds : ∃ olds : List Value, olds.length = n * E.z ∧ ∀ j : Nat, j < n * E.z → ∃ y, olds[j]? = some y ∧ cc[p.off + o' + j]? = some y := by
            refine ⟨(cc.toList.drop (p.off + o')).take (n * E.z), by simp; omega, fun j hj => ?_⟩
            have hlt : p.off + o' + j < cc.size := by omega
            refine ⟨cc[p.off + o' + j], ?_, by simp [hlt]⟩
            rw [List.getElem?_take, if_pos hj, List.getElem?_drop]
            simp [hlt]
          obtain ⟨olds, k1, k2⟩ := holds
          have hfo := run_takes (P := P) (w := w.drew) (b := p.blk) (o := p.off + o') (xs := olds) fun j y hj => by
            have hjl : j < n * E.z := by rw [← k1]; exact (List.getElem?_eq_some_iff.1 hj).1
            obtain ⟨y', e1, e2⟩ := k2 j hjl
            rw [hj] at e1; injection e1 with e1; subst e1
            show World.cell? w _ = _
            simp [World.cell?, g1, e2]
          rw [k1] at hfo
          have hold : ∀ j v, j < n * E.z → tr.get (bits (o' + j)) = some v → ∃ y, den ρ v = some y ∧ olds[j]? = some y := fun j v hj hv => by
            obtain ⟨_, y, e1, e2⟩ := g5 _ v hv
            obtain ⟨y', e3, e4⟩ := k2 j hj
            rw [← Nat.add_assoc, e4] at e2; injection e2 with e2; subst e2
            exact ⟨_, e1, e3⟩
          have key : H'.nx = H.nx + 1 → ∀ t2 : Tr AV, (∀ j v, t2.get (bits j) = some v → (j < n * E.z ∧ tr.get (bits (o' + j)) = some v) ∨ (n * E.z ≤ j ∧ j < (n + m) * E.z ∧ l[j - n * E.z]? = some v)) →
              Wr P o a ρ H w (.so H.nx 0 (n + m) E.z) ⟨(H.bl.set (bits b) (some (.cells .lf 0 false false))).set (bits H.nx) (some (.cells t2 ((n + m) * E.z) true false)), H.nx + 1⟩ := fun hnx t2 ht2 =>
            open_app ho hb ha ht hE hu hd hH (hf hnx) hB hp (o' := o') hes (fun _ => rfl) (by omega) hxs1 (scalL_all c2) (by rw [hxs2]) hlen hfc hfc' c3 hfo k1 hold ht2
          cases ho0 : Nat.beq o' 0 with
          | true =>
            rw [ho0, cond_true] at h
            have ho0 : o' = 0 := beq_true.1 ho0
            subst ho0
            simp only [setB_eq, layC_eq, fN_eq, newB_eq] at h
            injection h with h1 h2
            have hnx : H'.nx = H.nx + 1 := by rw [← h2]
            rw [← h1, ← h2]
            refine key hnx _ fun j v hj => ?_
            rw [get_layT] at hj
            have e0 : Nat.mul n E.z = n * E.z := rfl
            rw [e0] at hj
            by_cases hr : n * E.z ≤ j ∧ j < n * E.z + l.length
            · rw [if_pos hr] at hj
              exact .inr ⟨hr.1, by rw [Nat.add_mul, ← hxs2]; exact hr.2, hj⟩
            · rw [if_neg hr] at hj
              have := (g5 j v hj).1
              refine .inl ⟨?_, by rw [Nat.zero_add]; exact hj⟩
              rw [Nat.add_mul] at hle
              omega
          | false =>
            rw [ho0, cond_false] at h
            split at h
            · rename_i old hold'
              rw [setB_eq] at h
              obtain ⟨_, rfl, rfl⟩ := newOpen_eq h
              obtain ⟨j1, j2⟩ := takeC_spec _ _ _ _ hold'
              have j1 : old.length = n * E.z := j1
              refine key rfl _ fun j v hj => ?_
              rw [get_layT, Tr.get_lf] at hj
              by_cases hr : 0 ≤ j ∧ j < 0 + (old ++ l).length
              · rw [if_pos hr, Nat.sub_zero] at hj
                rw [List.length_append, j1, hxs2, ← Nat.add_mul] at hr
                by_cases hjo : j < n * E.z
                · rw [List.getElem?_append_left (by rw [j1]; exact hjo)] at hj
                  exact .inl ⟨hjo, by rw [j2 j hjo]; exact hj⟩
                · rw [List.getElem?_append_right (by rw [j1]; omega), j1] at hj
                  exact .inr ⟨by omega, by omega, hj⟩
              · rw [if_neg hr] at hj; cases hj
            · cases h
      · cases h
    · rename_i b o' was z'
      obtain ⟨p, hp, hes⟩ := den_se hs
      have hcs := cond_some h (by simp)
      clear h
      obtain ⟨hc, h⟩ := hcs
      simp only [Bool.and_eq_true, Bool.not_eq_true', beq_true] at hc
      obtain ⟨⟨rfl, c1⟩, c2⟩ := hc
      have c1 : m ≠ 0 := fun e => by subst e; cases c1
      split at h
      · rename_i tr sz hB
        rw [setB_eq] at h
        obtain ⟨_, rfl, rfl⟩ := newOpen_eq h
        obtain ⟨q, hq, cc, ee, fz, g1, g2, g3, g4, g5⟩ := hH.blk b _ hB
        rw [hp] at hq; injection hq with hq; subst hq
        by_cases hlim : o' ≤ p.lim
        · have hfo : (Builtin.firstCells E.z 0 (.slice (some ⟨p.blk, p.off + (if (p.lim - o') / E.z = 0 then was else o'), none⟩) 0 ((p.lim - o') / E.z))).run P w.drew = .ok ([] : List Value).toArray w.drew := by simp [Builtin.firstCells, loadCells, loadCellsFrom]
          have := open_app (n := 0) (m := m) (olds := []) (t2 := layT .lf 0 l) ho hb ha ht hE hu hd hH (hf rfl) hB hp (o' := o') hes (fun hle => by rw [if_neg (by omega)]) (by omega) hxs1 (scalL_all c2) (by rw [hxs2]) hlen hfc hfc' (by omega) hfo (by simp) (fun j v hj => by omega)
            (fun j v hj => by
              rw [get_layT, Tr.get_lf] at hj
              by_cases hr : 0 ≤ j ∧ j < 0 + l.length
              · rw [if_pos hr] at hj
                exact .inr ⟨by omega, by rw [Nat.zero_add, ← hxs2]; omega, by simpa using hj⟩
              · rw [if_neg hr] at hj; cases hj)
          simpa using this
        · -- no room at all: a new row
          have hC : (p.lim - o') / E.z = 0 := by rw [show p.lim - o' = 0 by omega]; simp
          have hfo : (Builtin.firstCells E.z 0 (.slice (some ⟨p.blk, p.off + was, none⟩) 0 0)).run P w.drew = .ok ([] : List Value).toArray w.drew := by simp [Builtin.firstCells, loadCells, loadCellsFrom]
          obtain ⟨hk1, hk2⟩ := hH.kill hB hp
          rw [hC, if_pos rfl] at hes
          have := fresh (H1 := ⟨H.bl.set (bits b) (some (.cells .lf 0 false false)), H.nx⟩) (old := []) (olds := []) (n := 0) hk1 hk2 rfl hes (by omega) (by omega) .nil (by simp) hfo (by rw [Nat.zero_add]; exact h)
          exact this
      · cases h
    · cases h
  · cases h
end
end Eng
end Go.Proofs.YtbdhainbcfobeaaGreatDoor
