/-
  THE ENGINE, part I: len, cap, min, max; loads, lookups, bytes as a text.
-/
import Derived.Test.YtbdhainbcfobeaaGreatDoorEngH
namespace Go.Proofs.YtbdhainbcfobeaaGreatDoor
namespace Eng
open Go
section
variable {P : Program} {ρ : Rho} {T : Tm} {a : Act}

theorem exec_builtin {o : Oper} {c : Call} {b : Builtin} (ho : o.op = .call c) (hb : c.callee = .builtin b) :
    ∃ cs, ∀ w, (execOp a.eval o).run P w = (builtin b c.argTypes o.type cs (c.args.map a.eval)).run P w :=
  ⟨_, fun w => by simp only [execOp, ho, resolve, hb, invoke, Sem.run_bind, Sem.run_pure, Result.andThen_ok]; rfl⟩
theorem args_eq {c : Call} : c.args.map a.eval = (c.args.toList.map a.eval).toArray := by apply Array.ext'; simp
theorem two_of_DL {x y : AV} {m : List Value} (h : DL ρ [x, y] m) : ∃ u v, m = [u, v] ∧ den ρ x = some u ∧ den ρ y = some v := by
  obtain ⟨u, r, rfl, h1, h2⟩ := h.uncons
  obtain ⟨v, r', rfl, h3, h4⟩ := h2.uncons
  rw [h4.eq_nil]; exact ⟨u, v, rfl, h1, h3⟩
theorem one_of_DL {x : AV} {m : List Value} (h : DL ρ [x] m) : ∃ u, m = [u] ∧ den ρ x = some u := by
  obtain ⟨u, r, rfl, h1, h2⟩ := h.uncons
  rw [h2.eq_nil]; exact ⟨u, rfl, h1⟩
theorem list1 {α : Type} {A : Array α} {x : α} (h : A.toList = [x]) : A = #[x] := Array.ext' (by simpa using h)
theorem list2 {α : Type} {A : Array α} {x y : α} (h : A.toList = [x, y]) : A = #[x, y] := Array.ext' (by simpa using h)

/-- a builtin of which the answer is known in every world -/
def BV (P : Program) (ρ : Rho) (b : Builtin) (ts : Array TypeId) (m : List Value) (v : AV) : Prop :=
  ∃ x, den ρ v = some x ∧ ∀ ty cs w, (builtin b ts ty cs m.toArray).run P w = .ok (.value x) w
theorem oMinMax_b (mx : Bool) {xs : List AV} {m : List Value} (hm : DL ρ xs m) {H H' : Heap} {v : AV} (ts : Array TypeId) (h : oMinMax mx xs H = .val v H') : H' = H ∧ BV P ρ (if mx then .max else .min) ts m v := by
  unfold oMinMax at h
  split at h
  · rename_i k x j y
    rw [fI_eq] at h
    injection h with h1 h2; subst h1
    obtain ⟨u, w, rfl, e1, e2⟩ := two_of_DL hm
    rw [den_int e1, den_int e2]
    refine ⟨h2.symm, _, rfl, fun ty cs w => ?_⟩
    cases mx <;> simp [builtin, Builtin.max_, Builtin.min_, Builtin.max2, Builtin.min2, ilt_eq] <;> (split <;> simp_all)
  · cases h
theorem oLen_b {ts : Array TypeId} {xs : List AV} {m : List Value} (hm : DL ρ xs m) {H H' : Heap} {w : World} (hH : (∃ k e, (ts[0]?).bind P.underlying = some (.map k e)) → VR ρ H w) {v : AV} (h : oLen P ts.toList xs H = .val v H') :
    H' = H ∧ (∃ x, den ρ v = some x ∧ ∀ ty cs, (builtin .len ts ty cs m.toArray).run P w = .ok (.value x) w) ∧ ((∀ k e, (ts[0]?).bind P.underlying ≠ some (.map k e)) → BV P ρ .len ts m v) := by
  unfold oLen at h
  split at h
  · rename_i t x hts
    have hts := list1 hts
    subst hts
    obtain ⟨u, rfl, e1⟩ := one_of_DL hm
    have fin : ∀ {y : Value}, v = v → den ρ v = some y → (∀ ty cs w, (builtin .len #[t] ty cs #[u]).run P w = .ok (.value y) w) → (∃ x, den ρ v = some x ∧ ∀ ty cs, (builtin .len #[t] ty cs [u].toArray).run P w = .ok (.value x) w) ∧ ((∀ k e, (#[t][0]?).bind P.underlying ≠ some (.map k e)) → BV P ρ .len #[t] [u] v) :=
      fun _ h1 h2 => ⟨⟨_, h1, fun ty cs => h2 ty cs w⟩, fun _ => ⟨_, h1, h2⟩⟩
    split at h
    · rename_i n s hu
      injection h with h1 h2; subst h1
      rw [den_str e1] at fin ⊢
      exact ⟨h2.symm, fin rfl rfl fun ty cs w => by simp [builtin, Builtin.len_, run_und hu, unpack_size, goInt]⟩
    · rename_i n e hu
      injection h with h1 h2; subst h1
      exact ⟨h2.symm, fin rfl rfl fun ty cs w => by simp [builtin, Builtin.len_, run_und hu, goInt]⟩
    · rename_i hu
      injection h with h1 h2; subst h1
      have : u = .slice none 0 0 := by simp [den] at e1; exact e1.symm
      subst this
      exact ⟨h2.symm, fin rfl rfl fun ty cs w => by simp [builtin, Builtin.len_, run_und hu, goInt]⟩
    · rename_i hu
      injection h with h1 h2; subst h1
      obtain ⟨p, _, rfl⟩ := den_se e1
      exact ⟨h2.symm, fin rfl rfl fun ty cs w => by simp [builtin, Builtin.len_, run_und hu, goInt]⟩
    · rename_i hu
      injection h with h1 h2; subst h1
      obtain ⟨p, _, rfl⟩ := den_sl e1
      exact ⟨h2.symm, fin rfl rfl fun ty cs w => by simp [builtin, Builtin.len_, run_und hu, goInt]⟩
    · rename_i hu
      injection h with h1 h2; subst h1
      obtain ⟨p, _, rfl⟩ := den_so e1
      exact ⟨h2.symm, fin rfl rfl fun ty cs w => by simp [builtin, Builtin.len_, run_und hu, goInt]⟩
    · rename_i hu
      injection h with h1 h2; subst h1
      have : u = .map none := by simp [den] at e1; exact e1.symm
      subst this
      exact ⟨h2.symm, fin rfl rfl fun ty cs w => by simp [builtin, Builtin.len_, run_und hu, goInt]⟩
    · rename_i k e b hu
      split at h
      · rename_i es hB
        injection h with h1 h2; subst h1
        obtain ⟨p, hp, rfl⟩ := den_map e1
        obtain ⟨q, hq, es', ck, h3, h4, h5⟩ := (hH ⟨k, e, by simpa using hu⟩).at hB hp
        rw [hp] at hq; injection hq with hq; subst hq
        have hl := h4.length
        simp at hl
        refine ⟨h2.symm, ⟨_, rfl, fun ty cs => ?_⟩, fun hn => absurd (by simpa using hu) (hn k e)⟩
        simp [builtin, Builtin.len_, run_und hu, goInt, getObj, Sem.run, h3, hl]
      · cases h
    · cases h
  · cases h
theorem oCap_b {ts : Array TypeId} {xs : List AV} {m : List Value} (hm : DL ρ xs m) {H H' : Heap} {v : AV} (h : oCap P ts.toList xs H = .val v H') : H' = H ∧ BV P ρ .cap ts m v := by
  unfold oCap at h
  split at h
  · rename_i t x hts
    have hts := list1 hts
    subst hts
    obtain ⟨u, rfl, e1⟩ := one_of_DL hm
    split at h
    · rename_i hu
      injection h with h1 h2; subst h1
      have : u = .slice none 0 0 := by simp [den] at e1; exact e1.symm
      subst this
      exact ⟨h2.symm, _, rfl, fun ty cs w => by simp [builtin, Builtin.cap_, run_und hu, goInt]⟩
    · rename_i hu
      injection h with h1 h2; subst h1
      obtain ⟨p, _, rfl⟩ := den_sl e1
      exact ⟨h2.symm, _, rfl, fun ty cs w => by simp [builtin, Builtin.cap_, run_und hu, goInt]⟩
    · rename_i n e hu
      injection h with h1 h2; subst h1
      exact ⟨h2.symm, _, rfl, fun ty cs w => by simp [builtin, Builtin.cap_, run_und hu, goInt]⟩
    · cases h
  · cases h

/-! ### memory, read -/
theorem cell_of {H : Heap} {w : World} (hH : VR ρ H w) {b n : Nat} {t : Tr AV} {tl ro : Bool} {p : Pl} (hB : getB H b = some (.cells t n tl ro)) (hp : ρ b = some p) {i : Nat} {v : AV} (h : t.get (bits i) = some v) :
    ∃ x, den ρ v = some x ∧ w.cell? ⟨p.blk, p.off + i, none⟩ = some x := by
  obtain ⟨q, hq, c, e, fz, h1, _, _, _, h5⟩ := hH.at hB hp
  rw [hp] at hq; injection hq with hq; subst hq
  obtain ⟨_, x, h6, h7⟩ := h5 i v h
  exact ⟨x, h6, by simp [World.cell?, h1, h7]⟩
theorem take_of {H : Heap} {w : World} (hH : VR ρ H w) {b n : Nat} {t : Tr AV} {tl ro : Bool} {p : Pl} (hB : getB H b = some (.cells t n tl ro)) (hp : ρ b = some p) {k : Nat} : ∀ {i : Nat} {l : List AV}, takeC t i k = some l →
    ∃ xs, DL ρ l xs ∧ l.length = k ∧ ∀ j x, xs[j]? = some x → w.cell? ⟨p.blk, p.off + i + j, none⟩ = some x := by
  induction k with
  | zero => intro i l h; simp only [takeC, Option.some.injEq] at h; subst h; exact ⟨[], .nil, rfl, fun j x h => by simp at h⟩
  | succ k ih =>
    intro i l h
    simp only [takeC] at h
    split at h
    · rename_i v r hv hr
      injection h with h; subst h
      obtain ⟨xs, h1, h2, h3⟩ := ih hr
      obtain ⟨x, h4, h5⟩ := cell_of hH hB hp hv
      refine ⟨x :: xs, .cons h4 h1, by simp [h2], fun j y hj => ?_⟩
      cases j with
      | zero => simp at hj; subst hj; exact h5
      | succ j =>
        have := h3 j y (by simpa using hj)
        rw [show p.off + i + (j + 1) = p.off + (i + 1) + j by omega]; exact this
    · cases h
theorem run_takes {w : World} {b o : Nat} {xs : List Value} (h : ∀ j x, xs[j]? = some x → w.cell? ⟨b, o + j, none⟩ = some x) : (loadCells ⟨b, o, none⟩ xs.length).run P w = .ok xs.toArray w :=
  run_loadCells_list w _ xs fun j x hj => by rw [add_none]; exact h j x hj
theorem loadR_run {H H' : Heap} {w : World} (hH : VR ρ H w) {b i n : Nat} {ag : Bool} {v : AV} {p : Pl} (hp : ρ b = some p) (h : loadR H b i ag n = .val v H') {t : TypeId} (ha : aggOf P t = some ag) (hn : szOf P t = some n) :
    H' = H ∧ ∃ x, den ρ v = some x ∧ (loadVar t ⟨p.blk, p.off + i, none⟩).run P w = .ok x w := by
  unfold loadR at h
  split at h
  · rename_i tr sz tl ro hB
    cases ag with
    | true =>
      rw [cond_true] at h
      split at h
      · rename_i l hl
        injection h with h1 h2; subst h1
        obtain ⟨xs, h3, h4, h5⟩ := take_of hH hB hp hl
        have h6 := run_takes (P := P) h5
        rw [← h3.length, h4] at h6
        exact ⟨h2.symm, .agg xs.toArray, by simp [den, show denL ρ l = some _ from h3], by simp [loadVar, aggOf_run ha, szOf_run hn, h6]⟩
      · cases h
    | false =>
      rw [cond_false] at h
      split at h
      · rename_i u hu
        injection h with h1 h2; subst h1
        obtain ⟨x, h3, h4⟩ := cell_of hH hB hp hu
        exact ⟨h2.symm, x, h3, by simp [loadVar, aggOf_run ha, h4]⟩
      · cases h
  · cases h
/-- what an operation that only reads gives in this world -/
def GivesIn (P : Program) (o : Oper) (a : Act) (ρ : Rho) (w : World) (v : AV) : Prop := ∃ x, den ρ v = some x ∧ (execOp a.eval o).run P w = .ok (.value x) w
theorem oLoad_r (o : Oper) (t : TypeId) (x : Operand) (ho : o.op = .load t x) (hT : TR ρ T a.tmps) (hG : GOK P ρ) (hx : gl P x = true) {H H' : Heap} {w : World} (hH : VR ρ H w) {v : AV} (h : oLoad P t x T H = .val v H') :
    H' = H ∧ GivesIn P o a ρ w v := by
  unfold oLoad at h
  split at h
  · rename_i b i p he hp
    obtain ⟨q, hq, hqx⟩ := den_ptr (ev_den hT hG hx he)
    obtain ⟨_, h1, h2⟩ := plcOf_spec hp
    obtain ⟨e1, y, h3, h4⟩ := loadR_run (P := P) hH hq h h1 h2
    exact ⟨e1, y, h3, by simp [execOp, ho, Instr.loadAt, hqx, Instr.sureAddr, h4]⟩
  · cases h
theorem elemsOf_any {H : Heap} {w : World} (hH : VR ρ H w) {v : AV} {x : Value} {es n : Nat} {l : List AV} (hv : den ρ v = some x) (h : elemsOf H v es = some (n, l)) :
    ∃ xs, DL ρ l xs ∧ l.length = n * es ∧ ∀ w', (∀ k c, w'.cell? ⟨k, c, none⟩ = w.cell? ⟨k, c, none⟩) → (Builtin.lenOf x).run P w' = .ok n w' ∧ ∀ k, k ≤ n → (Builtin.firstCells es k x).run P w' = .ok (xs.take (k * es)).toArray w' := by
  have row : ∀ {b o' : Nat} {t : Tr AV} {sz : Nat} {tl ro : Bool} {p : Pl} {l : List AV} {cap : Nat}, getB H b = some (.cells t sz tl ro) → ρ b = some p → takeC t o' (Nat.mul n es) = some l →
      ∃ xs, DL ρ l xs ∧ l.length = n * es ∧ ∀ w', (∀ k c, w'.cell? ⟨k, c, none⟩ = w.cell? ⟨k, c, none⟩) → (Builtin.lenOf (.slice (some ⟨p.blk, p.off + o', none⟩) n cap)).run P w' = .ok n w' ∧
        ∀ k, k ≤ n → (Builtin.firstCells es k (.slice (some ⟨p.blk, p.off + o', none⟩) n cap)).run P w' = .ok (xs.take (k * es)).toArray w' := by
    intro b o' t sz tl ro p l cap hB hp hl
    obtain ⟨xs, h1, h2, h3⟩ := take_of hH hB hp hl
    refine ⟨xs, h1, h2, fun w' hw => ⟨rfl, fun k hk => ?_⟩⟩
    have h5 : xs.length = n * es := by rw [← h1.length, h2]; rfl
    have hke : k * es ≤ n * es := Nat.mul_le_mul_right _ hk
    have h4 := run_takes (P := P) (w := w') (b := p.blk) (o := p.off + o') (xs := xs.take (k * es)) fun j x hj => by
      rw [hw]
      rw [List.getElem?_take] at hj
      split at hj
      · exact h3 j x hj
      · cases hj
    rw [List.length_take, h5, Nat.min_eq_left hke] at h4
    exact h4
  unfold elemsOf at h
  split at h
  · injection h with h; injection h with h1 h2; subst h1; subst h2
    have : x = .slice none 0 0 := by simp [den] at hv; exact hv.symm
    subst this
    exact ⟨[], .nil, by simp, fun w' _ => ⟨rfl, fun k hk => by simp [Builtin.firstCells]⟩⟩
  · injection h with h; injection h with h1 h2; subst h1; subst h2
    obtain ⟨p, _, rfl⟩ := den_se hv
    refine ⟨[], .nil, by simp, fun w' _ => ⟨rfl, fun k hk => ?_⟩⟩
    have : k = 0 := by omega
    subst this
    simp [Builtin.firstCells, loadCells, loadCellsFrom]
  · rename_i m y
    obtain ⟨hc, h⟩ := cond_some h (by simp)
    have hc := beq_true.1 hc
    injection h with h; injection h with h1 h2; subst h1; subst h2; subst hc
    rw [den_str hv]
    have hs : ∀ (m y : Nat), (strCells m y).length = m ∧ DL ρ (strCells m y) ((unpackL m y).map fun b => Value.int .u8 b.toNat) := by
      intro m
      induction m with
      | zero => intro y; exact ⟨rfl, .nil⟩
      | succ m ih =>
        intro y
        obtain ⟨i1, i2⟩ := ih (y / 256)
        simp only [strCells, fN_eq, unpackL, List.map_cons]
        have e1 : Nat.div y 256 = y / 256 := rfl
        have e2 : Nat.mod y 256 = y % 256 := rfl
        rw [e1, e2]
        refine ⟨by simp [i1], .cons ?_ i2⟩
        simp [den]
    refine ⟨_, (hs m y).2, by simp [(hs m y).1], fun w' _ => ⟨by simp [Builtin.lenOf, unpack_size], fun k hk => ?_⟩⟩
    simp only [Builtin.firstCells]
    have : (unpack m y).extract 0 k = unpack k (y % 256 ^ k) := by
      have h := extract_unpack (n := m) (s := y) (l := 0) (h := k) (Nat.zero_le _) hk
      rw [h]; simp
    rw [this]
    have e2 : unpack k (y % 256 ^ k) = unpack k y := by
      unfold unpack
      rw [unpackL_congr k (y % 256 ^ k) y (Nat.mod_mod _ _)]
    rw [e2]
    simp only [Sem.run_pure, unpack, Nat.mul_one]
    congr 1
    apply Array.ext'
    rw [← List.map_take, unpackL_take k m y hk]
    simp
  · rename_i b o' m cap
    split at h
    · rename_i t sz tl ro hB
      split at h
      · rename_i l' hl
        injection h with h; injection h with h1 h2; subst h1; subst h2
        obtain ⟨p, hp, rfl⟩ := den_sl hv
        exact row hB hp hl
      · cases h
    · cases h
  · rename_i b o' m z
    obtain ⟨hc, h⟩ := cond_some h (by simp)
    split at h
    · rename_i t sz tl ro hB
      split at h
      · rename_i l' hl
        injection h with h; injection h with h1 h2; subst h1; subst h2
        obtain ⟨p, hp, rfl⟩ := den_so hv
        exact row hB hp hl
      · cases h
    · cases h
  · cases h
theorem elemsOf_spec {H : Heap} {w : World} (hH : VR ρ H w) {v : AV} {x : Value} {es n : Nat} {l : List AV} (hv : den ρ v = some x) (h : elemsOf H v es = some (n, l)) :
    ∃ xs, DL ρ l xs ∧ l.length = n * es ∧ ∀ w', (∀ k c, w'.cell? ⟨k, c, none⟩ = w.cell? ⟨k, c, none⟩) → (Builtin.lenOf x).run P w' = .ok n w' ∧ (Builtin.firstCells es n x).run P w' = .ok xs.toArray w' := by
  obtain ⟨xs, h1, h2, h3⟩ := elemsOf_any (P := P) hH hv h
  refine ⟨xs, h1, h2, fun w' hw => ⟨(h3 w' hw).1, ?_⟩⟩
  have := (h3 w' hw).2 n (Nat.le_refl _)
  rwa [List.take_of_length_le (by rw [← h1.length, h2]; exact Nat.le_refl _)] at this

/-! ### maps, read -/
theorem ofRes (b c : ByteArray) : (b == c) = (b.toList == c.toList) := beq_toListBytes b c
theorem keyEq_now {d : TypeDesc} {k a' : AV} {x y : Value} {c : Bool} (h : keyEq d k a' = some c) (hx : den ρ k = some x) (hy : den ρ a' = some y) : Instr.sameNow d x y = some c := by
  unfold keyEq at h
  split at h
  · obtain ⟨hk, h⟩ := cond_some h (by simp)
    injection h with h; subst h
    rw [den_int hx, den_int hy, ieq_eq]
    simp at hk
    simp [Instr.sameNow, hk]
  · injection h with h; subst h
    rw [den_str hx, den_str hy, strEq_eq]
    simp [Instr.sameNow, ofRes]
  · cases h
theorem findE_now {d : TypeDesc} {k : AV} {x : Value} (hx : den ρ k = some x) : ∀ (es : List (AV × AV)) (es' : List MapEntry) (i : Nat) (r : Option (Nat × AV)), DL ρ (es.map (·.1)) (es'.map (·.key)) → DL ρ (es.map (·.2)) (es'.map (·.val)) → findE d k es i = some r →
    match r with
    | none => Instr.findNow d x es' i = some none
    | some (j, v) => i ≤ j ∧ ∃ y, den ρ v = some y ∧ Instr.findNow d x es' i = some (some (j, y)) ∧ ∃ e, es'[j - i]? = some e ∧ ∃ k', es[j - i]? = some (k', v) ∧ keyEq d k k' = some true ∧ den ρ k' = some e.key
  | [], es', i, r, h1, _, h => by
    have : es' = [] := by simpa using h1.eq_nil
    subst this
    simp only [findE, Option.some.injEq] at h; subst h; rfl
  | (a', v) :: l, es', i, r, h1, h2, h => by
    obtain ⟨u, r1, e1, e2, e3⟩ := DL.uncons h1
    obtain ⟨u', r2, e4, e5, e6⟩ := DL.uncons h2
    cases es' with
    | nil => simp at e1
    | cons e es' =>
      simp only [List.map_cons, List.cons.injEq] at e1 e4
      obtain ⟨rfl, rfl⟩ := e1
      obtain ⟨rfl, rfl⟩ := e4
      simp only [findE] at h
      split at h
      · rename_i hk
        injection h with h; subst h
        exact ⟨Nat.le_refl _, e.val, e5, by simp [Instr.findNow, keyEq_now hk hx e2], e, by simp, a', by simp, hk, e2⟩
      · rename_i hk
        have ih := findE_now hx l es' (i + 1) r e3 e6 h
        cases r with
        | none => simp only at ih ⊢; rw [Instr.findNow, keyEq_now hk hx e2]; exact ih
        | some q =>
          obtain ⟨j, w⟩ := q
          obtain ⟨i0, y, i1, i2, e', i3, k', i4, i5, i6⟩ := ih
          refine ⟨by omega, y, i1, by rw [Instr.findNow, keyEq_now hk hx e2]; exact i2, e', ?_, k', ?_, i5, i6⟩
          · rw [show j - i = (j - (i + 1)) + 1 by omega]; simpa using i3
          · rw [show j - i = (j - (i + 1)) + 1 by omega]; simpa using i4
      · cases h
/-- a key's type is an integer's or a text's: nothing is asked of the key -/
theorem keyEq_plain {d : TypeDesc} {k : AV} {x : Value} (kt : TypeId) (hu : P.underlying kt = some d) (hd : (∃ k, d = .int k) ∨ d = .string) (b : Bool) (w : World) : (Instr.checkKey b 10000 kt x).run P w = .ok () w := by
  rw [show (10000 : Nat) = 9999 + 1 from rfl, Instr.checkKey]
  rcases hd with ⟨k, rfl⟩ | rfl <;> simp [run_und hu]
end
end Eng
end Go.Proofs.YtbdhainbcfobeaaGreatDoor
