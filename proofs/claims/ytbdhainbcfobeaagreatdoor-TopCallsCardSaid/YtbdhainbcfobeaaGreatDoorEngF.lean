/-
  THE ENGINE, part F: pure operations, more: two operands, one, conversions, literals, texts.
-/
import Derived.Test.YtbdhainbcfobeaaGreatDoorEngE
import Derived.Laws.StructEq
import Derived.Laws.Pointers
namespace Go.Proofs.YtbdhainbcfobeaaGreatDoor
namespace Eng
open Go

/-- a value that a step of the model gives in every world -/
def RunV (P : Program) (ρ : Rho) (s : Sem Value) (v : AV) : Prop := ∃ x, den ρ v = some x ∧ ∀ w, s.run P w = .ok x w
def OKv (P : Program) (ρ : Rho) (s : Sem Value) (H : Heap) (r : OR) : Prop := ∀ v H', r = .val v H' → H' = H ∧ RunV P ρ s v
theorem OKv.bad {P : Program} {ρ : Rho} {s : Sem Value} {H : Heap} : OKv P ρ s H .bad := fun _ _ h => by cases h
theorem OKv.val {P : Program} {ρ : Rho} {s : Sem Value} {H : Heap} {v : AV} (h : RunV P ρ s v) : OKv P ρ s H (.val v H) := fun _ _ e => by injection e with e1 e2; subst e1; exact ⟨e2.symm, h⟩

section
variable {P : Program} {ρ : Rho} {T : Tm} {a : Act}
theorem RunV.bool {s : Sem Value} {c : Bool} (h : ∀ w, s.run P w = .ok (.bool c) w) : RunV P ρ s (.bool c) := ⟨_, rfl, h⟩
theorem RunV.int {s : Sem Value} {k : IntKind} {n : Int} (h : ∀ w, s.run P w = .ok (.int k n) w) : RunV P ρ s (.int k n) := ⟨_, rfl, h⟩

theorem bits_lt {k : IntKind} {m : Nat} (h : inK k (.ofNat m) = true) : m < 2 ^ k.bits := by
  unfold inK at h
  split at h <;> first | (cases h; done) | (simp only [blt_iff, decide_eq_true_iff, pow63, pow64] at h; simp_all [IntKind.bits]; done) | (rename_i hm _; simp_all [blt_iff, pow63, pow64, IntKind.bits]; omega)
theorem inK_of_le {k : IntKind} {m n : Nat} (h : inK k (.ofNat m) = true) (hn : n ≤ m) : inK k (.ofNat n) = true := by
  unfold inK at h ⊢
  cases k <;> simp_all [blt_iff] <;> omega
theorem inK_or {k : IntKind} {m n r : Nat} (hm : inK k (.ofNat m) = true) (hn : inK k (.ofNat n) = true) (hr : ∀ i, m < 2 ^ i → n < 2 ^ i → r < 2 ^ i) : inK k (.ofNat r) = true := by
  unfold inK at hm hn ⊢
  cases k <;> simp_all only [blt_iff, pow63, pow64, decide_eq_true_iff, Bool.false_eq_true]
  · exact hr 31 hm hn
  · exact hr 63 hm hn
  · exact hr 8 hm hn
  · exact hr 32 hm hn
  · exact hr 64 hm hn
theorem back_and {k : IntKind} {m n : Nat} (hm : inK k (.ofNat m) = true) (hn : inK k (.ofNat n) = true) :
    k.wrap ((BitVec.ofInt k.bits (m : Int) &&& BitVec.ofInt k.bits (n : Int)).toNat : Int) = ((m &&& n : Nat) : Int) := by
  have : (BitVec.ofInt k.bits (m : Int) &&& BitVec.ofInt k.bits (n : Int)).toNat = m &&& n := by
    simp [BitVec.toNat_and, Nat.mod_eq_of_lt (bits_lt hm), Nat.mod_eq_of_lt (bits_lt hn)]
  rw [this]
  exact inK_nat (inK_of_le hm Nat.and_le_left)
theorem back_or {k : IntKind} {m n : Nat} (hm : inK k (.ofNat m) = true) (hn : inK k (.ofNat n) = true) :
    k.wrap ((BitVec.ofInt k.bits (m : Int) ||| BitVec.ofInt k.bits (n : Int)).toNat : Int) = ((m ||| n : Nat) : Int) := by
  have : (BitVec.ofInt k.bits (m : Int) ||| BitVec.ofInt k.bits (n : Int)).toNat = m ||| n := by
    simp [BitVec.toNat_or, Nat.mod_eq_of_lt (bits_lt hm), Nat.mod_eq_of_lt (bits_lt hn)]
  rw [this]
  exact inK_nat (inK_or hm hn fun i a b => Nat.or_lt_two_pow a b)
theorem back_xor {k : IntKind} {m n : Nat} (hm : inK k (.ofNat m) = true) (hn : inK k (.ofNat n) = true) :
    k.wrap ((BitVec.ofInt k.bits (m : Int) ^^^ BitVec.ofInt k.bits (n : Int)).toNat : Int) = ((m ^^^ n : Nat) : Int) := by
  have : (BitVec.ofInt k.bits (m : Int) ^^^ BitVec.ofInt k.bits (n : Int)).toNat = m ^^^ n := by
    simp [BitVec.toNat_xor, Nat.mod_eq_of_lt (bits_lt hm), Nat.mod_eq_of_lt (bits_lt hn)]
  rw [this]
  exact inK_nat (inK_or hm hn fun i a b => Nat.xor_lt_two_pow a b)
theorem back_andNot {k : IntKind} {m n : Nat} (hm : inK k (.ofNat m) = true) :
    k.wrap ((BitVec.ofInt k.bits (m : Int) &&& ~~~ BitVec.ofInt k.bits (n : Int)).toNat : Int) = ((m ^^^ (m &&& n) : Nat) : Int) := by
  have e : BitVec.ofInt k.bits (m : Int) &&& ~~~ BitVec.ofInt k.bits (n : Int) = BitVec.ofNat k.bits (m ^^^ (m &&& n)) := by
    rw [BitVec.ofInt_natCast, BitVec.ofInt_natCast]
    ext i hi
    simp
    cases (BitVec.ofNat k.bits m)[i] <;> cases (BitVec.ofNat k.bits n)[i] <;> rfl
  have hlt : m ^^^ (m &&& n) ≤ m := by
    have h1 : (m ^^^ (m &&& n)) &&& m = m ^^^ (m &&& n) := by
      apply Nat.eq_of_testBit_eq
      intro i
      rw [Nat.testBit_and, Nat.testBit_xor, Nat.testBit_and]
      cases m.testBit i <;> cases n.testBit i <;> rfl
    rw [← h1]; exact Nat.and_le_right
  rw [e]
  have : (BitVec.ofNat k.bits (m ^^^ (m &&& n))).toNat = m ^^^ (m &&& n) := by
    rw [BitVec.toNat_ofNat, Nat.mod_eq_of_lt (Nat.lt_of_le_of_lt hlt (bits_lt hm))]
  rw [this]
  exact inK_nat (inK_of_le hm hlt)

theorem tdiv_ok {b : Int} (h : ieq b (.ofNat 0) = false) : ¬ b = 0 := by
  rw [ieq_eq] at h; intro e; subst e; simp at h
theorem intOp_v (op : BinOp) (t : TypeId) (k : IntKind) (x y : Int) (H : Heap) : OKv P ρ (binOp op t (.int k x) (.int k y)) H (intOp op k x y H) := by
  intro v H' h
  cases op <;> simp only [intOp, fI_eq, fB_eq, wrapF_eq, iadd_eq, ineg_eq, ilt_eq, ile_eq, ieq_eq] at h
  case add | sub | mul =>
    refine OKv.val (.int fun w => ?_) v H' h
    simp [binOp, Op.intArith, Int.sub_eq_add_neg]
  case quo | rem =>
    cases hy : (y == Int.ofNat 0) with
    | true => rw [hy] at h; cases h
    | false =>
      rw [hy] at h
      have hy' : ¬ y = 0 := by simpa using hy
      refine OKv.val (.int fun w => ?_) v H' h
      simp [binOp, Op.intDiv, hy']
  case and | or | xor | andNot =>
    split at h
    · rename_i m n
      rw [fN_eq] at h
      simp only [Int.ofNat_eq_natCast] at h
      cases hm : inK k (m : Int) with
      | false => rw [hm] at h; cases h
      | true =>
        cases hn : inK k (n : Int) with
        | false => rw [hm, hn] at h; cases h
        | true =>
          rw [hm, hn] at h
          replace hm : inK k (.ofNat m) = true := hm
          replace hn : inK k (.ofNat n) = true := hn
          simp only [Bool.and_self, cond_true] at h
          refine OKv.val (.int fun w => ?_) v H' h
          have e1 := back_and hm hn
          have e2 := back_or hm hn
          have e3 := back_xor hm hn
          have e4 := back_andNot (n := n) hm
          simp only [binOp, ne_eq, not_true_eq_false, if_false, Op.intBits, Sem.run_pure]
          first | exact congrArg (fun z => Result.ok (Value.int k z) w) e1 | exact congrArg (fun z => Result.ok (Value.int k z) w) e2 | exact congrArg (fun z => Result.ok (Value.int k z) w) e3 | exact congrArg (fun z => Result.ok (Value.int k z) w) e4
    · cases h
  case eql | neq | lss | leq | gtr | geq =>
    refine OKv.val (.bool fun w => ?_) v H' h
    simp [binOp, Op.intCmp, bne]
  case shl | shr => cases h
theorem bitsK_eq (k : IntKind) : bitsK k = k.bits := by cases k <;> rfl
theorem shiftOp_v (op : BinOp) (t : TypeId) (k j : IntKind) (x y : Int) (H : Heap) : OKv P ρ (binOp op t (.int k x) (.int j y)) H (shiftOp op k x y H) := by
  intro v H' h
  unfold shiftOp at h
  split at h
  · rename_i n
    simp only [fI_eq, wrapF_eq, bitsK_eq] at h
    refine OKv.val (.int fun w => ?_) v H' h
    have h0 : ¬ ((n : Int) < 0) := by omega
    have e : x.mul (Int.ofNat (Nat.pow 2 (n.min k.bits))) = x * 2 ^ min n k.bits := by
      show x * (((2 ^ min n k.bits : Nat) : Int)) = _
      simp
    simp [binOp, Op.shift, h0]
    try exact congrArg k.wrap e.symm
  · rename_i m n
    simp only [fN_eq, bitsK_eq] at h
    refine OKv.val (.int fun w => ?_) v H' h
    have h0 : ¬ ((n : Int) < 0) := by omega
    have e : (2 : Int) ^ min n k.bits = ((2 ^ min n k.bits : Nat) : Int) := by simp
    simp [binOp, Op.shift, h0]
    rw [e]
    exact (Int.ofNat_fdiv m (2 ^ min n k.bits)).symm
  · cases h
theorem unpack_append (l m x y : Nat) : unpack l x ++ unpack m y = unpack (l + m) (x % 256 ^ l + y * 256 ^ l) := by
  have e : ∀ (a b : ByteArray), a.data.toList = b.data.toList → a = b := fun a b h => by
    cases a; cases b; congr 1; exact Array.ext' h
  apply e
  simp [unpack, unpackL_append]
theorem strOp_v (op : BinOp) (t : TypeId) (l x m y : Nat) (H : Heap) : OKv P ρ (binOp op t (.string (unpack l x)) (.string (unpack m y))) H (strOp op l x m y H) := by
  intro v H' h
  unfold strOp at h
  split at h
  · cases hb : Nat.blt (Nat.add l m) pow63 with
    | false => rw [hb] at h; cases h
    | true =>
      rw [hb] at h
      simp only [cond_true, fN_eq] at h
      rw [blt_iff, decide_eq_true_iff] at hb
      have hb' : l + m < 9223372036854775808 := hb
      refine OKv.val ⟨_, rfl, fun w => ?_⟩ v H' h
      have hlt : ¬ ((9223372036854775807 : Int) < (l : Int) + (m : Int)) := by omega
      show _ = Result.ok (Value.string (unpack (l + m) (x % 256 ^ l + y * 256 ^ l))) w
      simp [binOp, Op.stringOp, unpack_size, IntKind.max, IntKind.signed, IntKind.bits, hlt, unpack_append]
  · simp only [fB_eq] at h
    refine OKv.val (.bool fun w => ?_) v H' h
    simp [binOp, Op.stringOp, strEq_eq]
  · simp only [fB_eq] at h
    refine OKv.val (.bool fun w => ?_) v H' h
    simp [binOp, Op.stringOp, strEq_eq]
  · cases h
theorem eqOp_v {op : BinOp} {s : Sem Value} {c : Bool} (H : Heap) (h1 : op = .eql → ∀ w, s.run P w = .ok (.bool c) w) (h2 : op = .neq → ∀ w, s.run P w = .ok (.bool (!c)) w) : OKv P ρ s H (eqOp op c H) := by
  intro v H' h
  unfold eqOp at h
  split at h
  · rw [fB_eq] at h; exact OKv.val (.bool (h1 rfl)) v H' h
  · rw [fB_eq] at h; exact OKv.val (.bool (h2 rfl)) v H' h
  · cases h

/-! ### structs and arrays, compared -/
theorem flat1_eq {t : TypeId} {d : TypeDesc} (h : flat1 P t = some d) : P.underlying t = some d ∧ aggOf P t = some false := by
  unfold flat1 at h
  split at h <;> first | (cases h; done) | (rename_i hu; injection h with h; subst h; exact ⟨hu, by simp [aggOf, hu]⟩)
/-- one cell against another one -/
def eq1 (d : TypeDesc) (a b : AV) : Option Bool := match d, a, b with
  | .bool, .bool a, .bool b => some (a == b)
  | .int k, .int j a, .int i b => bif decide (k = j) && decide (j = i) then some (ieq a b) else none
  | .string, .str n x, .str p y => some (strEq n x p y)
  | _, _, _ => none
theorem cond_some {β : Type} {c : Bool} {x y : β} {z : β} (h : (bif c then x else y) = z) (hy : y ≠ z) : c = true ∧ x = z := by
  cases c with
  | true => exact ⟨rfl, h⟩
  | false => exact absurd h hy
theorem flatEq_cons {d : TypeDesc} {ds : List TypeDesc} {a b : AV} {l m : List AV} {c : Bool} (h : flatEq (d :: ds) (a :: l) (b :: m) = some c) :
    ∃ c1 c2, eq1 d a b = some c1 ∧ flatEq ds l m = some c2 ∧ c = (c1 && c2) := by
  unfold flatEq at h
  split at h
  · simp_all
  · rename_i e1 e2 e3
    simp only [List.cons.injEq] at e1 e2 e3
    obtain ⟨rfl, rfl⟩ := e1; obtain ⟨rfl, rfl⟩ := e2; obtain ⟨rfl, rfl⟩ := e3
    split at h
    · rename_i c' hc; injection h with h; exact ⟨_, c', rfl, hc, h.symm⟩
    · cases h
  · rename_i e1 e2 e3
    simp only [List.cons.injEq] at e1 e2 e3
    obtain ⟨rfl, rfl⟩ := e1; obtain ⟨rfl, rfl⟩ := e2; obtain ⟨rfl, rfl⟩ := e3
    obtain ⟨hk, h⟩ := cond_some h (by simp)
    split at h
    · rename_i c' hc; injection h with h; exact ⟨_, c', by simp only [eq1, hk, cond_true], hc, h.symm⟩
    · cases h
  · rename_i e1 e2 e3
    simp only [List.cons.injEq] at e1 e2 e3
    obtain ⟨rfl, rfl⟩ := e1; obtain ⟨rfl, rfl⟩ := e2; obtain ⟨rfl, rfl⟩ := e3
    split at h
    · rename_i c' hc; injection h with h; exact ⟨_, c', rfl, hc, h.symm⟩
    · cases h
  · cases h
theorem eq1_run {t : TypeId} {d : TypeDesc} {a b : AV} {x y : Value} {c : Bool} (hd : flat1 P t = some d) (h : eq1 d a b = some c) (hx : den ρ a = some x) (hy : den ρ b = some y) (n : Nat) (w : World) :
    (Op.equalIn (n + 1) t x y).run P w = .ok c w := by
  obtain ⟨hu, _⟩ := flat1_eq hd
  unfold eq1 at h
  split at h
  · injection h with h; subst h; rw [den_bool hx, den_bool hy]; exact run_equalIn_bool' w n t _ _ hu
  · rename_i k j a' i b'
    cases hk : (decide (k = j) && decide (j = i)) with
    | false => rw [hk] at h; cases h
    | true =>
      rw [hk, cond_true] at h
      injection h with h; subst h
      simp only [Bool.and_eq_true, decide_eq_true_iff] at hk
      obtain ⟨rfl, rfl⟩ := hk
      rw [den_int hx, den_int hy, ieq_eq]
      exact run_equalIn_int w n t _ _ _ _ hu
  · injection h with h; subst h; rw [den_str hx, den_str hy, strEq_eq]; exact run_equalIn_string w n t _ _ hu
  · cases h
theorem flatEq_nil {ds : List TypeDesc} {l m : List AV} {c : Bool} (h : flatEq ds l m = some c) : ds.length = l.length ∧ ds.length = m.length := by
  induction ds generalizing l m c with
  | nil =>
    unfold flatEq at h
    split at h <;> first | (cases h; done) | simp_all
  | cons d ds ih =>
    cases l with
    | nil => unfold flatEq at h; split at h <;> simp_all
    | cons a l =>
      cases m with
      | nil => unfold flatEq at h; split at h <;> simp_all
      | cons b m =>
        obtain ⟨c1, c2, _, h2, _⟩ := flatEq_cons h
        have := ih h2
        simp only [List.length_cons]; omega
theorem eqFields_run : ∀ (fs : List Field) (i : Nat) (ds : List TypeDesc) (l m : List AV) (xs ys : List Value) (c : Bool), flatFs P i fs = some ds → flatEq ds (l.drop i) (m.drop i) = some c →
    DL ρ l xs → DL ρ m ys → ∀ (n : Nat) (w : World), (Op.eqFields (n + 1) xs.toArray ys.toArray fs).run P w = .ok c w
  | [], i, ds, l, m, xs, ys, c, h, he, _, _, n, w => by
    simp only [flatFs, Option.some.injEq] at h
    subst h
    unfold flatEq at he
    split at he <;> first | (cases he; done) | (injection he with he; subst he; simp [Op.eqFields]; done) | simp_all
  | f :: fs, i, ds, l, m, xs, ys, c, h, he, hl, hm, n, w => by
    simp only [flatFs] at h
    cases hn : (f.name != "_" && Nat.beq f.offset i) with
    | false => rw [hn] at h; cases h
    | true =>
      rw [hn, cond_true] at h
      simp only [Bool.and_eq_true, bne_iff_ne, beq_true] at hn
      obtain ⟨hn1, hn2⟩ := hn
      split at h
      · rename_i d r hd hr
        injection h with h; subst h
        obtain ⟨hlen1, hlen2⟩ := flatEq_nil he
        simp only [List.length_cons, List.length_drop] at hlen1 hlen2
        have el : l.drop i = l[i]'(by omega) :: l.drop (i + 1) := List.drop_eq_getElem_cons (by omega)
        have em : m.drop i = m[i]'(by omega) :: m.drop (i + 1) := List.drop_eq_getElem_cons (by omega)
        rw [el, em] at he
        obtain ⟨c1, c2, h1, h2, rfl⟩ := flatEq_cons he
        obtain ⟨x, hx1, hx2⟩ := hl.get (i := i) (v := l[i]'(by omega)) (by simp)
        obtain ⟨y, hy1, hy2⟩ := hm.get (i := i) (v := m[i]'(by omega)) (by simp)
        have hag := (flat1_eq hd).2
        have px : ∀ w, (part f.type xs.toArray f.offset).run P w = .ok x w := fun w => by simp [part, aggOf_run hag, hn2, hx1]
        have py : ∀ w, (part f.type ys.toArray f.offset).run P w = .ok y w := fun w => by simp [part, aggOf_run hag, hn2, hy1]
        have ih := eqFields_run fs (i + 1) r l m xs ys c2 hr h2 hl hm n w
        rw [Op.eqFields]
        simp only [if_pos hn1, Sem.run_bind, px, py, eq1_run hd h1 hx2 hy2, Result.andThen_ok]
        cases c1 <;> simp [ih]
      · cases h
theorem eqArray_run {e : TypeId} {d : TypeDesc} (hd : flat1 P e = some d) (hz : szOf P e = some 1) : ∀ (k i : Nat) (l m : List AV) (xs ys : List Value) (c : Bool), flatEq (List.replicate k d) (l.drop i) (m.drop i) = some c →
    DL ρ l xs → DL ρ m ys → ∀ (n : Nat) (w : World), (forIn (m := Sem) (List.range' i k) ((none : Option Bool), PUnit.unit) fun j r => do
      let b ← Op.equalIn (n + 1) e (← part e xs.toArray (j * 1)) (← part e ys.toArray (j * 1))
      if (!b) = true then pure (ForInStep.done (some false, PUnit.unit)) else pure (ForInStep.yield (none, PUnit.unit))).run P w = .ok (if c then none else some false, PUnit.unit) w
  | 0, i, l, m, xs, ys, c, he, _, _, n, w => by
    simp only [List.replicate_zero] at he
    unfold flatEq at he
    split at he <;> first | (cases he; done) | (injection he with he; subst he; simp; done) | simp_all
  | k + 1, i, l, m, xs, ys, c, he, hl, hm, n, w => by
    obtain ⟨hlen1, hlen2⟩ := flatEq_nil he
    simp only [List.length_replicate, List.length_drop] at hlen1 hlen2
    have el : l.drop i = l[i]'(by omega) :: l.drop (i + 1) := List.drop_eq_getElem_cons (by omega)
    have em : m.drop i = m[i]'(by omega) :: m.drop (i + 1) := List.drop_eq_getElem_cons (by omega)
    rw [el, em, List.replicate_succ] at he
    obtain ⟨c1, c2, h1, h2, rfl⟩ := flatEq_cons he
    obtain ⟨x, hx1, hx2⟩ := hl.get (i := i) (v := l[i]'(by omega)) (by simp)
    obtain ⟨y, hy1, hy2⟩ := hm.get (i := i) (v := m[i]'(by omega)) (by simp)
    have hag := (flat1_eq hd).2
    have px : ∀ w, (part e xs.toArray i).run P w = .ok x w := fun w => by simp [part, aggOf_run hag, hx1]
    have py : ∀ w, (part e ys.toArray i).run P w = .ok y w := fun w => by simp [part, aggOf_run hag, hy1]
    have ih := eqArray_run hd hz k (i + 1) l m xs ys c2 h2 hl hm n w
    rw [List.range'_succ, List.forIn_cons]
    simp only [Sem.run_bind, Nat.mul_one, px, py, eq1_run hd h1 hx2 hy2, Result.andThen_ok]
    cases c1
    · simp
    · simpa using ih

theorem repl_agg_run {t e : TypeId} {n : Nat} {d : TypeDesc} (hu : P.underlying t = some (.array n e)) (hd : flat1 P e = some d) (hz : szOf P e = some 1) {l m : List AV} {xs ys : List Value} {c : Bool}
    (he : flatEq (List.replicate n d) l m = some c) (hl : DL ρ l xs) (hm : DL ρ m ys) (w : World) : (Op.equalIn 10000 t (.agg xs.toArray) (.agg ys.toArray)).run P w = .ok c w := by
  have h := eqArray_run (P := P) hd hz n 0 l m xs ys c (by simpa using he) hl hm 9998 w
  rw [show (10000 : Nat) = 9998 + 1 + 1 from rfl, Op.equalIn]
  simp only [Sem.run_bind, run_und hu, Result.andThen_ok, szOf_run hz]
  rw [Std.Legacy.Range.forIn_eq_forIn_range']
  simp only [Std.Legacy.Range.size, Nat.sub_zero, Nat.add_sub_cancel, Nat.div_one] at *
  rw [h]
  cases c <;> simp
theorem flatF_run {t : TypeId} {ds : List TypeDesc} (hf : flatF P t = some ds) {l m : List AV} {xs ys : List Value} {c : Bool} (he : flatEq ds l m = some c) (hl : DL ρ l xs) (hm : DL ρ m ys) (w : World) :
    (Op.equalIn 10000 t (.agg xs.toArray) (.agg ys.toArray)).run P w = .ok c w := by
  unfold flatF at hf
  split at hf
  · rename_i fs hu
    obtain ⟨hk, hf⟩ : P.stoodInHeld t = false ∧ flatFs P 0 fs.toList = some ds := by
      cases hs : P.stoodInHeld t with
      | true => rw [hs] at hf; cases hf
      | false => rw [hs] at hf; exact ⟨rfl, hf⟩
    have hfs : P.fieldsOf t = fs := by simp [Program.fieldsOf, hu]
    rw [show (10000 : Nat) = 9999 + 1 from rfl, run_equalIn_struct w 9999 t _ _ (by rw [hfs]; exact hu) hk, hfs]
    exact eqFields_run fs.toList 0 ds l m xs ys c hf (by simpa using he) hl hm 9998 w
  · rename_i n e hu
    split at hf
    · rename_i d hd hz
      injection hf with hf; subst hf
      exact repl_agg_run hu hd hz he hl hm w
    · cases hf
  · cases hf

theorem gives_bin {o : Oper} {op : BinOp} {t yt : TypeId} {x y : Operand} {v : AV} (ho : o.op = .binOp op t x y yt) (hg : ∀ w, (eqGuard op t x y (a.eval x) (a.eval y)).run P w = .ok () w)
    (h : RunV P ρ (binOp op t (a.eval x) (a.eval y)) v) : Gives P o a ρ v := by
  obtain ⟨z, h1, h2⟩ := h
  exact ⟨z, h1, fun w => by simp [execOp, ho, hg, h2]⟩
theorem okp_bin {o : Oper} {op : BinOp} {t yt : TypeId} {x y : Operand} {H : Heap} {r : OR} (ho : o.op = .binOp op t x y yt) (hg : ∀ w, (eqGuard op t x y (a.eval x) (a.eval y)).run P w = .ok () w)
    (h : OKv P ρ (binOp op t (a.eval x) (a.eval y)) H r) : OKp P o a ρ H r := fun v H' e => ⟨(h v H' e).1, gives_bin ho hg (h v H' e).2⟩
theorem guard_off {op : BinOp} {t : TypeId} {x y : Operand} {u v : Value} (h : ∀ a b, ¬ (u = .agg a ∧ v = .agg b)) (h' : ¬ (u = .nilIface ∧ v = .nilIface)) (w : World) : (eqGuard op t x y u v).run P w = .ok () w := by
  unfold eqGuard
  cases op <;> simp <;> (split <;> first | (simp; done) | (exact absurd ⟨rfl, rfl⟩ h') | (exact absurd ⟨rfl, rfl⟩ (h _ _)))
theorem eqv {op : BinOp} {t : TypeId} {x y : Value} {c : Bool} (H : Heap) (h1 : binOp .eql t x y = (do pure (.bool (← Op.equal t x y)))) (h2 : binOp .neq t x y = (do pure (.bool (!(← Op.equal t x y)))))
    (hc : ∀ w, (Op.equal t x y).run P w = .ok c w) : OKv P ρ (binOp op t x y) H (eqOp op c H) :=
  eqOp_v H (fun e w => by subst e; rw [h1]; simp [hc]) (fun e w => by subst e; rw [h2]; simp [hc])
theorem equal_succ (t : TypeId) (x y : Value) : Op.equal t x y = Op.equalIn (9999 + 1) t x y := rfl
theorem eq_bb {t : TypeId} (hu : P.underlying t = some .bool) (b c : Bool) (w : World) : (Op.equal t (.bool b) (.bool c)).run P w = .ok (b == c) w := run_equal_bool w t b c hu
theorem eq_p1 {t e : TypeId} (hu : P.underlying t = some (.pointer e)) (b : Option Addr) (w : World) : (Op.equal t (.pointer none) (.pointer b)).run P w = .ok b.isNone w := by
  rw [equal_succ]; unfold Op.equalIn; simp only [Sem.run_bind, run_und hu, Result.andThen_ok]; rfl
theorem eq_p2 {t e : TypeId} (hu : P.underlying t = some (.pointer e)) (b : Addr) (w : World) : (Op.equal t (.pointer (some b)) (.pointer none)).run P w = .ok false w := by
  rw [equal_succ]; unfold Op.equalIn; simp only [Sem.run_bind, run_und hu, Result.andThen_ok]; rfl
theorem eq_i0 {t : TypeId} {ms : Array (String × TypeId)} (hu : P.underlying t = some (.interface ms)) (w : World) : (Op.equal t .nilIface .nilIface).run P w = .ok true w := by
  rw [equal_succ]; unfold Op.equalIn; simp only [Sem.run_bind, run_und hu, Result.andThen_ok]; rfl
theorem eq_i1 {t : TypeId} {ms : Array (String × TypeId)} (hu : P.underlying t = some (.interface ms)) (u : TypeId) (v : Value) (w : World) : (Op.equal t .nilIface (.iface u v)).run P w = .ok false w := by
  rw [equal_succ]; unfold Op.equalIn; simp only [Sem.run_bind, run_und hu, Result.andThen_ok]; rfl
theorem eq_i2 {t : TypeId} {ms : Array (String × TypeId)} (hu : P.underlying t = some (.interface ms)) (u : TypeId) (v : Value) (w : World) : (Op.equal t (.iface u v) .nilIface).run P w = .ok false w := by
  rw [equal_succ]; unfold Op.equalIn; simp only [Sem.run_bind, run_und hu, Result.andThen_ok]; rfl
theorem eq_s {t e : TypeId} (hu : P.underlying t = some (.slice e)) (b : Option Addr) (n c : Nat) (w : World) : (Op.equal t (.slice b n c) (.slice none 0 0)).run P w = .ok b.isNone w := by
  rw [equal_succ]; unfold Op.equalIn; simp only [Sem.run_bind, run_und hu, Result.andThen_ok]; cases b <;> rfl

theorem gp {x : Operand} {v : AV} {u : Value} (hT : TR ρ T a.tmps) (hG : GOK P ρ) (hx : gl P x = true) (h : ev x T = some v) (hd : den ρ v = some u) : a.eval x = u := by
  have := ev_den hT hG hx h; rw [hd] at this; injection this with this; exact this.symm
theorem oBin_p (o : Oper) (op : BinOp) (t yt : TypeId) (x y : Operand) (ho : o.op = .binOp op t x y yt) (hT : TR ρ T a.tmps) (hG : GOK P ρ) (hx : gl P x = true) (hy : gl P y = true) (H : Heap) :
    OKp P o a ρ H (oBin P op t x y T H) := by
  have go : ∀ {u v : Value} {r : OR}, a.eval x = u → a.eval y = v → (∀ a b, ¬ (u = .agg a ∧ v = .agg b)) → ¬ (u = .nilIface ∧ v = .nilIface) → OKv P ρ (binOp op t u v) H r → OKp P o a ρ H r :=
    fun e1 e2 n1 n2 h => okp_bin ho (fun w => by rw [e1, e2]; exact guard_off n1 n2 w) (by rw [e1, e2]; exact h)
  intro v H' h
  unfold oBin at h
  split at h
  · rename_i k i j b ex ey
    have e1 := den_int (ev_den hT hG hx ex)
    have e2 := den_int (ev_den hT hG hy ey)
    split at h
    · exact go e1 e2 (by simp) (by simp) (shiftOp_v _ _ _ _ _ _ _) v H' h
    · exact go e1 e2 (by simp) (by simp) (shiftOp_v _ _ _ _ _ _ _) v H' h
    · obtain ⟨hk, h2⟩ := cond_some h (by simp)
      have hk := of_decide_eq_true hk
      subst hk
      exact go e1 e2 (by simp) (by simp) (intOp_v _ _ _ _ _ _) v H' h2
  · rename_i l i m j ex ey
    exact go (den_str (ev_den hT hG hx ex)) (den_str (ev_den hT hG hy ey)) (by simp) (by simp) (strOp_v _ _ _ _ _ _ _) v H' h
  · rename_i b c ex ey
    split at h
    · rename_i hu; exact go (den_bool (ev_den hT hG hx ex)) (den_bool (ev_den hT hG hy ey)) (by simp) (by simp) (eqv H rfl rfl (eq_bb hu b c)) v H' h
    · cases h
  · rename_i ex ey
    split at h
    · rename_i hu; exact go (gp hT hG hx ex rfl) (gp hT hG hy ey rfl) (by simp) (by simp) (eqv H rfl rfl (eq_p1 hu none)) v H' h
    · cases h
  · rename_i ex ey
    obtain ⟨p, _, e1⟩ := den_ptr (ev_den hT hG hx ex)
    split at h
    · rename_i hu; exact go e1 (gp hT hG hy ey rfl) (by simp) (by simp) (eqv H rfl rfl (eq_p2 hu _)) v H' h
    · cases h
  · rename_i ex ey
    obtain ⟨p, _, e2⟩ := den_ptr (ev_den hT hG hy ey)
    split at h
    · rename_i hu; exact go (gp hT hG hx ex rfl) e2 (by simp) (by simp) (eqv H rfl rfl (eq_p1 hu (some _))) v H' h
    · cases h
  · rename_i ex ey
    obtain ⟨p, _, e2⟩ := den_ifc (ev_den hT hG hy ey)
    split at h
    · rename_i hu; exact go (gp hT hG hx ex rfl) e2 (by simp) (by simp) (eqv H rfl rfl (eq_i1 hu _ _)) v H' h
    · cases h
  · rename_i ex ey
    obtain ⟨p, _, e1⟩ := den_ifc (ev_den hT hG hx ex)
    split at h
    · rename_i hu; exact go e1 (gp hT hG hy ey rfl) (by simp) (by simp) (eqv H rfl rfl (eq_i2 hu _ _)) v H' h
    · cases h
  · rename_i ex ey
    have e1 : a.eval x = .nilIface := gp hT hG hx ex rfl
    have e2 : a.eval y = .nilIface := gp hT hG hy ey rfl
    split at h
    · rename_i hu
      split at h
      · exact okp_bin ho (fun w => by rw [e1, e2]; cases op <;> simp [eqGuard]) (by rw [e1, e2]; exact eqv H rfl rfl (eq_i0 hu)) v H' h
      · cases h
    · cases h
  · rename_i ex ey
    split at h
    · rename_i hu; exact go (gp hT hG hx ex rfl) (gp hT hG hy ey rfl) (by simp) (by simp) (eqv H rfl rfl (eq_s hu none 0 0)) v H' h
    · cases h
  · rename_i ex ey
    obtain ⟨p, _, e1⟩ := den_sl (ev_den hT hG hx ex)
    split at h
    · rename_i hu; exact go e1 (gp hT hG hy ey rfl) (by simp) (by simp) (eqv H rfl rfl (eq_s hu (some _) _ _)) v H' h
    · cases h
  · rename_i ex ey
    obtain ⟨p, _, e1⟩ := den_so (ev_den hT hG hx ex)
    split at h
    · rename_i hu; exact go e1 (gp hT hG hy ey rfl) (by simp) (by simp) (eqv H rfl rfl (eq_s hu (some _) _ _)) v H' h
    · cases h
  · rename_i l m ex ey
    obtain ⟨l', hl, e1⟩ := den_agg (ev_den hT hG hx ex)
    obtain ⟨m', hm, e2⟩ := den_agg (ev_den hT hG hy ey)
    split at h
    · rename_i ds hf
      cases hq : P.eqGuardType P.depth t with
      | true => rw [hq] at h; cases h
      | false =>
        rw [hq, cond_false] at h
        split at h
        · rename_i c hc
          have hr := fun w => flatF_run hf hc hl hm w
          refine okp_bin ho (fun w => by rw [e1, e2]; exact run_eqGuard_agg w op t x y _ _ hq) (by
            rw [e1, e2]
            exact eqOp_v H (fun e w => by subst e; rw [run_eql_struct, hr]; rfl) (fun e w => by subst e; rw [run_neq_struct, hr]; rfl)) v H' h
        · cases h
    · cases h
  · cases h
end
end Eng
end Go.Proofs.YtbdhainbcfobeaaGreatDoor
