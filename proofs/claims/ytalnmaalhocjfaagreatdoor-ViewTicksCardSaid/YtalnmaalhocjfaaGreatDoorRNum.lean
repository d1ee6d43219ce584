/-
  The document's numbers: digits, sums of them, what is below 0 (parallaxref01), walked. No conditions but the numbers' range.
-/
import Derived.Test.YtalnmaalhocjfaaGreatDoorTxt
import Derived.Test.YtalnmaalhocjfaaGreatDoorCore8
namespace Go.Proofs.YtalnmaalhocjfaaGreatDoor
open Go Go.Proofs.YtalnmaalhocjfaaGreatDoor.Eng
/-! facts about types -/
theorem un_238 : Tryz.prog.underlying 238 = some (.int .u64) := by kernel_rfl
instance iun_238 : UnF Tryz.prog 238 (.int .u64) := ⟨un_238⟩
theorem el_51 : elemI Tryz.prog 51 = some ⟨3, 1, .int .i64 0⟩ := by kernel_rfl
instance iel_51 : ElF Tryz.prog 51 ⟨3, 1, .int .i64 0⟩ := ⟨el_51⟩
theorem un_51 : Tryz.prog.underlying 51 = some (.slice 3) := by kernel_rfl
instance iun_51 : UnF Tryz.prog 51 (.slice 3) := ⟨un_51⟩
theorem sz_3 : szOf Tryz.prog 3 = some 1 := by kernel_rfl
instance isz_3 : SzF Tryz.prog 3 1 := ⟨sz_3⟩
theorem pl_3 : plcOf Tryz.prog 3 0 = some ⟨0, false, 1⟩ := by kernel_rfl
instance ipl_3 : PlF Tryz.prog 3 ⟨0, false, 1⟩ := ⟨pl_3⟩
/-! f240: parallax/parallaxref01.Bits, parameters #[2] -/
def v240l0h0 : CV := .seq (.reg [.op (some 5) (.move (.tmp 4)),
    .op (some 6) (.binOp .lss 3 (.tmp 5) (.const (.int .i64 64)) 3)])
  (.cond (.tmp 6) (.skip) (.exit 0))
def v240l0t1 : CV := .seq (.block 1 (.reg [.op (some 9) (.move (.tmp 3)),
    .op (some 10) (.move (.tmp 0)),
    .op (some 11) (.convert 2 182 (.tmp 10)),
    .op (some 12) (.move (.tmp 4)),
    .op (some 13) (.convert 3 238 (.tmp 12)),
    .op (some 14) (.binOp .shr 182 (.tmp 11) (.tmp 13) 238),
    .op (some 15) (.binOp .rem 182 (.tmp 14) (.const (.int .u64 2)) 182),
    .op (some 16) (.convert 182 3 (.tmp 15)),
    .op (some 17) (.buildSlice 51 1 #[(0, (.tmp 16))]),
    .op (some 18) (.call ⟨.builtin .append, #[(.tmp 9), (.tmp 17)], #[51, 51]⟩),
    .op (some 3) (.assign (.tmp 18))]))
  (.reg [.op (some 7) (.move (.tmp 4)),
    .op (some 8) (.binOp .add 3 (.tmp 7) (.const (.int .i64 1)) 3),
    .op (some 4) (.assign (.tmp 8))])
def v240l0 : CV := .seq v240l0h0 v240l0t1
def v240h2 : CV := .seq (.reg [.op (some 4) (.assign (.const (.int .i64 0)))])
  (.block 0 (.loop v240l0))
def v240t3 : CV := .seq (.reg [.op (some 19) (.move (.tmp 3)),
    .op (some 2) (.assign (.tmp 19))])
  (.ret)
def v240t2 : CV := .seq v240h2 v240t3
def v240t1 : CV := .seq (.reg [.op (some 3) (.assign (.const (.slice none 0 0)))]) v240t2
def v240 : CV := .seq (.reg [.op (some 2) (.assign (.const (.slice none 0 0)))]) v240t1
noncomputable def b240 : Code := Tryz.f240.body.getD .skip
theorem b240_eq : Tryz.f240.body = some b240 := by kernel_rfl
theorem v240_eq : viewC Tryz.prog b240 = some v240 := by kernel_rfl
theorem r240_eq : Tryz.f240.results.toList = [.tmp 2] := by kernel_rfl
/-! f238: parallax/parallaxref01.number, parameters #[51] -/
def v238l0h0 : CV := .seq (.reg [.op (some 5) (.move (.tmp 4)),
    .op (some 6) (.binOp .geq 3 (.tmp 5) (.const (.int .i64 0)) 3)])
  (.cond (.tmp 6) (.skip) (.exit 0))
def v238l0t1 : CV := .seq (.block 1 (.reg [.op (some 9) (.move (.tmp 3)),
    .op (some 10) (.binOp .mul 182 (.tmp 9) (.const (.int .u64 2)) 182),
    .op (some 11) (.move (.tmp 0)),
    .op (some 12) (.move (.tmp 4)),
    .op (some 13) (.indexAddr 51 (.tmp 11) (.tmp 12)),
    .op (some 14) (.load 3 (.tmp 13)),
    .op (some 15) (.convert 3 182 (.tmp 14)),
    .op (some 16) (.binOp .add 182 (.tmp 10) (.tmp 15) 182),
    .op (some 3) (.assign (.tmp 16))]))
  (.reg [.op (some 7) (.move (.tmp 4)),
    .op (some 8) (.binOp .sub 3 (.tmp 7) (.const (.int .i64 1)) 3),
    .op (some 4) (.assign (.tmp 8))])
def v238l0 : CV := .seq v238l0h0 v238l0t1
def v238h2 : CV := .seq (.reg [.op (some 4) (.assign (.const (.int .i64 63)))])
  (.block 0 (.loop v238l0))
def v238t3 : CV := .seq (.reg [.op (some 17) (.move (.tmp 3)),
    .op (some 18) (.convert 182 2 (.tmp 17)),
    .op (some 2) (.assign (.tmp 18))])
  (.ret)
def v238t2 : CV := .seq v238h2 v238t3
def v238t1 : CV := .seq (.reg [.op (some 3) (.assign (.const (.int .u64 0)))]) v238t2
def v238 : CV := .seq (.reg [.op (some 2) (.assign (.const (.int .i64 0)))]) v238t1
noncomputable def b238 : Code := Tryz.f238.body.getD .skip
theorem b238_eq : Tryz.f238.body = some b238 := by kernel_rfl
theorem v238_eq : viewC Tryz.prog b238 = some v238 := by kernel_rfl
theorem r238_eq : Tryz.f238.results.toList = [.tmp 2] := by kernel_rfl
/-! f239: parallax/parallaxref01.plus, parameters #[51, 51, 3] -/
def v239l0h0 : CV := .seq (.reg [.op (some 10) (.move (.tmp 8)),
    .op (some 11) (.binOp .lss 3 (.tmp 10) (.const (.int .i64 64)) 3)])
  (.cond (.tmp 11) (.skip) (.exit 0))
def v239k0t1 : CV := .seq (.reg [.op (some 25) (.move (.tmp 7)),
    .op (some 26) (.move (.tmp 9)),
    .op (some 27) (.binOp .rem 3 (.tmp 26) (.const (.int .i64 2)) 3),
    .op (some 28) (.buildSlice 51 1 #[(0, (.tmp 27))]),
    .op (some 29) (.call ⟨.builtin .append, #[(.tmp 25), (.tmp 28)], #[51, 51]⟩),
    .op (some 7) (.assign (.tmp 29))])
  (.reg [.op (some 30) (.move (.tmp 9)),
    .op (some 31) (.binOp .quo 3 (.tmp 30) (.const (.int .i64 2)) 3),
    .op (some 2) (.assign (.tmp 31))])
def v239k0 : CV := .seq (.reg [.op (some 14) (.move (.tmp 0)),
    .op (some 15) (.move (.tmp 8)),
    .op (some 16) (.indexAddr 51 (.tmp 14) (.tmp 15)),
    .op (some 17) (.load 3 (.tmp 16)),
    .op (some 18) (.move (.tmp 1)),
    .op (some 19) (.move (.tmp 8)),
    .op (some 20) (.indexAddr 51 (.tmp 18) (.tmp 19)),
    .op (some 21) (.load 3 (.tmp 20)),
    .op (some 22) (.binOp .add 3 (.tmp 17) (.tmp 21) 3),
    .op (some 23) (.move (.tmp 2)),
    .op (some 24) (.binOp .add 3 (.tmp 22) (.tmp 23) 3),
    .op (some 9) (.assign (.tmp 24))]) v239k0t1
def v239l0t1 : CV := .seq (.block 1 v239k0)
  (.reg [.op (some 12) (.move (.tmp 8)),
    .op (some 13) (.binOp .add 3 (.tmp 12) (.const (.int .i64 1)) 3),
    .op (some 8) (.assign (.tmp 13))])
def v239l0 : CV := .seq v239l0h0 v239l0t1
def v239h2 : CV := .seq (.reg [.op (some 8) (.assign (.const (.int .i64 0)))])
  (.block 0 (.loop v239l0))
def v239t3 : CV := .seq (.reg [.op (some 32) (.move (.tmp 7)),
    .op (some 6) (.assign (.tmp 32))])
  (.ret)
def v239t2 : CV := .seq v239h2 v239t3
def v239t1 : CV := .seq (.reg [.op (some 7) (.assign (.const (.slice none 0 0)))]) v239t2
def v239 : CV := .seq (.reg [.op (some 6) (.assign (.const (.slice none 0 0)))]) v239t1
noncomputable def b239 : Code := Tryz.f239.body.getD .skip
theorem b239_eq : Tryz.f239.body = some b239 := by kernel_rfl
theorem v239_eq : viewC Tryz.prog b239 = some v239 := by kernel_rfl
theorem r239_eq : Tryz.f239.results.toList = [.tmp 6] := by kernel_rfl
/-! f241: parallax/parallaxref01.other, parameters #[51] -/
def v241l0h0 : CV := .seq (.reg [.op (some 5) (.move (.tmp 4)),
    .op (some 6) (.move (.tmp 0)),
    .op (some 7) (.call ⟨.builtin .len, #[(.tmp 6)], #[51]⟩),
    .op (some 8) (.binOp .lss 3 (.tmp 5) (.tmp 7) 3)])
  (.cond (.tmp 8) (.skip) (.exit 0))
def v241l0t1 : CV := .seq (.block 1 (.reg [.op (some 11) (.move (.tmp 3)),
    .op (some 12) (.move (.tmp 0)),
    .op (some 13) (.move (.tmp 4)),
    .op (some 14) (.indexAddr 51 (.tmp 12) (.tmp 13)),
    .op (some 15) (.load 3 (.tmp 14)),
    .op (some 16) (.binOp .sub 3 (.const (.int .i64 1)) (.tmp 15) 3),
    .op (some 17) (.buildSlice 51 1 #[(0, (.tmp 16))]),
    .op (some 18) (.call ⟨.builtin .append, #[(.tmp 11), (.tmp 17)], #[51, 51]⟩),
    .op (some 3) (.assign (.tmp 18))]))
  (.reg [.op (some 9) (.move (.tmp 4)),
    .op (some 10) (.binOp .add 3 (.tmp 9) (.const (.int .i64 1)) 3),
    .op (some 4) (.assign (.tmp 10))])
def v241l0 : CV := .seq v241l0h0 v241l0t1
def v241h2 : CV := .seq (.reg [.op (some 4) (.assign (.const (.int .i64 0)))])
  (.block 0 (.loop v241l0))
def v241t3 : CV := .seq (.reg [.op (some 19) (.move (.tmp 3)),
    .op (some 2) (.assign (.tmp 19))])
  (.ret)
def v241t2 : CV := .seq v241h2 v241t3
def v241t1 : CV := .seq (.reg [.op (some 3) (.assign (.const (.slice none 0 0)))]) v241t2
def v241 : CV := .seq (.reg [.op (some 2) (.assign (.const (.slice none 0 0)))]) v241t1
noncomputable def b241 : Code := Tryz.f241.body.getD .skip
theorem b241_eq : Tryz.f241.body = some b241 := by kernel_rfl
theorem v241_eq : viewC Tryz.prog b241 = some v241 := by kernel_rfl
theorem r241_eq : Tryz.f241.results.toList = [.tmp 2] := by kernel_rfl
/-! f187: parallax/parallaxref01.Sub, parameters #[2, 2] -/
def v187t1 : CV := .seq (.reg [.op (some 5) (.move (.tmp 0)),
    .op (some 6) (.call ⟨.value (.func 240), #[(.tmp 5)], #[2]⟩),
    .op (some 7) (.move (.tmp 1)),
    .op (some 8) (.call ⟨.value (.func 240), #[(.tmp 7)], #[2]⟩),
    .op (some 9) (.call ⟨.value (.func 241), #[(.tmp 8)], #[51]⟩),
    .op (some 10) (.call ⟨.value (.func 239), #[(.tmp 6), (.tmp 9), (.const (.int .i64 1))], #[51, 51, 3]⟩),
    .op (some 11) (.call ⟨.value (.func 238), #[(.tmp 10)], #[51]⟩),
    .op (some 4) (.assign (.tmp 11))])
  (.ret)
def v187 : CV := .seq (.reg [.op (some 4) (.assign (.const (.int .i64 0)))]) v187t1
noncomputable def b187 : Code := Tryz.f187.body.getD .skip
theorem b187_eq : Tryz.f187.body = some b187 := by kernel_rfl
theorem v187_eq : viewC Tryz.prog b187 = some v187 := by kernel_rfl
theorem r187_eq : Tryz.f187.results.toList = [.tmp 4] := by kernel_rfl
/-! f129: parallax/parallaxref01.Neg, parameters #[2] -/
def v129t1 : CV := .seq (.reg [.op (some 3) (.move (.tmp 0)),
    .op (some 4) (.call ⟨.value (.func 187), #[(.const (.int .i64 0)), (.tmp 3)], #[2, 2]⟩),
    .op (some 2) (.assign (.tmp 4))])
  (.ret)
def v129 : CV := .seq (.reg [.op (some 2) (.assign (.const (.int .i64 0)))]) v129t1
noncomputable def b129 : Code := Tryz.f129.body.getD .skip
theorem b129_eq : Tryz.f129.body = some b129 := by kernel_rfl
theorem v129_eq : viewC Tryz.prog b129 = some v129 := by kernel_rfl
theorem r129_eq : Tryz.f129.results.toList = [.tmp 2] := by kernel_rfl

/-! ### the plain law -/
def bitC (b : Nat) : List AV := [.int .i64 (b : Int)]
theorem bitC_len (b : Nat) : (bitC b).length = 1 := rfl
def valL : List Nat → Nat
  | [] => 0
  | b :: l => b + 2 * valL l
theorem valL_snoc (b : Nat) : ∀ l : List Nat, valL (l ++ [b]) = valL l + 2 ^ l.length * b
  | [] => by simp [valL]
  | x :: l => by
    simp only [List.cons_append, valL, valL_snoc b l, List.length_cons, Nat.pow_succ]
    have : 2 * (2 ^ l.length * b) = 2 ^ l.length * 2 * b := by rw [Nat.mul_comm (2 ^ l.length) 2, Nat.mul_assoc]
    omega
def bitsL (u k : Nat) : List Nat := (List.range k).map fun i => u / 2 ^ i % 2
theorem bitsL_succ (u k : Nat) : bitsL u (k + 1) = bitsL u k ++ [u / 2 ^ k % 2] := by simp [bitsL, List.range_succ]
theorem bitsL_len (u k : Nat) : (bitsL u k).length = k := by simp [bitsL]
def Bin (l : List Nat) : Prop := ∀ b ∈ l, b ≤ 1
theorem bitsL_bin (u k : Nat) : Bin (bitsL u k) := by
  intro b hb
  obtain ⟨i, _, rfl⟩ := List.mem_map.1 hb
  omega
theorem valL_bits (u : Nat) : ∀ k, valL (bitsL u k) = u % 2 ^ k
  | 0 => by simp [bitsL, valL, Nat.mod_one]
  | k + 1 => by
    rw [bitsL_succ, valL_snoc, valL_bits u k, bitsL_len, Nat.pow_succ, Nat.mod_mul]
theorem valL_lt : ∀ {l : List Nat}, Bin l → valL l < 2 ^ l.length
  | [], _ => by simp [valL]
  | x :: l, h => by
    have h1 := valL_lt (l := l) fun b hb => h b (by simp [hb])
    have h2 := h x (by simp)
    simp only [valL, List.length_cons, Nat.pow_succ]
    omega
def otherL (l : List Nat) : List Nat := l.map fun b => 1 - b
theorem otherL_val : ∀ {l : List Nat}, Bin l → valL (otherL l) + valL l + 1 = 2 ^ l.length
  | [], _ => by simp [valL, otherL]
  | x :: l, h => by
    have h1 := otherL_val (l := l) fun b hb => h b (by simp [hb])
    have h2 := h x (by simp)
    simp only [otherL] at h1
    simp only [otherL, List.map_cons, valL, List.length_cons, Nat.pow_succ]
    omega
theorem otherL_bin (l : List Nat) : Bin (otherL l) := by
  intro b hb
  obtain ⟨i, _, rfl⟩ := List.mem_map.1 hb
  omega
theorem takeS {α : Type} {l : List α} {i : Nat} {x : α} (h : l[i]? = some x) : l.take (i + 1) = l.take i ++ [x] := by rw [List.take_add_one, h]; rfl
theorem wrap_i64_u (u : Nat) (h : u < 18446744073709551616) : IntKind.u64.wrap (IntKind.i64.wrap (u : Int)) = (u : Int) := by
  simp only [IntKind.wrap, IntKind.bits, IntKind.signed]
  simp
  omega
section
variable {tb : List FuncId} {gl : List (List AV)} {H : Heap} {v w : AV} {Q : AV → Heap → Prop}
theorem oa_shrN {t r : TypeId} {x y : Operand} {l : Fm} {k k' : IntKind} {m n c : Nat} (hx : evA x l = some (.int k (m : Int))) (hy : evA y l = some (.int k' (n : Int))) (hn : n ≤ bitsK k) (hc : m / 2 ^ n = c) (q : Q (.int k (c : Int)) H) : OA Tryz.prog tb gl (.binOp .shr t x y r) l H Q :=
  oa (fun T hT => by
    have h1 : ev x T = some (.int k (.ofNat m)) := evA_ok hT hx
    have h2 : ev y T = some (.int k' (.ofNat n)) := evA_ok hT hy
    have h3 : Nat.min n (bitsK k) = n := Nat.min_eq_left hn
    simp only [oper, oBin, h1, h2, shiftOp, fN_eq, h3]
    subst hc
    rfl) q
set_option maxHeartbeats 0 in
theorem Bits_ok (n : Int) (_hn : -9223372036854775808 ≤ n ∧ n < 9223372036854775808) (hQ : ∀ u H', Keep Non H H' → Own H' u 1 64 ((bitsL (n % 18446744073709551616).toNat 64).flatMap bitC) → Q u H') : WpF Tryz.prog tb gl 240 [.int .i64 n] H Q := by
  have hlim : limit = 1000000 := rfl
  obtain ⟨m, hm⟩ : ∃ m, m = (n % 18446744073709551616).toNat := ⟨_, rfl⟩
  rw [← hm] at hQ
  have hm64 : m < 18446744073709551616 := by omega
  refine fa Tryz.func240 b240_eq v240_eq r240_eq (.inr (by simp)) ?_
  refine va_seqr ?_
  refine ia_pl rfl ?_
  refine ia_nil (va_seqr ?_)
  refine ia_pl rfl ?_
  refine ia_nil (va_seq (va_seqr ?_))
  refine ia_pl rfl ?_
  refine ia_nil (va_block ?_)
  refine va_loop (fun (a : Nat × AV) => [(0, .int .i64 n), (3, a.2), (4, .int .i64 (a.1 : Int))]) (fun a H' => Keep Non H H' ∧ a.1 ≤ 64 ∧ Own H' a.2 1 a.1 ((bitsL m a.1).flatMap bitC) ∧ ∀ c, ownB a.2 c → H.nx ≤ c) (fun a => 64 - a.1) ?_ (0, .nils) _ H ⟨rfl, rfl, rfl, trivial⟩ ⟨.refl _ _, Nat.zero_le _, .nil _ _, fun _ h => h.elim⟩
  rintro ⟨i, u⟩ H1 ⟨hk, hle, ho, hno⟩
  dsimp only at hle ho hno ⊢
  refine va_seq (va_seqr ?_)
  refine ia_pl rfl ?_
  by_cases hi : i < 64
  rotate_left
  · refine ia_op (oa_lssW rfl rfl (decide_eq_false (by omega)) (ia_nil (va_condF rfl (va_exit (va_seqr ?_)))))
    refine ia_pl rfl ?_
    have : i = 64 := by omega
    subst this
    exact ia_nil (va_ret ⟨_, rfl, hQ _ _ hk ho⟩)
  refine ia_op (oa_lssW rfl rfl (decide_eq_true (by omega)) (ia_nil (va_condT rfl (va_skip (va_seq (va_block (va_reg ?_)))))))
  refine ia_pl rfl ?_
  refine ia_op (oa_convW (c := (m : Int)) UnF.h UnF.h rfl (by rw [wrap_u64_mod]; omega) ?_)
  refine ia_pl rfl ?_
  refine ia_op (oa_convW (c := (i : Int)) UnF.h UnF.h rfl (wrap_u64 (by omega) (by omega)) ?_)
  refine ia_op (oa_shrN (c := m / 2 ^ i) rfl rfl (by simp only [bitsK]; omega) rfl ?_)
  refine ia_op (oa_remW (c := ((m / 2 ^ i % 2 : Nat) : Int)) rfl rfl (by decide) rfl ?_)
  refine ia_op (oa_convW (c := ((m / 2 ^ i % 2 : Nat) : Int)) UnF.h UnF.h rfl (wrap_i64 (by omega) (by omega)) ?_)
  refine ia_op (oa_newSlice (n := 1) ElF.h (by decide) rfl rfl fun H3 hk3 hr3 => ?_)
  refine ia_op (oa_append rfl rfl rfl ElF.h (.inl UnF.h) rfl (ho.keep0 hk3) rfl (IsRow.sl (es := 1) (n := 1) hr3 rfl (Nat.le_refl 1)).elems rfl rfl (by omega) fun u' H4 ho4 hk4 hb4 => ?_)
  refine ia_pl rfl ?_
  refine ia_nil (va_reg ?_)
  refine ia_pl rfl ?_
  refine ia_op (oa_addW (c := ((i + 1 : Nat) : Int)) rfl rfl (wrapE_i64 (by omega) (by omega) (by omega)) ?_)
  refine ia_pl rfl ?_
  refine ia_nil ⟨(i + 1, u'), ?_, ⟨rfl, rfl, rfl, trivial⟩, (hk.trans0 hk3).trans hk4 fun c hc => .inr (hno c hc), by dsimp only; omega, ?_, fun c hc => (hb4 c hc).elim (hno c) fun h => Nat.le_trans (hk.trans0 hk3).nx h⟩
  · show 64 - (i + 1) < 64 - i
    omega
  · dsimp only
    rw [bitsL_succ, List.flatMap_append]
    exact ho4
set_option maxHeartbeats 0 in
theorem other_ok {l : List Nat} (hb : Bin l) (hl : l.length = 64) (hv : IsSl H v 1 64 (l.flatMap bitC)) (hQ : ∀ u H', Keep Non H H' → Own H' u 1 64 ((otherL l).flatMap bitC) → Q u H') : WpF Tryz.prog tb gl 241 [v] H Q := by
  have hlim : limit = 1000000 := rfl
  refine fa Tryz.func241 b241_eq v241_eq r241_eq (.inr (by simp)) ?_
  refine va_seqr ?_
  refine ia_pl rfl ?_
  refine ia_nil (va_seqr ?_)
  refine ia_pl rfl ?_
  refine ia_nil (va_seq (va_seqr ?_))
  refine ia_pl rfl ?_
  refine ia_nil (va_block ?_)
  refine va_loop (fun (a : Nat × AV) => [(0, v), (3, a.2), (4, .int .i64 (a.1 : Int))]) (fun a H' => Keep Non H H' ∧ a.1 ≤ 64 ∧ Own H' a.2 1 a.1 ((otherL (l.take a.1)).flatMap bitC) ∧ ∀ c, ownB a.2 c → H.nx ≤ c) (fun a => 64 - a.1) ?_ (0, .nils) _ H ⟨rfl, rfl, rfl, trivial⟩ ⟨.refl _ _, Nat.zero_le _, .nil _ _, fun _ h => h.elim⟩
  rintro ⟨i, u⟩ H1 ⟨hk, hle, ho, hno⟩
  dsimp only at hle ho hno ⊢
  have hv1 := hv.keep0 hk
  refine va_seq (va_seqr ?_)
  refine ia_pl rfl ?_; (repeat ((first | refine ia_op (oa_lenSl rfl rfl rfl UnF.h rfl hv1 ?_)); refine ia_pl rfl ?_))
  by_cases hi : i < 64
  rotate_left
  · refine ia_op (oa_lssW rfl rfl (decide_eq_false (by omega)) (ia_nil (va_condF rfl (va_exit (va_seqr ?_)))))
    refine ia_pl rfl ?_
    have : i = 64 := by omega
    subst this
    rw [List.take_of_length_le (by omega)] at ho
    exact ia_nil (va_ret ⟨_, rfl, hQ _ _ hk ho⟩)
  refine ia_op (oa_lssW rfl rfl (decide_eq_true (by omega)) (ia_nil (va_condT rfl (va_skip (va_seq (va_block (va_reg ?_)))))))
  obtain ⟨c, hc⟩ : ∃ c, l[i]? = some c := ⟨_, List.getElem?_eq_getElem (by omega)⟩
  have hc1 := hb c (List.mem_of_getElem? hc)
  have hch := flat_chunk bitC_len l i c hc
  refine ia_pl rfl ?_
  refine ia_op (oa_indexSl UnF.h SzF.h rfl hv1 rfl rfl hi fun q0 hq0 => ?_)
  rw [hch] at hq0
  refine ia_op (oa_pload PlF.h rfl hq0 rfl ?_)
  refine ia_op (oa_subW (c := ((1 - c : Nat) : Int)) rfl rfl (wrapE_i64 (by omega) (by omega) (by omega)) ?_)
  refine ia_op (oa_newSlice (n := 1) ElF.h (by decide) rfl rfl fun H3 hk3 hr3 => ?_)
  refine ia_op (oa_append rfl rfl rfl ElF.h (.inl UnF.h) rfl (ho.keep0 hk3) rfl (IsRow.sl (es := 1) (n := 1) hr3 rfl (Nat.le_refl 1)).elems rfl rfl (by omega) fun u' H4 ho4 hk4 hb4 => ?_)
  refine ia_pl rfl ?_
  refine ia_nil (va_reg ?_)
  refine ia_pl rfl ?_
  refine ia_op (oa_addW (c := ((i + 1 : Nat) : Int)) rfl rfl (wrapE_i64 (by omega) (by omega) (by omega)) ?_)
  refine ia_pl rfl ?_
  refine ia_nil ⟨(i + 1, u'), ?_, ⟨rfl, rfl, rfl, trivial⟩, (hk.trans0 hk3).trans hk4 fun c hc => .inr (hno c hc), by dsimp only; omega, ?_, fun c hc => (hb4 c hc).elim (hno c) fun h => Nat.le_trans (hk.trans0 hk3).nx h⟩
  · show 64 - (i + 1) < 64 - i
    omega
  · dsimp only
    rw [takeS hc]
    simp only [otherL, List.map_append, List.flatMap_append, List.map_cons, List.map_nil]
    exact ho4
set_option maxHeartbeats 0 in
theorem plus_ok {a b : List Nat} {c0 : Nat} (ha : Bin a) (hb : Bin b) (hc0 : c0 ≤ 1) (hal : a.length = 64) (hbl : b.length = 64) (hv : IsSl H v 1 64 (a.flatMap bitC)) (hw : IsSl H w 1 64 (b.flatMap bitC))
    (hQ : ∀ o u H', Keep Non H H' → Bin o → o.length = 64 → valL o = (valL a + valL b + c0) % 18446744073709551616 → Own H' u 1 64 (o.flatMap bitC) → Q u H') : WpF Tryz.prog tb gl 239 [v, w, .int .i64 (c0 : Int)] H Q := by
  have hlim : limit = 1000000 := rfl
  refine fa Tryz.func239 b239_eq v239_eq r239_eq (.inr (by simp)) ?_
  refine va_seqr ?_
  refine ia_pl rfl ?_
  refine ia_nil (va_seqr ?_)
  refine ia_pl rfl ?_
  refine ia_nil (va_seq (va_seqr ?_))
  refine ia_pl rfl ?_
  refine ia_nil (va_block ?_)
  refine va_loop (fun (s : List Nat × Nat × AV) => [(0, v), (1, w), (2, .int .i64 (s.2.1 : Int)), (7, s.2.2), (8, .int .i64 (s.1.length : Int))])
    (fun s H' => Keep Non H H' ∧ s.1.length ≤ 64 ∧ s.2.1 ≤ 1 ∧ Bin s.1 ∧ valL s.1 + 2 ^ s.1.length * s.2.1 = valL (a.take s.1.length) + valL (b.take s.1.length) + c0 ∧ Own H' s.2.2 1 s.1.length (s.1.flatMap bitC) ∧ ∀ c, ownB s.2.2 c → H.nx ≤ c) (fun s => 64 - s.1.length) ?_ ([], c0, .nils) _ H ⟨rfl, rfl, rfl, rfl, rfl, trivial⟩ ⟨.refl _ _, Nat.zero_le _, hc0, fun _ h => (by cases h), by simp [valL], .nil _ _, fun _ h => h.elim⟩
  rintro ⟨o, c, u⟩ H1 ⟨hk, hle, hc1, hbin, hval, ho, hno⟩
  dsimp only at hle hc1 hbin hval ho hno ⊢
  have hv1 := hv.keep0 hk
  have hw1 := hw.keep0 hk
  refine va_seq (va_seqr ?_)
  refine ia_pl rfl ?_
  by_cases hi : o.length < 64
  rotate_left
  · refine ia_op (oa_lssW rfl rfl (decide_eq_false (by omega)) (ia_nil (va_condF rfl (va_exit (va_seqr ?_)))))
    refine ia_pl rfl ?_
    have hl : o.length = 64 := by omega
    have hlt := valL_lt hbin
    rw [List.take_of_length_le (by omega), List.take_of_length_le (by omega)] at hval
    rw [hl] at hval hlt ho
    refine ia_nil (va_ret ⟨_, rfl, hQ o _ _ hk hbin hl ?_ ho⟩)
    have hp : (2 : Nat) ^ 64 = 18446744073709551616 := by rfl
    rw [hp] at hval hlt
    omega
  refine ia_op (oa_lssW rfl rfl (decide_eq_true (by omega)) (ia_nil (va_condT rfl (va_skip (va_seq (va_block (va_seqr ?_)))))))
  obtain ⟨x, hx⟩ : ∃ x, a[o.length]? = some x := ⟨_, List.getElem?_eq_getElem (by omega)⟩
  obtain ⟨y, hy⟩ : ∃ y, b[o.length]? = some y := ⟨_, List.getElem?_eq_getElem (by omega)⟩
  have hx1 := ha x (List.mem_of_getElem? hx)
  have hy1 := hb y (List.mem_of_getElem? hy)
  have hchx := flat_chunk bitC_len a o.length x hx
  have hchy := flat_chunk bitC_len b o.length y hy
  refine ia_pl rfl ?_
  refine ia_op (oa_indexSl UnF.h SzF.h rfl hv1 rfl rfl hi fun q0 hq0 => ?_)
  rw [hchx] at hq0
  refine ia_op (oa_pload PlF.h rfl hq0 rfl ?_)
  refine ia_pl rfl ?_
  refine ia_op (oa_indexSl UnF.h SzF.h rfl hw1 rfl rfl hi fun q0 hq0 => ?_)
  rw [hchy] at hq0
  refine ia_op (oa_pload PlF.h rfl hq0 rfl ?_)
  refine ia_op (oa_addW (c := ((x + y : Nat) : Int)) rfl rfl (wrapE_i64 (by omega) (by omega) (by omega)) ?_)
  refine ia_pl rfl ?_
  refine ia_op (oa_addW (c := ((x + y + c : Nat) : Int)) rfl rfl (wrapE_i64 (by omega) (by omega) (by omega)) ?_)
  refine ia_pl rfl ?_
  refine ia_nil (va_seqr ?_)
  refine ia_pl rfl ?_
  refine ia_op (oa_remW (c := (((x + y + c) % 2 : Nat) : Int)) rfl rfl (by decide) rfl ?_)
  refine ia_op (oa_newSlice (n := 1) ElF.h (by decide) rfl rfl fun H3 hk3 hr3 => ?_)
  refine ia_op (oa_append rfl rfl rfl ElF.h (.inl UnF.h) rfl (ho.keep0 hk3) rfl (IsRow.sl (es := 1) (n := 1) hr3 rfl (Nat.le_refl 1)).elems rfl rfl (by omega) fun u' H4 ho4 hk4 hb4 => ?_)
  refine ia_pl rfl ?_
  refine ia_nil (va_reg ?_)
  refine ia_pl rfl ?_
  refine ia_op (oa_quoW (c := (((x + y + c) / 2 : Nat) : Int)) rfl rfl (by decide) (wrap_i64 (z := (((x + y + c) / 2 : Nat) : Int)) (by omega) (by omega)) ?_)
  refine ia_pl rfl ?_
  refine ia_nil (va_reg ?_)
  refine ia_pl rfl ?_
  refine ia_op (oa_addW (c := ((o.length + 1 : Nat) : Int)) rfl rfl (wrapE_i64 (by omega) (by omega) (by omega)) ?_)
  refine ia_pl rfl ?_
  have hlen : (o ++ [(x + y + c) % 2]).length = o.length + 1 := by simp
  refine ia_nil ⟨(o ++ [(x + y + c) % 2], (x + y + c) / 2, u'), ?_, ⟨rfl, rfl, rfl, rfl, by simp only [hlen]; rfl, trivial⟩, (hk.trans0 hk3).trans hk4 fun c hc => .inr (hno c hc), by dsimp only; omega, by dsimp only; omega, ?_, ?_, ?_, fun c hc => (hb4 c hc).elim (hno c) fun h => Nat.le_trans (hk.trans0 hk3).nx h⟩
  · show 64 - (o ++ [(x + y + c) % 2]).length < 64 - o.length
    omega
  · dsimp only
    intro d hd
    rcases List.mem_append.1 hd with hd | hd
    · exact hbin d hd
    · rw [List.mem_singleton.1 hd]; omega
  · dsimp only
    rw [hlen, takeS hx, takeS hy, valL_snoc, valL_snoc, valL_snoc, List.length_take, List.length_take, Nat.min_eq_left (by omega), Nat.min_eq_left (by omega), Nat.pow_succ, Nat.mul_assoc, Nat.add_assoc (valL o), ← Nat.mul_add, show (x + y + c) % 2 + 2 * ((x + y + c) / 2) = x + y + c by omega, Nat.mul_add, Nat.mul_add]
    omega
  · dsimp only
    rw [hlen, List.flatMap_append]
    exact ho4
set_option maxHeartbeats 0 in
theorem number_ok {a : List Nat} (ha : Bin a) (hal : a.length = 64) (hv : IsSl H v 1 64 (a.flatMap bitC)) (hQ : Q (.int .i64 (IntKind.i64.wrap (valL a : Int))) H) : WpF Tryz.prog tb gl 238 [v] H Q := by
  refine fa Tryz.func238 b238_eq v238_eq r238_eq (.inr (by simp)) ?_
  refine va_seqr ?_
  refine ia_pl rfl ?_
  refine ia_nil (va_seqr ?_)
  refine ia_pl rfl ?_
  refine ia_nil (va_seq (va_seqr ?_))
  refine ia_pl rfl ?_
  refine ia_nil (va_block ?_)
  refine va_loop (fun (j : Nat) => [(0, v), (3, .int .u64 (valL (a.drop j) : Int)), (4, .int .i64 ((j : Int) - 1))]) (fun j H' => H' = H ∧ j ≤ 64) (fun j => j) ?_ 64 _ H ⟨rfl, by rw [List.drop_of_length_le (by omega)]; rfl, rfl, trivial⟩ ⟨rfl, Nat.le_refl _⟩
  rintro j H1 ⟨hH, hle⟩
  subst hH
  refine va_seq (va_seqr ?_)
  refine ia_pl rfl ?_
  by_cases hj : j = 0
  · subst hj
    refine ia_op (oa_geqW rfl rfl (decide_eq_false (by omega)) (ia_nil (va_condF rfl (va_exit (va_seqr ?_)))))
    refine ia_pl rfl ?_
    refine ia_op (oa_conv UnF.h UnF.h rfl ?_)
    refine ia_pl rfl ?_
    exact ia_nil (va_ret ⟨_, rfl, by rw [List.drop_zero]; exact hQ⟩)
  refine ia_op (oa_geqW rfl rfl (decide_eq_true (by omega)) (ia_nil (va_condT rfl (va_skip (va_seq (va_block (va_reg ?_)))))))
  obtain ⟨i, rfl⟩ : ∃ i, j = i + 1 := ⟨j - 1, by omega⟩
  obtain ⟨x, hx⟩ : ∃ x, a[i]? = some x := ⟨_, List.getElem?_eq_getElem (by omega)⟩
  have hx1 := ha x (List.mem_of_getElem? hx)
  have hch := flat_chunk bitC_len a i x hx
  have hdr : a.drop i = x :: a.drop (i + 1) := by rw [List.drop_eq_getElem_cons (by omega)]; congr 1; rw [List.getElem?_eq_getElem (by omega)] at hx; injection hx
  have hlt := valL_lt (l := a.drop i) fun b hb => ha b (List.mem_of_mem_drop hb)
  rw [List.length_drop, hal] at hlt
  have hlt2 : valL (a.drop i) < 18446744073709551616 := Nat.lt_of_lt_of_le hlt (Nat.pow_le_pow_right (by decide) (by omega : 64 - i ≤ 64))
  rw [hdr] at hlt2
  simp only [valL] at hlt2
  refine ia_pl rfl ?_
  refine ia_op (oa_mulW (c := ((valL (a.drop (i + 1)) * 2 : Nat) : Int)) rfl rfl (wrapE_u64 (by omega) (by omega) (by omega)) ?_)
  refine ia_pl rfl ?_
  refine ia_op (oa_indexSl (j := i) UnF.h SzF.h rfl hv rfl (by omega) (by omega) fun q0 hq0 => ?_)
  rw [hch] at hq0
  refine ia_op (oa_pload PlF.h rfl hq0 rfl ?_)
  refine ia_op (oa_convW (c := (x : Int)) UnF.h UnF.h rfl (wrap_u64 (by omega) (by omega)) ?_)
  refine ia_op (oa_addW (c := ((valL (a.drop i) : Nat) : Int)) rfl rfl (by rw [hdr]; simp only [valL]; exact wrapE_u64 (by omega) (by omega) (by omega)) ?_)
  refine ia_pl rfl ?_
  refine ia_nil (va_reg ?_)
  refine ia_pl rfl ?_
  refine ia_op (oa_subW (c := (i : Int) - 1) rfl rfl (wrapE_i64 (by omega) (by omega) (by omega)) ?_)
  refine ia_pl rfl ?_
  refine ia_nil ⟨i, ?_, ⟨rfl, rfl, rfl, trivial⟩, rfl, by omega⟩
  show i < i + 1
  omega
set_option maxHeartbeats 0 in
theorem Neg_ok (n : Int) (hn : -9223372036854775808 ≤ n ∧ n < 0) (hQ : ∀ H', Keep Non H H' → Q (.int .i64 (IntKind.i64.wrap (n.natAbs : Int))) H') : WpF Tryz.prog tb gl 129 [.int .i64 n] H Q := by
  refine fa Tryz.func129 b129_eq v129_eq r129_eq (.inr (by simp)) ?_
  refine va_seqr ?_
  refine ia_pl rfl ?_
  refine ia_nil (va_seqr ?_)
  refine ia_pl rfl ?_
  refine ia_op (oa_call rfl rfl rfl ?_)
  · refine (show WpF Tryz.prog tb gl 187 [.int .i64 0, .int .i64 n] H _ from ?_)
    refine fa Tryz.func187 b187_eq v187_eq r187_eq (.inr (by simp)) ?_
    refine va_seqr ?_
    refine ia_pl rfl ?_
    refine ia_nil (va_seqr ?_)
    refine ia_pl rfl ?_
    refine ia_op (oa_call rfl rfl rfl (Bits_ok 0 (by omega) fun u1 H1 hk1 ho1 => ?_))
    refine ia_pl rfl ?_
    refine ia_op (oa_call rfl rfl rfl (Bits_ok n (by omega) fun u2 H2 hk2 ho2 => ?_))
    refine ia_op (oa_call rfl rfl rfl (other_ok (bitsL_bin _ _) (bitsL_len _ _) ho2.sl fun u3 H3 hk3 ho3 => ?_))
    refine ia_op (oa_call rfl rfl rfl (plus_ok (c0 := 1) (bitsL_bin _ _) (otherL_bin _) (by decide) (bitsL_len _ _) (by rw [otherL, List.length_map, bitsL_len]) ((ho1.keep0 hk2).keep0 hk3).sl ho3.sl fun o u4 H4 hk4 hb4 hl4 hv4 ho4 => ?_))
    refine ia_op (oa_call rfl rfl rfl (number_ok hb4 hl4 ho4.sl ?_))
    refine ia_pl rfl ?_
    refine ia_nil (va_ret ⟨_, rfl, ?_⟩)
    refine ia_pl rfl ?_
    refine ia_nil (va_ret ⟨_, rfl, ?_⟩)
    have h1 := otherL_val (bitsL_bin (n % 18446744073709551616).toNat 64)
    rw [bitsL_len, valL_bits] at h1
    rw [valL_bits] at hv4
    have hp : (2 : Nat) ^ 64 = 18446744073709551616 := by rfl
    rw [hp] at h1 hv4
    have : valL o = n.natAbs := by
      rw [hv4]
      have h0 : ((0 : Int) % 18446744073709551616).toNat = 0 := by rfl
      rw [h0]
      omega
    rw [this]
    exact hQ _ (((hk1.trans0 hk2).trans0 hk3).trans0 hk4)
end
end Go.Proofs.YtalnmaalhocjfaaGreatDoor
