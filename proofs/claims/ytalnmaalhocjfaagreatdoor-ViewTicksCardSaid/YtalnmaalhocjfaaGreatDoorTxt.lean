/-
  num.Join of a list of words, and the document's text of a number that is not below 0. Conditions: the words' lengths.
-/
import Derived.Test.YtalnmaalhocjfaaGreatDoorNum
import Derived.Test.YtalnmaalhocjfaaGreatDoorCore8
namespace Go.Proofs.YtalnmaalhocjfaaGreatDoor
open Go Go.Proofs.YtalnmaalhocjfaaGreatDoor.Eng
/-! facts about types -/
theorem un_41 : Tryz.prog.underlying 41 = some (.slice 9) := by kernel_rfl
instance iun_41 : UnF Tryz.prog 41 (.slice 9) := ⟨un_41⟩
theorem el_41 : elemI Tryz.prog 41 = some ⟨9, 1, .str 0 0⟩ := by kernel_rfl
instance iel_41 : ElF Tryz.prog 41 ⟨9, 1, .str 0 0⟩ := ⟨el_41⟩
theorem sz_9 : szOf Tryz.prog 9 = some 1 := by kernel_rfl
instance isz_9 : SzF Tryz.prog 9 1 := ⟨sz_9⟩
theorem pl_9 : plcOf Tryz.prog 9 0 = some ⟨0, false, 1⟩ := by kernel_rfl
instance ipl_9 : PlF Tryz.prog 9 ⟨0, false, 1⟩ := ⟨pl_9⟩
theorem el_183 : elemI Tryz.prog 183 = some ⟨5, 1, .int .u8 0⟩ := by kernel_rfl
instance iel_183 : ElF Tryz.prog 183 ⟨5, 1, .int .u8 0⟩ := ⟨el_183⟩
/-! f37: parallax/num.Join, parameters #[41] -/
def v37k0h1 : CV := .seq (.reg [.op (some 13) (.move (.tmp 4)),
    .op (some 14) (.binOp .gtr 3 (.tmp 13) (.const (.int .i64 0)) 3)])
  (.cond (.tmp 14) (.reg [.op (some 15) (.move (.tmp 3)),
    .op (some 16) (.buildSlice 183 1 #[(0, (.const (.int .u8 32)))]),
    .op (some 17) (.call ⟨.builtin .append, #[(.tmp 15), (.tmp 16)], #[183, 183]⟩),
    .op (some 3) (.assign (.tmp 17))]) (.skip))
def v37k0t1 : CV := .seq v37k0h1
  (.reg [.op (some 18) (.move (.tmp 3)),
    .op (some 19) (.move (.tmp 5)),
    .op (some 20) (.call ⟨.builtin .append, #[(.tmp 18), (.tmp 19)], #[183, 9]⟩),
    .op (some 3) (.assign (.tmp 20))])
def v37k0 : CV := .seq (.reg [.op (some 10) (.move (.tmp 8)),
    .op (some 11) (.indexAddr 41 (.tmp 6) (.tmp 8)),
    .op (some 12) (.load 9 (.tmp 11)),
    .op (some 4) (.assign (.tmp 10)),
    .op (some 5) (.assign (.tmp 12))]) v37k0t1
def v37l0t2 : CV := .seq (.block 1 v37k0)
  (.reg [.op (some 21) (.binOp .add 3 (.tmp 8) (.const (.int .i64 1)) 3),
    .op (some 8) (.move (.tmp 21))])
def v37l0t1 : CV := .seq (.cond (.tmp 9) (.skip) (.exit 0)) v37l0t2
def v37l0 : CV := .seq (.reg [.op (some 9) (.binOp .lss 3 (.tmp 8) (.tmp 7) 3)]) v37l0t1
def v37h2 : CV := .seq (.reg [.op (some 6) (.move (.tmp 0)),
    .op (some 7) (.call ⟨.builtin .len, #[(.tmp 6)], #[41]⟩),
    .op (some 8) (.move (.const (.int .i64 0)))])
  (.block 0 (.loop v37l0))
def v37t3 : CV := .seq (.reg [.op (some 22) (.move (.tmp 3)),
    .op (some 23) (.convert 183 9 (.tmp 22)),
    .op (some 2) (.assign (.tmp 23))])
  (.ret)
def v37t2 : CV := .seq v37h2 v37t3
def v37t1 : CV := .seq (.reg [.op (some 3) (.assign (.const (.slice none 0 0)))]) v37t2
def v37 : CV := .seq (.reg [.op (some 2) (.assign (.const (.string ⟨⟨[]⟩⟩)))]) v37t1
noncomputable def b37 : Code := Tryz.f37.body.getD .skip
theorem b37_eq : Tryz.f37.body = some b37 := by kernel_rfl
theorem v37_eq : viewC Tryz.prog b37 = some v37 := by kernel_rfl
theorem r37_eq : Tryz.f37.results.toList = [.tmp 2] := by kernel_rfl
/-! f39: parallax/parallaxref01.Text, parameters #[2] -/
def v39l0h0 : CV := .seq (.reg [.op (some 7) (.move (.tmp 3)),
    .op (some 8) (.binOp .eql 9 (.tmp 7) (.const (.string ⟨⟨[]⟩⟩)) 9),
    .op (some 9) (.move (.tmp 8)),
    .gd 9 false (some 10) (.move (.tmp 4)),
    .gd 9 false (some 11) (.binOp .gtr 182 (.tmp 10) (.const (.int .u64 0)) 182),
    .op (some 12) (.pick (.tmp 9) (.const (.bool true)) (.tmp 11))])
  (.cond (.tmp 12) (.skip) (.exit 0))
def v39k0 : CV := .seq (.reg [.op (some 13) (.move (.tmp 4)),
    .op (some 14) (.binOp .rem 182 (.tmp 13) (.const (.int .u64 10)) 182),
    .op (some 15) (.binOp .add 182 (.const (.int .u64 48)) (.tmp 14) 182),
    .op (some 16) (.convert 182 5 (.tmp 15)),
    .op (some 17) (.buildSlice 183 1 #[(0, (.tmp 16))]),
    .op (some 18) (.convert 183 9 (.tmp 17)),
    .op (some 19) (.move (.tmp 3)),
    .op (some 20) (.binOp .add 9 (.tmp 18) (.tmp 19) 9),
    .op (some 3) (.assign (.tmp 20))])
  (.reg [.op (some 21) (.move (.tmp 4)),
    .op (some 22) (.binOp .quo 182 (.tmp 21) (.const (.int .u64 10)) 182),
    .op (some 4) (.assign (.tmp 22))])
def v39l0 : CV := .seq v39l0h0
  (.block 1 v39k0)
def v39h4 : CV := .seq (.reg [.op (some 23) (.move (.tmp 0)),
    .op (some 24) (.binOp .lss 2 (.tmp 23) (.const (.int .i64 0)) 2)])
  (.cond (.tmp 24) (.reg [.op (some 25) (.move (.tmp 3)),
    .op (some 26) (.binOp .add 9 (.const (.string ⟨⟨[45]⟩⟩)) (.tmp 25) 9),
    .op (some 3) (.assign (.tmp 26))]) (.skip))
def v39t5 : CV := .seq (.reg [.op (some 27) (.move (.tmp 3)),
    .op (some 2) (.assign (.tmp 27))])
  (.ret)
def v39t4 : CV := .seq v39h4 v39t5
def v39t3 : CV := .seq (.block 0 (.loop v39l0)) v39t4
def v39t2 : CV := .seq (.reg [.op (some 5) (.move (.tmp 0)),
    .op (some 6) (.call ⟨.value (.func 82), #[(.tmp 5)], #[2]⟩),
    .op (some 4) (.assign (.tmp 6))]) v39t3
def v39t1 : CV := .seq (.reg [.op (some 3) (.assign (.const (.string ⟨⟨[]⟩⟩)))]) v39t2
def v39 : CV := .seq (.reg [.op (some 2) (.assign (.const (.string ⟨⟨[]⟩⟩)))]) v39t1
noncomputable def b39 : Code := Tryz.f39.body.getD .skip
theorem b39_eq : Tryz.f39.body = some b39 := by kernel_rfl
theorem v39_eq : viewC Tryz.prog b39 = some v39 := by kernel_rfl
theorem r39_eq : Tryz.f39.results.toList = [.tmp 2] := by kernel_rfl
/-! f82: parallax/parallaxref01.size, parameters #[2] -/
def v82c0 : CV := .seq (.reg [.op (some 5) (.move (.tmp 0)),
    .op (some 6) (.call ⟨.value (.func 129), #[(.tmp 5)], #[2]⟩),
    .op (some 7) (.convert 2 182 (.tmp 6)),
    .op (some 2) (.assign (.tmp 7))])
  (.ret)
def v82h1 : CV := .seq (.reg [.op (some 3) (.move (.tmp 0)),
    .op (some 4) (.binOp .lss 2 (.tmp 3) (.const (.int .i64 0)) 2)])
  (.cond (.tmp 4) v82c0 (.skip))
def v82t2 : CV := .seq (.reg [.op (some 8) (.move (.tmp 0)),
    .op (some 9) (.convert 2 182 (.tmp 8)),
    .op (some 2) (.assign (.tmp 9))])
  (.ret)
def v82t1 : CV := .seq v82h1 v82t2
def v82 : CV := .seq (.reg [.op (some 2) (.assign (.const (.int .u64 0)))]) v82t1
noncomputable def b82 : Code := Tryz.f82.body.getD .skip
theorem b82_eq : Tryz.f82.body = some b82 := by kernel_rfl
theorem v82_eq : viewC Tryz.prog b82 = some v82 := by kernel_rfl
theorem r82_eq : Tryz.f82.results.toList = [.tmp 2] := by kernel_rfl

/-! ### the plain laws -/
def joinW (ws : List (List UInt8)) : List UInt8 := (ws.flatMap (32 :: ·)).tail
theorem joinW_snoc (ws : List (List UInt8)) (w : List UInt8) : joinW (ws ++ [w]) = if ws = [] then w else joinW ws ++ 32 :: w := by
  cases ws with
  | nil => simp [joinW]
  | cons a l => simp [joinW]
def txC (s : List UInt8) : List AV := [S s]
theorem txC_len (s : List UInt8) : (txC s).length = 1 := rfl
theorem strCells_S : ∀ bs : List UInt8, strCells bs.length (packL bs) = bs.map u8
  | [] => rfl
  | b :: l => by
    have hb : b.toNat < 256 := b.toNat_lt
    have h1 : Nat.mod (packL (b :: l)) 256 = b.toNat := by
      show (b.toNat + 256 * packL l) % 256 = b.toNat
      omega
    have h2 : Nat.div (packL (b :: l)) 256 = packL l := by
      show (b.toNat + 256 * packL l) / 256 = packL l
      omega
    rw [List.length_cons, strCells]
    simp only [fN_eq, h1, h2, strCells_S l, List.map_cons]
    rfl
theorem elemsOf_S (H : Heap) (bs : List UInt8) : elemsOf H (S bs) 1 = some (bs.length, bs.map u8) := by
  show (bif Nat.beq 1 1 then some (bs.length, strCells bs.length (packL bs)) else none) = _
  rw [strCells_S]
  rfl
theorem scalL_u8 : ∀ bs : List UInt8, scalL (bs.map u8) = true
  | [] => rfl
  | _ :: l => by
    show scalL (l.map u8) = true
    exact scalL_u8 l
theorem joinW_le {ws : List (List UInt8)} : (joinW ws).length ≤ (ws.flatMap (32 :: ·)).length := by
  rw [joinW, List.length_tail]; omega
theorem flatMap_take_le {α β : Type} (f : α → List β) : ∀ (l : List α) (i : Nat), ((l.take i).flatMap f).length ≤ (l.flatMap f).length
  | [], i => by simp
  | a :: l, 0 => by simp
  | a :: l, i + 1 => by
    have := flatMap_take_le f l i
    simp only [List.take_succ_cons, List.flatMap_cons, List.length_append]
    omega
/-! ### the walks -/
section
variable {tb : List FuncId} {gl : List (List AV)} {H : Heap} {v : AV} {Q : AV → Heap → Prop}
set_option maxHeartbeats 0 in
theorem Join_ok {ws : List (List UInt8)} (hv : IsSl H v 1 ws.length (ws.flatMap txC)) (hb : (ws.flatMap (32 :: ·)).length < 500000) (hn : ws.length < 500000) (hQ : ∀ H', Keep Non H H' → Q (S (joinW ws)) H') : WpF Tryz.prog tb gl 37 [v] H Q := by
  have hlim : limit = 1000000 := rfl
  refine fa Tryz.func37 b37_eq v37_eq r37_eq (.inr (by simp)) ?_
  refine va_seqr ?_
  (repeat (first | refine ia_op (oa_move rfl ?_) | refine ia_op (oa_assign rfl ?_) | refine ia_op (oa_lss rfl rfl ?_) | refine ia_op (oa_gtr rfl rfl ?_) | refine ia_op (oa_leq rfl rfl ?_) | refine ia_op (oa_geq rfl rfl ?_) | refine ia_op (oa_eql rfl rfl ?_) | refine ia_op (oa_neq rfl rfl ?_) | refine ia_op (oa_addW rfl rfl (wrap_i64 (by omega) (by omega)) ?_) | refine ia_op (oa_addW rfl rfl (wrap_u64 (by omega) (by omega)) ?_) | refine ia_op (oa_addW rfl rfl (wrap_u8 (by omega) (by omega)) ?_) | refine ia_op (oa_subW rfl rfl (wrap_i64 (by omega) (by omega)) ?_) | refine ia_op (oa_subW rfl rfl (wrap_u64 (by omega) (by omega)) ?_) | refine ia_op (oa_subW rfl rfl (wrap_u8 (by omega) (by omega)) ?_) | refine ia_op (oa_not rfl ?_) | refine ia_op (oa_nilCheck rfl ?_) | refine ia_op (oa_extract rfl rfl ?_) | refine ia_op (oa_convW UnF.h UnF.h rfl (wrap_i64 (by omega) (by omega)) ?_) | refine ia_op (oa_convW UnF.h UnF.h rfl (wrap_u64 (by omega) (by omega)) ?_) | refine ia_op (oa_convW UnF.h UnF.h rfl (wrap_u8 (by omega) (by omega)) ?_)))
  refine ia_nil (va_seqr ?_)
  (repeat (first | refine ia_op (oa_move rfl ?_) | refine ia_op (oa_assign rfl ?_) | refine ia_op (oa_lss rfl rfl ?_) | refine ia_op (oa_gtr rfl rfl ?_) | refine ia_op (oa_leq rfl rfl ?_) | refine ia_op (oa_geq rfl rfl ?_) | refine ia_op (oa_eql rfl rfl ?_) | refine ia_op (oa_neq rfl rfl ?_) | refine ia_op (oa_addW rfl rfl (wrap_i64 (by omega) (by omega)) ?_) | refine ia_op (oa_addW rfl rfl (wrap_u64 (by omega) (by omega)) ?_) | refine ia_op (oa_addW rfl rfl (wrap_u8 (by omega) (by omega)) ?_) | refine ia_op (oa_subW rfl rfl (wrap_i64 (by omega) (by omega)) ?_) | refine ia_op (oa_subW rfl rfl (wrap_u64 (by omega) (by omega)) ?_) | refine ia_op (oa_subW rfl rfl (wrap_u8 (by omega) (by omega)) ?_) | refine ia_op (oa_not rfl ?_) | refine ia_op (oa_nilCheck rfl ?_) | refine ia_op (oa_extract rfl rfl ?_) | refine ia_op (oa_convW UnF.h UnF.h rfl (wrap_i64 (by omega) (by omega)) ?_) | refine ia_op (oa_convW UnF.h UnF.h rfl (wrap_u64 (by omega) (by omega)) ?_) | refine ia_op (oa_convW UnF.h UnF.h rfl (wrap_u8 (by omega) (by omega)) ?_)))
  refine ia_nil (va_seq (va_seqr ?_))
  refine ia_op (oa_move rfl ?_)
  refine ia_op (oa_lenSl rfl rfl rfl UnF.h rfl hv ?_)
  (repeat (first | refine ia_op (oa_move rfl ?_) | refine ia_op (oa_assign rfl ?_) | refine ia_op (oa_lss rfl rfl ?_) | refine ia_op (oa_gtr rfl rfl ?_) | refine ia_op (oa_leq rfl rfl ?_) | refine ia_op (oa_geq rfl rfl ?_) | refine ia_op (oa_eql rfl rfl ?_) | refine ia_op (oa_neq rfl rfl ?_) | refine ia_op (oa_addW rfl rfl (wrap_i64 (by omega) (by omega)) ?_) | refine ia_op (oa_addW rfl rfl (wrap_u64 (by omega) (by omega)) ?_) | refine ia_op (oa_addW rfl rfl (wrap_u8 (by omega) (by omega)) ?_) | refine ia_op (oa_subW rfl rfl (wrap_i64 (by omega) (by omega)) ?_) | refine ia_op (oa_subW rfl rfl (wrap_u64 (by omega) (by omega)) ?_) | refine ia_op (oa_subW rfl rfl (wrap_u8 (by omega) (by omega)) ?_) | refine ia_op (oa_not rfl ?_) | refine ia_op (oa_nilCheck rfl ?_) | refine ia_op (oa_extract rfl rfl ?_) | refine ia_op (oa_convW UnF.h UnF.h rfl (wrap_i64 (by omega) (by omega)) ?_) | refine ia_op (oa_convW UnF.h UnF.h rfl (wrap_u64 (by omega) (by omega)) ?_) | refine ia_op (oa_convW UnF.h UnF.h rfl (wrap_u8 (by omega) (by omega)) ?_)))
  refine ia_nil (va_block ?_)
  refine va_loop (fun (a : Nat × AV) => [(3, a.2), (6, v), (7, .int .i64 (ws.length : Int)), (8, .int .i64 (a.1 : Int))])
    (fun a H' => Keep Non H H' ∧ a.1 ≤ ws.length ∧ Own H' a.2 1 (joinW (ws.take a.1)).length ((joinW (ws.take a.1)).map u8) ∧ ∀ c, ownB a.2 c → H.nx ≤ c) (fun a => ws.length - a.1) ?_ (0, .nils) _ H ⟨rfl, rfl, rfl, rfl, trivial⟩ ⟨.refl _ _, Nat.zero_le _, .nil _ _, fun _ h => h.elim⟩
  rintro ⟨i, u⟩ H1 ⟨hk, hle, ho, hno⟩
  simp only at hle ho hno
  refine va_seqr ?_
  by_cases hi : i = ws.length
  · refine ia_op (oa_lssW rfl rfl (decide_eq_false (by simp only; omega)) ?_)
    refine ia_nil (va_seq (va_condF rfl (va_exit ?_)))
    subst hi
    rw [List.take_length] at ho
    refine va_seqr ?_
    refine ia_op (oa_move rfl ?_)
    refine ia_op (oa_toS UnF.h UnF.h UnF.h rfl ho.sl ?_)
    refine ia_op (oa_assign rfl (ia_nil (va_ret ⟨_, rfl, hQ _ hk⟩)))
  have hlt : i < ws.length := by omega
  refine ia_op (oa_lssW rfl rfl (decide_eq_true (by simp only; omega)) ?_)
  refine ia_nil (va_seq (va_condT rfl (va_skip ?_)))
  obtain ⟨w, hw⟩ : ∃ w, ws[i]? = some w := ⟨_, List.getElem?_eq_getElem hlt⟩
  have htake : ws.take (i + 1) = ws.take i ++ [w] := by rw [List.take_add_one, hw]; rfl
  have hchunk := flat_chunk txC_len ws i w hw
  have hb1 := flatMap_take_le (32 :: ·) ws (i + 1)
  have hb2 := joinW_le (ws := ws.take i)
  rw [htake, List.flatMap_append, List.length_append] at hb1
  simp only [List.flatMap_cons, List.flatMap_nil, List.append_nil, List.length_cons] at hb1
  refine va_seq (va_block (va_seqr ?_))
  refine ia_op (oa_move rfl ?_)
  refine ia_op (oa_indexSl UnF.h SzF.h rfl (hv.keep0 hk) rfl rfl hlt fun p hp => ?_)
  rw [hchunk] at hp
  refine ia_op (oa_pload PlF.h rfl hp rfl ?_)
  (repeat (first | refine ia_op (oa_move rfl ?_) | refine ia_op (oa_assign rfl ?_) | refine ia_op (oa_lss rfl rfl ?_) | refine ia_op (oa_gtr rfl rfl ?_) | refine ia_op (oa_leq rfl rfl ?_) | refine ia_op (oa_geq rfl rfl ?_) | refine ia_op (oa_eql rfl rfl ?_) | refine ia_op (oa_neq rfl rfl ?_) | refine ia_op (oa_addW rfl rfl (wrap_i64 (by omega) (by omega)) ?_) | refine ia_op (oa_addW rfl rfl (wrap_u64 (by omega) (by omega)) ?_) | refine ia_op (oa_addW rfl rfl (wrap_u8 (by omega) (by omega)) ?_) | refine ia_op (oa_subW rfl rfl (wrap_i64 (by omega) (by omega)) ?_) | refine ia_op (oa_subW rfl rfl (wrap_u64 (by omega) (by omega)) ?_) | refine ia_op (oa_subW rfl rfl (wrap_u8 (by omega) (by omega)) ?_) | refine ia_op (oa_not rfl ?_) | refine ia_op (oa_nilCheck rfl ?_) | refine ia_op (oa_extract rfl rfl ?_) | refine ia_op (oa_convW UnF.h UnF.h rfl (wrap_i64 (by omega) (by omega)) ?_) | refine ia_op (oa_convW UnF.h UnF.h rfl (wrap_u64 (by omega) (by omega)) ?_) | refine ia_op (oa_convW UnF.h UnF.h rfl (wrap_u8 (by omega) (by omega)) ?_)))
  -- the word is put behind
  have put : ∀ (l2 : Fm) (H2 : Heap) (u2 : AV) (bs : List UInt8), Sb [(3, u2), (5, S w), (6, v), (7, .int .i64 (ws.length : Int)), (8, .int .i64 (i : Int))] l2 → Keep Non H H2 → Own H2 u2 1 bs.length (bs.map u8) → (∀ c, ownB u2 c → H.nx ≤ c) → bs ++ w = joinW (ws.take (i + 1)) → bs.length + w.length < 600000 →
      VA Tryz.prog tb gl (.reg [.op (some 18) (.move (.tmp 3)), .op (some 19) (.move (.tmp 5)), .op (some 20) (.call ⟨.builtin .append, #[(.tmp 18), (.tmp 19)], #[183, 9]⟩), .op (some 3) (.assign (.tmp 20))]) l2 H2 (exitA 1 (seqA Tryz.prog tb gl (.reg [.op (some 21) (.binOp .add 3 (.tmp 8) (.const (.int .i64 1)) 3), .op (some 8) (.move (.tmp 21))])
        (roundA (fun (a : Nat × AV) => [(3, a.2), (6, v), (7, .int .i64 (ws.length : Int)), (8, .int .i64 (a.1 : Int))]) (fun a H' => Keep Non H H' ∧ a.1 ≤ ws.length ∧ Own H' a.2 1 (joinW (ws.take a.1)).length ((joinW (ws.take a.1)).map u8) ∧ ∀ c, ownB a.2 c → H.nx ≤ c) (fun a => ws.length - a.1) (i, u)
          (exitA 0 (seqA Tryz.prog tb gl v37t3 (leftA [.tmp 2] Q)))))) := by
    intro l2 H2 u2 bs h2 hk2 ho2 hno2 hbs hsum
    refine VA.sub h2 (va_reg ?_)
    refine ia_op (oa_move rfl (ia_op (oa_move rfl ?_)))
    refine ia_op (oa_append (e := 0) rfl rfl rfl ElF.h (.inr UnF.h) rfl ho2 rfl (elemsOf_S _ _) (by simp) (scalL_u8 w) (by omega) fun u3 H3 ho3 hk3 hb3 => ?_)
    refine ia_op (oa_assign rfl (ia_nil (va_reg ?_)))
    refine ia_op (oa_addW (c := ((i + 1 : Nat) : Int)) rfl rfl (wrapE_i64 (by omega) (by omega) (by omega)) ?_)
    refine ia_op (oa_move rfl (ia_nil ⟨(i + 1, u3), ?_, ⟨rfl, rfl, rfl, rfl, trivial⟩, hk2.trans hk3 fun c hc => .inr (hno2 c hc), by simp only; omega, ?_, fun c hc => (hb3 c hc).elim (hno2 c) fun h => Nat.le_trans hk2.nx h⟩))
    · show ws.length - (i + 1) < ws.length - i
      omega
    · simp only
      rw [← hbs, List.length_append, List.map_append]
      exact ho3
  refine ia_nil (va_seq (va_seqr ?_))
  refine ia_op (oa_move rfl ?_)
  by_cases h0 : i = 0
  · refine ia_op (oa_gtrW rfl rfl (decide_eq_false (by omega)) (ia_nil (va_condF rfl (va_skip ?_))))
    refine put _ H1 u [] ⟨rfl, rfl, rfl, rfl, rfl, trivial⟩ hk (by subst h0; exact ho) hno ?_ (by simp only [List.length_nil]; omega)
    subst h0
    rw [htake, joinW_snoc, List.take_zero, if_pos rfl]
    rfl
  refine ia_op (oa_gtrW rfl rfl (decide_eq_true (by omega)) (ia_nil (va_condT rfl (va_reg ?_))))
  refine ia_op (oa_move rfl ?_)
  refine ia_op (oa_newSlice (n := 1) ElF.h (by decide) rfl rfl fun H4 hk4 hr4 => ?_)
  refine ia_op (oa_append rfl rfl rfl ElF.h (.inl UnF.h) rfl (ho.keep0 hk4) rfl (IsRow.sl (es := 1) (n := 1) hr4 rfl (Nat.le_refl 1)).elems rfl rfl (by omega) fun w' H5 ho5 hk5 hb5 => ?_)
  refine ia_op (oa_assign rfl (ia_nil ?_))
  refine put _ H5 w' (joinW (ws.take i) ++ [32]) ⟨rfl, rfl, rfl, rfl, rfl, trivial⟩ ((hk.trans0 hk4).trans hk5 fun c hc => .inr (hno c hc)) ?_ (fun c hc => (hb5 c hc).elim (hno c) fun h => Nat.le_trans (hk.trans0 hk4).nx h) ?_ ?_
  · rw [List.length_append, List.map_append]; exact ho5
  · rw [htake, joinW_snoc, if_neg (fun h => by
      have := congrArg List.length h
      rw [List.length_take, List.length_nil] at this
      omega), List.append_assoc]
    rfl
  · rw [List.length_append, List.length_singleton]; omega
set_option maxHeartbeats 0 in
theorem size_ok (n : Nat) (hn : n < 9223372036854775808) (hQ : Q (.int .u64 (n : Int)) H) : WpF Tryz.prog tb gl 82 [.int .i64 (n : Int)] H Q := by
  refine fa Tryz.func82 b82_eq v82_eq r82_eq (.inr (by simp)) ?_
  refine va_seqr ?_
  (repeat (first | refine ia_op (oa_move rfl ?_) | refine ia_op (oa_assign rfl ?_) | refine ia_op (oa_lss rfl rfl ?_) | refine ia_op (oa_gtr rfl rfl ?_) | refine ia_op (oa_leq rfl rfl ?_) | refine ia_op (oa_geq rfl rfl ?_) | refine ia_op (oa_eql rfl rfl ?_) | refine ia_op (oa_neq rfl rfl ?_) | refine ia_op (oa_addW rfl rfl (wrap_i64 (by omega) (by omega)) ?_) | refine ia_op (oa_addW rfl rfl (wrap_u64 (by omega) (by omega)) ?_) | refine ia_op (oa_addW rfl rfl (wrap_u8 (by omega) (by omega)) ?_) | refine ia_op (oa_subW rfl rfl (wrap_i64 (by omega) (by omega)) ?_) | refine ia_op (oa_subW rfl rfl (wrap_u64 (by omega) (by omega)) ?_) | refine ia_op (oa_subW rfl rfl (wrap_u8 (by omega) (by omega)) ?_) | refine ia_op (oa_not rfl ?_) | refine ia_op (oa_nilCheck rfl ?_) | refine ia_op (oa_extract rfl rfl ?_) | refine ia_op (oa_convW UnF.h UnF.h rfl (wrap_i64 (by omega) (by omega)) ?_) | refine ia_op (oa_convW UnF.h UnF.h rfl (wrap_u64 (by omega) (by omega)) ?_) | refine ia_op (oa_convW UnF.h UnF.h rfl (wrap_u8 (by omega) (by omega)) ?_)))
  refine ia_nil (va_seq (va_seqr ?_))
  refine ia_op (oa_move rfl ?_)
  refine ia_op (oa_lssW rfl rfl (decide_eq_false (by omega)) (ia_nil (va_condF rfl (va_skip (va_seqr ?_)))))
  refine ia_op (oa_move rfl ?_)
  refine ia_op (oa_convW (c := (n : Int)) UnF.h UnF.h rfl (wrap_u64 (by omega) (by omega)) ?_)
  refine ia_op (oa_assign rfl (ia_nil (va_ret ⟨_, rfl, hQ⟩)))
set_option maxHeartbeats 0 in
/-- the document's text of a number that is not below 0 -/
theorem RText_ok (n : Nat) (hn : n < 9223372036854775808) (hQ : ∀ H', Keep Non H H' → Q (S (textN n)) H') : WpF Tryz.prog tb gl 39 [.int .i64 (n : Int)] H Q := by
  refine fa Tryz.func39 b39_eq v39_eq r39_eq (.inr (by simp)) ?_
  refine va_seqr ?_
  (repeat (first | refine ia_op (oa_move rfl ?_) | refine ia_op (oa_assign rfl ?_) | refine ia_op (oa_lss rfl rfl ?_) | refine ia_op (oa_gtr rfl rfl ?_) | refine ia_op (oa_leq rfl rfl ?_) | refine ia_op (oa_geq rfl rfl ?_) | refine ia_op (oa_eql rfl rfl ?_) | refine ia_op (oa_neq rfl rfl ?_) | refine ia_op (oa_addW rfl rfl (wrap_i64 (by omega) (by omega)) ?_) | refine ia_op (oa_addW rfl rfl (wrap_u64 (by omega) (by omega)) ?_) | refine ia_op (oa_addW rfl rfl (wrap_u8 (by omega) (by omega)) ?_) | refine ia_op (oa_subW rfl rfl (wrap_i64 (by omega) (by omega)) ?_) | refine ia_op (oa_subW rfl rfl (wrap_u64 (by omega) (by omega)) ?_) | refine ia_op (oa_subW rfl rfl (wrap_u8 (by omega) (by omega)) ?_) | refine ia_op (oa_not rfl ?_) | refine ia_op (oa_nilCheck rfl ?_) | refine ia_op (oa_extract rfl rfl ?_) | refine ia_op (oa_convW UnF.h UnF.h rfl (wrap_i64 (by omega) (by omega)) ?_) | refine ia_op (oa_convW UnF.h UnF.h rfl (wrap_u64 (by omega) (by omega)) ?_) | refine ia_op (oa_convW UnF.h UnF.h rfl (wrap_u8 (by omega) (by omega)) ?_)))
  refine ia_nil (va_seqr ?_)
  (repeat (first | refine ia_op (oa_move rfl ?_) | refine ia_op (oa_assign rfl ?_) | refine ia_op (oa_lss rfl rfl ?_) | refine ia_op (oa_gtr rfl rfl ?_) | refine ia_op (oa_leq rfl rfl ?_) | refine ia_op (oa_geq rfl rfl ?_) | refine ia_op (oa_eql rfl rfl ?_) | refine ia_op (oa_neq rfl rfl ?_) | refine ia_op (oa_addW rfl rfl (wrap_i64 (by omega) (by omega)) ?_) | refine ia_op (oa_addW rfl rfl (wrap_u64 (by omega) (by omega)) ?_) | refine ia_op (oa_addW rfl rfl (wrap_u8 (by omega) (by omega)) ?_) | refine ia_op (oa_subW rfl rfl (wrap_i64 (by omega) (by omega)) ?_) | refine ia_op (oa_subW rfl rfl (wrap_u64 (by omega) (by omega)) ?_) | refine ia_op (oa_subW rfl rfl (wrap_u8 (by omega) (by omega)) ?_) | refine ia_op (oa_not rfl ?_) | refine ia_op (oa_nilCheck rfl ?_) | refine ia_op (oa_extract rfl rfl ?_) | refine ia_op (oa_convW UnF.h UnF.h rfl (wrap_i64 (by omega) (by omega)) ?_) | refine ia_op (oa_convW UnF.h UnF.h rfl (wrap_u64 (by omega) (by omega)) ?_) | refine ia_op (oa_convW UnF.h UnF.h rfl (wrap_u8 (by omega) (by omega)) ?_)))
  refine ia_nil (va_seqr ?_)
  refine ia_op (oa_move rfl ?_)
  refine ia_op (oa_call rfl rfl rfl (size_ok n hn ?_))
  (repeat (first | refine ia_op (oa_move rfl ?_) | refine ia_op (oa_assign rfl ?_) | refine ia_op (oa_lss rfl rfl ?_) | refine ia_op (oa_gtr rfl rfl ?_) | refine ia_op (oa_leq rfl rfl ?_) | refine ia_op (oa_geq rfl rfl ?_) | refine ia_op (oa_eql rfl rfl ?_) | refine ia_op (oa_neq rfl rfl ?_) | refine ia_op (oa_addW rfl rfl (wrap_i64 (by omega) (by omega)) ?_) | refine ia_op (oa_addW rfl rfl (wrap_u64 (by omega) (by omega)) ?_) | refine ia_op (oa_addW rfl rfl (wrap_u8 (by omega) (by omega)) ?_) | refine ia_op (oa_subW rfl rfl (wrap_i64 (by omega) (by omega)) ?_) | refine ia_op (oa_subW rfl rfl (wrap_u64 (by omega) (by omega)) ?_) | refine ia_op (oa_subW rfl rfl (wrap_u8 (by omega) (by omega)) ?_) | refine ia_op (oa_not rfl ?_) | refine ia_op (oa_nilCheck rfl ?_) | refine ia_op (oa_extract rfl rfl ?_) | refine ia_op (oa_convW UnF.h UnF.h rfl (wrap_i64 (by omega) (by omega)) ?_) | refine ia_op (oa_convW UnF.h UnF.h rfl (wrap_u64 (by omega) (by omega)) ?_) | refine ia_op (oa_convW UnF.h UnF.h rfl (wrap_u8 (by omega) (by omega)) ?_)))
  refine ia_nil (va_seq (va_block ?_))
  have hp : (10 : Nat) ^ 19 = 10000000000000000000 := by rfl
  have hlen := textN_len 19 n (by rw [hp]; omega) (by omega)
  clear hp
  refine va_loop (fun (a : Nat × List UInt8) => [(0, .int .i64 (n : Int)), (3, S a.2), (4, .int .u64 (a.1 : Int))])
    (fun a H' => Keep Non H H' ∧ a.1 ≤ n ∧ ((a.2 = [] ∧ a.1 = n) ∨ (a.2 ≠ [] ∧ a.1 = 0 ∧ textN n = a.2) ∨ (a.2 ≠ [] ∧ a.1 ≠ 0 ∧ textN n = textN a.1 ++ a.2))) (fun a => if a.2 = [] then a.1 + 1 else a.1) ?_ (n, []) _ H ⟨rfl, rfl, rfl, trivial⟩ ⟨.refl _ _, Nat.le_refl _, .inl ⟨rfl, rfl⟩⟩
  rintro ⟨u, s⟩ H1 ⟨hk, hu, hI⟩
  simp only at hu hI
  have hsl : s.length ≤ 19 := by
    rcases hI with ⟨rfl, _⟩ | ⟨_, _, h⟩ | ⟨_, _, h⟩
    · simp
    · rw [← h]; exact hlen
    · rw [h, List.length_append] at hlen; omega
  -- a round
  have body : ∀ l2 : Fm, (s = [] ∨ u ≠ 0) → Sb [(0, .int .i64 (n : Int)), (3, S s), (4, .int .u64 (u : Int))] l2 → VA Tryz.prog tb gl (.block 1 v39k0) l2 H1 (roundA (fun (a : Nat × List UInt8) => [(0, .int .i64 (n : Int)), (3, S a.2), (4, .int .u64 (a.1 : Int))])
      (fun a H' => Keep Non H H' ∧ a.1 ≤ n ∧ ((a.2 = [] ∧ a.1 = n) ∨ (a.2 ≠ [] ∧ a.1 = 0 ∧ textN n = a.2) ∨ (a.2 ≠ [] ∧ a.1 ≠ 0 ∧ textN n = textN a.1 ++ a.2))) (fun a => if a.2 = [] then a.1 + 1 else a.1) (u, s) (exitA 0 (seqA Tryz.prog tb gl v39t4 (leftA [.tmp 2] Q)))) := by
    intro l2 hor h2
    refine VA.sub h2 (va_block (va_seqr ?_))
    refine ia_op (oa_move rfl ?_)
    refine ia_op (oa_remW (c := ((u % 10 : Nat) : Int)) rfl rfl (by decide) rfl ?_)
    refine ia_op (oa_addW (c := ((48 + u % 10 : Nat) : Int)) rfl rfl (wrapE_u64 (by omega) (by omega) (by omega)) ?_)
    (repeat (first | refine ia_op (oa_move rfl ?_) | refine ia_op (oa_assign rfl ?_) | refine ia_op (oa_lss rfl rfl ?_) | refine ia_op (oa_gtr rfl rfl ?_) | refine ia_op (oa_leq rfl rfl ?_) | refine ia_op (oa_geq rfl rfl ?_) | refine ia_op (oa_eql rfl rfl ?_) | refine ia_op (oa_neq rfl rfl ?_) | refine ia_op (oa_addW rfl rfl (wrap_i64 (by omega) (by omega)) ?_) | refine ia_op (oa_addW rfl rfl (wrap_u64 (by omega) (by omega)) ?_) | refine ia_op (oa_addW rfl rfl (wrap_u8 (by omega) (by omega)) ?_) | refine ia_op (oa_subW rfl rfl (wrap_i64 (by omega) (by omega)) ?_) | refine ia_op (oa_subW rfl rfl (wrap_u64 (by omega) (by omega)) ?_) | refine ia_op (oa_subW rfl rfl (wrap_u8 (by omega) (by omega)) ?_) | refine ia_op (oa_not rfl ?_) | refine ia_op (oa_nilCheck rfl ?_) | refine ia_op (oa_extract rfl rfl ?_) | refine ia_op (oa_convW UnF.h UnF.h rfl (wrap_i64 (by omega) (by omega)) ?_) | refine ia_op (oa_convW UnF.h UnF.h rfl (wrap_u64 (by omega) (by omega)) ?_) | refine ia_op (oa_convW UnF.h UnF.h rfl (wrap_u8 (by omega) (by omega)) ?_)))
    refine ia_op (oa_newSlice (n := 1) ElF.h (by decide) rfl rfl fun H2 hk2 hr2 => ?_)
    have hu8 : AV.int .u8 ((48 + u % 10 : Nat) : Int) = u8 (UInt8.ofNat (48 + u % 10)) := by
      have h1 : (UInt8.ofNat (48 + u % 10)).toNat = 48 + u % 10 := by rw [UInt8.toNat_ofNat']; omega
      simp only [u8, h1]
    rw [hu8] at hr2
    refine ia_op (oa_toS (bs := [UInt8.ofNat (48 + u % 10)]) UnF.h UnF.h UnF.h rfl (IsRow.sl (es := 1) (n := 1) hr2 rfl (Nat.le_refl 1)) ?_)
    refine ia_op (oa_move rfl ?_)
    refine ia_op (oa_sadd rfl rfl (by simp only [List.length_singleton]; have : pow63 = 9223372036854775808 := rfl; omega) ?_)
    refine ia_op (oa_assign rfl (ia_nil (va_reg ?_)))
    refine ia_op (oa_move rfl ?_)
    refine ia_op (oa_quoW (c := ((u / 10 : Nat) : Int)) rfl rfl (by decide) (wrap_u64 (z := ((u / 10 : Nat) : Int)) (by omega) (by omega)) ?_)
    refine ia_op (oa_assign rfl (ia_nil ⟨(u / 10, UInt8.ofNat (48 + u % 10) :: s), ?_, ⟨rfl, rfl, rfl, trivial⟩, hk.trans0 hk2, by simp only; omega, ?_⟩))
    · show (if UInt8.ofNat (48 + u % 10) :: s = [] then u / 10 + 1 else u / 10) < (if s = [] then u + 1 else u)
      rw [if_neg (by simp)]
      rcases hor with h | h
      · rw [if_pos h]; omega
      · split <;> omega
    · have ht : textN n = textN u ++ s := by
        rcases hI with ⟨h1, h3⟩ | ⟨h1, h3, _⟩ | ⟨_, _, h3⟩
        · rw [h1, h3, List.append_nil]
        · rcases hor with h | h
          · exact absurd h h1
          · exact absurd h3 h
        · exact h3
      simp only
      by_cases h10 : u < 10
      · refine .inr (.inl ⟨by simp, by omega, ?_⟩)
        rw [ht, textN_small h10, show u % 10 = u by omega]; rfl
      · refine .inr (.inr ⟨by simp, by omega, ?_⟩)
        rw [ht, textN_big h10, List.append_assoc]; rfl
  refine va_seq (va_seqr ?_)
  refine ia_op (oa_move rfl ?_)
  by_cases hs : s = []
  · refine ia_op (oa_seqlW (q := []) rfl rfl (decide_eq_true hs) ?_)
    refine ia_op (oa_move rfl ?_)
    refine ia_gdN rfl (ia_gdN rfl ?_)
    refine ia_op (oa_pickT rfl rfl rfl (ia_nil (va_condT rfl (va_skip ?_))))
    exact body _ (.inl hs) ⟨rfl, rfl, rfl, trivial⟩
  refine ia_op (oa_seqlW (q := []) rfl rfl (decide_eq_false hs) ?_)
  refine ia_op (oa_move rfl ?_)
  refine ia_gdY rfl (oa_move rfl ?_)
  by_cases hu0 : u = 0
  · refine ia_gdY rfl (oa_gtrW rfl rfl (decide_eq_false (by omega)) ?_)
    refine ia_op (oa_pickF rfl rfl (ia_nil (va_condF rfl (va_exit ?_))))
    have hfin : textN n = s := by
      rcases hI with ⟨h1, _⟩ | ⟨_, _, h⟩ | ⟨_, h3, _⟩
      · exact absurd h1 hs
      · exact h
      · exact absurd hu0 h3
    refine va_seq (va_seqr ?_)
    refine ia_op (oa_move rfl ?_)
    refine ia_op (oa_lssW rfl rfl (decide_eq_false (by omega)) (ia_nil (va_condF rfl (va_skip (va_seqr ?_)))))
    refine ia_op (oa_move rfl ?_)
    refine ia_op (oa_assign rfl (ia_nil (va_ret ⟨_, rfl, ?_⟩)))
    rw [← hfin]
    exact hQ _ hk
  · refine ia_gdY rfl (oa_gtrW rfl rfl (decide_eq_true (by omega)) ?_)
    refine ia_op (oa_pickF rfl rfl (ia_nil (va_condT rfl (va_skip ?_))))
    exact body _ (.inr hu0) ⟨rfl, rfl, rfl, trivial⟩
end
end Go.Proofs.YtalnmaalhocjfaaGreatDoor
