/-
  num.Text: what it writes of a number. No conditions but the number's range.
-/
import Derived.Test.YtalnmaalhocjfaaGreatDoorProg
import Derived.Test.YtalnmaalhocjfaaGreatDoorCore8
import Derived.KernelRfl
namespace Go.Proofs.YtalnmaalhocjfaaGreatDoor
open Go Go.Proofs.YtalnmaalhocjfaaGreatDoor.Eng
/-! facts about types -/
theorem ze_181 : zeroOf Tryz.prog 181 = some (.agg [.int .u8 0, .int .u8 0, .int .u8 0, .int .u8 0, .int .u8 0, .int .u8 0, .int .u8 0, .int .u8 0, .int .u8 0, .int .u8 0, .int .u8 0, .int .u8 0, .int .u8 0, .int .u8 0, .int .u8 0, .int .u8 0, .int .u8 0, .int .u8 0, .int .u8 0, .int .u8 0]) := by kernel_rfl
instance ize_181 : ZeF Tryz.prog 181 (.agg [.int .u8 0, .int .u8 0, .int .u8 0, .int .u8 0, .int .u8 0, .int .u8 0, .int .u8 0, .int .u8 0, .int .u8 0, .int .u8 0, .int .u8 0, .int .u8 0, .int .u8 0, .int .u8 0, .int .u8 0, .int .u8 0, .int .u8 0, .int .u8 0, .int .u8 0, .int .u8 0]) := ⟨ze_181⟩
theorem un_2 : Tryz.prog.underlying 2 = some (.int .i64) := by kernel_rfl
instance iun_2 : UnF Tryz.prog 2 (.int .i64) := ⟨un_2⟩
theorem un_182 : Tryz.prog.underlying 182 = some (.int .u64) := by kernel_rfl
instance iun_182 : UnF Tryz.prog 182 (.int .u64) := ⟨un_182⟩
theorem un_3 : Tryz.prog.underlying 3 = some (.int .i64) := by kernel_rfl
instance iun_3 : UnF Tryz.prog 3 (.int .i64) := ⟨un_3⟩
theorem un_5 : Tryz.prog.underlying 5 = some (.int .u8) := by kernel_rfl
instance iun_5 : UnF Tryz.prog 5 (.int .u8) := ⟨un_5⟩
theorem un_181 : Tryz.prog.underlying 181 = some (.array 20 5) := by kernel_rfl
instance iun_181 : UnF Tryz.prog 181 (.array 20 5) := ⟨un_181⟩
theorem sz_5 : szOf Tryz.prog 5 = some 1 := by kernel_rfl
instance isz_5 : SzF Tryz.prog 5 1 := ⟨sz_5⟩
theorem un_183 : Tryz.prog.underlying 183 = some (.slice 5) := by kernel_rfl
instance iun_183 : UnF Tryz.prog 183 (.slice 5) := ⟨un_183⟩
theorem un_9 : Tryz.prog.underlying 9 = some (.string) := by kernel_rfl
instance iun_9 : UnF Tryz.prog 9 (.string) := ⟨un_9⟩
/-! f36: parallax/num.Text, parameters #[2] -/
def v36h4 : CV := .seq (.reg [.op (some 8) (.move (.tmp 0)),
    .op (some 9) (.binOp .lss 2 (.tmp 8) (.const (.int .i64 0)) 2)])
  (.cond (.tmp 9) (.reg [.op (some 10) (.move (.tmp 5)),
    .op (some 11) (.unOp .neg 182 (.tmp 10)),
    .op (some 5) (.assign (.tmp 11))]) (.skip))
def v36k0t3 : CV := .seq (.reg [.op (some 22) (.move (.tmp 5)),
    .op (some 23) (.binOp .eql 182 (.tmp 22) (.const (.int .u64 0)) 182)])
  (.cond (.tmp 23) (.exit 0) (.skip))
def v36k0t2 : CV := .seq (.reg [.op (some 20) (.move (.tmp 5)),
    .op (some 21) (.binOp .quo 182 (.tmp 20) (.const (.int .u64 10)) 182),
    .op (some 5) (.assign (.tmp 21))]) v36k0t3
def v36k0t1 : CV := .seq (.reg [.op (some 14) (.move (.tmp 4)),
    .op (some 15) (.move (.tmp 5)),
    .op (some 16) (.binOp .rem 182 (.tmp 15) (.const (.int .u64 10)) 182),
    .op (some 17) (.binOp .add 182 (.const (.int .u64 48)) (.tmp 16) 182),
    .op (some 18) (.convert 182 5 (.tmp 17)),
    .op (some 19) (.indexAddr 181 (.tmp 3) (.tmp 14)),
    .op none (.store 5 (.tmp 19) (.tmp 18))]) v36k0t2
def v36k0 : CV := .seq (.reg [.op (some 12) (.move (.tmp 4)),
    .op (some 13) (.binOp .sub 3 (.tmp 12) (.const (.int .i64 1)) 3),
    .op (some 4) (.assign (.tmp 13))]) v36k0t1
def v36l0 : CV := .block 1 v36k0
def v36c1 : CV := .seq (.reg [.op (some 26) (.move (.tmp 4)),
    .op (some 27) (.binOp .sub 3 (.tmp 26) (.const (.int .i64 1)) 3),
    .op (some 4) (.assign (.tmp 27))])
  (.reg [.op (some 28) (.move (.tmp 4)),
    .op (some 29) (.indexAddr 181 (.tmp 3) (.tmp 28)),
    .op none (.store 5 (.tmp 29) (.const (.int .u8 45)))])
def v36h6 : CV := .seq (.reg [.op (some 24) (.move (.tmp 0)),
    .op (some 25) (.binOp .lss 2 (.tmp 24) (.const (.int .i64 0)) 2)])
  (.cond (.tmp 25) v36c1 (.skip))
def v36t7 : CV := .seq (.reg [.op (some 30) (.move (.tmp 4)),
    .op (some 31) (.slice 181 (.tmp 3) (some (.tmp 30)) none none),
    .op (some 32) (.convert 183 9 (.tmp 31)),
    .op (some 2) (.assign (.tmp 32))])
  (.ret)
def v36t6 : CV := .seq v36h6 v36t7
def v36t5 : CV := .seq (.block 0 (.loop v36l0)) v36t6
def v36t4 : CV := .seq v36h4 v36t5
def v36t3 : CV := .seq (.reg [.op (some 6) (.move (.tmp 0)),
    .op (some 7) (.convert 2 182 (.tmp 6)),
    .op (some 5) (.assign (.tmp 7))]) v36t4
def v36t2 : CV := .seq (.reg [.op (some 4) (.assign (.const (.int .i64 20)))]) v36t3
def v36t1 : CV := .seq (.reg [.op (some 3) (.alloc 181)]) v36t2
def v36 : CV := .seq (.reg [.op (some 2) (.assign (.const (.string ⟨⟨[]⟩⟩)))]) v36t1
noncomputable def b36 : Code := Tryz.f36.body.getD .skip
theorem b36_eq : Tryz.f36.body = some b36 := by kernel_rfl
theorem v36_eq : viewC Tryz.prog b36 = some v36 := by kernel_rfl
theorem r36_eq : Tryz.f36.results.toList = [.tmp 2] := by kernel_rfl

/-! ### the plain law -/
def textN (u : Nat) : List UInt8 := if u < 10 then [UInt8.ofNat (48 + u)] else textN (u / 10) ++ [UInt8.ofNat (48 + u % 10)]
termination_by u
decreasing_by omega
theorem textN_small {u : Nat} (h : u < 10) : textN u = [UInt8.ofNat (48 + u)] := by rw [textN, if_pos h]
theorem textN_big {u : Nat} (h : ¬ u < 10) : textN u = textN (u / 10) ++ [UInt8.ofNat (48 + u % 10)] := by rw [textN, if_neg h]
theorem textN_len : ∀ (k u : Nat), u < 10 ^ k → 0 < k → (textN u).length ≤ k
  | 0, _, _, h => absurd h (by omega)
  | k + 1, u, h, _ => by
    by_cases hu : u < 10
    · rw [textN_small hu]; simp
    · rw [textN_big hu, List.length_append, List.length_singleton]
      have h1 : 0 < k := by
        rcases Nat.eq_zero_or_pos k with h0 | h0
        · subst h0; simp at h; omega
        · exact h0
      have : u / 10 < 10 ^ k := by rw [Nat.pow_succ] at h; omega
      have := textN_len k (u / 10) this h1
      omega
theorem textN_pos (u : Nat) : 0 < (textN u).length := by
  by_cases hu : u < 10
  · rw [textN_small hu]; simp
  · rw [textN_big hu, List.length_append, List.length_singleton]; omega
def textZ (n : Int) : List UInt8 := if n < 0 then 45 :: textN n.natAbs else textN n.natAbs
theorem rep_set (k : Nat) (z x : AV) (r : List AV) : (List.replicate (k + 1) z ++ r).set k x = List.replicate k z ++ x :: r := by
  rw [List.replicate_succ', List.append_assoc, List.set_append, List.length_replicate, if_neg (Nat.lt_irrefl k), Nat.sub_self]
  rfl
/-! ### the walk -/
set_option maxHeartbeats 0 in
theorem Text_loop {tb : List FuncId} {gl : List (List AV)} {n : Int} {b : Nat} {H0 : Heap} (hb0 : H0.nx ≤ b) {w0 : Nat} (hw : w0 < 18446744073709551616) {Q : Ex → Fm → Heap → Prop}
    (hQ : ∀ (l : Fm) H (k : Nat), Sb [(0, .int .i64 n), (3, .ptr b 0), (4, .int .i64 (k : Int))] l → Keep Non H0 H → IsRow H b (List.replicate k (AV.int .u8 0) ++ (textN w0).map u8) false false → k + (textN w0).length = 20 → Q (.exit 0) l H)
    {l : Fm} {H : Heap} (hl : Sb [(0, .int .i64 n), (3, .ptr b 0), (4, .int .i64 20), (5, .int .u64 (w0 : Int))] l) (hk : Keep Non H0 H) (hr : IsRow H b (List.replicate 20 (AV.int .u8 0)) false false) : VA Tryz.prog tb gl (.loop v36l0) l H Q := by
  refine va_loop (fun (a : Nat × Nat × List UInt8) => [(0, .int .i64 n), (3, .ptr b 0), (4, .int .i64 (a.1 : Int)), (5, .int .u64 (a.2.1 : Int))]) (fun a H => Keep Non H0 H ∧ IsRow H b (List.replicate a.1 (AV.int .u8 0) ++ a.2.2.map u8) false false ∧
    textN w0 = textN a.2.1 ++ a.2.2 ∧ a.1 + a.2.2.length = 20 ∧ a.2.1 ≤ w0) (fun a => a.1) ?_ (20, w0, []) l H hl ⟨hk, by simpa using hr, by simp, rfl, Nat.le_refl _⟩
  rintro ⟨k, u, ds⟩ H ⟨hk, hr, ht, hd, hu⟩
  have hp : (10 : Nat) ^ 20 = 100000000000000000000 := by rfl
  have hlen := textN_len 20 w0 (by rw [hp]; omega) (by omega)
  clear hp
  have hpos := textN_pos u
  rw [ht, List.length_append] at hlen
  simp only at hk hr ht hd hu hlen hpos
  obtain ⟨k, rfl⟩ : ∃ j, k = j + 1 := ⟨k - 1, by omega⟩
  refine va_block (va_seqr ?_)
  refine ia_op (oa_move rfl ?_)
  refine ia_op (oa_subW (c := (k : Int)) rfl rfl (wrapE_i64 (by omega) (by omega) (by omega)) ?_)
  (repeat (first | refine ia_op (oa_move rfl ?_) | refine ia_op (oa_assign rfl ?_) | refine ia_op (oa_lss rfl rfl ?_) | refine ia_op (oa_gtr rfl rfl ?_) | refine ia_op (oa_leq rfl rfl ?_) | refine ia_op (oa_geq rfl rfl ?_) | refine ia_op (oa_eql rfl rfl ?_) | refine ia_op (oa_neq rfl rfl ?_) | refine ia_op (oa_addW rfl rfl (wrap_i64 (by omega) (by omega)) ?_) | refine ia_op (oa_addW rfl rfl (wrap_u64 (by omega) (by omega)) ?_) | refine ia_op (oa_addW rfl rfl (wrap_u8 (by omega) (by omega)) ?_) | refine ia_op (oa_subW rfl rfl (wrap_i64 (by omega) (by omega)) ?_) | refine ia_op (oa_subW rfl rfl (wrap_u64 (by omega) (by omega)) ?_) | refine ia_op (oa_subW rfl rfl (wrap_u8 (by omega) (by omega)) ?_) | refine ia_op (oa_not rfl ?_) | refine ia_op (oa_nilCheck rfl ?_) | refine ia_op (oa_extract rfl rfl ?_) | refine ia_op (oa_convW UnF.h UnF.h rfl (wrap_i64 (by omega) (by omega)) ?_) | refine ia_op (oa_convW UnF.h UnF.h rfl (wrap_u64 (by omega) (by omega)) ?_) | refine ia_op (oa_convW UnF.h UnF.h rfl (wrap_u8 (by omega) (by omega)) ?_)))
  refine ia_nil (va_seqr ?_)
  refine ia_op (oa_move rfl (ia_op (oa_move rfl ?_)))
  refine ia_op (oa_remW (c := ((u % 10 : Nat) : Int)) rfl rfl (by decide) rfl ?_)
  refine ia_op (oa_addW (c := ((48 + u % 10 : Nat) : Int)) rfl rfl (wrapE_u64 (by omega) (by omega) (by omega)) ?_)
  (repeat (first | refine ia_op (oa_move rfl ?_) | refine ia_op (oa_assign rfl ?_) | refine ia_op (oa_lss rfl rfl ?_) | refine ia_op (oa_gtr rfl rfl ?_) | refine ia_op (oa_leq rfl rfl ?_) | refine ia_op (oa_geq rfl rfl ?_) | refine ia_op (oa_eql rfl rfl ?_) | refine ia_op (oa_neq rfl rfl ?_) | refine ia_op (oa_addW rfl rfl (wrap_i64 (by omega) (by omega)) ?_) | refine ia_op (oa_addW rfl rfl (wrap_u64 (by omega) (by omega)) ?_) | refine ia_op (oa_addW rfl rfl (wrap_u8 (by omega) (by omega)) ?_) | refine ia_op (oa_subW rfl rfl (wrap_i64 (by omega) (by omega)) ?_) | refine ia_op (oa_subW rfl rfl (wrap_u64 (by omega) (by omega)) ?_) | refine ia_op (oa_subW rfl rfl (wrap_u8 (by omega) (by omega)) ?_) | refine ia_op (oa_not rfl ?_) | refine ia_op (oa_nilCheck rfl ?_) | refine ia_op (oa_extract rfl rfl ?_) | refine ia_op (oa_convW UnF.h UnF.h rfl (wrap_i64 (by omega) (by omega)) ?_) | refine ia_op (oa_convW UnF.h UnF.h rfl (wrap_u64 (by omega) (by omega)) ?_) | refine ia_op (oa_convW UnF.h UnF.h rfl (wrap_u8 (by omega) (by omega)) ?_)))
  refine ia_op (oa_indexArr (j := k) UnF.h SzF.h rfl rfl rfl (by omega) ?_)
  refine ia_op (oa_store1 SzF.h rfl rfl rfl hr (by simp; omega) fun H1 hk1 hn1 hr1 => ?_)
  have h0 : 0 + k * 1 = k := by omega
  rw [h0, rep_set] at hr1
  have hu8 : AV.int .u8 ((48 + u % 10 : Nat) : Int) = u8 (UInt8.ofNat (48 + u % 10)) := by
    have h1 : (UInt8.ofNat (48 + u % 10)).toNat = 48 + u % 10 := by rw [UInt8.toNat_ofNat']; omega
    simp only [u8, h1]
  rw [hu8] at hr1
  have hK1 : Keep Non H0 H1 := hk.trans hk1 fun c hc => by subst hc; exact .inr hb0
  refine ia_nil (va_seqr ?_)
  refine ia_op (oa_move rfl ?_)
  refine ia_op (oa_quoW (c := ((u / 10 : Nat) : Int)) rfl rfl (by decide) (wrap_u64 (z := ((u / 10 : Nat) : Int)) (by omega) (by omega)) ?_)
  (repeat (first | refine ia_op (oa_move rfl ?_) | refine ia_op (oa_assign rfl ?_) | refine ia_op (oa_lss rfl rfl ?_) | refine ia_op (oa_gtr rfl rfl ?_) | refine ia_op (oa_leq rfl rfl ?_) | refine ia_op (oa_geq rfl rfl ?_) | refine ia_op (oa_eql rfl rfl ?_) | refine ia_op (oa_neq rfl rfl ?_) | refine ia_op (oa_addW rfl rfl (wrap_i64 (by omega) (by omega)) ?_) | refine ia_op (oa_addW rfl rfl (wrap_u64 (by omega) (by omega)) ?_) | refine ia_op (oa_addW rfl rfl (wrap_u8 (by omega) (by omega)) ?_) | refine ia_op (oa_subW rfl rfl (wrap_i64 (by omega) (by omega)) ?_) | refine ia_op (oa_subW rfl rfl (wrap_u64 (by omega) (by omega)) ?_) | refine ia_op (oa_subW rfl rfl (wrap_u8 (by omega) (by omega)) ?_) | refine ia_op (oa_not rfl ?_) | refine ia_op (oa_nilCheck rfl ?_) | refine ia_op (oa_extract rfl rfl ?_) | refine ia_op (oa_convW UnF.h UnF.h rfl (wrap_i64 (by omega) (by omega)) ?_) | refine ia_op (oa_convW UnF.h UnF.h rfl (wrap_u64 (by omega) (by omega)) ?_) | refine ia_op (oa_convW UnF.h UnF.h rfl (wrap_u8 (by omega) (by omega)) ?_)))
  refine ia_nil (va_seqr ?_)
  (repeat (first | refine ia_op (oa_move rfl ?_) | refine ia_op (oa_assign rfl ?_) | refine ia_op (oa_lss rfl rfl ?_) | refine ia_op (oa_gtr rfl rfl ?_) | refine ia_op (oa_leq rfl rfl ?_) | refine ia_op (oa_geq rfl rfl ?_) | refine ia_op (oa_eql rfl rfl ?_) | refine ia_op (oa_neq rfl rfl ?_) | refine ia_op (oa_addW rfl rfl (wrap_i64 (by omega) (by omega)) ?_) | refine ia_op (oa_addW rfl rfl (wrap_u64 (by omega) (by omega)) ?_) | refine ia_op (oa_addW rfl rfl (wrap_u8 (by omega) (by omega)) ?_) | refine ia_op (oa_subW rfl rfl (wrap_i64 (by omega) (by omega)) ?_) | refine ia_op (oa_subW rfl rfl (wrap_u64 (by omega) (by omega)) ?_) | refine ia_op (oa_subW rfl rfl (wrap_u8 (by omega) (by omega)) ?_) | refine ia_op (oa_not rfl ?_) | refine ia_op (oa_nilCheck rfl ?_) | refine ia_op (oa_extract rfl rfl ?_) | refine ia_op (oa_convW UnF.h UnF.h rfl (wrap_i64 (by omega) (by omega)) ?_) | refine ia_op (oa_convW UnF.h UnF.h rfl (wrap_u64 (by omega) (by omega)) ?_) | refine ia_op (oa_convW UnF.h UnF.h rfl (wrap_u8 (by omega) (by omega)) ?_)))
  refine ia_nil (va_cond rfl (fun hc => ?_) (fun hc => ?_))
  · simp only [decide_eq_true_eq] at hc
    have hu0 : u < 10 := by omega
    refine va_exit ?_
    have e : textN w0 = UInt8.ofNat (48 + u % 10) :: ds := by rw [ht, textN_small hu0, show u % 10 = u by omega]; rfl
    refine hQ _ _ k ⟨rfl, rfl, rfl, trivial⟩ hK1 ?_ ?_
    · rw [e]; exact hr1
    · rw [e]; simp; omega
  · simp only [decide_eq_false_iff_not] at hc
    have hu0 : ¬ u < 10 := by omega
    refine va_skip ⟨(k, u / 10, UInt8.ofNat (48 + u % 10) :: ds), Nat.lt_succ_self k, ⟨rfl, rfl, rfl, rfl, trivial⟩, hK1, hr1, ?_, ?_, ?_⟩
    · rw [ht, textN_big hu0, List.append_assoc]; rfl
    · simp; omega
    · show u / 10 ≤ w0
      omega
set_option maxHeartbeats 0 in
theorem Text_ok {tb : List FuncId} {gl : List (List AV)} (n : Int) (h1 : -9223372036854775808 ≤ n) (h2 : n < 9223372036854775808) (H : Heap) {Q : AV → Heap → Prop} (q : ∀ H', Keep Non H H' → Q (S (textZ n)) H') : WpF Tryz.prog tb gl 36 [.int .i64 n] H Q := by
  refine fa Tryz.func36 b36_eq v36_eq r36_eq (.inr (by simp)) ?_
  refine va_seqr ?_
  (repeat (first | refine ia_op (oa_move rfl ?_) | refine ia_op (oa_assign rfl ?_) | refine ia_op (oa_lss rfl rfl ?_) | refine ia_op (oa_gtr rfl rfl ?_) | refine ia_op (oa_leq rfl rfl ?_) | refine ia_op (oa_geq rfl rfl ?_) | refine ia_op (oa_eql rfl rfl ?_) | refine ia_op (oa_neq rfl rfl ?_) | refine ia_op (oa_addW rfl rfl (wrap_i64 (by omega) (by omega)) ?_) | refine ia_op (oa_addW rfl rfl (wrap_u64 (by omega) (by omega)) ?_) | refine ia_op (oa_addW rfl rfl (wrap_u8 (by omega) (by omega)) ?_) | refine ia_op (oa_subW rfl rfl (wrap_i64 (by omega) (by omega)) ?_) | refine ia_op (oa_subW rfl rfl (wrap_u64 (by omega) (by omega)) ?_) | refine ia_op (oa_subW rfl rfl (wrap_u8 (by omega) (by omega)) ?_) | refine ia_op (oa_not rfl ?_) | refine ia_op (oa_nilCheck rfl ?_) | refine ia_op (oa_extract rfl rfl ?_) | refine ia_op (oa_convW UnF.h UnF.h rfl (wrap_i64 (by omega) (by omega)) ?_) | refine ia_op (oa_convW UnF.h UnF.h rfl (wrap_u64 (by omega) (by omega)) ?_) | refine ia_op (oa_convW UnF.h UnF.h rfl (wrap_u8 (by omega) (by omega)) ?_)))
  refine ia_nil (va_seqr ?_)
  refine ia_op (oa_alloc ZeF.h fun H1 hk1 hr1 => ?_)
  refine ia_nil (va_seqr ?_)
  (repeat (first | refine ia_op (oa_move rfl ?_) | refine ia_op (oa_assign rfl ?_) | refine ia_op (oa_lss rfl rfl ?_) | refine ia_op (oa_gtr rfl rfl ?_) | refine ia_op (oa_leq rfl rfl ?_) | refine ia_op (oa_geq rfl rfl ?_) | refine ia_op (oa_eql rfl rfl ?_) | refine ia_op (oa_neq rfl rfl ?_) | refine ia_op (oa_addW rfl rfl (wrap_i64 (by omega) (by omega)) ?_) | refine ia_op (oa_addW rfl rfl (wrap_u64 (by omega) (by omega)) ?_) | refine ia_op (oa_addW rfl rfl (wrap_u8 (by omega) (by omega)) ?_) | refine ia_op (oa_subW rfl rfl (wrap_i64 (by omega) (by omega)) ?_) | refine ia_op (oa_subW rfl rfl (wrap_u64 (by omega) (by omega)) ?_) | refine ia_op (oa_subW rfl rfl (wrap_u8 (by omega) (by omega)) ?_) | refine ia_op (oa_not rfl ?_) | refine ia_op (oa_nilCheck rfl ?_) | refine ia_op (oa_extract rfl rfl ?_) | refine ia_op (oa_convW UnF.h UnF.h rfl (wrap_i64 (by omega) (by omega)) ?_) | refine ia_op (oa_convW UnF.h UnF.h rfl (wrap_u64 (by omega) (by omega)) ?_) | refine ia_op (oa_convW UnF.h UnF.h rfl (wrap_u8 (by omega) (by omega)) ?_)))
  refine ia_nil (va_seqr ?_)
  refine ia_op (oa_move rfl ?_)
  refine ia_op (oa_conv UnF.h UnF.h rfl ?_)
  (repeat (first | refine ia_op (oa_move rfl ?_) | refine ia_op (oa_assign rfl ?_) | refine ia_op (oa_lss rfl rfl ?_) | refine ia_op (oa_gtr rfl rfl ?_) | refine ia_op (oa_leq rfl rfl ?_) | refine ia_op (oa_geq rfl rfl ?_) | refine ia_op (oa_eql rfl rfl ?_) | refine ia_op (oa_neq rfl rfl ?_) | refine ia_op (oa_addW rfl rfl (wrap_i64 (by omega) (by omega)) ?_) | refine ia_op (oa_addW rfl rfl (wrap_u64 (by omega) (by omega)) ?_) | refine ia_op (oa_addW rfl rfl (wrap_u8 (by omega) (by omega)) ?_) | refine ia_op (oa_subW rfl rfl (wrap_i64 (by omega) (by omega)) ?_) | refine ia_op (oa_subW rfl rfl (wrap_u64 (by omega) (by omega)) ?_) | refine ia_op (oa_subW rfl rfl (wrap_u8 (by omega) (by omega)) ?_) | refine ia_op (oa_not rfl ?_) | refine ia_op (oa_nilCheck rfl ?_) | refine ia_op (oa_extract rfl rfl ?_) | refine ia_op (oa_convW UnF.h UnF.h rfl (wrap_i64 (by omega) (by omega)) ?_) | refine ia_op (oa_convW UnF.h UnF.h rfl (wrap_u64 (by omega) (by omega)) ?_) | refine ia_op (oa_convW UnF.h UnF.h rfl (wrap_u8 (by omega) (by omega)) ?_)))
  refine ia_nil (va_seq (va_seqr ?_))
  (repeat (first | refine ia_op (oa_move rfl ?_) | refine ia_op (oa_assign rfl ?_) | refine ia_op (oa_lss rfl rfl ?_) | refine ia_op (oa_gtr rfl rfl ?_) | refine ia_op (oa_leq rfl rfl ?_) | refine ia_op (oa_geq rfl rfl ?_) | refine ia_op (oa_eql rfl rfl ?_) | refine ia_op (oa_neq rfl rfl ?_) | refine ia_op (oa_addW rfl rfl (wrap_i64 (by omega) (by omega)) ?_) | refine ia_op (oa_addW rfl rfl (wrap_u64 (by omega) (by omega)) ?_) | refine ia_op (oa_addW rfl rfl (wrap_u8 (by omega) (by omega)) ?_) | refine ia_op (oa_subW rfl rfl (wrap_i64 (by omega) (by omega)) ?_) | refine ia_op (oa_subW rfl rfl (wrap_u64 (by omega) (by omega)) ?_) | refine ia_op (oa_subW rfl rfl (wrap_u8 (by omega) (by omega)) ?_) | refine ia_op (oa_not rfl ?_) | refine ia_op (oa_nilCheck rfl ?_) | refine ia_op (oa_extract rfl rfl ?_) | refine ia_op (oa_convW UnF.h UnF.h rfl (wrap_i64 (by omega) (by omega)) ?_) | refine ia_op (oa_convW UnF.h UnF.h rfl (wrap_u64 (by omega) (by omega)) ?_) | refine ia_op (oa_convW UnF.h UnF.h rfl (wrap_u8 (by omega) (by omega)) ?_)))
  refine ia_nil ?_
  have hw : n.natAbs < 18446744073709551616 := by omega
  have fin : ∀ (l : Fm) (H3 : Heap) (k : Nat) (bs : List UInt8), Sb [(3, .ptr H.nx 0), (4, .int .i64 (k : Int))] l → Keep Non H H3 → IsRow H3 H.nx (List.replicate k (AV.int .u8 0) ++ bs.map u8) false false → k + bs.length = 20 → 0 < bs.length → bs = textZ n → VA Tryz.prog tb gl v36t7 l H3 (leftA [.tmp 2] Q) := by
    intro l H3 k bs hl hk hr hd hp hb
    refine VA.sub hl (va_seqr ?_)
    refine ia_op (oa_move rfl ?_)
    refine ia_op (oa_cutArr (a := k) (c := 20) UnF.h SzF.h rfl (bndA_of rfl rfl) rfl (by omega) (by omega) (by omega) ?_)
    have hs : IsSl H3 (.sl H.nx (0 + k * 1) (20 - k) (20 - k)) 1 (20 - k) (bs.map u8) := by
      refine ⟨by rw [List.length_map]; omega, .inr (.inr ⟨H.nx, 0 + k * 1, _, false, false, .inr ⟨_, rfl, Nat.le_refl _⟩, hr, fun j hj => ?_⟩)⟩
      · rw [List.getElem?_append_right (by rw [List.length_replicate]; omega), List.length_replicate]
        congr 1
        omega
    refine ia_op (oa_toS UnF.h UnF.h UnF.h rfl hs ?_)
    (repeat (first | refine ia_op (oa_move rfl ?_) | refine ia_op (oa_assign rfl ?_) | refine ia_op (oa_lss rfl rfl ?_) | refine ia_op (oa_gtr rfl rfl ?_) | refine ia_op (oa_leq rfl rfl ?_) | refine ia_op (oa_geq rfl rfl ?_) | refine ia_op (oa_eql rfl rfl ?_) | refine ia_op (oa_neq rfl rfl ?_) | refine ia_op (oa_addW rfl rfl (wrap_i64 (by omega) (by omega)) ?_) | refine ia_op (oa_addW rfl rfl (wrap_u64 (by omega) (by omega)) ?_) | refine ia_op (oa_addW rfl rfl (wrap_u8 (by omega) (by omega)) ?_) | refine ia_op (oa_subW rfl rfl (wrap_i64 (by omega) (by omega)) ?_) | refine ia_op (oa_subW rfl rfl (wrap_u64 (by omega) (by omega)) ?_) | refine ia_op (oa_subW rfl rfl (wrap_u8 (by omega) (by omega)) ?_) | refine ia_op (oa_not rfl ?_) | refine ia_op (oa_nilCheck rfl ?_) | refine ia_op (oa_extract rfl rfl ?_) | refine ia_op (oa_convW UnF.h UnF.h rfl (wrap_i64 (by omega) (by omega)) ?_) | refine ia_op (oa_convW UnF.h UnF.h rfl (wrap_u64 (by omega) (by omega)) ?_) | refine ia_op (oa_convW UnF.h UnF.h rfl (wrap_u8 (by omega) (by omega)) ?_)))
    refine ia_nil (va_ret ⟨_, rfl, ?_⟩)
    rw [hb]
    exact q H3 hk
  have main : ∀ l : Fm, Sb [(0, .int .i64 n), (3, .ptr H.nx 0), (4, .int .i64 20), (5, .int .u64 (n.natAbs : Int))] l → VA Tryz.prog tb gl v36t5 l H1 (leftA [.tmp 2] Q) := by
    intro l hl
    refine va_seq (va_block (Text_loop (H0 := H) (Nat.le_refl _) hw (fun l H2 k hl hk2 hr2 hd => ?_) hl hk1 hr1))
    have hp : (10 : Nat) ^ 19 = 10000000000000000000 := by rfl
    have hlen := textN_len 19 n.natAbs (by rw [hp]; omega) (by omega)
    clear hp
    have hpos := textN_pos n.natAbs
    refine VA.sub hl (va_seq (va_seqr ?_))
    (repeat (first | refine ia_op (oa_move rfl ?_) | refine ia_op (oa_assign rfl ?_) | refine ia_op (oa_lss rfl rfl ?_) | refine ia_op (oa_gtr rfl rfl ?_) | refine ia_op (oa_leq rfl rfl ?_) | refine ia_op (oa_geq rfl rfl ?_) | refine ia_op (oa_eql rfl rfl ?_) | refine ia_op (oa_neq rfl rfl ?_) | refine ia_op (oa_addW rfl rfl (wrap_i64 (by omega) (by omega)) ?_) | refine ia_op (oa_addW rfl rfl (wrap_u64 (by omega) (by omega)) ?_) | refine ia_op (oa_addW rfl rfl (wrap_u8 (by omega) (by omega)) ?_) | refine ia_op (oa_subW rfl rfl (wrap_i64 (by omega) (by omega)) ?_) | refine ia_op (oa_subW rfl rfl (wrap_u64 (by omega) (by omega)) ?_) | refine ia_op (oa_subW rfl rfl (wrap_u8 (by omega) (by omega)) ?_) | refine ia_op (oa_not rfl ?_) | refine ia_op (oa_nilCheck rfl ?_) | refine ia_op (oa_extract rfl rfl ?_) | refine ia_op (oa_convW UnF.h UnF.h rfl (wrap_i64 (by omega) (by omega)) ?_) | refine ia_op (oa_convW UnF.h UnF.h rfl (wrap_u64 (by omega) (by omega)) ?_) | refine ia_op (oa_convW UnF.h UnF.h rfl (wrap_u8 (by omega) (by omega)) ?_)))
    refine ia_nil (va_cond rfl (fun hc => ?_) (fun hc => ?_))
    · have hc : n < 0 := by simpa using hc
      obtain ⟨k, rfl⟩ : ∃ j, k = j + 1 := ⟨k - 1, by omega⟩
      refine va_seqr ?_
      refine ia_op (oa_move rfl ?_)
      refine ia_op (oa_subW (c := (k : Int)) rfl rfl (wrapE_i64 (by omega) (by omega) (by omega)) ?_)
      (repeat (first | refine ia_op (oa_move rfl ?_) | refine ia_op (oa_assign rfl ?_) | refine ia_op (oa_lss rfl rfl ?_) | refine ia_op (oa_gtr rfl rfl ?_) | refine ia_op (oa_leq rfl rfl ?_) | refine ia_op (oa_geq rfl rfl ?_) | refine ia_op (oa_eql rfl rfl ?_) | refine ia_op (oa_neq rfl rfl ?_) | refine ia_op (oa_addW rfl rfl (wrap_i64 (by omega) (by omega)) ?_) | refine ia_op (oa_addW rfl rfl (wrap_u64 (by omega) (by omega)) ?_) | refine ia_op (oa_addW rfl rfl (wrap_u8 (by omega) (by omega)) ?_) | refine ia_op (oa_subW rfl rfl (wrap_i64 (by omega) (by omega)) ?_) | refine ia_op (oa_subW rfl rfl (wrap_u64 (by omega) (by omega)) ?_) | refine ia_op (oa_subW rfl rfl (wrap_u8 (by omega) (by omega)) ?_) | refine ia_op (oa_not rfl ?_) | refine ia_op (oa_nilCheck rfl ?_) | refine ia_op (oa_extract rfl rfl ?_) | refine ia_op (oa_convW UnF.h UnF.h rfl (wrap_i64 (by omega) (by omega)) ?_) | refine ia_op (oa_convW UnF.h UnF.h rfl (wrap_u64 (by omega) (by omega)) ?_) | refine ia_op (oa_convW UnF.h UnF.h rfl (wrap_u8 (by omega) (by omega)) ?_)))
      refine ia_nil (va_reg ?_)
      (repeat (first | refine ia_op (oa_move rfl ?_) | refine ia_op (oa_assign rfl ?_) | refine ia_op (oa_lss rfl rfl ?_) | refine ia_op (oa_gtr rfl rfl ?_) | refine ia_op (oa_leq rfl rfl ?_) | refine ia_op (oa_geq rfl rfl ?_) | refine ia_op (oa_eql rfl rfl ?_) | refine ia_op (oa_neq rfl rfl ?_) | refine ia_op (oa_addW rfl rfl (wrap_i64 (by omega) (by omega)) ?_) | refine ia_op (oa_addW rfl rfl (wrap_u64 (by omega) (by omega)) ?_) | refine ia_op (oa_addW rfl rfl (wrap_u8 (by omega) (by omega)) ?_) | refine ia_op (oa_subW rfl rfl (wrap_i64 (by omega) (by omega)) ?_) | refine ia_op (oa_subW rfl rfl (wrap_u64 (by omega) (by omega)) ?_) | refine ia_op (oa_subW rfl rfl (wrap_u8 (by omega) (by omega)) ?_) | refine ia_op (oa_not rfl ?_) | refine ia_op (oa_nilCheck rfl ?_) | refine ia_op (oa_extract rfl rfl ?_) | refine ia_op (oa_convW UnF.h UnF.h rfl (wrap_i64 (by omega) (by omega)) ?_) | refine ia_op (oa_convW UnF.h UnF.h rfl (wrap_u64 (by omega) (by omega)) ?_) | refine ia_op (oa_convW UnF.h UnF.h rfl (wrap_u8 (by omega) (by omega)) ?_)))
      refine ia_op (oa_indexArr (j := k) UnF.h SzF.h rfl rfl rfl (by omega) ?_)
      refine ia_op (oa_store1 SzF.h rfl rfl rfl hr2 (by simp; omega) fun H3 hk3 _ hr3 => ?_)
      have h0 : 0 + k * 1 = k := by omega
      rw [h0, rep_set] at hr3
      refine ia_nil (fin _ H3 k (45 :: textN n.natAbs) ⟨rfl, rfl, trivial⟩ (hk2.trans hk3 fun c hc => by subst hc; exact .inr (Nat.le_refl _)) hr3 (by simp; omega) (by simp) (by rw [textZ, if_pos hc]))
    · have hc : ¬ n < 0 := by simpa using hc
      exact va_skip (fin _ H2 k (textN n.natAbs) ⟨rfl, rfl, trivial⟩ hk2 hr2 hd hpos (by rw [textZ, if_neg hc]))
  refine va_cond rfl (fun hc => ?_) (fun hc => ?_)
  · have hc : n < 0 := by simpa using hc
    refine va_reg ?_
    refine ia_op (oa_move rfl ?_)
    have e : IntKind.u64.wrap (-(IntKind.u64.wrap n)) = (n.natAbs : Int) := by
      rw [wrap_u64_mod, wrap_u64_mod]; omega
    refine ia_op (oa_neg rfl ?_)
    rw [e]
    (repeat (first | refine ia_op (oa_move rfl ?_) | refine ia_op (oa_assign rfl ?_) | refine ia_op (oa_lss rfl rfl ?_) | refine ia_op (oa_gtr rfl rfl ?_) | refine ia_op (oa_leq rfl rfl ?_) | refine ia_op (oa_geq rfl rfl ?_) | refine ia_op (oa_eql rfl rfl ?_) | refine ia_op (oa_neq rfl rfl ?_) | refine ia_op (oa_addW rfl rfl (wrap_i64 (by omega) (by omega)) ?_) | refine ia_op (oa_addW rfl rfl (wrap_u64 (by omega) (by omega)) ?_) | refine ia_op (oa_addW rfl rfl (wrap_u8 (by omega) (by omega)) ?_) | refine ia_op (oa_subW rfl rfl (wrap_i64 (by omega) (by omega)) ?_) | refine ia_op (oa_subW rfl rfl (wrap_u64 (by omega) (by omega)) ?_) | refine ia_op (oa_subW rfl rfl (wrap_u8 (by omega) (by omega)) ?_) | refine ia_op (oa_not rfl ?_) | refine ia_op (oa_nilCheck rfl ?_) | refine ia_op (oa_extract rfl rfl ?_) | refine ia_op (oa_convW UnF.h UnF.h rfl (wrap_i64 (by omega) (by omega)) ?_) | refine ia_op (oa_convW UnF.h UnF.h rfl (wrap_u64 (by omega) (by omega)) ?_) | refine ia_op (oa_convW UnF.h UnF.h rfl (wrap_u8 (by omega) (by omega)) ?_)))
    exact ia_nil (main _ ⟨rfl, rfl, rfl, rfl, trivial⟩)
  · have hc : ¬ n < 0 := by simpa using hc
    have e : IntKind.u64.wrap n = (n.natAbs : Int) := by
      rw [wrap_u64_mod]; omega
    rw [e]
    exact va_skip (main _ ⟨rfl, rfl, rfl, rfl, trivial⟩)
end Go.Proofs.YtalnmaalhocjfaaGreatDoor
