/-
  Matched calls, the document's way: the small functions walked (tree, pairs, SamePairs, Kids, Counting). Conditions: the rows' lengths.
-/
import Derived.Test.YtndhniapohlniaaGreatDoorMat2
import Derived.Test.YtndhniapohlniaaGreatDoorMatT
namespace Go.Proofs.YtndhniapohlniaaGreatDoor
open Go Go.Proofs.YtndhniapohlniaaGreatDoor.Eng
/-! facts about types -/
theorem fp_41_1 : fieldPlc Tryz.prog 41 1 = some ⟨1, false, 1⟩ := by kernel_rfl
instance ifp_41_1 : FpF Tryz.prog 41 1 ⟨1, false, 1⟩ := ⟨fp_41_1⟩
theorem ze_94 : zeroOf Tryz.prog 94 = some (.agg [.int .i64 0, .int .i64 0, .int .i64 0, .int .i64 0]) := by kernel_rfl
instance ize_94 : ZeF Tryz.prog 94 (.agg [.int .i64 0, .int .i64 0, .int .i64 0, .int .i64 0]) := ⟨ze_94⟩
theorem bs_94 : structOK Tryz.prog 94 = true := by kernel_rfl
instance ibs_94 : BsF Tryz.prog 94 := ⟨bs_94⟩
theorem ps_94 : plcsOK Tryz.prog 94 0 [(0, 1), (1, 1), (2, 1), (3, 1)] = true := by kernel_rfl
instance ips_94 : PsF Tryz.prog 94 [(0, 1), (1, 1), (2, 1), (3, 1)] := ⟨ps_94⟩
theorem el_35 : elemI Tryz.prog 35 = some ⟨94, 4, .agg [.int .i64 0, .int .i64 0, .int .i64 0, .int .i64 0]⟩ := by kernel_rfl
instance iel_35 : ElF Tryz.prog 35 ⟨94, 4, .agg [.int .i64 0, .int .i64 0, .int .i64 0, .int .i64 0]⟩ := ⟨el_35⟩
theorem un_35 : Tryz.prog.underlying 35 = some (.slice 94) := by kernel_rfl
instance iun_35 : UnF Tryz.prog 35 (.slice 94) := ⟨un_35⟩
theorem sz_96 : szOf Tryz.prog 96 = some 2 := by kernel_rfl
instance isz_96 : SzF Tryz.prog 96 2 := ⟨sz_96⟩
theorem pl_96 : plcOf Tryz.prog 96 0 = some ⟨0, true, 2⟩ := by kernel_rfl
instance ipl_96 : PlF Tryz.prog 96 ⟨0, true, 2⟩ := ⟨pl_96⟩
theorem sz_94 : szOf Tryz.prog 94 = some 4 := by kernel_rfl
instance isz_94 : SzF Tryz.prog 94 4 := ⟨sz_94⟩
theorem fp_94_3 : fieldPlc Tryz.prog 94 3 = some ⟨3, false, 1⟩ := by kernel_rfl
instance ifp_94_3 : FpF Tryz.prog 94 3 ⟨3, false, 1⟩ := ⟨fp_94_3⟩
theorem un_92 : Tryz.prog.underlying 92 = some (.slice 4) := by kernel_rfl
instance iun_92 : UnF Tryz.prog 92 (.slice 4) := ⟨un_92⟩
theorem el_92 : elemI Tryz.prog 92 = some ⟨4, 1, .bool false⟩ := by kernel_rfl
instance iel_92 : ElF Tryz.prog 92 ⟨4, 1, .bool false⟩ := ⟨el_92⟩
/-! f10: parallax/parallaxlaw16.tree, parameters #[25] -/
def v10l0h0 : CV := .seq (.reg [.op (some 5) (.move (.tmp 4)),
    .op (some 6) (.move (.tmp 0)),
    .op (some 7) (.call ⟨.builtin .len, #[(.tmp 6)], #[25]⟩),
    .op (some 8) (.binOp .lss 3 (.tmp 5) (.tmp 7) 3)])
  (.cond (.tmp 8) (.skip) (.exit 0))
def v10l0t1 : CV := .seq (.block 1 (.reg [.op (some 11) (.move (.tmp 3)),
    .op (some 12) (.move (.tmp 0)),
    .op (some 13) (.move (.tmp 4)),
    .op (some 14) (.indexAddr 25 (.tmp 12) (.tmp 13)),
    .op (some 15) (.fieldAddr 41 (.tmp 14) 0),
    .op (some 16) (.load 3 (.tmp 15)),
    .op (some 17) (.move (.tmp 0)),
    .op (some 18) (.move (.tmp 4)),
    .op (some 19) (.indexAddr 25 (.tmp 17) (.tmp 18)),
    .op (some 20) (.fieldAddr 41 (.tmp 19) 1),
    .op (some 21) (.load 3 (.tmp 20)),
    .op (some 22) (.move (.tmp 0)),
    .op (some 23) (.move (.tmp 4)),
    .op (some 24) (.indexAddr 25 (.tmp 22) (.tmp 23)),
    .op (some 25) (.fieldAddr 41 (.tmp 24) 2),
    .op (some 26) (.load 3 (.tmp 25)),
    .op (some 27) (.move (.tmp 0)),
    .op (some 28) (.move (.tmp 4)),
    .op (some 29) (.indexAddr 25 (.tmp 27) (.tmp 28)),
    .op (some 30) (.fieldAddr 41 (.tmp 29) 3),
    .op (some 31) (.load 3 (.tmp 30)),
    .op (some 32) (.build 94 #[(0, (.tmp 16)), (1, (.tmp 21)), (2, (.tmp 26)), (3, (.tmp 31))]),
    .op (some 33) (.buildSlice 35 1 #[(0, (.tmp 32))]),
    .op (some 34) (.call ⟨.builtin .append, #[(.tmp 11), (.tmp 33)], #[35, 35]⟩),
    .op (some 3) (.assign (.tmp 34))]))
  (.reg [.op (some 9) (.move (.tmp 4)),
    .op (some 10) (.binOp .add 3 (.tmp 9) (.const (.int .i64 1)) 3),
    .op (some 4) (.assign (.tmp 10))])
def v10l0 : CV := .seq v10l0h0 v10l0t1
def v10h2 : CV := .seq (.reg [.op (some 4) (.assign (.const (.int .i64 0)))])
  (.block 0 (.loop v10l0))
def v10t3 : CV := .seq (.reg [.op (some 35) (.move (.tmp 3)),
    .op (some 2) (.assign (.tmp 35))])
  (.ret)
def v10t2 : CV := .seq v10h2 v10t3
def v10t1 : CV := .seq (.reg [.op (some 3) (.assign (.const (.slice none 0 0)))]) v10t2
def v10 : CV := .seq (.reg [.op (some 2) (.assign (.const (.slice none 0 0)))]) v10t1
noncomputable def b10 : Code := Tryz.f10.body.getD .skip
theorem b10_eq : Tryz.f10.body = some b10 := by kernel_rfl
theorem v10_eq : viewC Tryz.prog b10 = some v10 := by kernel_rfl
theorem r10_eq : Tryz.f10.results.toList = [.tmp 2] := by kernel_rfl
/-! f12: parallax/parallaxlaw16.pairs, parameters #[29] -/
def v12l0h0 : CV := .seq (.reg [.op (some 5) (.move (.tmp 4)),
    .op (some 6) (.move (.tmp 0)),
    .op (some 7) (.call ⟨.builtin .len, #[(.tmp 6)], #[29]⟩),
    .op (some 8) (.binOp .lss 3 (.tmp 5) (.tmp 7) 3)])
  (.cond (.tmp 8) (.skip) (.exit 0))
def v12l0t1 : CV := .seq (.block 1 (.reg [.op (some 11) (.move (.tmp 3)),
    .op (some 12) (.move (.tmp 0)),
    .op (some 13) (.move (.tmp 4)),
    .op (some 14) (.indexAddr 29 (.tmp 12) (.tmp 13)),
    .op (some 15) (.fieldAddr 44 (.tmp 14) 0),
    .op (some 16) (.load 3 (.tmp 15)),
    .op (some 17) (.move (.tmp 0)),
    .op (some 18) (.move (.tmp 4)),
    .op (some 19) (.indexAddr 29 (.tmp 17) (.tmp 18)),
    .op (some 20) (.fieldAddr 44 (.tmp 19) 1),
    .op (some 21) (.load 3 (.tmp 20)),
    .op (some 22) (.build 96 #[(0, (.tmp 16)), (1, (.tmp 21))]),
    .op (some 23) (.buildSlice 32 1 #[(0, (.tmp 22))]),
    .op (some 24) (.call ⟨.builtin .append, #[(.tmp 11), (.tmp 23)], #[32, 32]⟩),
    .op (some 3) (.assign (.tmp 24))]))
  (.reg [.op (some 9) (.move (.tmp 4)),
    .op (some 10) (.binOp .add 3 (.tmp 9) (.const (.int .i64 1)) 3),
    .op (some 4) (.assign (.tmp 10))])
def v12l0 : CV := .seq v12l0h0 v12l0t1
def v12h2 : CV := .seq (.reg [.op (some 4) (.assign (.const (.int .i64 0)))])
  (.block 0 (.loop v12l0))
def v12t3 : CV := .seq (.reg [.op (some 25) (.move (.tmp 3)),
    .op (some 2) (.assign (.tmp 25))])
  (.ret)
def v12t2 : CV := .seq v12h2 v12t3
def v12t1 : CV := .seq (.reg [.op (some 3) (.assign (.const (.slice none 0 0)))]) v12t2
def v12 : CV := .seq (.reg [.op (some 2) (.assign (.const (.slice none 0 0)))]) v12t1
noncomputable def b12 : Code := Tryz.f12.body.getD .skip
theorem b12_eq : Tryz.f12.body = some b12 := by kernel_rfl
theorem v12_eq : viewC Tryz.prog b12 = some v12 := by kernel_rfl
theorem r12_eq : Tryz.f12.results.toList = [.tmp 2] := by kernel_rfl
/-! f11: parallax/parallaxref15.SamePairs, parameters #[32, 32] -/
def v11c0 : CV := .seq (.reg [.op (some 4) (.assign (.const (.bool false)))])
  (.ret)
def v11h1 : CV := .seq (.reg [.op (some 6) (.move (.tmp 0)),
    .op (some 7) (.call ⟨.builtin .len, #[(.tmp 6)], #[32]⟩),
    .op (some 8) (.move (.tmp 1)),
    .op (some 9) (.call ⟨.builtin .len, #[(.tmp 8)], #[32]⟩),
    .op (some 10) (.binOp .neq 3 (.tmp 7) (.tmp 9) 3)])
  (.cond (.tmp 10) v11c0 (.skip))
def v11l1h0 : CV := .seq (.reg [.op (some 11) (.move (.tmp 5)),
    .op (some 12) (.move (.tmp 0)),
    .op (some 13) (.call ⟨.builtin .len, #[(.tmp 12)], #[32]⟩),
    .op (some 14) (.binOp .lss 3 (.tmp 11) (.tmp 13) 3)])
  (.cond (.tmp 14) (.skip) (.exit 0))
def v11c2 : CV := .seq (.reg [.op (some 4) (.assign (.const (.bool false)))])
  (.ret)
def v11k0 : CV := .seq (.reg [.op (some 17) (.move (.tmp 0)),
    .op (some 18) (.move (.tmp 5)),
    .op (some 19) (.indexAddr 32 (.tmp 17) (.tmp 18)),
    .op (some 20) (.load 96 (.tmp 19)),
    .op (some 21) (.move (.tmp 1)),
    .op (some 22) (.move (.tmp 5)),
    .op (some 23) (.indexAddr 32 (.tmp 21) (.tmp 22)),
    .op (some 24) (.load 96 (.tmp 23)),
    .op (some 25) (.binOp .neq 96 (.tmp 20) (.tmp 24) 96)])
  (.cond (.tmp 25) v11c2 (.skip))
def v11l1t1 : CV := .seq (.block 1 v11k0)
  (.reg [.op (some 15) (.move (.tmp 5)),
    .op (some 16) (.binOp .add 3 (.tmp 15) (.const (.int .i64 1)) 3),
    .op (some 5) (.assign (.tmp 16))])
def v11l1 : CV := .seq v11l1h0 v11l1t1
def v11h2 : CV := .seq (.reg [.op (some 5) (.assign (.const (.int .i64 0)))])
  (.block 0 (.loop v11l1))
def v11t3 : CV := .seq (.reg [.op (some 4) (.assign (.const (.bool true)))])
  (.ret)
def v11t2 : CV := .seq v11h2 v11t3
def v11t1 : CV := .seq v11h1 v11t2
def v11 : CV := .seq (.reg [.op (some 4) (.assign (.const (.bool false)))]) v11t1
noncomputable def b11 : Code := Tryz.f11.body.getD .skip
theorem b11_eq : Tryz.f11.body = some b11 := by kernel_rfl
theorem v11_eq : viewC Tryz.prog b11 = some v11 := by kernel_rfl
theorem r11_eq : Tryz.f11.results.toList = [.tmp 4] := by kernel_rfl
/-! f45: parallax/parallaxref16.Kids, parameters #[35, 3] -/
def v45l0h0 : CV := .seq (.reg [.op (some 7) (.move (.tmp 6)),
    .op (some 8) (.move (.tmp 0)),
    .op (some 9) (.call ⟨.builtin .len, #[(.tmp 8)], #[35]⟩),
    .op (some 10) (.binOp .lss 3 (.tmp 7) (.tmp 9) 3)])
  (.cond (.tmp 10) (.skip) (.exit 0))
def v45k0 : CV := .seq (.reg [.op (some 13) (.move (.tmp 0)),
    .op (some 14) (.move (.tmp 6)),
    .op (some 15) (.indexAddr 35 (.tmp 13) (.tmp 14)),
    .op (some 16) (.fieldAddr 94 (.tmp 15) 3),
    .op (some 17) (.load 3 (.tmp 16)),
    .op (some 18) (.move (.tmp 1)),
    .op (some 19) (.binOp .eql 3 (.tmp 17) (.tmp 18) 3)])
  (.cond (.tmp 19) (.reg [.op (some 20) (.move (.tmp 5)),
    .op (some 21) (.move (.tmp 6)),
    .op (some 22) (.buildSlice 52 1 #[(0, (.tmp 21))]),
    .op (some 23) (.call ⟨.builtin .append, #[(.tmp 20), (.tmp 22)], #[52, 52]⟩),
    .op (some 5) (.assign (.tmp 23))]) (.skip))
def v45l0t1 : CV := .seq (.block 1 v45k0)
  (.reg [.op (some 11) (.move (.tmp 6)),
    .op (some 12) (.binOp .add 3 (.tmp 11) (.const (.int .i64 1)) 3),
    .op (some 6) (.assign (.tmp 12))])
def v45l0 : CV := .seq v45l0h0 v45l0t1
def v45h2 : CV := .seq (.reg [.op (some 6) (.assign (.const (.int .i64 1)))])
  (.block 0 (.loop v45l0))
def v45t3 : CV := .seq (.reg [.op (some 24) (.move (.tmp 5)),
    .op (some 4) (.assign (.tmp 24))])
  (.ret)
def v45t2 : CV := .seq v45h2 v45t3
def v45t1 : CV := .seq (.reg [.op (some 5) (.assign (.const (.slice none 0 0)))]) v45t2
def v45 : CV := .seq (.reg [.op (some 4) (.assign (.const (.slice none 0 0)))]) v45t1
noncomputable def b45 : Code := Tryz.f45.body.getD .skip
theorem b45_eq : Tryz.f45.body = some b45 := by kernel_rfl
theorem v45_eq : viewC Tryz.prog b45 = some v45 := by kernel_rfl
theorem r45_eq : Tryz.f45.results.toList = [.tmp 4] := by kernel_rfl
/-! f21: parallax/parallaxref16.Counting, parameters #[23] -/
def v21l0h0 : CV := .seq (.reg [.op (some 7) (.move (.tmp 4)),
    .op (some 8) (.move (.tmp 0)),
    .op (some 9) (.call ⟨.builtin .len, #[(.tmp 8)], #[23]⟩),
    .op (some 10) (.binOp .lss 3 (.tmp 7) (.tmp 9) 3)])
  (.cond (.tmp 10) (.skip) (.exit 0))
def v21l1h0 : CV := .seq (.reg [.op (some 13) (.move (.tmp 6)),
    .op (some 14) (.move (.tmp 4)),
    .op (some 15) (.binOp .lss 3 (.tmp 13) (.tmp 14) 3)])
  (.cond (.tmp 15) (.skip) (.exit 2))
def v21k1 : CV := .seq (.reg [.op (some 18) (.move (.tmp 3)),
    .op (some 19) (.move (.tmp 6)),
    .op (some 20) (.indexAddr 92 (.tmp 18) (.tmp 19)),
    .op (some 21) (.load 4 (.tmp 20)),
    .op (some 22) (.move (.tmp 21)),
    .gd 22 true (some 23) (.move (.tmp 0)),
    .gd 22 true (some 24) (.move (.tmp 6)),
    .gd 22 true (some 25) (.indexAddr 23 (.tmp 23) (.tmp 24)),
    .gd 22 true (some 26) (.indexAddr 45 (.tmp 25) (.const (.int .i64 0))),
    .gd 22 true (some 27) (.load 3 (.tmp 26)),
    .gd 22 true (some 28) (.move (.tmp 0)),
    .gd 22 true (some 29) (.move (.tmp 4)),
    .gd 22 true (some 30) (.indexAddr 23 (.tmp 28) (.tmp 29)),
    .gd 22 true (some 31) (.indexAddr 45 (.tmp 30) (.const (.int .i64 0))),
    .gd 22 true (some 32) (.load 3 (.tmp 31)),
    .gd 22 true (some 33) (.binOp .eql 3 (.tmp 27) (.tmp 32) 3),
    .gd 22 true (some 34) (.move (.tmp 33)),
    .gd 34 false (some 35) (.move (.tmp 0)),
    .gd 34 false (some 36) (.move (.tmp 6)),
    .gd 34 false (some 37) (.indexAddr 23 (.tmp 35) (.tmp 36)),
    .gd 34 false (some 38) (.indexAddr 45 (.tmp 37) (.const (.int .i64 1))),
    .gd 34 false (some 39) (.load 3 (.tmp 38)),
    .gd 34 false (some 40) (.move (.tmp 0)),
    .gd 34 false (some 41) (.move (.tmp 4)),
    .gd 34 false (some 42) (.indexAddr 23 (.tmp 40) (.tmp 41)),
    .gd 34 false (some 43) (.indexAddr 45 (.tmp 42) (.const (.int .i64 1))),
    .gd 34 false (some 44) (.load 3 (.tmp 43)),
    .gd 34 false (some 45) (.binOp .eql 3 (.tmp 39) (.tmp 44) 3),
    .gd 22 true (some 46) (.pick (.tmp 34) (.const (.bool true)) (.tmp 45)),
    .op (some 47) (.pick (.tmp 22) (.tmp 46) (.const (.bool false)))])
  (.cond (.tmp 47) (.reg [.op (some 5) (.assign (.const (.bool false)))]) (.skip))
def v21l1t1 : CV := .seq (.block 3 v21k1)
  (.reg [.op (some 16) (.move (.tmp 6)),
    .op (some 17) (.binOp .add 3 (.tmp 16) (.const (.int .i64 1)) 3),
    .op (some 6) (.assign (.tmp 17))])
def v21l1 : CV := .seq v21l1h0 v21l1t1
def v21k0h1 : CV := .seq (.reg [.op (some 6) (.assign (.const (.int .i64 0)))])
  (.block 2 (.loop v21l1))
def v21k0t1 : CV := .seq v21k0h1
  (.reg [.op (some 48) (.move (.tmp 3)),
    .op (some 49) (.move (.tmp 5)),
    .op (some 50) (.buildSlice 92 1 #[(0, (.tmp 49))]),
    .op (some 51) (.call ⟨.builtin .append, #[(.tmp 48), (.tmp 50)], #[92, 92]⟩),
    .op (some 3) (.assign (.tmp 51))])
def v21k0 : CV := .seq (.reg [.op (some 5) (.assign (.const (.bool true)))]) v21k0t1
def v21l0t1 : CV := .seq (.block 1 v21k0)
  (.reg [.op (some 11) (.move (.tmp 4)),
    .op (some 12) (.binOp .add 3 (.tmp 11) (.const (.int .i64 1)) 3),
    .op (some 4) (.assign (.tmp 12))])
def v21l0 : CV := .seq v21l0h0 v21l0t1
def v21h2 : CV := .seq (.reg [.op (some 4) (.assign (.const (.int .i64 0)))])
  (.block 0 (.loop v21l0))
def v21t3 : CV := .seq (.reg [.op (some 52) (.move (.tmp 3)),
    .op (some 2) (.assign (.tmp 52))])
  (.ret)
def v21t2 : CV := .seq v21h2 v21t3
def v21t1 : CV := .seq (.reg [.op (some 3) (.assign (.const (.slice none 0 0)))]) v21t2
def v21 : CV := .seq (.reg [.op (some 2) (.assign (.const (.slice none 0 0)))]) v21t1
noncomputable def b21 : Code := Tryz.f21.body.getD .skip
theorem b21_eq : Tryz.f21.body = some b21 := by kernel_rfl
theorem v21_eq : viewC Tryz.prog b21 = some v21 := by kernel_rfl
theorem r21_eq : Tryz.f21.results.toList = [.tmp 2] := by kernel_rfl

theorem ff_rp : flatF Tryz.prog 96 = some [.int .i64, .int .i64] := by kernel_rfl
theorem eg_rp : Tryz.prog.eqGuardType Tryz.prog.depth 96 = false := by kernel_rfl
def bC (b : Bool) : List AV := [.bool b]
theorem bC_len (b : Bool) : (bC b).length = 1 := rfl
theorem scal_ixC (l : List Nat) : scalL (l.flatMap ixC) = true := scalL_of fun v hv => by
  obtain ⟨p, _, hv⟩ := List.mem_flatMap.1 hv
  simp only [ixC, List.mem_cons, List.not_mem_nil, or_false] at hv
  rw [hv]; rfl
section
variable {tb : List FuncId} {gl : List (List AV)} {H : Heap} {v w vp : AV} {Q : AV → Heap → Prop}
set_option maxHeartbeats 0 in
theorem tree_ok {A : List Cl} (hn : A.length < 1000) (hv : IsSl H v 4 A.length (A.flatMap clC)) (hQ : ∀ u H', Keep Non H H' → Own H' u 4 A.length (A.flatMap clC) → (∀ c, ownB u c → H.nx ≤ c) → Q u H') : WpF Tryz.prog tb gl 10 [v] H Q := by
  have hlim : limit = 1000000 := rfl
  refine fa Tryz.func10 b10_eq v10_eq r10_eq (.inr (by simp)) ?_
  refine va_seqr ?_
  refine ia_pl rfl ?_
  refine ia_nil (va_seqr ?_)
  refine ia_pl rfl ?_
  refine ia_nil (va_seq (va_seqr ?_))
  refine ia_pl rfl ?_
  refine ia_nil (va_block ?_)
  refine va_loop (fun (a : Nat × AV) => [(0, v), (3, a.2), (4, .int .i64 (a.1 : Int))]) (fun a H' => Keep Non H H' ∧ a.1 ≤ A.length ∧ Own H' a.2 4 (A.take a.1).length ((A.take a.1).flatMap clC) ∧ ∀ c, ownB a.2 c → H.nx ≤ c) (fun a => A.length - a.1) ?_ (0, .nils) _ H ⟨rfl, rfl, rfl, trivial⟩ ⟨.refl _ _, Nat.zero_le _, .nil _ _, fun _ h => h.elim⟩
  rintro ⟨i, u⟩ H1 ⟨hk, hle, ho, hno⟩
  simp only at hle ho hno
  dsimp only
  refine va_seq (va_seqr ?_)
  refine ia_pl rfl ?_; (repeat ((first | refine ia_op (oa_lenSl rfl rfl rfl UnF.h rfl (hv.keep0 hk) ?_)); refine ia_pl rfl ?_))
  by_cases hi : i < A.length
  rotate_left
  · refine ia_op (oa_lssW rfl rfl (decide_eq_false (by omega)) (ia_nil (va_condF rfl (va_exit (va_seqr ?_)))))
    refine ia_pl rfl ?_
    rw [List.take_of_length_le (by omega)] at ho
    exact ia_nil (va_ret ⟨_, rfl, hQ _ _ hk ho hno⟩)
  refine ia_op (oa_lssW rfl rfl (decide_eq_true (by omega)) (ia_nil (va_condT rfl (va_skip (va_seq (va_block (va_reg ?_)))))))
  obtain ⟨c, hc⟩ : ∃ c, A[i]? = some c := ⟨_, List.getElem?_eq_getElem hi⟩
  have htake : A.take (i + 1) = A.take i ++ [c] := by rw [List.take_add_one, hc]; rfl
  have hlen : (A.take i).length = i := by rw [List.length_take]; omega
  obtain ⟨b, o, row, tl, ro, hp, hrow, hget⟩ := isSl_ix (hv.keep0 hk) (by omega)
  have hfl : (A.flatMap clC).length = A.length * 4 := flat_length clC_len A
  have h0 : row[o + i * 4 + 0]? = some (.int .i64 c.proc) := by rw [show o + i * 4 + 0 = o + (i * 4 + 0) by omega, hget _ (by omega)]; exact flat_get clC_len hc (by decide)
  have h1 : row[o + i * 4 + 1]? = some (.int .i64 (c.enter : Int)) := by rw [show o + i * 4 + 1 = o + (i * 4 + 1) by omega, hget _ (by omega)]; exact flat_get clC_len hc (by decide)
  have h2 : row[o + i * 4 + 2]? = some (.int .i64 (c.leave : Int)) := by rw [show o + i * 4 + 2 = o + (i * 4 + 2) by omega, hget _ (by omega)]; exact flat_get clC_len hc (by decide)
  have h3 : row[o + i * 4 + 3]? = some (.int .i64 c.up) := by rw [show o + i * 4 + 3 = o + (i * 4 + 3) by omega, hget _ (by omega)]; exact flat_get clC_len hc (by decide)
  (repeat (first | refine ia_gdN rfl ?_ | refine ia_gdU rfl ?_ | ((first | refine ia_op ?_ | refine ia_gdY rfl ?_); first | refine oa_move rfl ?_ | refine oa_assign rfl ?_ | refine oa_nilCheck rfl ?_ | refine oa_fieldAddr FpF.h (by decide) rfl ?_ | refine oa_indexP UnF.h SzF.h rfl hp rfl rfl hi ?_ | refine oa_load1 PlF.h rfl hrow h0 ?_ | refine oa_load1 PlF.h rfl hrow h1 ?_ | refine oa_load1 PlF.h rfl hrow h2 ?_ | refine oa_load1 PlF.h rfl hrow h3 ?_ | refine oa_lssF rfl rfl (by omega) ?_ | refine oa_lssT rfl rfl (by omega) ?_ | refine oa_leqF rfl rfl (by omega) ?_ | refine oa_leqT rfl rfl (by omega) ?_ | refine oa_gtrF rfl rfl (by omega) ?_ | refine oa_gtrT rfl rfl (by omega) ?_ | refine oa_geqF rfl rfl (by omega) ?_ | refine oa_geqT rfl rfl (by omega) ?_ | refine oa_eqlF rfl rfl (by omega) ?_ | refine oa_eqlT rfl rfl (by omega) ?_ | refine oa_neqF rfl rfl (by omega) ?_ | refine oa_neqT rfl rfl (by omega) ?_ | refine oa_pickT rfl rfl rfl ?_ | refine oa_pickF rfl rfl ?_ | refine oa_not rfl ?_ | refine oa_extract rfl rfl ?_)))
  refine ia_op (oa_struct BsF.h ZeF.h PsF.h rfl ?_)
  refine ia_op (oa_newSlice (n := 1) ElF.h (by decide) rfl rfl fun H3 hk3 hr3 => ?_)
  refine ia_op (oa_append rfl rfl rfl ElF.h (.inl UnF.h) rfl (ho.keep0 hk3) rfl (IsRow.sl (es := 4) (n := 1) hr3 rfl (Nat.le_refl 1)).elems rfl rfl (by omega) fun u' H4 ho4 hk4 hb4 => ?_)
  refine ia_pl rfl ?_
  refine ia_nil (va_reg ?_)
  refine ia_pl rfl ?_
  refine ia_op (oa_addW (c := ((i + 1 : Nat) : Int)) rfl rfl (wrapE_i64 (by omega) (by omega) (by omega)) ?_)
  refine ia_pl rfl ?_
  refine ia_nil ⟨(i + 1, u'), ?_, ⟨rfl, rfl, rfl, trivial⟩, (hk.trans0 hk3).trans hk4 fun c hc => .inr (hno c hc), by simp only; omega, ?_, fun c hc => (hb4 c hc).elim (hno c) fun h => Nat.le_trans (hk.trans0 hk3).nx h⟩
  · show A.length - (i + 1) < A.length - i
    omega
  · simp only
    rw [htake, List.length_append, List.flatMap_append]
    exact ho4
set_option maxHeartbeats 0 in
theorem pairs_ok {A : List (Nat × Nat)} (hn : A.length < 1000) (hv : IsSl H v 2 A.length (A.flatMap prN)) (hQ : ∀ u H', Keep Non H H' → Own H' u 2 A.length (A.flatMap prN) → Q u H') : WpF Tryz.prog tb gl 12 [v] H Q := by
  have hlim : limit = 1000000 := rfl
  refine fa Tryz.func12 b12_eq v12_eq r12_eq (.inr (by simp)) ?_
  refine va_seqr ?_
  refine ia_pl rfl ?_
  refine ia_nil (va_seqr ?_)
  refine ia_pl rfl ?_
  refine ia_nil (va_seq (va_seqr ?_))
  refine ia_pl rfl ?_
  refine ia_nil (va_block ?_)
  refine va_loop (fun (a : Nat × AV) => [(0, v), (3, a.2), (4, .int .i64 (a.1 : Int))]) (fun a H' => Keep Non H H' ∧ a.1 ≤ A.length ∧ Own H' a.2 2 (A.take a.1).length ((A.take a.1).flatMap prN) ∧ ∀ c, ownB a.2 c → H.nx ≤ c) (fun a => A.length - a.1) ?_ (0, .nils) _ H ⟨rfl, rfl, rfl, trivial⟩ ⟨.refl _ _, Nat.zero_le _, .nil _ _, fun _ h => h.elim⟩
  rintro ⟨i, u⟩ H1 ⟨hk, hle, ho, hno⟩
  simp only at hle ho hno
  dsimp only
  refine va_seq (va_seqr ?_)
  refine ia_pl rfl ?_; (repeat ((first | refine ia_op (oa_lenSl rfl rfl rfl UnF.h rfl (hv.keep0 hk) ?_)); refine ia_pl rfl ?_))
  by_cases hi : i < A.length
  rotate_left
  · refine ia_op (oa_lssW rfl rfl (decide_eq_false (by omega)) (ia_nil (va_condF rfl (va_exit (va_seqr ?_)))))
    refine ia_pl rfl ?_
    rw [List.take_of_length_le (by omega)] at ho
    exact ia_nil (va_ret ⟨_, rfl, hQ _ _ hk ho⟩)
  refine ia_op (oa_lssW rfl rfl (decide_eq_true (by omega)) (ia_nil (va_condT rfl (va_skip (va_seq (va_block (va_reg ?_)))))))
  obtain ⟨c, hc⟩ : ∃ c, A[i]? = some c := ⟨_, List.getElem?_eq_getElem hi⟩
  have htake : A.take (i + 1) = A.take i ++ [c] := by rw [List.take_add_one, hc]; rfl
  have hlen : (A.take i).length = i := by rw [List.length_take]; omega
  obtain ⟨b, o, row, tl, ro, hp, hrow, hget⟩ := isSl_ix (hv.keep0 hk) (by omega)
  have hfl : (A.flatMap prN).length = A.length * 2 := flat_length prN_len A
  have h0 : row[o + i * 2 + 0]? = some (.int .i64 (c.1 : Int)) := by rw [show o + i * 2 + 0 = o + (i * 2 + 0) by omega, hget _ (by omega)]; exact flat_get prN_len hc (by decide)
  have h1 : row[o + i * 2 + 1]? = some (.int .i64 (c.2 : Int)) := by rw [show o + i * 2 + 1 = o + (i * 2 + 1) by omega, hget _ (by omega)]; exact flat_get prN_len hc (by decide)
  (repeat (first | refine ia_gdN rfl ?_ | refine ia_gdU rfl ?_ | ((first | refine ia_op ?_ | refine ia_gdY rfl ?_); first | refine oa_move rfl ?_ | refine oa_assign rfl ?_ | refine oa_nilCheck rfl ?_ | refine oa_fieldAddr FpF.h (by decide) rfl ?_ | refine oa_indexP UnF.h SzF.h rfl hp rfl rfl hi ?_ | refine oa_load1 PlF.h rfl hrow h0 ?_ | refine oa_load1 PlF.h rfl hrow h1 ?_ | refine oa_lssF rfl rfl (by omega) ?_ | refine oa_lssT rfl rfl (by omega) ?_ | refine oa_leqF rfl rfl (by omega) ?_ | refine oa_leqT rfl rfl (by omega) ?_ | refine oa_gtrF rfl rfl (by omega) ?_ | refine oa_gtrT rfl rfl (by omega) ?_ | refine oa_geqF rfl rfl (by omega) ?_ | refine oa_geqT rfl rfl (by omega) ?_ | refine oa_eqlF rfl rfl (by omega) ?_ | refine oa_eqlT rfl rfl (by omega) ?_ | refine oa_neqF rfl rfl (by omega) ?_ | refine oa_neqT rfl rfl (by omega) ?_ | refine oa_pickT rfl rfl rfl ?_ | refine oa_pickF rfl rfl ?_ | refine oa_not rfl ?_ | refine oa_extract rfl rfl ?_)))
  refine ia_op (oa_struct BsF.h ZeF.h PsF.h rfl ?_)
  refine ia_op (oa_newSlice (n := 1) ElF.h (by decide) rfl rfl fun H3 hk3 hr3 => ?_)
  refine ia_op (oa_append rfl rfl rfl ElF.h (.inl UnF.h) rfl (ho.keep0 hk3) rfl (IsRow.sl (es := 2) (n := 1) hr3 rfl (Nat.le_refl 1)).elems rfl rfl (by omega) fun u' H4 ho4 hk4 hb4 => ?_)
  refine ia_pl rfl ?_
  refine ia_nil (va_reg ?_)
  refine ia_pl rfl ?_
  refine ia_op (oa_addW (c := ((i + 1 : Nat) : Int)) rfl rfl (wrapE_i64 (by omega) (by omega) (by omega)) ?_)
  refine ia_pl rfl ?_
  refine ia_nil ⟨(i + 1, u'), ?_, ⟨rfl, rfl, rfl, trivial⟩, (hk.trans0 hk3).trans hk4 fun c hc => .inr (hno c hc), by simp only; omega, ?_, fun c hc => (hb4 c hc).elim (hno c) fun h => Nat.le_trans (hk.trans0 hk3).nx h⟩
  · show A.length - (i + 1) < A.length - i
    omega
  · simp only
    rw [htake, List.length_append, List.flatMap_append]
    exact ho4
set_option maxHeartbeats 0 in
theorem samePairs_ok {A : List (Nat × Nat)} (hn : A.length < 1000) (hv : IsSl H v 2 A.length (A.flatMap prN)) (hw : IsSl H w 2 A.length (A.flatMap prN)) (hQ : Q (.bool true) H) : WpF Tryz.prog tb gl 11 [v, w] H Q := by
  refine fa Tryz.func11 b11_eq v11_eq r11_eq (.inr (by simp)) ?_
  refine va_seqr ?_
  refine ia_pl rfl ?_
  refine ia_nil (va_seq (va_seqr ?_))
  refine ia_pl rfl ?_; (repeat ((first | refine ia_op (oa_lenSl rfl rfl rfl UnF.h rfl hv ?_) | refine ia_op (oa_lenSl rfl rfl rfl UnF.h rfl hw ?_)); refine ia_pl rfl ?_))
  refine ia_op (oa_neqW rfl rfl (decide_eq_false (by omega)) (ia_nil (va_condF rfl (va_skip (va_seq (va_seqr ?_))))))
  refine ia_pl rfl ?_
  refine ia_nil (va_block ?_)
  refine va_loop (fun (i : Nat) => [(0, v), (1, w), (5, .int .i64 (i : Int))]) (fun i H' => H' = H ∧ i ≤ A.length) (fun i => A.length - i) ?_ 0 _ H ⟨rfl, rfl, rfl, trivial⟩ ⟨rfl, Nat.zero_le _⟩
  rintro i H1 ⟨hH, hle⟩
  subst hH
  refine va_seq (va_seqr ?_)
  refine ia_pl rfl ?_; (repeat ((first | refine ia_op (oa_lenSl rfl rfl rfl UnF.h rfl hv ?_)); refine ia_pl rfl ?_))
  by_cases hi : i < A.length
  rotate_left
  · refine ia_op (oa_lssW rfl rfl (decide_eq_false (by omega)) (ia_nil (va_condF rfl (va_exit (va_seqr ?_)))))
    refine ia_pl rfl ?_
    exact ia_nil (va_ret ⟨_, rfl, hQ⟩)
  obtain ⟨c, hc⟩ : ∃ c, A[i]? = some c := ⟨_, List.getElem?_eq_getElem hi⟩
  have hch := flat_chunk prN_len A i c hc
  refine ia_op (oa_lssW rfl rfl (decide_eq_true (by omega)) (ia_nil (va_condT rfl (va_skip (va_seq (va_block (va_seqr ?_)))))))
  refine ia_pl rfl ?_
  refine ia_op (oa_indexSl UnF.h SzF.h rfl hv rfl rfl hi fun q0 hq0 => ?_)
  rw [hch] at hq0
  refine ia_op (oa_ploadN (k := 2) PlF.h rfl (by decide) rfl hq0 ?_)
  refine ia_pl rfl ?_
  refine ia_op (oa_indexSl UnF.h SzF.h rfl hw rfl rfl hi fun q0 hq0 => ?_)
  rw [hch] at hq0
  refine ia_op (oa_ploadN (k := 2) PlF.h rfl (by decide) rfl hq0 ?_)
  refine ia_op (oa_aneq ff_rp eg_rp rfl rfl (flatEq_int (flatEq_int rfl)) ?_)
  rw [decide_eq_true rfl, decide_eq_true rfl]
  refine ia_nil (va_condF rfl (va_skip (va_reg ?_)))
  refine ia_pl rfl ?_
  refine ia_op (oa_addW (c := ((i + 1 : Nat) : Int)) rfl rfl (wrapE_i64 (by omega) (by omega) (by omega)) ?_)
  refine ia_pl rfl ?_
  refine ia_nil ⟨i + 1, ?_, ⟨rfl, rfl, rfl, trivial⟩, rfl, by omega⟩
  show A.length - (i + 1) < A.length - i
  omega
set_option maxHeartbeats 0 in
theorem rKids_ok {A : List Cl} {k : Nat} (hn : A.length < 1000) (h0 : 0 < A.length) (hv : IsSl H v 4 A.length (A.flatMap clC)) (hQ : ∀ u H', Keep Non H H' → Own H' u 1 (kidA A k).length ((kidA A k).flatMap ixC) → (∀ c, ownB u c → H.nx ≤ c) → Q u H') : WpF Tryz.prog tb gl 45 [v, .int .i64 (k : Int)] H Q := by
  have hlim : limit = 1000000 := rfl
  refine fa Tryz.func45 b45_eq v45_eq r45_eq (.inr (by simp)) ?_
  refine va_seqr ?_
  refine ia_pl rfl ?_
  refine ia_nil (va_seqr ?_)
  refine ia_pl rfl ?_
  refine ia_nil (va_seq (va_seqr ?_))
  refine ia_pl rfl ?_
  refine ia_nil (va_block ?_)
  have hk1 : kidsT A k 1 = [] := by
    have : kidsT A k (0 + 1) = [] := by
      rw [kidsT_succ, if_neg]
      · rfl
      · unfold isKid; split <;> simp
    exact this
  refine va_loop (fun (a : Nat × AV) => [(0, v), (1, .int .i64 (k : Int)), (5, a.2), (6, .int .i64 ((a.1 + 1 : Nat) : Int))]) (fun a H' => Keep Non H H' ∧ a.1 + 1 ≤ A.length ∧ Own H' a.2 1 (kidsT A k (a.1 + 1)).length ((kidsT A k (a.1 + 1)).flatMap ixC) ∧ ∀ c, ownB a.2 c → H.nx ≤ c) (fun a => A.length - a.1) ?_ (0, .nils) _ H ⟨rfl, rfl, rfl, rfl, trivial⟩ ⟨.refl _ _, h0, by simp only [Nat.zero_add]; rw [hk1]; exact .nil _ _, fun _ h => h.elim⟩
  rintro ⟨i, u⟩ H1 ⟨hk, hle, ho, hno⟩
  simp only at hle ho hno
  dsimp only
  refine va_seq (va_seqr ?_)
  refine ia_pl rfl ?_; (repeat ((first | refine ia_op (oa_lenSl rfl rfl rfl UnF.h rfl (hv.keep0 hk) ?_)); refine ia_pl rfl ?_))
  by_cases hi : i + 1 < A.length
  rotate_left
  · refine ia_op (oa_lssW rfl rfl (decide_eq_false (by omega)) (ia_nil (va_condF rfl (va_exit (va_seqr ?_)))))
    refine ia_pl rfl ?_
    rw [show i + 1 = A.length by omega] at ho
    exact ia_nil (va_ret ⟨_, rfl, hQ _ _ hk ho hno⟩)
  refine ia_op (oa_lssW rfl rfl (decide_eq_true (by omega)) (ia_nil (va_condT rfl (va_skip (va_seq (va_block (va_seqr ?_)))))))
  obtain ⟨c, hc⟩ : ∃ c, A[i + 1]? = some c := ⟨_, List.getElem?_eq_getElem hi⟩
  have hch := flat_chunk clC_len A (i + 1) c hc
  have hkl := kidsT_len A k (i + 1)
  refine ia_pl rfl ?_
  refine ia_op (oa_indexSl UnF.h SzF.h rfl (hv.keep0 hk) rfl rfl hi fun q0 hq0 => ?_)
  rw [hch] at hq0
  refine ia_op (oa_pfieldAddr FpF.h (by decide) rfl hq0 fun q1 hq1 => ?_)
  refine ia_op (oa_pload PlF.h rfl hq1 rfl ?_)
  refine ia_pl rfl ?_
  -- a round is over
  have next : ∀ (l2 : Fm) (u2 : AV) (H2 : Heap), Keep Non H H2 → Own H2 u2 1 (kidsT A k (i + 1 + 1)).length ((kidsT A k (i + 1 + 1)).flatMap ixC) → (∀ c, ownB u2 c → H.nx ≤ c) → Sb [(0, v), (1, .int .i64 (k : Int)), (5, u2), (6, .int .i64 ((i + 1 : Nat) : Int))] l2 →
      ∀ R, VA Tryz.prog tb gl (.reg [.op (some 11) (.move (.tmp 6)), .op (some 12) (.binOp .add 3 (.tmp 11) (.const (.int .i64 1)) 3), .op (some 6) (.assign (.tmp 12))]) l2 H2 (roundA (fun (a : Nat × AV) => [(0, v), (1, .int .i64 (k : Int)), (5, a.2), (6, .int .i64 ((a.1 + 1 : Nat) : Int))]) (fun a H' => Keep Non H H' ∧ a.1 + 1 ≤ A.length ∧ Own H' a.2 1 (kidsT A k (a.1 + 1)).length ((kidsT A k (a.1 + 1)).flatMap ixC) ∧ ∀ c, ownB a.2 c → H.nx ≤ c) (fun a => A.length - a.1) (i, u) R) := by
    intro l2 u2 H2 hk2 ho2 hn2 hs R
    refine VA.sub hs (va_reg ?_)
    refine ia_pl rfl ?_
    refine ia_op (oa_addW (c := ((i + 1 + 1 : Nat) : Int)) rfl rfl (wrapE_i64 (by omega) (by omega) (by omega)) ?_)
    refine ia_pl rfl ?_
    refine ia_nil ⟨(i + 1, u2), ?_, ⟨rfl, rfl, rfl, rfl, trivial⟩, hk2, by simp only; omega, ho2, hn2⟩
    show A.length - (i + 1) < A.length - i
    omega
  by_cases hup : c.up = (k : Int)
  · have e : kidsT A k (i + 1 + 1) = kidsT A k (i + 1) ++ [i + 1] := by
      rw [kidsT_succ A k (i + 1), if_pos]
      simp only [isKid, hc, Bool.and_eq_true, decide_eq_true_eq]
      exact ⟨by omega, hup⟩
    refine ia_op (oa_eqlW rfl rfl (decide_eq_true hup) (ia_nil (va_condT rfl (va_reg ?_))))
    refine ia_pl rfl ?_
    refine ia_op (oa_newSlice (n := 1) ElF.h (by decide) rfl rfl fun H3 hk3 hr3 => ?_)
    refine ia_op (oa_append rfl rfl rfl ElF.h (.inl UnF.h) rfl (ho.keep0 hk3) rfl (IsRow.sl (es := 1) (n := 1) hr3 rfl (Nat.le_refl 1)).elems rfl rfl (by omega) fun u' H4 ho4 hk4 hb4 => ?_)
    refine ia_pl rfl ?_
    refine ia_nil (next _ u' H4 ((hk.trans0 hk3).trans hk4 fun c hc => .inr (hno c hc)) ?_ (fun c hc => (hb4 c hc).elim (hno c) fun h => Nat.le_trans (hk.trans0 hk3).nx h) ⟨rfl, rfl, rfl, rfl, trivial⟩ _)
    rw [e, List.length_append, List.flatMap_append]
    exact ho4
  · have e : kidsT A k (i + 1 + 1) = kidsT A k (i + 1) := by
      rw [kidsT_succ A k (i + 1), if_neg]
      simp only [isKid, hc, Bool.and_eq_true, decide_eq_true_eq]
      exact fun h => hup h.2
    refine ia_op (oa_eqlW rfl rfl (decide_eq_false hup) (ia_nil (va_condF rfl (va_skip (next _ u H1 hk ?_ hno ⟨rfl, rfl, rfl, rfl, trivial⟩ _)))))
    rw [e]
    exact ho
set_option maxHeartbeats 0 in
theorem counting_ok {ps : List (Int × Int)} (hn : ps.length < 1000) (hv : IsSl H vp 2 ps.length (ps.flatMap prC)) (hQ : ∀ cs u H', CntP ps cs → cs.length = ps.length → Keep Non H H' → Own H' u 1 cs.length (cs.flatMap bC) → (∀ c, ownB u c → H.nx ≤ c) → Q u H') : WpF Tryz.prog tb gl 21 [vp] H Q := by
  have hlim : limit = 1000000 := rfl
  refine fa Tryz.func21 b21_eq v21_eq r21_eq (.inr (by simp)) ?_
  refine va_seqr ?_
  refine ia_pl rfl ?_
  refine ia_nil (va_seqr ?_)
  refine ia_pl rfl ?_
  refine ia_nil (va_seq (va_seqr ?_))
  refine ia_pl rfl ?_
  refine ia_nil (va_block ?_)
  refine va_loop (fun (a : List Bool × AV) => [(0, vp), (3, a.2), (4, .int .i64 (a.1.length : Int))]) (fun a H' => Keep Non H H' ∧ a.1.length ≤ ps.length ∧ CntP ps a.1 ∧ Own H' a.2 1 a.1.length (a.1.flatMap bC) ∧ ∀ c, ownB a.2 c → H.nx ≤ c) (fun a => ps.length - a.1.length) ?_ ([], .nils) _ H ⟨rfl, rfl, rfl, trivial⟩ ⟨.refl _ _, Nat.zero_le _, fun i p b _ h => by simp at h, .nil _ _, fun _ h => h.elim⟩
  rintro ⟨cs, u⟩ H1 ⟨hk, hle, hC, ho, hno⟩
  simp only at hle hC ho hno
  dsimp only
  have hv1 := hv.keep0 hk
  refine va_seq (va_seqr ?_)
  refine ia_pl rfl ?_; (repeat ((first | refine ia_op (oa_lenSl rfl rfl rfl UnF.h rfl hv1 ?_)); refine ia_pl rfl ?_))
  by_cases hi : cs.length < ps.length
  rotate_left
  · refine ia_op (oa_lssW rfl rfl (decide_eq_false (by omega)) (ia_nil (va_condF rfl (va_exit (va_seqr ?_)))))
    refine ia_pl rfl ?_
    exact ia_nil (va_ret ⟨_, rfl, hQ cs u H1 hC (by omega) hk ho hno⟩)
  refine ia_op (oa_lssW rfl rfl (decide_eq_true (by omega)) (ia_nil (va_condT rfl (va_skip (va_seq (va_block (va_seqr ?_)))))))
  obtain ⟨p, hp⟩ : ∃ p, ps[cs.length]? = some p := ⟨_, List.getElem?_eq_getElem hi⟩
  obtain ⟨bp, op, rowp, tlp, rop, hpp, hrowp, hgetp⟩ := isSl_ix hv1 (by omega)
  have hfl : (ps.flatMap prC).length = ps.length * 2 := flat_length prC_len ps
  have hat : ∀ (j : Nat) q, ps[j]? = some q → rowp[op + j * 2 + 0 * 1]? = some (.int .i64 q.1) ∧ rowp[op + j * 2 + 1 * 1]? = some (.int .i64 q.2) := fun j q hq => by
    have hj := (List.getElem?_eq_some_iff.1 hq).1
    rw [show op + j * 2 + 0 * 1 = op + (j * 2 + 0) by omega, show op + j * 2 + 1 * 1 = op + (j * 2 + 1) by omega]
    exact ⟨(hgetp _ (by omega)).trans (flat_get prC_len hq (by decide)), (hgetp _ (by omega)).trans (flat_get prC_len hq (by decide))⟩
  obtain ⟨hi0, hi1⟩ := hat _ p hp
  refine ia_pl rfl ?_
  refine ia_nil (va_seq (va_seqr ?_))
  refine ia_pl rfl ?_
  refine ia_nil (va_block ?_)
  refine va_loop (fun (a : Nat × Bool) => [(0, vp), (3, u), (4, .int .i64 (cs.length : Int)), (5, .bool a.2), (6, .int .i64 (a.1 : Int))])
    (fun a H' => H' = H1 ∧ a.1 ≤ cs.length ∧ (a.2 = true ↔ ∀ (k : Nat) (q : Int × Int), k < a.1 → cs[k]? = some true → ps[k]? = some q → q.1 ≠ p.1 ∧ q.2 ≠ p.2)) (fun a => cs.length - a.1) ?_ (0, true) _ H1 ⟨rfl, rfl, rfl, rfl, rfl, trivial⟩ ⟨rfl, Nat.zero_le _, by simp⟩
  rintro ⟨k, b⟩ H2 ⟨hH, hkl, hb⟩
  subst hH
  simp only at hkl hb
  dsimp only
  refine va_seq (va_seqr ?_)
  refine ia_pl rfl ?_
  by_cases hkc : k < cs.length
  rotate_left
  · have hke : k = cs.length := by omega
    subst hke
    refine ia_op (oa_lssW rfl rfl (decide_eq_false (by omega)) (ia_nil (va_condF rfl (va_exit (va_reg ?_)))))
    refine ia_pl rfl ?_
    refine ia_op (oa_newSlice (n := 1) ElF.h (by decide) rfl rfl fun H3 hk3 hr3 => ?_)
    refine ia_op (oa_append rfl rfl rfl ElF.h (.inl UnF.h) rfl (ho.keep0 hk3) rfl (IsRow.sl (es := 1) (n := 1) hr3 rfl (Nat.le_refl 1)).elems rfl rfl (by omega) fun u' H4 ho4 hk4 hb4 => ?_)
    refine ia_pl rfl ?_
    refine ia_nil (va_reg ?_)
    refine ia_pl rfl ?_
    refine ia_op (oa_addW (c := ((cs.length + 1 : Nat) : Int)) rfl rfl (wrapE_i64 (by omega) (by omega) (by omega)) ?_)
    refine ia_pl rfl ?_
    refine ia_nil ⟨(cs ++ [b], u'), ?_, ⟨rfl, rfl, by show lk 4 _ = some (.int .i64 (((cs ++ [b]).length : Nat) : Int)); rw [List.length_append]; rfl, trivial⟩, (hk.trans0 hk3).trans hk4 fun c hc => .inr (hno c hc), by simp only [List.length_append, List.length_singleton]; omega, hC.snoc hp hb, ?_, fun c hc => (hb4 c hc).elim (hno c) fun h => Nat.le_trans (hk.trans0 hk3).nx h⟩
    · simp only [List.length_append, List.length_singleton]
      omega
    · simp only
      rw [List.length_append, List.flatMap_append]
      exact ho4
  refine ia_op (oa_lssW rfl rfl (decide_eq_true (by omega)) (ia_nil (va_condT rfl (va_skip (va_seq ?_)))))
  obtain ⟨ck, hck⟩ : ∃ ck, cs[k]? = some ck := ⟨_, List.getElem?_eq_getElem hkc⟩
  obtain ⟨q, hq⟩ : ∃ q, ps[k]? = some q := ⟨_, List.getElem?_eq_getElem (by omega)⟩
  obtain ⟨hk0, hk1⟩ := hat k q hq
  obtain ⟨bu, ou, rowu, tlu, rou, hpu, hrowu, hgetu⟩ := isSl_ix ho.sl (by omega)
  have hflu : (cs.flatMap bC).length = cs.length * 1 := flat_length bC_len cs
  have hcell : rowu[ou + k * 1]? = some (.bool ck) := by
    rw [hgetu _ (by omega)]
    exact flat_get bC_len (o := 0) hck (by decide)
  have hkps : k < ps.length := by omega
  refine va_cut (fun l' H' => H' = H2 ∧ ∃ b', (b' = true ↔ b = true ∧ (ck = true → q.1 ≠ p.1 ∧ q.2 ≠ p.2)) ∧ Sb [(0, vp), (3, u), (4, .int .i64 (cs.length : Int)), (5, .bool b'), (6, .int .i64 (k : Int))] l') ?_ ?_
  · refine va_block (va_seqr ?_)
    cases ck with
    | false =>
      (repeat (first | refine ia_gdN rfl ?_ | refine ia_gdU rfl ?_ | ((first | refine ia_op ?_ | refine ia_gdY rfl ?_); first | refine oa_move rfl ?_ | refine oa_assign rfl ?_ | refine oa_nilCheck rfl ?_ | refine oa_fieldAddr FpF.h (by decide) rfl ?_ | refine oa_indexP UnF.h SzF.h rfl hpu rfl rfl hkc ?_ | refine oa_load1 PlF.h rfl hrowu hcell ?_ | refine oa_lssF rfl rfl (by omega) ?_ | refine oa_lssT rfl rfl (by omega) ?_ | refine oa_leqF rfl rfl (by omega) ?_ | refine oa_leqT rfl rfl (by omega) ?_ | refine oa_gtrF rfl rfl (by omega) ?_ | refine oa_gtrT rfl rfl (by omega) ?_ | refine oa_geqF rfl rfl (by omega) ?_ | refine oa_geqT rfl rfl (by omega) ?_ | refine oa_eqlF rfl rfl (by omega) ?_ | refine oa_eqlT rfl rfl (by omega) ?_ | refine oa_neqF rfl rfl (by omega) ?_ | refine oa_neqT rfl rfl (by omega) ?_ | refine oa_pickT rfl rfl rfl ?_ | refine oa_pickF rfl rfl ?_ | refine oa_not rfl ?_ | refine oa_extract rfl rfl ?_)))
      exact ia_nil (va_condF rfl (va_skip ⟨rfl, b, by simp, rfl, rfl, rfl, rfl, rfl, trivial⟩))
    | true =>
      by_cases e1 : q.1 = p.1
      · (repeat (first | refine ia_gdN rfl ?_ | refine ia_gdU rfl ?_ | ((first | refine ia_op ?_ | refine ia_gdY rfl ?_); first | refine oa_move rfl ?_ | refine oa_assign rfl ?_ | refine oa_nilCheck rfl ?_ | refine oa_fieldAddr FpF.h (by decide) rfl ?_ | refine oa_indexP UnF.h SzF.h rfl hpu rfl rfl hkc ?_ | refine oa_load1 PlF.h rfl hrowu hcell ?_ | refine oa_indexP UnF.h SzF.h rfl hpp rfl rfl hkps ?_ | refine oa_indexP UnF.h SzF.h rfl hpp rfl rfl hi ?_ | refine oa_indexArr (j := 0) UnF.h SzF.h rfl rfl rfl (by decide) ?_ | refine oa_indexArr (j := 1) UnF.h SzF.h rfl rfl rfl (by decide) ?_ | refine oa_load1 PlF.h rfl hrowp hk0 ?_ | refine oa_load1 PlF.h rfl hrowp hk1 ?_ | refine oa_load1 PlF.h rfl hrowp hi0 ?_ | refine oa_load1 PlF.h rfl hrowp hi1 ?_ | refine oa_lssF rfl rfl (by omega) ?_ | refine oa_lssT rfl rfl (by omega) ?_ | refine oa_leqF rfl rfl (by omega) ?_ | refine oa_leqT rfl rfl (by omega) ?_ | refine oa_gtrF rfl rfl (by omega) ?_ | refine oa_gtrT rfl rfl (by omega) ?_ | refine oa_geqF rfl rfl (by omega) ?_ | refine oa_geqT rfl rfl (by omega) ?_ | refine oa_eqlF rfl rfl (by omega) ?_ | refine oa_eqlT rfl rfl (by omega) ?_ | refine oa_neqF rfl rfl (by omega) ?_ | refine oa_neqT rfl rfl (by omega) ?_ | refine oa_pickT rfl rfl rfl ?_ | refine oa_pickF rfl rfl ?_ | refine oa_not rfl ?_ | refine oa_extract rfl rfl ?_)))
        refine ia_nil (va_condT rfl (va_reg ?_))
        refine ia_pl rfl ?_
        exact ia_nil ⟨rfl, false, by simp [e1], rfl, rfl, rfl, rfl, rfl, trivial⟩
      · by_cases e2 : q.2 = p.2
        · (repeat (first | refine ia_gdN rfl ?_ | refine ia_gdU rfl ?_ | ((first | refine ia_op ?_ | refine ia_gdY rfl ?_); first | refine oa_move rfl ?_ | refine oa_assign rfl ?_ | refine oa_nilCheck rfl ?_ | refine oa_fieldAddr FpF.h (by decide) rfl ?_ | refine oa_indexP UnF.h SzF.h rfl hpu rfl rfl hkc ?_ | refine oa_load1 PlF.h rfl hrowu hcell ?_ | refine oa_indexP UnF.h SzF.h rfl hpp rfl rfl hkps ?_ | refine oa_indexP UnF.h SzF.h rfl hpp rfl rfl hi ?_ | refine oa_indexArr (j := 0) UnF.h SzF.h rfl rfl rfl (by decide) ?_ | refine oa_indexArr (j := 1) UnF.h SzF.h rfl rfl rfl (by decide) ?_ | refine oa_load1 PlF.h rfl hrowp hk0 ?_ | refine oa_load1 PlF.h rfl hrowp hk1 ?_ | refine oa_load1 PlF.h rfl hrowp hi0 ?_ | refine oa_load1 PlF.h rfl hrowp hi1 ?_ | refine oa_lssF rfl rfl (by omega) ?_ | refine oa_lssT rfl rfl (by omega) ?_ | refine oa_leqF rfl rfl (by omega) ?_ | refine oa_leqT rfl rfl (by omega) ?_ | refine oa_gtrF rfl rfl (by omega) ?_ | refine oa_gtrT rfl rfl (by omega) ?_ | refine oa_geqF rfl rfl (by omega) ?_ | refine oa_geqT rfl rfl (by omega) ?_ | refine oa_eqlF rfl rfl (by omega) ?_ | refine oa_eqlT rfl rfl (by omega) ?_ | refine oa_neqF rfl rfl (by omega) ?_ | refine oa_neqT rfl rfl (by omega) ?_ | refine oa_pickT rfl rfl rfl ?_ | refine oa_pickF rfl rfl ?_ | refine oa_not rfl ?_ | refine oa_extract rfl rfl ?_)))
          refine ia_nil (va_condT rfl (va_reg ?_))
          refine ia_pl rfl ?_
          exact ia_nil ⟨rfl, false, by simp [e2], rfl, rfl, rfl, rfl, rfl, trivial⟩
        · (repeat (first | refine ia_gdN rfl ?_ | refine ia_gdU rfl ?_ | ((first | refine ia_op ?_ | refine ia_gdY rfl ?_); first | refine oa_move rfl ?_ | refine oa_assign rfl ?_ | refine oa_nilCheck rfl ?_ | refine oa_fieldAddr FpF.h (by decide) rfl ?_ | refine oa_indexP UnF.h SzF.h rfl hpu rfl rfl hkc ?_ | refine oa_load1 PlF.h rfl hrowu hcell ?_ | refine oa_indexP UnF.h SzF.h rfl hpp rfl rfl hkps ?_ | refine oa_indexP UnF.h SzF.h rfl hpp rfl rfl hi ?_ | refine oa_indexArr (j := 0) UnF.h SzF.h rfl rfl rfl (by decide) ?_ | refine oa_indexArr (j := 1) UnF.h SzF.h rfl rfl rfl (by decide) ?_ | refine oa_load1 PlF.h rfl hrowp hk0 ?_ | refine oa_load1 PlF.h rfl hrowp hk1 ?_ | refine oa_load1 PlF.h rfl hrowp hi0 ?_ | refine oa_load1 PlF.h rfl hrowp hi1 ?_ | refine oa_lssF rfl rfl (by omega) ?_ | refine oa_lssT rfl rfl (by omega) ?_ | refine oa_leqF rfl rfl (by omega) ?_ | refine oa_leqT rfl rfl (by omega) ?_ | refine oa_gtrF rfl rfl (by omega) ?_ | refine oa_gtrT rfl rfl (by omega) ?_ | refine oa_geqF rfl rfl (by omega) ?_ | refine oa_geqT rfl rfl (by omega) ?_ | refine oa_eqlF rfl rfl (by omega) ?_ | refine oa_eqlT rfl rfl (by omega) ?_ | refine oa_neqF rfl rfl (by omega) ?_ | refine oa_neqT rfl rfl (by omega) ?_ | refine oa_pickT rfl rfl rfl ?_ | refine oa_pickF rfl rfl ?_ | refine oa_not rfl ?_ | refine oa_extract rfl rfl ?_)))
          exact ia_nil (va_condF rfl (va_skip ⟨rfl, b, by simp [e1, e2], rfl, rfl, rfl, rfl, rfl, trivial⟩))
  rintro l5 H5 ⟨hH, b', hb', hs5⟩
  subst hH
  refine VA.sub hs5 (va_reg ?_)
  refine ia_pl rfl ?_
  refine ia_op (oa_addW (c := ((k + 1 : Nat) : Int)) rfl rfl (wrapE_i64 (by omega) (by omega) (by omega)) ?_)
  refine ia_pl rfl ?_
  refine ia_nil ⟨(k + 1, b'), ?_, ⟨rfl, rfl, rfl, rfl, rfl, trivial⟩, rfl, by simp only; omega, ?_⟩
  · show cs.length - (k + 1) < cs.length - k
    omega
  · simp only
    rw [hb', hb]
    constructor
    · rintro ⟨g1, g2⟩ k' q' hk' hc' hq'
      by_cases e : k' = k
      · subst e
        rw [hck] at hc'
        rw [hq] at hq'
        injection hc' with hc'
        injection hq' with hq'
        subst hq'
        exact g2 hc'
      · exact g1 k' q' (by omega) hc' hq'
    · intro g
      exact ⟨fun k' q' hk' => g k' q' (by omega), fun hc' => g k q (by omega) (by rw [hck, hc']) hq⟩
end
end Go.Proofs.YtndhniapohlniaaGreatDoor
