/-
  Matched calls, the document's way: where rows part, sizes of matchings (parallaxref15), walked. Conditions: the rows' lengths.
-/
import Derived.Test.YtndhniapohlniaaGreatDoorKeeps5
namespace Go.Proofs.YtndhniapohlniaaGreatDoor
open Go Go.Proofs.YtndhniapohlniaaGreatDoor.Eng
/-! facts about types -/
/-! f95: parallax/parallaxref15.Parting, parameters #[151, 151] -/
def v95l0h0 : CV := .seq (.reg [.op (some 6) (.move (.tmp 5)),
    .op (some 7) (.move (.tmp 0)),
    .op (some 8) (.call ⟨.builtin .len, #[(.tmp 7)], #[151]⟩),
    .op (some 9) (.binOp .lss 3 (.tmp 6) (.tmp 8) 3),
    .op (some 10) (.move (.tmp 9)),
    .gd 10 true (some 11) (.move (.tmp 5)),
    .gd 10 true (some 12) (.move (.tmp 1)),
    .gd 10 true (some 13) (.call ⟨.builtin .len, #[(.tmp 12)], #[151]⟩),
    .gd 10 true (some 14) (.binOp .lss 3 (.tmp 11) (.tmp 13) 3),
    .op (some 15) (.pick (.tmp 10) (.tmp 14) (.const (.bool false))),
    .op (some 16) (.move (.tmp 15)),
    .gd 16 true (some 17) (.move (.tmp 0)),
    .gd 16 true (some 18) (.move (.tmp 5)),
    .gd 16 true (some 19) (.indexAddr 151 (.tmp 17) (.tmp 18)),
    .gd 16 true (some 20) (.load 235 (.tmp 19)),
    .gd 16 true (some 21) (.move (.tmp 1)),
    .gd 16 true (some 22) (.move (.tmp 5)),
    .gd 16 true (some 23) (.indexAddr 151 (.tmp 21) (.tmp 22)),
    .gd 16 true (some 24) (.load 235 (.tmp 23)),
    .gd 16 true (some 25) (.binOp .eql 235 (.tmp 20) (.tmp 24) 235),
    .op (some 26) (.pick (.tmp 16) (.tmp 25) (.const (.bool false)))])
  (.cond (.tmp 26) (.skip) (.exit 0))
def v95l0 : CV := .seq v95l0h0
  (.block 1 (.reg [.op (some 27) (.move (.tmp 5)),
    .op (some 28) (.binOp .add 3 (.tmp 27) (.const (.int .i64 1)) 3),
    .op (some 5) (.assign (.tmp 28))]))
def v95c1 : CV := .seq (.reg [.op (some 4) (.assign (.const (.int .i64 (-1))))])
  (.ret)
def v95h3 : CV := .seq (.reg [.op (some 29) (.move (.tmp 5)),
    .op (some 30) (.move (.tmp 0)),
    .op (some 31) (.call ⟨.builtin .len, #[(.tmp 30)], #[151]⟩),
    .op (some 32) (.binOp .eql 3 (.tmp 29) (.tmp 31) 3),
    .op (some 33) (.move (.tmp 32)),
    .gd 33 true (some 34) (.move (.tmp 5)),
    .gd 33 true (some 35) (.move (.tmp 1)),
    .gd 33 true (some 36) (.call ⟨.builtin .len, #[(.tmp 35)], #[151]⟩),
    .gd 33 true (some 37) (.binOp .eql 3 (.tmp 34) (.tmp 36) 3),
    .op (some 38) (.pick (.tmp 33) (.tmp 37) (.const (.bool false)))])
  (.cond (.tmp 38) v95c1 (.skip))
def v95t4 : CV := .seq (.reg [.op (some 39) (.move (.tmp 5)),
    .op (some 4) (.assign (.tmp 39))])
  (.ret)
def v95t3 : CV := .seq v95h3 v95t4
def v95t2 : CV := .seq (.block 0 (.loop v95l0)) v95t3
def v95t1 : CV := .seq (.reg [.op (some 5) (.assign (.const (.int .i64 0)))]) v95t2
def v95 : CV := .seq (.reg [.op (some 4) (.assign (.const (.int .i64 0)))]) v95t1
noncomputable def b95 : Code := Tryz.f95.body.getD .skip
theorem b95_eq : Tryz.f95.body = some b95 := by kernel_rfl
theorem v95_eq : viewC Tryz.prog b95 = some v95 := by kernel_rfl
theorem r95_eq : Tryz.f95.results.toList = [.tmp 4] := by kernel_rfl
/-! f174: parallax/parallaxref15.Sizes, parameters #[151, 151] -/
def v174l0h0 : CV := .seq (.reg [.op (some 20) (.move (.tmp 7)),
    .op (some 21) (.binOp .geq 3 (.tmp 20) (.const (.int .i64 0)) 3)])
  (.cond (.tmp 21) (.skip) (.exit 0))
def v174l1h0 : CV := .seq (.reg [.op (some 31) (.move (.tmp 9)),
    .op (some 32) (.binOp .geq 3 (.tmp 31) (.const (.int .i64 0)) 3)])
  (.cond (.tmp 32) (.skip) (.exit 2))
def v174k1h1 : CV := .seq (.reg [.op (some 42) (.move (.tmp 8)),
    .op (some 43) (.move (.tmp 9)),
    .op (some 44) (.binOp .add 3 (.tmp 43) (.const (.int .i64 1)) 3),
    .op (some 45) (.indexAddr 52 (.tmp 42) (.tmp 44)),
    .op (some 46) (.load 3 (.tmp 45)),
    .op (some 47) (.move (.tmp 8)),
    .op (some 48) (.move (.tmp 9)),
    .op (some 49) (.indexAddr 52 (.tmp 47) (.tmp 48)),
    .op (some 50) (.load 3 (.tmp 49)),
    .op (some 51) (.binOp .gtr 3 (.tmp 46) (.tmp 50) 3)])
  (.cond (.tmp 51) (.reg [.op (some 52) (.move (.tmp 8)),
    .op (some 53) (.move (.tmp 9)),
    .op (some 54) (.move (.tmp 8)),
    .op (some 55) (.move (.tmp 9)),
    .op (some 56) (.binOp .add 3 (.tmp 55) (.const (.int .i64 1)) 3),
    .op (some 57) (.indexAddr 52 (.tmp 54) (.tmp 56)),
    .op (some 58) (.load 3 (.tmp 57)),
    .op (some 59) (.indexAddr 52 (.tmp 52) (.tmp 53)),
    .op none (.store 3 (.tmp 59) (.tmp 58))]) (.skip))
def v174k1t2 : CV := .seq (.reg [.op (some 60) (.move (.tmp 0)),
    .op (some 61) (.move (.tmp 7)),
    .op (some 62) (.indexAddr 151 (.tmp 60) (.tmp 61)),
    .op (some 63) (.load 235 (.tmp 62)),
    .op (some 64) (.move (.tmp 1)),
    .op (some 65) (.move (.tmp 9)),
    .op (some 66) (.indexAddr 151 (.tmp 64) (.tmp 65)),
    .op (some 67) (.load 235 (.tmp 66)),
    .op (some 68) (.binOp .eql 235 (.tmp 63) (.tmp 67) 235),
    .op (some 69) (.move (.tmp 68)),
    .gd 69 true (some 70) (.move (.tmp 5)),
    .gd 69 true (some 71) (.move (.tmp 9)),
    .gd 69 true (some 72) (.binOp .add 3 (.tmp 71) (.const (.int .i64 1)) 3),
    .gd 69 true (some 73) (.indexAddr 52 (.tmp 70) (.tmp 72)),
    .gd 69 true (some 74) (.load 3 (.tmp 73)),
    .gd 69 true (some 75) (.binOp .add 3 (.tmp 74) (.const (.int .i64 1)) 3),
    .gd 69 true (some 76) (.move (.tmp 8)),
    .gd 69 true (some 77) (.move (.tmp 9)),
    .gd 69 true (some 78) (.indexAddr 52 (.tmp 76) (.tmp 77)),
    .gd 69 true (some 79) (.load 3 (.tmp 78)),
    .gd 69 true (some 80) (.binOp .gtr 3 (.tmp 75) (.tmp 79) 3),
    .op (some 81) (.pick (.tmp 69) (.tmp 80) (.const (.bool false)))])
  (.cond (.tmp 81) (.reg [.op (some 82) (.move (.tmp 8)),
    .op (some 83) (.move (.tmp 9)),
    .op (some 84) (.move (.tmp 5)),
    .op (some 85) (.move (.tmp 9)),
    .op (some 86) (.binOp .add 3 (.tmp 85) (.const (.int .i64 1)) 3),
    .op (some 87) (.indexAddr 52 (.tmp 84) (.tmp 86)),
    .op (some 88) (.load 3 (.tmp 87)),
    .op (some 89) (.binOp .add 3 (.tmp 88) (.const (.int .i64 1)) 3),
    .op (some 90) (.indexAddr 52 (.tmp 82) (.tmp 83)),
    .op none (.store 3 (.tmp 90) (.tmp 89))]) (.skip))
def v174k1t1 : CV := .seq v174k1h1 v174k1t2
def v174k1 : CV := .seq (.reg [.op (some 35) (.move (.tmp 8)),
    .op (some 36) (.move (.tmp 9)),
    .op (some 37) (.move (.tmp 5)),
    .op (some 38) (.move (.tmp 9)),
    .op (some 39) (.indexAddr 52 (.tmp 37) (.tmp 38)),
    .op (some 40) (.load 3 (.tmp 39)),
    .op (some 41) (.indexAddr 52 (.tmp 35) (.tmp 36)),
    .op none (.store 3 (.tmp 41) (.tmp 40))]) v174k1t1
def v174l1t1 : CV := .seq (.block 3 v174k1)
  (.reg [.op (some 33) (.move (.tmp 9)),
    .op (some 34) (.binOp .sub 3 (.tmp 33) (.const (.int .i64 1)) 3),
    .op (some 9) (.assign (.tmp 34))])
def v174l1 : CV := .seq v174l1h0 v174l1t1
def v174k0h1 : CV := .seq (.reg [.op (some 28) (.move (.tmp 1)),
    .op (some 29) (.call ⟨.builtin .len, #[(.tmp 28)], #[151]⟩),
    .op (some 30) (.binOp .sub 3 (.tmp 29) (.const (.int .i64 1)) 3),
    .op (some 9) (.assign (.tmp 30))])
  (.block 2 (.loop v174l1))
def v174k0t3 : CV := .seq (.reg [.op (some 91) (.move (.tmp 10)),
    .op (some 92) (.move (.tmp 8)),
    .op (some 93) (.buildSlice 80 1 #[(0, (.tmp 92))]),
    .op (some 94) (.call ⟨.builtin .append, #[(.tmp 91), (.tmp 93)], #[80, 80]⟩),
    .op (some 95) (.move (.tmp 6)),
    .op (some 96) (.call ⟨.builtin .append, #[(.tmp 94), (.tmp 95)], #[80, 80]⟩),
    .op (some 6) (.assign (.tmp 96))])
  (.reg [.op (some 97) (.move (.tmp 8)),
    .op (some 5) (.assign (.tmp 97))])
def v174k0t2 : CV := .seq (.reg [.op (some 10) (.assign (.const (.slice none 0 0)))]) v174k0t3
def v174k0t1 : CV := .seq v174k0h1 v174k0t2
def v174k0 : CV := .seq (.reg [.op (some 24) (.move (.tmp 1)),
    .op (some 25) (.call ⟨.builtin .len, #[(.tmp 24)], #[151]⟩),
    .op (some 26) (.binOp .add 3 (.tmp 25) (.const (.int .i64 1)) 3),
    .op (some 27) (.makeSlice 52 (.tmp 26) (.tmp 26)),
    .op (some 8) (.assign (.tmp 27))]) v174k0t1
def v174l0t1 : CV := .seq (.block 1 v174k0)
  (.reg [.op (some 22) (.move (.tmp 7)),
    .op (some 23) (.binOp .sub 3 (.tmp 22) (.const (.int .i64 1)) 3),
    .op (some 7) (.assign (.tmp 23))])
def v174l0 : CV := .seq v174l0h0 v174l0t1
def v174h3 : CV := .seq (.reg [.op (some 17) (.move (.tmp 0)),
    .op (some 18) (.call ⟨.builtin .len, #[(.tmp 17)], #[151]⟩),
    .op (some 19) (.binOp .sub 3 (.tmp 18) (.const (.int .i64 1)) 3),
    .op (some 7) (.assign (.tmp 19))])
  (.block 0 (.loop v174l0))
def v174t4 : CV := .seq (.reg [.op (some 98) (.move (.tmp 6)),
    .op (some 4) (.assign (.tmp 98))])
  (.ret)
def v174t3 : CV := .seq v174h3 v174t4
def v174t2 : CV := .seq (.reg [.op (some 15) (.move (.tmp 5)),
    .op (some 16) (.buildSlice 80 1 #[(0, (.tmp 15))]),
    .op (some 6) (.assign (.tmp 16))]) v174t3
def v174t1 : CV := .seq (.reg [.op (some 11) (.move (.tmp 1)),
    .op (some 12) (.call ⟨.builtin .len, #[(.tmp 11)], #[151]⟩),
    .op (some 13) (.binOp .add 3 (.tmp 12) (.const (.int .i64 1)) 3),
    .op (some 14) (.makeSlice 52 (.tmp 13) (.tmp 13)),
    .op (some 5) (.assign (.tmp 14))]) v174t2
def v174 : CV := .seq (.reg [.op (some 4) (.assign (.const (.slice none 0 0)))]) v174t1
noncomputable def b174 : Code := Tryz.f174.body.getD .skip
theorem b174_eq : Tryz.f174.body = some b174 := by kernel_rfl
theorem v174_eq : viewC Tryz.prog b174 = some v174 := by kernel_rfl
theorem r174_eq : Tryz.f174.results.toList = [.tmp 4] := by kernel_rfl

/-- a row of sizes -/
def SzRow (e : Nat → Nat → Bool) (n m i : Nat) (H : Heap) (v : AV) : Prop := ∃ b cells, v = .sl b 0 (m + 1) (m + 1) ∧ IsRow H b cells false false ∧ cells.length = m + 1 ∧ ∀ j, j ≤ m → cells[j]? = some (.int .i64 (Lm e n m i j : Nat))
theorem SzRow.keep0 {e : Nat → Nat → Bool} {n m i : Nat} {H H' : Heap} {v : AV} (h : SzRow e n m i H v) (k : Keep Non H H') : SzRow e n m i H' v := by
  obtain ⟨b, cells, h1, h2, h3⟩ := h
  exact ⟨b, cells, h1, h2.keep0 k, h3⟩
/-- the rows of sizes from an index on -/
structure SzI (e : Nat → Nat → Bool) (n m : Nat) (H : Heap) (k : Nat) (u below : AV) (us : List AV) (H' : Heap) : Prop where
  keep : Keep Non H H'
  len : us.length = k + 1
  own : IsSl H' u 1 us.length us
  sl : ∀ v ∈ us, Eng.scal v = true
  row : ∀ (x : Nat) v, us[x]? = some v → SzRow e n m (n - k + x) H' v
  hd : us[0]? = some below
section
variable {tb : List FuncId} {gl : List (List AV)} {H : Heap} {v w : AV} {Q : AV → Heap → Prop}
set_option maxHeartbeats 0 in
theorem rParting_ok {al bl : List (Int × Int)} (hn : al.length ≤ 500) (_hm : bl.length ≤ 500) (hv : IsSl H v 2 al.length (al.flatMap evC)) (hw : IsSl H w 2 bl.length (bl.flatMap evC))
    (hQ : ∀ k, Parts (eqM al bl) al.length bl.length k → Q (.int .i64 (if k = al.length ∧ k = bl.length then -1 else (k : Int))) H) : WpF Tryz.prog tb gl 95 [v, w] H Q := by
  refine fa Tryz.func95 b95_eq v95_eq r95_eq (.inr (by simp)) ?_
  refine va_seqr ?_
  refine ia_pl rfl ?_
  refine ia_nil (va_seqr ?_)
  refine ia_pl rfl ?_
  refine ia_nil (va_seq (va_block ?_))
  refine va_loop (fun (i : Nat) => [(0, v), (1, w), (5, .int .i64 (i : Int))]) (fun i H' => H' = H ∧ i ≤ al.length ∧ i ≤ bl.length ∧ ∀ j, j < i → eqM al bl j j = true) (fun i => al.length - i) ?_ 0 _ H ⟨rfl, rfl, rfl, trivial⟩ ⟨rfl, Nat.zero_le _, Nat.zero_le _, fun _ h => absurd h (Nat.not_lt_zero _)⟩
  rintro i H1 ⟨he, hle1, hle2, hpre⟩
  subst he
  -- behind the loop
  have fin : Parts (eqM al bl) al.length bl.length i → ∀ l', Sb [(0, v), (1, w), (5, .int .i64 (i : Int))] l' → VA Tryz.prog tb gl v95t3 l' H1 (leftA [.tmp 4] Q) := by
    intro hk l' hs
    refine VA.sub hs (va_seq (va_seqr ?_))
    have hq := hQ i hk
    by_cases c1 : i = al.length <;> by_cases c2 : i = bl.length
    · rw [if_pos ⟨c1, c2⟩] at hq
      (repeat (first | refine ia_gdN rfl ?_ | refine ia_gdU rfl ?_ | ((first | refine ia_op ?_ | refine ia_gdY rfl ?_); first | refine oa_move rfl ?_ | refine oa_assign rfl ?_ | refine oa_nilCheck rfl ?_ | refine oa_fieldAddr FpF.h (by decide) rfl ?_ | refine oa_lenSl rfl rfl rfl UnF.h rfl hv ?_ | refine oa_lenSl rfl rfl rfl UnF.h rfl hw ?_ | refine oa_lssF rfl rfl (by omega) ?_ | refine oa_lssT rfl rfl (by omega) ?_ | refine oa_leqF rfl rfl (by omega) ?_ | refine oa_leqT rfl rfl (by omega) ?_ | refine oa_gtrF rfl rfl (by omega) ?_ | refine oa_gtrT rfl rfl (by omega) ?_ | refine oa_geqF rfl rfl (by omega) ?_ | refine oa_geqT rfl rfl (by omega) ?_ | refine oa_eqlF rfl rfl (by omega) ?_ | refine oa_eqlT rfl rfl (by omega) ?_ | refine oa_neqF rfl rfl (by omega) ?_ | refine oa_neqT rfl rfl (by omega) ?_ | refine oa_pickT rfl rfl rfl ?_ | refine oa_pickF rfl rfl ?_ | refine oa_not rfl ?_ | refine oa_extract rfl rfl ?_)))
      refine ia_nil (va_condT rfl (va_seqr ?_))
      refine ia_pl rfl ?_
      exact ia_nil (va_ret ⟨_, rfl, hq⟩)
    · rw [if_neg (by omega)] at hq
      (repeat (first | refine ia_gdN rfl ?_ | refine ia_gdU rfl ?_ | ((first | refine ia_op ?_ | refine ia_gdY rfl ?_); first | refine oa_move rfl ?_ | refine oa_assign rfl ?_ | refine oa_nilCheck rfl ?_ | refine oa_fieldAddr FpF.h (by decide) rfl ?_ | refine oa_lenSl rfl rfl rfl UnF.h rfl hv ?_ | refine oa_lenSl rfl rfl rfl UnF.h rfl hw ?_ | refine oa_lssF rfl rfl (by omega) ?_ | refine oa_lssT rfl rfl (by omega) ?_ | refine oa_leqF rfl rfl (by omega) ?_ | refine oa_leqT rfl rfl (by omega) ?_ | refine oa_gtrF rfl rfl (by omega) ?_ | refine oa_gtrT rfl rfl (by omega) ?_ | refine oa_geqF rfl rfl (by omega) ?_ | refine oa_geqT rfl rfl (by omega) ?_ | refine oa_eqlF rfl rfl (by omega) ?_ | refine oa_eqlT rfl rfl (by omega) ?_ | refine oa_neqF rfl rfl (by omega) ?_ | refine oa_neqT rfl rfl (by omega) ?_ | refine oa_pickT rfl rfl rfl ?_ | refine oa_pickF rfl rfl ?_ | refine oa_not rfl ?_ | refine oa_extract rfl rfl ?_)))
      refine ia_nil (va_condF rfl (va_skip (va_seqr ?_)))
      refine ia_pl rfl ?_
      exact ia_nil (va_ret ⟨_, rfl, hq⟩)
    · rw [if_neg (by omega)] at hq
      (repeat (first | refine ia_gdN rfl ?_ | refine ia_gdU rfl ?_ | ((first | refine ia_op ?_ | refine ia_gdY rfl ?_); first | refine oa_move rfl ?_ | refine oa_assign rfl ?_ | refine oa_nilCheck rfl ?_ | refine oa_fieldAddr FpF.h (by decide) rfl ?_ | refine oa_lenSl rfl rfl rfl UnF.h rfl hv ?_ | refine oa_lenSl rfl rfl rfl UnF.h rfl hw ?_ | refine oa_lssF rfl rfl (by omega) ?_ | refine oa_lssT rfl rfl (by omega) ?_ | refine oa_leqF rfl rfl (by omega) ?_ | refine oa_leqT rfl rfl (by omega) ?_ | refine oa_gtrF rfl rfl (by omega) ?_ | refine oa_gtrT rfl rfl (by omega) ?_ | refine oa_geqF rfl rfl (by omega) ?_ | refine oa_geqT rfl rfl (by omega) ?_ | refine oa_eqlF rfl rfl (by omega) ?_ | refine oa_eqlT rfl rfl (by omega) ?_ | refine oa_neqF rfl rfl (by omega) ?_ | refine oa_neqT rfl rfl (by omega) ?_ | refine oa_pickT rfl rfl rfl ?_ | refine oa_pickF rfl rfl ?_ | refine oa_not rfl ?_ | refine oa_extract rfl rfl ?_)))
      refine ia_nil (va_condF rfl (va_skip (va_seqr ?_)))
      refine ia_pl rfl ?_
      exact ia_nil (va_ret ⟨_, rfl, hq⟩)
    · rw [if_neg (by omega)] at hq
      (repeat (first | refine ia_gdN rfl ?_ | refine ia_gdU rfl ?_ | ((first | refine ia_op ?_ | refine ia_gdY rfl ?_); first | refine oa_move rfl ?_ | refine oa_assign rfl ?_ | refine oa_nilCheck rfl ?_ | refine oa_fieldAddr FpF.h (by decide) rfl ?_ | refine oa_lenSl rfl rfl rfl UnF.h rfl hv ?_ | refine oa_lenSl rfl rfl rfl UnF.h rfl hw ?_ | refine oa_lssF rfl rfl (by omega) ?_ | refine oa_lssT rfl rfl (by omega) ?_ | refine oa_leqF rfl rfl (by omega) ?_ | refine oa_leqT rfl rfl (by omega) ?_ | refine oa_gtrF rfl rfl (by omega) ?_ | refine oa_gtrT rfl rfl (by omega) ?_ | refine oa_geqF rfl rfl (by omega) ?_ | refine oa_geqT rfl rfl (by omega) ?_ | refine oa_eqlF rfl rfl (by omega) ?_ | refine oa_eqlT rfl rfl (by omega) ?_ | refine oa_neqF rfl rfl (by omega) ?_ | refine oa_neqT rfl rfl (by omega) ?_ | refine oa_pickT rfl rfl rfl ?_ | refine oa_pickF rfl rfl ?_ | refine oa_not rfl ?_ | refine oa_extract rfl rfl ?_)))
      refine ia_nil (va_condF rfl (va_skip (va_seqr ?_)))
      refine ia_pl rfl ?_
      exact ia_nil (va_ret ⟨_, rfl, hq⟩)
  refine va_seq (va_seqr ?_)
  by_cases c1 : i < al.length
  rotate_left
  · (repeat (first | refine ia_gdN rfl ?_ | refine ia_gdU rfl ?_ | ((first | refine ia_op ?_ | refine ia_gdY rfl ?_); first | refine oa_move rfl ?_ | refine oa_assign rfl ?_ | refine oa_nilCheck rfl ?_ | refine oa_fieldAddr FpF.h (by decide) rfl ?_ | refine oa_lenSl rfl rfl rfl UnF.h rfl hv ?_ | refine oa_lenSl rfl rfl rfl UnF.h rfl hw ?_ | refine oa_lssF rfl rfl (by omega) ?_ | refine oa_lssT rfl rfl (by omega) ?_ | refine oa_leqF rfl rfl (by omega) ?_ | refine oa_leqT rfl rfl (by omega) ?_ | refine oa_gtrF rfl rfl (by omega) ?_ | refine oa_gtrT rfl rfl (by omega) ?_ | refine oa_geqF rfl rfl (by omega) ?_ | refine oa_geqT rfl rfl (by omega) ?_ | refine oa_eqlF rfl rfl (by omega) ?_ | refine oa_eqlT rfl rfl (by omega) ?_ | refine oa_neqF rfl rfl (by omega) ?_ | refine oa_neqT rfl rfl (by omega) ?_ | refine oa_pickT rfl rfl rfl ?_ | refine oa_pickF rfl rfl ?_ | refine oa_not rfl ?_ | refine oa_extract rfl rfl ?_)))
    exact ia_nil (va_condF rfl (va_exit (fin ⟨hle1, hle2, hpre, fun h _ => absurd h c1⟩ _ ⟨rfl, rfl, rfl, trivial⟩)))
  by_cases c2 : i < bl.length
  rotate_left
  · (repeat (first | refine ia_gdN rfl ?_ | refine ia_gdU rfl ?_ | ((first | refine ia_op ?_ | refine ia_gdY rfl ?_); first | refine oa_move rfl ?_ | refine oa_assign rfl ?_ | refine oa_nilCheck rfl ?_ | refine oa_fieldAddr FpF.h (by decide) rfl ?_ | refine oa_lenSl rfl rfl rfl UnF.h rfl hv ?_ | refine oa_lenSl rfl rfl rfl UnF.h rfl hw ?_ | refine oa_lssF rfl rfl (by omega) ?_ | refine oa_lssT rfl rfl (by omega) ?_ | refine oa_leqF rfl rfl (by omega) ?_ | refine oa_leqT rfl rfl (by omega) ?_ | refine oa_gtrF rfl rfl (by omega) ?_ | refine oa_gtrT rfl rfl (by omega) ?_ | refine oa_geqF rfl rfl (by omega) ?_ | refine oa_geqT rfl rfl (by omega) ?_ | refine oa_eqlF rfl rfl (by omega) ?_ | refine oa_eqlT rfl rfl (by omega) ?_ | refine oa_neqF rfl rfl (by omega) ?_ | refine oa_neqT rfl rfl (by omega) ?_ | refine oa_pickT rfl rfl rfl ?_ | refine oa_pickF rfl rfl ?_ | refine oa_not rfl ?_ | refine oa_extract rfl rfl ?_)))
    exact ia_nil (va_condF rfl (va_exit (fin ⟨hle1, hle2, hpre, fun _ h => absurd h c2⟩ _ ⟨rfl, rfl, rfl, trivial⟩)))
  obtain ⟨p, hp⟩ : ∃ p, al[i]? = some p := ⟨_, List.getElem?_eq_getElem c1⟩
  obtain ⟨q, hq⟩ : ∃ q, bl[i]? = some q := ⟨_, List.getElem?_eq_getElem c2⟩
  have hc1 := flat_chunk evC_len al i p hp
  have hc2 := flat_chunk evC_len bl i q hq
  (repeat (first | refine ia_gdN rfl ?_ | refine ia_gdU rfl ?_ | ((first | refine ia_op ?_ | refine ia_gdY rfl ?_); first | refine oa_move rfl ?_ | refine oa_assign rfl ?_ | refine oa_nilCheck rfl ?_ | refine oa_fieldAddr FpF.h (by decide) rfl ?_ | refine oa_lenSl rfl rfl rfl UnF.h rfl hv ?_ | refine oa_lenSl rfl rfl rfl UnF.h rfl hw ?_ | refine oa_lssF rfl rfl (by omega) ?_ | refine oa_lssT rfl rfl (by omega) ?_ | refine oa_leqF rfl rfl (by omega) ?_ | refine oa_leqT rfl rfl (by omega) ?_ | refine oa_gtrF rfl rfl (by omega) ?_ | refine oa_gtrT rfl rfl (by omega) ?_ | refine oa_geqF rfl rfl (by omega) ?_ | refine oa_geqT rfl rfl (by omega) ?_ | refine oa_eqlF rfl rfl (by omega) ?_ | refine oa_eqlT rfl rfl (by omega) ?_ | refine oa_neqF rfl rfl (by omega) ?_ | refine oa_neqT rfl rfl (by omega) ?_ | refine oa_pickT rfl rfl rfl ?_ | refine oa_pickF rfl rfl ?_ | refine oa_not rfl ?_ | refine oa_extract rfl rfl ?_)))
  refine ia_gdY rfl (oa_indexSl UnF.h SzF.h rfl hv rfl rfl c1 fun q0 hq0 => ?_)
  rw [hc1] at hq0
  refine ia_gdY rfl (oa_ploadN (k := 2) PlF.h rfl (by decide) rfl hq0 ?_)
  iterate 2 refine ia_gdY rfl (oa_move rfl ?_)
  refine ia_gdY rfl (oa_indexSl UnF.h SzF.h rfl hw rfl rfl c2 fun q1 hq1 => ?_)
  rw [hc2] at hq1
  refine ia_gdY rfl (oa_ploadN (k := 2) PlF.h rfl (by decide) rfl hq1 ?_)
  refine ia_gdY rfl (oa_aeql ff_ev eg_ev rfl rfl (flatEq_int (flatEq_int rfl)) ?_)
  rw [evq, ← eqM_get hp hq]
  refine ia_op (oa_pickT rfl rfl rfl ?_)
  cases he : eqM al bl i i with
  | false => exact ia_nil (va_condF rfl (va_exit (fin ⟨hle1, hle2, hpre, fun _ _ => he⟩ _ ⟨rfl, rfl, rfl, trivial⟩)))
  | true =>
    refine ia_nil (va_condT rfl (va_skip (va_block (va_reg ?_))))
    refine ia_pl rfl ?_
    refine ia_op (oa_addW (c := ((i + 1 : Nat) : Int)) rfl rfl (wrapE_i64 (by omega) (by omega) (by omega)) ?_)
    refine ia_pl rfl ?_
    refine ia_nil ⟨i + 1, ?_, ⟨rfl, rfl, rfl, trivial⟩, rfl, by omega, by omega, fun j hj => ?_⟩
    · show al.length - (i + 1) < al.length - i
      omega
    · by_cases hji : j = i
      · rw [hji]; exact he
      · exact hpre j (by omega)
set_option maxHeartbeats 0 in
theorem rSizes_ok {al bl : List (Int × Int)} (hn : al.length ≤ 500) (hm : bl.length ≤ 500) (hv : IsSl H v 2 al.length (al.flatMap evC)) (hw : IsSl H w 2 bl.length (bl.flatMap evC))
    (hQ : ∀ u below us H', SzI (eqM al bl) al.length bl.length H al.length u below us H' → Q u H') : WpF Tryz.prog tb gl 174 [v, w] H Q := by
  have hlim : limit = 1000000 := rfl
  obtain ⟨n, hne⟩ : ∃ n, n = al.length := ⟨_, rfl⟩
  obtain ⟨m, hme⟩ : ∃ m, m = bl.length := ⟨_, rfl⟩
  obtain ⟨e, hee⟩ : ∃ e, e = eqM al bl := ⟨_, rfl⟩
  rw [← hne] at hv hQ hn
  rw [← hme] at hw hQ hm
  rw [← hee] at hQ
  refine fa Tryz.func174 b174_eq v174_eq r174_eq (.inr (by simp)) ?_
  refine va_seqr ?_
  refine ia_pl rfl ?_
  refine ia_nil (va_seqr ?_)
  refine ia_pl rfl ?_; (repeat ((first | refine ia_op (oa_lenSl rfl rfl rfl UnF.h rfl hw ?_)); refine ia_pl rfl ?_))
  refine ia_op (oa_addW (c := ((m + 1 : Nat) : Int)) rfl rfl (wrapE_i64 (by omega) (by omega) (by omega)) ?_)
  refine ia_op (oa_makeSlice (n := m + 1) (c := m + 1) ElF.h rfl rfl rfl rfl (Nat.le_refl _) (by omega) rfl fun H1 hk1 hr1 => ?_)
  rw [show ((AV.int .i64 0).cells) = [AV.int .i64 0] from rfl, repL_one] at hr1
  refine ia_pl rfl ?_
  refine ia_nil (va_seqr ?_)
  refine ia_pl rfl ?_
  refine ia_op (oa_newSlice (n := 1) ElF.h (by decide) rfl rfl fun H2 hk2 hr2 => ?_)
  refine ia_pl rfl ?_
  refine ia_nil (va_seq (va_seqr ?_))
  refine ia_pl rfl ?_; (repeat ((first | refine ia_op (oa_lenSl rfl rfl rfl UnF.h rfl ((hv.keep0 hk1).keep0 hk2) ?_)); refine ia_pl rfl ?_))
  refine ia_op (oa_subW (c := (n : Int) - 1 - ((0 : Nat) : Int)) rfl rfl (wrapE_i64 (by omega) (by omega) (by omega)) ?_)
  refine ia_pl rfl ?_
  refine ia_nil (va_block ?_)
  refine va_loop (fun (a : Nat × AV × AV × List AV) => [(0, v), (1, w), (5, a.2.2.1), (6, a.2.1), (7, .int .i64 ((n : Int) - 1 - (a.1 : Int)))]) (fun a H' => a.1 ≤ n ∧ SzI e n m H a.1 a.2.1 a.2.2.1 a.2.2.2 H') (fun a => n - a.1) ?_ (0, .sl H1.nx 0 1 1, .sl H.nx 0 (m + 1) (m + 1), [.sl H.nx 0 (m + 1) (m + 1)]) _ H2 ⟨rfl, rfl, rfl, rfl, rfl, trivial⟩
    ⟨Nat.zero_le _, hk1.trans0 hk2, rfl, IsRow.sl (es := 1) (n := 1) hr2 rfl (Nat.le_refl 1), fun v hv => by rw [List.mem_singleton.1 hv]; rfl, fun x v hx => ?_, rfl⟩
  rotate_left
  · cases x with
    | succ x => simp at hx
    | zero =>
      simp only [List.getElem?_cons_zero, Option.some.injEq] at hx
      subst hx
      refine ⟨_, _, rfl, hr1.keep0 hk2, List.length_replicate, fun j hj => ?_⟩
      rw [List.getElem?_replicate, if_pos (by omega), Lm_out (by omega)]
      rfl
  rintro ⟨k, u, below, us⟩ H3 ⟨hk, I⟩
  simp only at hk I
  refine va_seq (va_seqr ?_)
  refine ia_pl rfl ?_
  by_cases hkn : k = n
  · refine ia_op (oa_geqW rfl rfl (decide_eq_false (by simp only; omega)) (ia_nil (va_condF rfl (va_exit (va_seqr ?_)))))
    refine ia_pl rfl ?_
    subst hkn
    exact ia_nil (va_ret ⟨_, rfl, hQ u below us H3 I⟩)
  obtain ⟨i, hi⟩ : ∃ i, n = i + k + 1 := ⟨n - 1 - k, by omega⟩
  have hni : (n : Int) - 1 - (k : Int) = (i : Int) := by omega
  simp only [hni]
  refine ia_op (oa_geqW rfl rfl (decide_eq_true (by omega)) (ia_nil (va_condT rfl (va_skip (va_seq (va_block (va_seqr ?_)))))))
  have hw3 := hw.keep0 I.keep
  have hv3 := hv.keep0 I.keep
  refine ia_pl rfl ?_; (repeat ((first | refine ia_op (oa_lenSl rfl rfl rfl UnF.h rfl hw3 ?_)); refine ia_pl rfl ?_))
  refine ia_op (oa_addW (c := ((m + 1 : Nat) : Int)) rfl rfl (wrapE_i64 (by omega) (by omega) (by omega)) ?_)
  refine ia_op (oa_makeSlice (n := m + 1) (c := m + 1) ElF.h rfl rfl rfl rfl (Nat.le_refl _) (by omega) rfl fun H4 hk4 hr4 => ?_)
  rw [show ((AV.int .i64 0).cells) = [AV.int .i64 0] from rfl, repL_one] at hr4
  obtain ⟨br, hbr⟩ : ∃ b, b = H3.nx := ⟨_, rfl⟩
  rw [← hbr] at hr4 ⊢
  have hbl := hr4.1
  refine ia_pl rfl ?_
  refine ia_nil (va_seq (va_seqr ?_))
  refine ia_pl rfl ?_; (repeat ((first | refine ia_op (oa_lenSl rfl rfl rfl UnF.h rfl (hw3.keep0 hk4) ?_)); refine ia_pl rfl ?_))
  refine ia_op (oa_subW (c := (m : Int) - 1 - ((0 : Nat) : Int)) rfl rfl (wrapE_i64 (by omega) (by omega) (by omega)) ?_)
  refine ia_pl rfl ?_
  obtain ⟨bb, bcells, hbel, hbrow, hblen, hbval⟩ := I.row 0 below I.hd
  rw [Nat.add_zero, show n - k = i + 1 by omega] at hbval
  have hbblt := hbrow.1
  subst hbel
  refine ia_nil (va_block ?_)
  refine va_loop (fun (a : Nat × List AV) => [(0, v), (1, w), (5, .sl bb 0 (m + 1) (m + 1)), (6, u), (7, .int .i64 (i : Int)), (8, .sl br 0 (m + 1) (m + 1)), (9, .int .i64 ((m : Int) - 1 - (a.1 : Int)))])
    (fun a H' => a.1 ≤ m ∧ Keep (· = br) H4 H' ∧ IsRow H' br a.2 false false ∧ a.2.length = m + 1 ∧ ∀ j, j ≤ m → m ≤ j + a.1 → a.2[j]? = some (.int .i64 (Lm e n m i j : Nat))) (fun a => m - a.1) ?_ (0, List.replicate (m + 1) (.int .i64 0)) _ H4 ⟨rfl, rfl, rfl, rfl, rfl, rfl, rfl, trivial⟩
    ⟨Nat.zero_le _, .refl _ _, hr4, by simp only [List.length_replicate], fun j hj hmj => by simp only at hmj ⊢; rw [List.getElem?_replicate, if_pos (by omega), Lm_out (by omega)]; rfl⟩
  rintro ⟨h, cells⟩ H5 ⟨hh, hk5, hrow5, hlen5, hval5⟩
  simp only at hh hrow5 hlen5 hval5
  have hK35 : Keep Non H3 H5 := hk4.trans hk5 fun c hc => .inr (by omega)
  refine va_seq (va_seqr ?_)
  refine ia_pl rfl ?_
  by_cases hhm : h = m
  · subst hhm
    refine ia_op (oa_geqW rfl rfl (decide_eq_false (by simp only; omega)) (ia_nil (va_condF rfl (va_exit (va_seqr ?_)))))
    refine ia_pl rfl ?_
    refine ia_nil (va_seqr ?_)
    refine ia_pl rfl ?_
    refine ia_op (oa_newSlice (n := 1) ElF.h (by decide) rfl rfl fun H6 hk6 hr6 => ?_)
    refine ia_op (oa_append rfl rfl rfl ElF.h (.inl UnF.h) rfl (Own.nil H6 1) rfl (IsRow.sl (es := 1) (n := 1) hr6 rfl (Nat.le_refl 1)).elems rfl rfl (by omega) fun u1 H7 ho7 hk7 hb7 => ?_)
    have hK67 : Keep Non H6 H7 := hk7.wide fun _ h => h.elim
    refine ia_pl rfl ?_
    have hK37 := (hK35.trans0 hk6).trans0 hK67
    have hIu := I.own.keep0 hK37
    refine ia_op (oa_append rfl rfl rfl ElF.h (.inl UnF.h) rfl ho7 rfl hIu.elems (by rw [Nat.mul_one]) (scalL_of I.sl) (by have := I.len; omega) fun u2 H8 ho8 hk8 hb8 => ?_)
    have hn7 : ∀ c, ownB u1 c → H6.nx ≤ c := fun c hc => (hb7 c hc).elim (fun h => h.elim) id
    have hK78 : Keep Non H6 H8 := hK67.trans hk8 fun c hc => .inr (hn7 c hc)
    have hK38 := (hK35.trans0 hk6).trans0 hK78
    refine ia_pl rfl ?_
    refine ia_nil (va_reg ?_)
    refine ia_pl rfl ?_
    refine ia_nil (va_reg ?_)
    refine ia_pl rfl ?_
    refine ia_op (oa_subW (c := (n : Int) - 1 - ((k + 1 : Nat) : Int)) rfl rfl (wrapE_i64 (by omega) (by omega) (by omega)) ?_)
    refine ia_pl rfl ?_
    have hl := I.len
    refine ia_nil ⟨(k + 1, u2, .sl br 0 (h + 1) (h + 1), .sl br 0 (h + 1) (h + 1) :: us), ?_, ⟨rfl, rfl, rfl, rfl, rfl, trivial⟩, by simp only; omega, I.keep.trans0 hK38, by simp only [List.length_cons]; omega, ?_, fun x hx => ?_, fun x y hx => ?_, rfl⟩
    · show n - (k + 1) < n - k
      omega
    · simp only [List.length_cons]
      rw [Nat.add_comm]
      exact ho8.sl
    · rcases List.mem_cons.1 hx with rfl | hx
      · rfl
      · exact I.sl x hx
    · have hrow8 : IsRow H8 br cells false false := (hrow5.keep0 hk6).keep0 hK78
      cases x with
      | zero =>
        simp only [List.getElem?_cons_zero, Option.some.injEq] at hx
        subst hx
        refine ⟨br, cells, rfl, hrow8, hlen5, fun j hj => ?_⟩
        rw [Nat.add_zero, show n - (k + 1) = i by omega]
        exact hval5 j hj (by omega)
      | succ x =>
        rw [List.getElem?_cons_succ] at hx
        have := (I.row x y hx).keep0 hK38
        rwa [show n - (k + 1) + (x + 1) = n - k + x by omega]
  obtain ⟨j, hj⟩ : ∃ j, m = j + h + 1 := ⟨m - 1 - h, by omega⟩
  have hmj : (m : Int) - 1 - (h : Int) = (j : Int) := by omega
  simp only [hmj]
  have hb5 := hbrow.keep0 hK35
  have hbne : bb ≠ br := by omega
  refine ia_op (oa_geqW rfl rfl (decide_eq_true (by omega)) (ia_nil (va_condT rfl (va_skip (va_seq (va_block (va_seqr ?_)))))))
  refine ia_pl rfl ?_
  refine ia_op (oa_indexRow (j := j) UnF.h SzF.h rfl rfl rfl (by omega) ?_)
  refine ia_op (oa_load1 PlF.h rfl hb5 (by rw [Nat.mul_one]; exact hbval j (by omega)) ?_)
  refine ia_op (oa_indexRow (j := j) UnF.h SzF.h rfl rfl rfl (by omega) ?_)
  rw [Nat.mul_one]
  refine ia_op (oa_store1 SzF.h rfl rfl rfl hrow5 (by omega) fun H6 hk6 hn6 hr6 => ?_)
  refine ia_nil (va_seq ?_)
  have hx3 := hK35.nx
  refine va_cut (fun l' H' => Keep (· = br) H4 H' ∧ IsRow H' br (cells.set j (.int .i64 ((max (Lm e n m (i + 1) j) (Lm e n m i (j + 1)) : Nat) : Int))) false false ∧ Sb [(0, v), (1, w), (5, .sl bb 0 (m + 1) (m + 1)), (6, u), (7, .int .i64 (i : Int)), (8, .sl br 0 (m + 1) (m + 1)), (9, .int .i64 (j : Int))] l') ?_ ?_
  · have hself : (cells.set j (.int .i64 (Lm e n m (i + 1) j : Nat)))[j]? = some (.int .i64 (Lm e n m (i + 1) j : Nat)) := List.getElem?_set_self (by omega)
    have hnext : (cells.set j (.int .i64 (Lm e n m (i + 1) j : Nat)))[j + 1]? = some (.int .i64 (Lm e n m i (j + 1) : Nat)) := by
      rw [List.getElem?_set_ne (by omega)]
      exact hval5 (j + 1) (by omega) (by omega)
    refine va_seqr ?_
    refine ia_pl rfl ?_
    refine ia_op (oa_addW (c := ((j + 1 : Nat) : Int)) rfl rfl (wrapE_i64 (by omega) (by omega) (by omega)) ?_)
    refine ia_op (oa_indexRow (j := j + 1) UnF.h SzF.h rfl rfl rfl (by omega) ?_)
    refine ia_op (oa_load1 PlF.h rfl hr6 (by rw [Nat.mul_one]; exact hnext) ?_)
    refine ia_pl rfl ?_
    refine ia_op (oa_indexRow (j := j) UnF.h SzF.h rfl rfl rfl (by omega) ?_)
    refine ia_op (oa_load1 PlF.h rfl hr6 (by rw [Nat.mul_one]; exact hself) ?_)
    by_cases hgt : Lm e n m (i + 1) j < Lm e n m i (j + 1)
    · refine ia_op (oa_gtrW rfl rfl (decide_eq_true (by omega)) (ia_nil (va_condT rfl (va_reg ?_))))
      refine ia_pl rfl ?_
      refine ia_op (oa_addW (c := ((j + 1 : Nat) : Int)) rfl rfl (wrapE_i64 (by omega) (by omega) (by omega)) ?_)
      refine ia_op (oa_indexRow (j := j + 1) UnF.h SzF.h rfl rfl rfl (by omega) ?_)
      refine ia_op (oa_load1 PlF.h rfl hr6 (by rw [Nat.mul_one]; exact hnext) ?_)
      refine ia_op (oa_indexRow (j := j) UnF.h SzF.h rfl rfl rfl (by omega) ?_)
      rw [Nat.mul_one]
      refine ia_op (oa_store1 SzF.h rfl rfl rfl hr6 (by rw [List.length_set]; omega) fun H7 hk7 hn7 hr7 => ?_)
      rw [List.set_set] at hr7
      refine ia_nil ⟨(hk5.trans hk6 fun c hc => .inl hc).trans hk7 fun c hc => .inl hc, ?_, rfl, rfl, rfl, rfl, rfl, rfl, rfl, trivial⟩
      rw [show max (Lm e n m (i + 1) j) (Lm e n m i (j + 1)) = Lm e n m i (j + 1) by omega]
      exact hr7
    · refine ia_op (oa_gtrW rfl rfl (decide_eq_false (by omega)) (ia_nil (va_condF rfl (va_skip ⟨hk5.trans hk6 fun c hc => .inl hc, ?_, rfl, rfl, rfl, rfl, rfl, rfl, rfl, trivial⟩))))
      rw [show max (Lm e n m (i + 1) j) (Lm e n m i (j + 1)) = Lm e n m (i + 1) j by omega]
      exact hr6
  rintro l7 H7 ⟨hk7, hr7, hs7⟩
  have hK37 : Keep Non H3 H7 := hk4.trans hk7 fun c hc => .inr (by omega)
  have hb7 := hbrow.keep0 hK37
  obtain ⟨p, hp⟩ : ∃ p, al[i]? = some p := ⟨_, List.getElem?_eq_getElem (by omega)⟩
  obtain ⟨q, hq⟩ : ∃ q, bl[j]? = some q := ⟨_, List.getElem?_eq_getElem (by omega)⟩
  have hc1 := flat_chunk evC_len al i p hp
  have hc2 := flat_chunk evC_len bl j q hq
  have hmax := Lm_max (e := e) (n := n) (m := m) (i := i) (j := j) (by omega) (by omega)
  have hLe := Lm_le (e := e) (n := n) (m := m) (i + 1) (j + 1)
  have hself : (cells.set j (.int .i64 ((max (Lm e n m (i + 1) j) (Lm e n m i (j + 1)) : Nat) : Int)))[j]? = some (.int .i64 ((max (Lm e n m (i + 1) j) (Lm e n m i (j + 1)) : Nat) : Int)) := List.getElem?_set_self (by omega)
  -- a round is over
  have fin : ∀ (H8 : Heap) (l8 : Fm), Keep (· = br) H4 H8 → IsRow H8 br (cells.set j (.int .i64 (Lm e n m i j : Nat))) false false → Sb [(0, v), (1, w), (5, .sl bb 0 (m + 1) (m + 1)), (6, u), (7, .int .i64 (i : Int)), (8, .sl br 0 (m + 1) (m + 1)), (9, .int .i64 (j : Int))] l8 →
      ∀ R, VA Tryz.prog tb gl (.reg [.op (some 33) (.move (.tmp 9)), .op (some 34) (.binOp .sub 3 (.tmp 33) (.const (.int .i64 1)) 3), .op (some 9) (.assign (.tmp 34))]) l8 H8 (roundA (fun (a : Nat × List AV) => [(0, v), (1, w), (5, .sl bb 0 (m + 1) (m + 1)), (6, u), (7, .int .i64 (i : Int)), (8, .sl br 0 (m + 1) (m + 1)), (9, .int .i64 ((m : Int) - 1 - (a.1 : Int)))])
    (fun a H' => a.1 ≤ m ∧ Keep (· = br) H4 H' ∧ IsRow H' br a.2 false false ∧ a.2.length = m + 1 ∧ ∀ j, j ≤ m → m ≤ j + a.1 → a.2[j]? = some (.int .i64 (Lm e n m i j : Nat))) (fun a => m - a.1) (h, cells) R) := by
    intro H8 l8 hk8 hr8 hs8 R
    refine VA.sub hs8 (va_reg ?_)
    refine ia_pl rfl ?_
    refine ia_op (oa_subW (c := (m : Int) - 1 - ((h + 1 : Nat) : Int)) rfl rfl (wrapE_i64 (by omega) (by omega) (by omega)) ?_)
    refine ia_pl rfl ?_
    refine ia_nil ⟨(h + 1, _), ?_, ⟨rfl, rfl, rfl, rfl, rfl, rfl, rfl, trivial⟩, by simp only; omega, hk8, hr8, by rw [List.length_set]; exact hlen5, fun j' hj' hmj' => ?_⟩
    · show m - (h + 1) < m - h
      omega
    · simp only at hmj' ⊢
      by_cases hjj : j = j'
      · subst hjj
        exact List.getElem?_set_self (by omega)
      · rw [List.getElem?_set_ne hjj]
        exact hval5 j' hj' (by omega)
  refine VA.sub hs7 (va_seqr ?_)
  refine ia_pl rfl ?_
  refine ia_op (oa_indexSl UnF.h SzF.h rfl (hv3.keep0 hK37) rfl rfl (by omega) fun q0 hq0 => ?_)
  rw [hc1] at hq0
  refine ia_op (oa_ploadN (k := 2) PlF.h rfl (by decide) rfl hq0 ?_)
  refine ia_pl rfl ?_
  refine ia_op (oa_indexSl UnF.h SzF.h rfl (hw3.keep0 hK37) rfl rfl (by omega) fun q0 hq0 => ?_)
  rw [hc2] at hq0
  refine ia_op (oa_ploadN (k := 2) PlF.h rfl (by decide) rfl hq0 ?_)
  refine ia_op (oa_aeql ff_ev eg_ev rfl rfl (flatEq_int (flatEq_int rfl)) ?_)
  rw [evq, ← eqM_get hp hq, ← hee]
  refine ia_op (oa_move rfl ?_)
  cases heq : e i j with
  | false =>
    rw [heq, if_neg (by simp)] at hmax
    (repeat (first | refine ia_gdN rfl ?_ | refine ia_gdU rfl ?_ | ((first | refine ia_op ?_ | refine ia_gdY rfl ?_); first | refine oa_move rfl ?_ | refine oa_assign rfl ?_ | refine oa_nilCheck rfl ?_ | refine oa_fieldAddr FpF.h (by decide) rfl ?_ | refine oa_lssF rfl rfl (by omega) ?_ | refine oa_lssT rfl rfl (by omega) ?_ | refine oa_leqF rfl rfl (by omega) ?_ | refine oa_leqT rfl rfl (by omega) ?_ | refine oa_gtrF rfl rfl (by omega) ?_ | refine oa_gtrT rfl rfl (by omega) ?_ | refine oa_geqF rfl rfl (by omega) ?_ | refine oa_geqT rfl rfl (by omega) ?_ | refine oa_eqlF rfl rfl (by omega) ?_ | refine oa_eqlT rfl rfl (by omega) ?_ | refine oa_neqF rfl rfl (by omega) ?_ | refine oa_neqT rfl rfl (by omega) ?_ | refine oa_pickT rfl rfl rfl ?_ | refine oa_pickF rfl rfl ?_ | refine oa_not rfl ?_ | refine oa_extract rfl rfl ?_)))
    refine ia_nil (va_condF rfl (va_skip (fin H7 _ hk7 ?_ ⟨rfl, rfl, rfl, rfl, rfl, rfl, rfl, trivial⟩ _)))
    rw [hmax]
    exact hr7
  | true =>
    refine ia_gdY rfl (oa_move rfl ?_)
    refine ia_gdY rfl (oa_move rfl ?_)
    refine ia_gdY rfl (oa_addW (c := ((j + 1 : Nat) : Int)) rfl rfl (wrapE_i64 (by omega) (by omega) (by omega)) ?_)
    refine ia_gdY rfl (oa_indexRow (j := j + 1) UnF.h SzF.h rfl rfl rfl (by omega) ?_)
    refine ia_gdY rfl (oa_load1 PlF.h rfl hb7 (by rw [Nat.mul_one]; exact hbval (j + 1) (by omega)) ?_)
    refine ia_gdY rfl (oa_addW (c := ((Lm e n m (i + 1) (j + 1) + 1 : Nat) : Int)) rfl rfl (wrapE_i64 (by omega) (by omega) (by omega)) ?_)
    refine ia_gdY rfl (oa_move rfl ?_)
    refine ia_gdY rfl (oa_move rfl ?_)
    refine ia_gdY rfl (oa_indexRow (j := j) UnF.h SzF.h rfl rfl rfl (by omega) ?_)
    refine ia_gdY rfl (oa_load1 PlF.h rfl hr7 (by rw [Nat.mul_one]; exact hself) ?_)
    by_cases hgt : max (Lm e n m (i + 1) j) (Lm e n m i (j + 1)) < Lm e n m (i + 1) (j + 1) + 1
    · rw [heq, if_pos ⟨rfl, hgt⟩] at hmax
      refine ia_gdY rfl (oa_gtrW rfl rfl (decide_eq_true (by omega)) ?_)
      refine ia_op (oa_pickT rfl rfl rfl (ia_nil (va_condT rfl (va_reg ?_))))
      refine ia_pl rfl ?_
      refine ia_op (oa_addW (c := ((j + 1 : Nat) : Int)) rfl rfl (wrapE_i64 (by omega) (by omega) (by omega)) ?_)
      refine ia_op (oa_indexRow (j := j + 1) UnF.h SzF.h rfl rfl rfl (by omega) ?_)
      refine ia_op (oa_load1 PlF.h rfl hb7 (by rw [Nat.mul_one]; exact hbval (j + 1) (by omega)) ?_)
      refine ia_op (oa_addW (c := ((Lm e n m (i + 1) (j + 1) + 1 : Nat) : Int)) rfl rfl (wrapE_i64 (by omega) (by omega) (by omega)) ?_)
      refine ia_op (oa_indexRow (j := j) UnF.h SzF.h rfl rfl rfl (by omega) ?_)
      rw [Nat.mul_one]
      refine ia_op (oa_store1 SzF.h rfl rfl rfl hr7 (by rw [List.length_set]; omega) fun H8 hk8 hn8 hr8 => ?_)
      rw [List.set_set, ← hmax] at hr8
      exact ia_nil (fin H8 _ (hk7.trans hk8 fun c hc => .inl hc) hr8 ⟨rfl, rfl, rfl, rfl, rfl, rfl, rfl, trivial⟩ _)
    · rw [if_neg (fun h => hgt h.2)] at hmax
      refine ia_gdY rfl (oa_gtrW rfl rfl (decide_eq_false (by omega)) ?_)
      refine ia_op (oa_pickT rfl rfl rfl (ia_nil (va_condF rfl (va_skip (fin H7 _ hk7 ?_ ⟨rfl, rfl, rfl, rfl, rfl, rfl, rfl, trivial⟩ _)))))
      rw [hmax]
      exact hr7
end
end Go.Proofs.YtndhniapohlniaaGreatDoor
