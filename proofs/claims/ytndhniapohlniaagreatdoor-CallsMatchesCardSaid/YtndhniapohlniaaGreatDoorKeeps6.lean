/-
  Matched calls: two calls visited, and those made in them (matcher.visit), walked. Conditions: the calls' number.
-/
import Derived.Test.YtndhniapohlniaaGreatDoorKeeps5
namespace Go.Proofs.YtndhniapohlniaaGreatDoor
open Go Go.Proofs.YtndhniapohlniaaGreatDoor.Eng
/-! facts about types -/
theorem sz_79 : szOf Tryz.prog 79 = some 1 := by kernel_rfl
instance isz_79 : SzF Tryz.prog 79 1 := ⟨sz_79⟩
theorem pl_79 : plcOf Tryz.prog 79 0 = some ⟨0, false, 1⟩ := by kernel_rfl
instance ipl_79 : PlF Tryz.prog 79 ⟨0, false, 1⟩ := ⟨pl_79⟩
theorem fp_87_6 : fieldPlc Tryz.prog 87 6 = some ⟨7, false, 1⟩ := by kernel_rfl
instance ifp_87_6 : FpF Tryz.prog 87 6 ⟨7, false, 1⟩ := ⟨fp_87_6⟩
theorem pl_29 : plcOf Tryz.prog 29 0 = some ⟨0, false, 1⟩ := by kernel_rfl
instance ipl_29 : PlF Tryz.prog 29 ⟨0, false, 1⟩ := ⟨pl_29⟩
theorem sz_29 : szOf Tryz.prog 29 = some 1 := by kernel_rfl
instance isz_29 : SzF Tryz.prog 29 1 := ⟨sz_29⟩
theorem fp_87_2 : fieldPlc Tryz.prog 87 2 = some ⟨2, false, 1⟩ := by kernel_rfl
instance ifp_87_2 : FpF Tryz.prog 87 2 ⟨2, false, 1⟩ := ⟨fp_87_2⟩
theorem pl_80 : plcOf Tryz.prog 80 0 = some ⟨0, false, 1⟩ := by kernel_rfl
instance ipl_80 : PlF Tryz.prog 80 ⟨0, false, 1⟩ := ⟨pl_80⟩
theorem fp_87_3 : fieldPlc Tryz.prog 87 3 = some ⟨3, false, 1⟩ := by kernel_rfl
instance ifp_87_3 : FpF Tryz.prog 87 3 ⟨3, false, 1⟩ := ⟨fp_87_3⟩
theorem ze_52 : zeroOf Tryz.prog 52 = some (.nils) := by kernel_rfl
instance ize_52 : ZeF Tryz.prog 52 (.nils) := ⟨ze_52⟩
theorem fp_87_0 : fieldPlc Tryz.prog 87 0 = some ⟨0, false, 1⟩ := by kernel_rfl
instance ifp_87_0 : FpF Tryz.prog 87 0 ⟨0, false, 1⟩ := ⟨fp_87_0⟩
theorem pl_25 : plcOf Tryz.prog 25 0 = some ⟨0, false, 1⟩ := by kernel_rfl
instance ipl_25 : PlF Tryz.prog 25 ⟨0, false, 1⟩ := ⟨pl_25⟩
theorem fp_87_4 : fieldPlc Tryz.prog 87 4 = some ⟨4, true, 2⟩ := by kernel_rfl
instance ifp_87_4 : FpF Tryz.prog 87 4 ⟨4, true, 2⟩ := ⟨fp_87_4⟩
theorem fp_87_1 : fieldPlc Tryz.prog 87 1 = some ⟨1, false, 1⟩ := by kernel_rfl
instance ifp_87_1 : FpF Tryz.prog 87 1 ⟨1, false, 1⟩ := ⟨fp_87_1⟩
theorem fp_87_5 : fieldPlc Tryz.prog 87 5 = some ⟨6, false, 1⟩ := by kernel_rfl
instance ifp_87_5 : FpF Tryz.prog 87 5 ⟨6, false, 1⟩ := ⟨fp_87_5⟩
theorem fp_87_7 : fieldPlc Tryz.prog 87 7 = some ⟨8, false, 1⟩ := by kernel_rfl
instance ifp_87_7 : FpF Tryz.prog 87 7 ⟨8, false, 1⟩ := ⟨fp_87_7⟩
theorem pl_4 : plcOf Tryz.prog 4 0 = some ⟨0, false, 1⟩ := by kernel_rfl
instance ipl_4 : PlF Tryz.prog 4 ⟨0, false, 1⟩ := ⟨pl_4⟩
theorem sz_4 : szOf Tryz.prog 4 = some 1 := by kernel_rfl
instance isz_4 : SzF Tryz.prog 4 1 := ⟨sz_4⟩
theorem sz_44 : szOf Tryz.prog 44 = some 2 := by kernel_rfl
instance isz_44 : SzF Tryz.prog 44 2 := ⟨sz_44⟩
theorem pl_44 : plcOf Tryz.prog 44 0 = some ⟨0, true, 2⟩ := by kernel_rfl
instance ipl_44 : PlF Tryz.prog 44 ⟨0, true, 2⟩ := ⟨pl_44⟩
theorem fp_44_0 : fieldPlc Tryz.prog 44 0 = some ⟨0, false, 1⟩ := by kernel_rfl
instance ifp_44_0 : FpF Tryz.prog 44 0 ⟨0, false, 1⟩ := ⟨fp_44_0⟩
theorem fp_44_1 : fieldPlc Tryz.prog 44 1 = some ⟨1, false, 1⟩ := by kernel_rfl
instance ifp_44_1 : FpF Tryz.prog 44 1 ⟨1, false, 1⟩ := ⟨fp_44_1⟩
theorem un_79 : Tryz.prog.underlying 79 = some (.pointer 87) := by kernel_rfl
instance iun_79 : UnF Tryz.prog 79 (.pointer 87) := ⟨un_79⟩
/-! f18: (*parallax/calls.matcher).visit, parameters #[79, 3, 3] -/
def v18k0 : CV := .seq (.reg [.op (some 84) (.indexAddr 29 (.tmp 80) (.tmp 82)),
    .op (some 85) (.load 44 (.tmp 84)),
    .op (some 12) (.alloc 44),
    .op none (.store 44 (.tmp 12) (.tmp 85))])
  (.reg [.op (some 86) (.move (.tmp 10)),
    .op (some 87) (.load 44 (.tmp 12)),
    .op (some 88) (.call ⟨.value (.tmp 86), #[(.tmp 87)], #[44]⟩)])
def v18l0t2 : CV := .seq (.block 1 v18k0)
  (.reg [.op (some 89) (.binOp .add 3 (.tmp 82) (.const (.int .i64 1)) 3),
    .op (some 82) (.move (.tmp 89))])
def v18l0t1 : CV := .seq (.cond (.tmp 83) (.skip) (.exit 0)) v18l0t2
def v18l0 : CV := .seq (.reg [.op (some 83) (.binOp .lss 3 (.tmp 82) (.tmp 81) 3)]) v18l0t1
def v18t6 : CV := .seq (.reg [.op (some 80) (.move (.tmp 8)),
    .op (some 81) (.call ⟨.builtin .len, #[(.tmp 80)], #[29]⟩),
    .op (some 82) (.move (.const (.int .i64 0)))])
  (.block 0 (.loop v18l0))
def v18t5 : CV := .seq (.reg [.op (some 79) (.makeFunc (.func 42) #[] #[(.tmp 3), (.tmp 6), (.tmp 7)]),
    .op (some 10) (.assign (.tmp 79))]) v18t6
def v18t4 : CV := .seq (.reg [.op (some 69) (.load 79 (.tmp 3)),
    .op (some 70) (.load 79 (.tmp 3)),
    .op (some 71) (.nilCheck (.tmp 70)),
    .op (some 72) (.fieldAddr 87 (.tmp 71) 7),
    .op (some 73) (.load 4 (.tmp 72)),
    .op (some 74) (.move (.tmp 73)),
    .gd 74 false (some 75) (.move (.tmp 9)),
    .op (some 76) (.pick (.tmp 74) (.const (.bool true)) (.tmp 75)),
    .op (some 77) (.nilCheck (.tmp 69)),
    .op (some 78) (.fieldAddr 87 (.tmp 77) 7),
    .op none (.store 4 (.tmp 78) (.tmp 76))]) v18t5
def v18t3 : CV := .seq (.reg [.op (some 40) (.load 79 (.tmp 3)),
    .op (some 41) (.nilCheck (.tmp 40)),
    .op (some 42) (.fieldAddr 87 (.tmp 41) 0),
    .op (some 43) (.load 25 (.tmp 42)),
    .op (some 44) (.load 52 (.tmp 6)),
    .op (some 45) (.load 79 (.tmp 3)),
    .op (some 46) (.nilCheck (.tmp 45)),
    .op (some 47) (.fieldAddr 87 (.tmp 46) 4),
    .op (some 48) (.fieldAddr 84 (.tmp 47) 0),
    .op (some 49) (.load 82 (.tmp 48)),
    .op (some 51) (.load 79 (.tmp 3)),
    .op (some 52) (.nilCheck (.tmp 51)),
    .op (some 53) (.fieldAddr 87 (.tmp 52) 1),
    .op (some 54) (.load 25 (.tmp 53)),
    .op (some 55) (.load 52 (.tmp 7)),
    .op (some 56) (.load 79 (.tmp 3)),
    .op (some 57) (.nilCheck (.tmp 56)),
    .op (some 58) (.fieldAddr 87 (.tmp 57) 4),
    .op (some 59) (.fieldAddr 84 (.tmp 58) 1),
    .op (some 60) (.load 82 (.tmp 59)),
    .op (some 62) (.load 79 (.tmp 3)),
    .op (some 63) (.nilCheck (.tmp 62)),
    .op (some 64) (.fieldAddr 87 (.tmp 63) 5),
    .op (some 65) (.load 3 (.tmp 64)),
    .op (some 50) (.call ⟨.value (.func 41), #[(.tmp 43), (.tmp 44), (.tmp 49), (.const (.int .i64 2))], #[25, 52, 82, 3]⟩),
    .ck 51 (.load 79 (.tmp 3)),
    .ck 54 (.load 25 (.tmp 53)),
    .ck 55 (.load 52 (.tmp 7)),
    .ck 56 (.load 79 (.tmp 3)),
    .ck 60 (.load 82 (.tmp 59)),
    .ck 62 (.load 79 (.tmp 3)),
    .ck 65 (.load 3 (.tmp 64)),
    .op (some 61) (.call ⟨.value (.func 41), #[(.tmp 54), (.tmp 55), (.tmp 60), (.const (.int .i64 3))], #[25, 52, 82, 3]⟩),
    .ck 62 (.load 79 (.tmp 3)),
    .ck 65 (.load 3 (.tmp 64)),
    .op (some 66) (.call ⟨.value (.func 40), #[(.tmp 50), (.tmp 61), (.tmp 65)], #[151, 151, 3]⟩),
    .op (some 39) (.move (.tmp 66)),
    .op (some 67) (.extract (.tmp 39) 0),
    .op (some 68) (.extract (.tmp 39) 1),
    .op (some 8) (.assign (.tmp 67)),
    .op (some 9) (.assign (.tmp 68))]) v18t4
def v18t2 : CV := .seq (.reg [.op (some 25) (.load 79 (.tmp 3)),
    .op (some 26) (.nilCheck (.tmp 25)),
    .op (some 27) (.fieldAddr 87 (.tmp 26) 2),
    .op (some 28) (.load 80 (.tmp 27)),
    .op (some 29) (.move (.tmp 1)),
    .op (some 30) (.indexAddr 80 (.tmp 28) (.tmp 29)),
    .op (some 31) (.load 52 (.tmp 30)),
    .op (some 32) (.load 79 (.tmp 3)),
    .op (some 33) (.nilCheck (.tmp 32)),
    .op (some 34) (.fieldAddr 87 (.tmp 33) 3),
    .op (some 35) (.load 80 (.tmp 34)),
    .op (some 36) (.move (.tmp 2)),
    .op (some 37) (.indexAddr 80 (.tmp 35) (.tmp 36)),
    .op (some 38) (.load 52 (.tmp 37)),
    .op (some 6) (.alloc 52),
    .op (some 7) (.alloc 52),
    .op none (.store 52 (.tmp 6) (.tmp 31)),
    .ck 32 (.load 79 (.tmp 3)),
    .ck 35 (.load 80 (.tmp 34)),
    .ck 38 (.load 52 (.tmp 37)),
    .op none (.store 52 (.tmp 7) (.tmp 38))]) v18t3
def v18t1 : CV := .seq (.reg [.op (some 13) (.load 79 (.tmp 3)),
    .op (some 14) (.load 79 (.tmp 3)),
    .op (some 15) (.nilCheck (.tmp 14)),
    .op (some 16) (.fieldAddr 87 (.tmp 15) 6),
    .op (some 17) (.load 29 (.tmp 16)),
    .op (some 18) (.move (.tmp 1)),
    .op (some 19) (.move (.tmp 2)),
    .op (some 20) (.build 44 #[(0, (.tmp 18)), (1, (.tmp 19))]),
    .op (some 21) (.buildSlice 29 1 #[(0, (.tmp 20))]),
    .op (some 22) (.call ⟨.builtin .append, #[(.tmp 17), (.tmp 21)], #[29, 29]⟩),
    .ck 13 (.load 79 (.tmp 3)),
    .op (some 23) (.nilCheck (.tmp 13)),
    .op (some 24) (.fieldAddr 87 (.tmp 23) 6),
    .op none (.store 29 (.tmp 24) (.tmp 22))]) v18t2
def v18 : CV := .seq (.reg [.op (some 3) (.box 79 (.tmp 0))]) v18t1
noncomputable def b18 : Code := Tryz.f18.body.getD .skip
theorem b18_eq : Tryz.f18.body = some b18 := by kernel_rfl
theorem v18_eq : viewC Tryz.prog b18 = some v18 := by kernel_rfl
theorem r18_eq : Tryz.f18.results.toList = [] := by kernel_rfl
/-! f42: (*parallax/calls.matcher).visit$1, parameters #[44] -/
def v42 : CV := .seq (.reg [.op (some 4) (.box 44 (.tmp 0))])
  (.reg [.op (some 5) (.load 79 (.tmp 1)),
    .op (some 6) (.load 52 (.tmp 2)),
    .op (some 7) (.fieldAddr 44 (.tmp 4) 0),
    .op (some 8) (.load 3 (.tmp 7)),
    .op (some 9) (.indexAddr 52 (.tmp 6) (.tmp 8)),
    .op (some 10) (.load 3 (.tmp 9)),
    .op (some 11) (.load 52 (.tmp 3)),
    .op (some 12) (.fieldAddr 44 (.tmp 4) 1),
    .op (some 13) (.load 3 (.tmp 12)),
    .op (some 14) (.indexAddr 52 (.tmp 11) (.tmp 13)),
    .op (some 15) (.load 3 (.tmp 14)),
    .op (some 16) (.call ⟨.value (.func 18), #[(.tmp 5), (.tmp 10), (.tmp 15)], #[79, 3, 3]⟩)])
noncomputable def b42 : Code := Tryz.f42.body.getD .skip
theorem b42_eq : Tryz.f42.body = some b42 := by kernel_rfl
theorem v42_eq : viewC Tryz.prog b42 = some v42 := by kernel_rfl
theorem r42_eq : Tryz.f42.results.toList = [] := by kernel_rfl

/-! ### the matcher -/
structure MC where
  va : AV
  vb : AV
  bkA : Nat
  bkB : Nat
  mL : Nat
  mR : Nat
  bx : Nat
  usA : List AV
  usB : List AV
  lim : Int
  A : List Cl
  B : List Cl
  L : List (Int × Int)
  R : List (Int × Int)
def MC.row (m : MC) (u : AV) (c : Bool) : List AV := [m.va, m.vb, .sl m.bkA 0 m.A.length m.A.length, .sl m.bkB 0 m.B.length m.B.length, .map m.mL, .map m.mR, .int .i64 m.lim, u, .bool c]
/-- what stands as it is -/
structure MC.Ok (m : MC) (H : Heap) : Prop where
  a : IsSl H m.va 4 m.A.length (m.A.flatMap clC)
  b : IsSl H m.vb 4 m.B.length (m.B.flatMap clC)
  rA : IsRow H m.bkA m.usA false false
  rB : IsRow H m.bkB m.usB false false
  lA : m.usA.length = m.A.length
  lB : m.usB.length = m.B.length
  kA : ∀ (k : Nat) u, m.usA[k]? = some u → Own H u 1 (kidA m.A k).length ((kidA m.A k).flatMap ixC)
  kB : ∀ (k : Nat) u, m.usB[k]? = some u → Own H u 1 (kidA m.B k).length ((kidA m.B k).flatMap ixC)
  mL : IsMap H m.mL m.L
  mR : IsMap H m.mR m.R
theorem MC.Ok.keep0 {m : MC} {H H' : Heap} (h : m.Ok H) (k : Keep Non H H') : m.Ok H' :=
  ⟨h.a.keep0 k, h.b.keep0 k, h.rA.keep0 k, h.rB.keep0 k, h.lA, h.lB, fun j u hu => (h.kA j u hu).keep0 k, fun j u hu => (h.kB j u hu).keep0 k, h.mL.keep0 k, h.mR.keep0 k⟩
theorem own_noSe {H : Heap} {v : AV} {es n : Nat} {cs : List AV} (h : Own H v es n cs) : ∀ b o w z, v ≠ .se b o w z := by
  obtain ⟨_, _, ⟨rfl, _⟩ | ⟨b, row, rfl, _⟩⟩ := h <;> intro b o w z h <;> cases h
theorem own_scal {H : Heap} {v : AV} {es n : Nat} {cs : List AV} (h : Own H v es n cs) : Eng.scal v = true := by
  obtain ⟨_, _, ⟨rfl, _⟩ | ⟨b, row, rfl, _⟩⟩ := h <;> rfl
section
variable {tb : List FuncId} {gl : List (List AV)} (m : MC) (H0 : Heap)
/-- what a visit comes to -/
structure VisP (i j : Nat) (u : AV) (c : Bool) (out : List (Nat × Nat)) (H : Heap) (out' : List (Nat × Nat)) (c' : Bool) (u' : AV) (H' : Heap) : Prop where
  vis : VisW m.A m.B m.L m.R m.lim [(i, j)] out' c'
  keep : Keep (fun k => k = m.bx ∨ ownB u k) H H'
  row : IsRow H' m.bx (m.row u' (c || c')) false false
  own : Own H' u' 2 (out ++ out').length ((out ++ out').flatMap prN)
  new : ∀ k, ownB u' k → ownB u k ∨ H.nx ≤ k
variable (tb gl) in
def VisS (d : Nat) : Prop := ∀ (i j : Nat) (H : Heap) (out : List (Nat × Nat)) (u : AV) (c : Bool) (Q : AV → Heap → Prop), m.A.length - i ≤ d → i < m.A.length → j < m.B.length → out.length ≤ i → Keep Non H0 H →
  IsRow H m.bx (m.row u c) false false → Own H u 2 out.length (out.flatMap prN) → (∀ k, ownB u k → H0.nx ≤ k ∧ k ≠ m.bx) → (∀ out' c' u' H', VisP m i j u c out H out' c' u' H' → Q (.tup []) H') → WpF Tryz.prog tb gl 18 [.ptr m.bx 0, .int .i64 (i : Int), .int .i64 (j : Int)] H Q
variable {m H0}
set_option maxHeartbeats 0 in
/-- the function within -/
theorem each_ok {d : Nat} (hS : VisS tb gl m H0 d) {H : Heap} {Q : AV → Heap → Prop} {f : Nat × Nat} {b3 b6 b7 : Nat} {l r : AV} {ls rs : List Nat} (h3 : IsRow H b3 [.ptr m.bx 0] false false) (h6 : IsRow H b6 [l] false false) (h7 : IsRow H b7 [r] false false)
    (hl : IsSl H l 1 ls.length (ls.flatMap ixC)) (hr : IsSl H r 1 rs.length (rs.flatMap ixC)) (hf1 : f.1 < ls.length) (hf2 : f.2 < rs.length) {out : List (Nat × Nat)} {u : AV} {c : Bool}
    (hd : m.A.length - ls.getD f.1 0 ≤ d) (hi : ls.getD f.1 0 < m.A.length) (hj : rs.getD f.2 0 < m.B.length) (ho : out.length ≤ ls.getD f.1 0) (hk : Keep Non H0 H) (hrow : IsRow H m.bx (m.row u c) false false) (hown : Own H u 2 out.length (out.flatMap prN)) (hnew : ∀ k, ownB u k → H0.nx ≤ k ∧ k ≠ m.bx)
    (_hx : m.bx < H.nx)
    (hQ : ∀ out' c' u' H1 H', Keep Non H H1 → VisP m (ls.getD f.1 0) (rs.getD f.2 0) u c out H1 out' c' u' H' → Q (.tup []) H') : WpF Tryz.prog tb gl 42 [.agg (prN f), .ptr b3 0, .ptr b6 0, .ptr b7 0] H Q := by
  have hc1 := flat_chunk ixC_len ls f.1 _ (getD_of hf1).2
  have hc2 := flat_chunk ixC_len rs f.2 _ (getD_of hf2).2
  refine fa Tryz.func42 b42_eq v42_eq r42_eq (.inr (by simp)) ?_
  refine va_seqr ?_
  refine ia_op (oa_box rfl fun H1 hk1 hr1 => ?_)
  have g3 := h3.keep0 hk1
  have g6 := h6.keep0 hk1
  have g7 := h7.keep0 hk1
  have hr1' : IsRow H1 H.nx (prN f) false false := hr1
  refine ia_nil (va_reg ?_)
  refine ia_pl rfl ?_; (repeat ((first | refine ia_op (oa_nilCheck rfl ?_) | refine ia_op (oa_fieldAddr FpF.h (by decide) rfl ?_) | refine ia_op (oa_load1 PlF.h rfl g3 rfl ?_) | refine ia_op (oa_load1 PlF.h rfl g6 rfl ?_) | refine ia_op (oa_load1 PlF.h rfl g7 rfl ?_) | refine ia_op (oa_load1 PlF.h rfl hr1' rfl ?_)); refine ia_pl rfl ?_))
  refine ia_op (oa_indexSl UnF.h SzF.h rfl (hl.keep0 hk1) rfl rfl hf1 fun q0 hq0 => ?_)
  rw [hc1] at hq0
  refine ia_op (oa_pload PlF.h rfl hq0 rfl ?_)
  refine ia_pl rfl ?_; (repeat ((first | refine ia_op (oa_nilCheck rfl ?_) | refine ia_op (oa_fieldAddr FpF.h (by decide) rfl ?_) | refine ia_op (oa_load1 PlF.h rfl g3 rfl ?_) | refine ia_op (oa_load1 PlF.h rfl g6 rfl ?_) | refine ia_op (oa_load1 PlF.h rfl g7 rfl ?_) | refine ia_op (oa_load1 PlF.h rfl hr1' rfl ?_)); refine ia_pl rfl ?_))
  refine ia_op (oa_indexSl UnF.h SzF.h rfl (hr.keep0 hk1) rfl rfl hf2 fun q0 hq0 => ?_)
  rw [hc2] at hq0
  refine ia_op (oa_pload PlF.h rfl hq0 rfl ?_)
  refine ia_op (oa_call rfl rfl rfl (hS _ _ H1 out u c _ hd hi hj ho (hk.trans0 hk1) (hrow.keep0 hk1) (hown.keep0 hk1) hnew fun out' c' u' H' hP => ?_))
  exact ia_nil ⟨[], rfl, hQ out' c' u' H1 H' hk1 hP⟩
end
end Go.Proofs.YtndhniapohlniaaGreatDoor
