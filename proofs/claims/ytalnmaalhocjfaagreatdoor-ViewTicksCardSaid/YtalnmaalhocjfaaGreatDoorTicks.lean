/-
  A tick's line: view.Tick, parallaxref17.Tick, the law, walked. Conditions: what IsPg says of the program.
-/
import Derived.Test.YtalnmaalhocjfaaGreatDoorRTxt
import Derived.Test.YtalnmaalhocjfaaGreatDoorSize
namespace Go.Proofs.YtalnmaalhocjfaaGreatDoor
open Go Go.Proofs.YtalnmaalhocjfaaGreatDoor.Eng
/-! facts about types -/
theorem sz_59 : szOf Tryz.prog 59 = some 4 := by kernel_rfl
instance isz_59 : SzF Tryz.prog 59 4 := ⟨sz_59⟩
theorem fp_59_1 : fieldPlc Tryz.prog 59 1 = some ⟨1, false, 1⟩ := by kernel_rfl
instance ifp_59_1 : FpF Tryz.prog 59 1 ⟨1, false, 1⟩ := ⟨fp_59_1⟩
theorem fp_59_3 : fieldPlc Tryz.prog 59 3 = some ⟨3, false, 1⟩ := by kernel_rfl
instance ifp_59_3 : FpF Tryz.prog 59 3 ⟨3, false, 1⟩ := ⟨fp_59_3⟩
theorem fp_59_0 : fieldPlc Tryz.prog 59 0 = some ⟨0, false, 1⟩ := by kernel_rfl
instance ifp_59_0 : FpF Tryz.prog 59 0 ⟨0, false, 1⟩ := ⟨fp_59_0⟩
theorem fp_59_2 : fieldPlc Tryz.prog 59 2 = some ⟨2, false, 1⟩ := by kernel_rfl
instance ifp_59_2 : FpF Tryz.prog 59 2 ⟨2, false, 1⟩ := ⟨fp_59_2⟩
theorem pl_24 : plcOf Tryz.prog 24 0 = some ⟨0, true, 1⟩ := by kernel_rfl
instance ipl_24 : PlF Tryz.prog 24 ⟨0, true, 1⟩ := ⟨pl_24⟩
theorem pl_59 : plcOf Tryz.prog 59 0 = some ⟨0, true, 4⟩ := by kernel_rfl
instance ipl_59 : PlF Tryz.prog 59 ⟨0, true, 4⟩ := ⟨pl_59⟩
theorem un_28 : Tryz.prog.underlying 28 = some (.int .i64) := by kernel_rfl
instance iun_28 : UnF Tryz.prog 28 (.int .i64) := ⟨un_28⟩
/-! f20: parallax/view.Tick, parameters #[24, 59] -/
def v20c0 : CV := .seq (.reg [.op (some 4) (.assign (.const (.string ⟨⟨[]⟩⟩))),
    .op (some 5) (.assign (.const (.int .i64 80)))])
  (.ret)
def v20h1 : CV := .seq (.reg [.op (some 8) (.fieldAddr 59 (.tmp 3) 1),
    .op (some 9) (.load 3 (.tmp 8)),
    .op (some 10) (.binOp .lss 3 (.tmp 9) (.const (.int .i64 0)) 3),
    .op (some 11) (.move (.tmp 10)),
    .gd 11 false (some 12) (.fieldAddr 59 (.tmp 3) 1),
    .gd 11 false (some 13) (.load 3 (.tmp 12)),
    .gd 11 false (some 14) (.fieldAddr 24 (.tmp 2) 0),
    .gd 11 false (some 15) (.load 22 (.tmp 14)),
    .gd 11 false (some 16) (.call ⟨.builtin .len, #[(.tmp 15)], #[22]⟩),
    .gd 11 false (some 17) (.binOp .geq 3 (.tmp 13) (.tmp 16) 3),
    .op (some 18) (.pick (.tmp 11) (.const (.bool true)) (.tmp 17))])
  (.cond (.tmp 18) v20c0 (.skip))
def v20c1 : CV := .seq (.reg [.op (some 35) (.move (.tmp 6)),
    .op (some 36) (.move (.tmp 7)),
    .op (some 37) (.buildSlice 41 3 #[(0, (.const (.string ⟨⟨[101, 110, 116, 101, 114]⟩⟩))), (1, (.tmp 35)), (2, (.tmp 36))]),
    .op (some 38) (.call ⟨.value (.func 37), #[(.tmp 37)], #[41]⟩),
    .op (some 4) (.assign (.tmp 38)),
    .op (some 5) (.assign (.const (.int .i64 0)))])
  (.ret)
def v20c3 : CV := .seq (.reg [.op (some 41) (.move (.tmp 6)),
    .op (some 42) (.fieldAddr 59 (.tmp 3) 2),
    .op (some 43) (.load 3 (.tmp 42)),
    .op (some 44) (.call ⟨.value (.func 36), #[(.tmp 43)], #[2]⟩),
    .op (some 45) (.move (.tmp 7)),
    .op (some 46) (.buildSlice 41 4 #[(0, (.const (.string ⟨⟨[97, 116]⟩⟩))), (1, (.tmp 41)), (2, (.tmp 44)), (3, (.tmp 45))]),
    .op (some 47) (.call ⟨.value (.func 37), #[(.tmp 46)], #[41]⟩),
    .op (some 4) (.assign (.tmp 47)),
    .op (some 5) (.assign (.const (.int .i64 0)))])
  (.ret)
def v20c5 : CV := .seq (.reg [.op (some 50) (.move (.tmp 6)),
    .op (some 51) (.move (.tmp 7)),
    .op (some 52) (.buildSlice 41 3 #[(0, (.const (.string ⟨⟨[108, 101, 97, 118, 101]⟩⟩))), (1, (.tmp 50)), (2, (.tmp 51))]),
    .op (some 53) (.call ⟨.value (.func 37), #[(.tmp 52)], #[41]⟩),
    .op (some 4) (.assign (.tmp 53)),
    .op (some 5) (.assign (.const (.int .i64 0)))])
  (.ret)
def v20c4 : CV := .seq (.reg [.op (some 49) (.binOp .eql 3 (.tmp 32) (.const (.int .i64 3)) 3),
    .op (some 48) (.assign (.tmp 49))])
  (.cond (.tmp 48) v20c5 (.skip))
def v20c2 : CV := .seq (.reg [.op (some 40) (.binOp .eql 3 (.tmp 32) (.const (.int .i64 2)) 3),
    .op (some 39) (.assign (.tmp 40))])
  (.cond (.tmp 39) v20c3 v20c4)
def v20k0 : CV := .seq (.reg [.op (some 34) (.binOp .eql 3 (.tmp 32) (.const (.int .i64 1)) 3),
    .op (some 33) (.assign (.tmp 34))])
  (.cond (.tmp 33) v20c1 v20c2)
def v20h3 : CV := .seq (.reg [.op (some 31) (.fieldAddr 59 (.tmp 3) 0),
    .op (some 32) (.load 3 (.tmp 31))])
  (.block 0 v20k0)
def v20t4 : CV := .seq (.reg [.op (some 4) (.assign (.const (.string ⟨⟨[]⟩⟩))),
    .op (some 5) (.assign (.const (.int .i64 32)))])
  (.ret)
def v20t3 : CV := .seq v20h3 v20t4
def v20t2 : CV := .seq (.reg [.op (some 19) (.fieldAddr 24 (.tmp 2) 0),
    .op (some 20) (.load 22 (.tmp 19)),
    .op (some 21) (.fieldAddr 59 (.tmp 3) 1),
    .op (some 22) (.load 3 (.tmp 21)),
    .op (some 23) (.indexAddr 22 (.tmp 20) (.tmp 22)),
    .op (some 24) (.fieldAddr 85 (.tmp 23) 0),
    .op (some 25) (.load 9 (.tmp 24)),
    .op (some 26) (.fieldAddr 59 (.tmp 3) 3),
    .op (some 27) (.load 3 (.tmp 26)),
    .op (some 28) (.call ⟨.value (.func 36), #[(.tmp 27)], #[2]⟩),
    .ck 20 (.load 22 (.tmp 19)),
    .ck 22 (.load 3 (.tmp 21)),
    .ck 25 (.load 9 (.tmp 24)),
    .op (some 29) (.binOp .add 9 (.const (.string ⟨⟨[40, 100, 101, 112, 116, 104, 32]⟩⟩)) (.tmp 28) 9),
    .op (some 30) (.binOp .add 9 (.tmp 29) (.const (.string ⟨⟨[41]⟩⟩)) 9),
    .op (some 6) (.assign (.tmp 25)),
    .op (some 7) (.assign (.tmp 30))]) v20t3
def v20t1 : CV := .seq v20h1 v20t2
def v20 : CV := .seq (.reg [.op (some 2) (.box 24 (.tmp 0)),
    .op (some 3) (.box 59 (.tmp 1)),
    .op (some 4) (.assign (.const (.string ⟨⟨[]⟩⟩))),
    .op (some 5) (.assign (.const (.int .i64 0)))]) v20t1
noncomputable def b20 : Code := Tryz.f20.body.getD .skip
theorem b20_eq : Tryz.f20.body = some b20 := by kernel_rfl
theorem v20_eq : viewC Tryz.prog b20 = some v20 := by kernel_rfl
theorem r20_eq : Tryz.f20.results.toList = [.tmp 4, .tmp 5] := by kernel_rfl
/-! f21: parallax/parallaxref17.Tick, parameters #[24, 59] -/
def v21c0 : CV := .seq (.reg [.op (some 4) (.assign (.const (.string ⟨⟨[]⟩⟩))),
    .op (some 5) (.assign (.const (.int .i64 80)))])
  (.ret)
def v21h1 : CV := .seq (.reg [.op (some 8) (.fieldAddr 59 (.tmp 3) 1),
    .op (some 9) (.load 3 (.tmp 8)),
    .op (some 10) (.binOp .lss 3 (.tmp 9) (.const (.int .i64 0)) 3),
    .op (some 11) (.move (.tmp 10)),
    .gd 11 false (some 12) (.fieldAddr 59 (.tmp 3) 1),
    .gd 11 false (some 13) (.load 3 (.tmp 12)),
    .gd 11 false (some 14) (.fieldAddr 24 (.tmp 2) 0),
    .gd 11 false (some 15) (.load 22 (.tmp 14)),
    .gd 11 false (some 16) (.call ⟨.builtin .len, #[(.tmp 15)], #[22]⟩),
    .gd 11 false (some 17) (.binOp .geq 3 (.tmp 13) (.tmp 16) 3),
    .op (some 18) (.pick (.tmp 11) (.const (.bool true)) (.tmp 17))])
  (.cond (.tmp 18) v21c0 (.skip))
def v21c1 : CV := .seq (.reg [.op (some 34) (.move (.tmp 6)),
    .op (some 35) (.binOp .add 9 (.const (.string ⟨⟨[101, 110, 116, 101, 114, 32]⟩⟩)) (.tmp 34) 9),
    .op (some 36) (.move (.tmp 7)),
    .op (some 37) (.binOp .add 9 (.tmp 35) (.tmp 36) 9),
    .op (some 4) (.assign (.tmp 37)),
    .op (some 5) (.assign (.const (.int .i64 0)))])
  (.ret)
def v21h4 : CV := .seq (.reg [.op (some 31) (.fieldAddr 59 (.tmp 3) 0),
    .op (some 32) (.load 3 (.tmp 31)),
    .op (some 33) (.binOp .eql 3 (.tmp 32) (.const (.int .i64 1)) 3)])
  (.cond (.tmp 33) v21c1 (.skip))
def v21c2 : CV := .seq (.reg [.op (some 41) (.move (.tmp 6)),
    .op (some 42) (.binOp .add 9 (.const (.string ⟨⟨[97, 116, 32]⟩⟩)) (.tmp 41) 9),
    .op (some 43) (.binOp .add 9 (.tmp 42) (.const (.string ⟨⟨[32]⟩⟩)) 9),
    .op (some 44) (.fieldAddr 59 (.tmp 3) 2),
    .op (some 45) (.load 3 (.tmp 44)),
    .op (some 46) (.call ⟨.value (.func 39), #[(.tmp 45)], #[2]⟩),
    .op (some 47) (.binOp .add 9 (.tmp 43) (.tmp 46) 9),
    .op (some 48) (.move (.tmp 7)),
    .op (some 49) (.binOp .add 9 (.tmp 47) (.tmp 48) 9),
    .op (some 4) (.assign (.tmp 49)),
    .op (some 5) (.assign (.const (.int .i64 0)))])
  (.ret)
def v21h5 : CV := .seq (.reg [.op (some 38) (.fieldAddr 59 (.tmp 3) 0),
    .op (some 39) (.load 3 (.tmp 38)),
    .op (some 40) (.binOp .eql 3 (.tmp 39) (.const (.int .i64 2)) 3)])
  (.cond (.tmp 40) v21c2 (.skip))
def v21c3 : CV := .seq (.reg [.op (some 53) (.move (.tmp 6)),
    .op (some 54) (.binOp .add 9 (.const (.string ⟨⟨[108, 101, 97, 118, 101, 32]⟩⟩)) (.tmp 53) 9),
    .op (some 55) (.move (.tmp 7)),
    .op (some 56) (.binOp .add 9 (.tmp 54) (.tmp 55) 9),
    .op (some 4) (.assign (.tmp 56)),
    .op (some 5) (.assign (.const (.int .i64 0)))])
  (.ret)
def v21h6 : CV := .seq (.reg [.op (some 50) (.fieldAddr 59 (.tmp 3) 0),
    .op (some 51) (.load 3 (.tmp 50)),
    .op (some 52) (.binOp .eql 3 (.tmp 51) (.const (.int .i64 3)) 3)])
  (.cond (.tmp 52) v21c3 (.skip))
def v21t7 : CV := .seq (.reg [.op (some 4) (.assign (.const (.string ⟨⟨[]⟩⟩))),
    .op (some 5) (.assign (.const (.int .i64 32)))])
  (.ret)
def v21t6 : CV := .seq v21h6 v21t7
def v21t5 : CV := .seq v21h5 v21t6
def v21t4 : CV := .seq v21h4 v21t5
def v21t3 : CV := .seq (.reg [.op (some 26) (.fieldAddr 59 (.tmp 3) 3),
    .op (some 27) (.load 3 (.tmp 26)),
    .op (some 28) (.call ⟨.value (.func 39), #[(.tmp 27)], #[2]⟩),
    .op (some 29) (.binOp .add 9 (.const (.string ⟨⟨[32, 40, 100, 101, 112, 116, 104, 32]⟩⟩)) (.tmp 28) 9),
    .op (some 30) (.binOp .add 9 (.tmp 29) (.const (.string ⟨⟨[41]⟩⟩)) 9),
    .op (some 7) (.assign (.tmp 30))]) v21t4
def v21t2 : CV := .seq (.reg [.op (some 19) (.fieldAddr 24 (.tmp 2) 0),
    .op (some 20) (.load 22 (.tmp 19)),
    .op (some 21) (.fieldAddr 59 (.tmp 3) 1),
    .op (some 22) (.load 3 (.tmp 21)),
    .op (some 23) (.indexAddr 22 (.tmp 20) (.tmp 22)),
    .op (some 24) (.fieldAddr 85 (.tmp 23) 0),
    .op (some 25) (.load 9 (.tmp 24)),
    .op (some 6) (.assign (.tmp 25))]) v21t3
def v21t1 : CV := .seq v21h1 v21t2
def v21 : CV := .seq (.reg [.op (some 2) (.box 24 (.tmp 0)),
    .op (some 3) (.box 59 (.tmp 1)),
    .op (some 4) (.assign (.const (.string ⟨⟨[]⟩⟩))),
    .op (some 5) (.assign (.const (.int .i64 0)))]) v21t1
noncomputable def b21 : Code := Tryz.f21.body.getD .skip
theorem b21_eq : Tryz.f21.body = some b21 := by kernel_rfl
theorem v21_eq : viewC Tryz.prog b21 = some v21 := by kernel_rfl
theorem r21_eq : Tryz.f21.results.toList = [.tmp 4, .tmp 5] := by kernel_rfl
/-! f7: parallax/parallaxlaw17.great, parameters #[24] -/
def v7t1 : CV := .seq (.reg [.op (some 3) (.load 24 (.tmp 1)),
    .op (some 4) (.call ⟨.value (.func 22), #[(.tmp 3), (.const (.int .i64 500))], #[24, 3]⟩),
    .op (some 5) (.binOp .gtr 3 (.tmp 4) (.const (.int .i64 500)) 3),
    .op (some 2) (.assign (.tmp 5))])
  (.ret)
def v7 : CV := .seq (.reg [.op (some 1) (.box 24 (.tmp 0)),
    .op (some 2) (.assign (.const (.bool false)))]) v7t1
noncomputable def b7 : Code := Tryz.f7.body.getD .skip
theorem b7_eq : Tryz.f7.body = some b7 := by kernel_rfl
theorem v7_eq : viewC Tryz.prog b7 = some v7 := by kernel_rfl
theorem r7_eq : Tryz.f7.results.toList = [.tmp 2] := by kernel_rfl
/-! f6: parallax/parallaxlaw17.ViewTicks, parameters #[24, 59] -/
def v6c0 : CV := .seq (.reg [.op (some 11) (.call ⟨.value (.func 8), #[], #[]⟩),
    .op (some 4) (.assign (.tmp 11))])
  (.ret)
def v6h1 : CV := .seq (.reg [.op (some 9) (.load 24 (.tmp 2)),
    .op (some 10) (.call ⟨.value (.func 7), #[(.tmp 9)], #[24]⟩)])
  (.cond (.tmp 10) v6c0 (.skip))
def v6t4 : CV := .seq (.reg [.op (some 24) (.move (.tmp 5)),
    .op (some 25) (.move (.tmp 7)),
    .op (some 26) (.binOp .eql 9 (.tmp 24) (.tmp 25) 9),
    .op (some 27) (.move (.tmp 26)),
    .gd 27 true (some 28) (.move (.tmp 6)),
    .gd 27 true (some 29) (.move (.tmp 8)),
    .gd 27 true (some 30) (.binOp .eql 28 (.tmp 28) (.tmp 29) 28),
    .op (some 31) (.pick (.tmp 27) (.tmp 30) (.const (.bool false))),
    .op (some 32) (.move (.tmp 31)),
    .gd 32 true (some 33) (.call ⟨.value (.func 8), #[], #[]⟩),
    .op (some 34) (.pick (.tmp 32) (.tmp 33) (.const (.bool false))),
    .op (some 4) (.assign (.tmp 34))])
  (.ret)
def v6t3 : CV := .seq (.reg [.op (some 19) (.load 24 (.tmp 2)),
    .op (some 20) (.load 59 (.tmp 3)),
    .op (some 21) (.call ⟨.value (.func 21), #[(.tmp 19), (.tmp 20)], #[24, 59]⟩),
    .op (some 18) (.move (.tmp 21)),
    .op (some 22) (.extract (.tmp 18) 0),
    .op (some 23) (.extract (.tmp 18) 1),
    .op (some 7) (.assign (.tmp 22)),
    .op (some 8) (.assign (.tmp 23))]) v6t4
def v6t2 : CV := .seq (.reg [.op (some 13) (.load 24 (.tmp 2)),
    .op (some 14) (.load 59 (.tmp 3)),
    .op (some 15) (.call ⟨.value (.func 20), #[(.tmp 13), (.tmp 14)], #[24, 59]⟩),
    .op (some 12) (.move (.tmp 15)),
    .op (some 16) (.extract (.tmp 12) 0),
    .op (some 17) (.extract (.tmp 12) 1),
    .op (some 5) (.assign (.tmp 16)),
    .op (some 6) (.assign (.tmp 17))]) v6t3
def v6t1 : CV := .seq v6h1 v6t2
def v6 : CV := .seq (.reg [.op (some 2) (.box 24 (.tmp 0)),
    .op (some 3) (.box 59 (.tmp 1)),
    .op (some 4) (.assign (.const (.bool false)))]) v6t1
noncomputable def b6 : Code := Tryz.f6.body.getD .skip
theorem b6_eq : Tryz.f6.body = some b6 := by kernel_rfl
theorem v6_eq : viewC Tryz.prog b6 = some v6 := by kernel_rfl
theorem r6_eq : Tryz.f6.results.toList = [.tmp 4] := by kernel_rfl

/-- a name and a depth as they are told -/
def deepT (dp : Int) : List UInt8 := [40, 100, 101, 112, 116, 104, 32] ++ textZ dp ++ [41]
def nameT (p : List Prc) (pr : Int) : List UInt8 := ((p[pr.toNat]?).map Prc.name).getD []
def tickT (p : List Prc) (kd pr mk dp : Int) : List UInt8 × Int :=
  if pr < 0 ∨ (p.length : Int) ≤ pr then ([], 80)
  else if kd = 1 then (joinW [[101, 110, 116, 101, 114], nameT p pr, deepT dp], 0)
  else if kd = 2 then (joinW [[97, 116], nameT p pr, textZ mk, deepT dp], 0)
  else if kd = 3 then (joinW [[108, 101, 97, 118, 101], nameT p pr, deepT dp], 0)
  else ([], 32)
theorem textZ_len {z : Int} (h : -9223372036854775808 ≤ z ∧ z < 9223372036854775808) : (textZ z).length ≤ 20 := by
  have hp : (10 : Nat) ^ 19 = 10000000000000000000 := by rfl
  have := textN_len 19 z.natAbs (by rw [hp]; omega) (by omega)
  unfold textZ
  split
  · rw [List.length_cons]; omega
  · omega
theorem deepT_len {z : Int} (h : -9223372036854775808 ≤ z ∧ z < 9223372036854775808) : (deepT z).length ≤ 28 := by
  have := textZ_len h
  simp only [deepT, List.length_append, List.length_cons, List.length_nil]
  omega
section
variable {tb : List FuncId} {gl : List (List AV)} {H : Heap} {v w : AV} {Q : AV → Heap → Prop}
set_option maxHeartbeats 0 in
theorem vTick_ok {p : List Prc} {kd pr mk dp : Int} (hp : IsPg H v p) (hs : ∀ x ∈ p, x.name.length < 100000) (hm : ok64 mk) (hd : ok64 dp)
    (hQ : ∀ H', Keep Non H H' → Q (.tup [S (tickT p kd pr mk dp).1, .int .i64 (tickT p kd pr mk dp).2]) H') : WpF Tryz.prog tb gl 20 [v, .agg [.int .i64 kd, .int .i64 pr, .int .i64 mk, .int .i64 dp]] H Q := by
  have hp63 : pow63 = 9223372036854775808 := rfl
  have hrB : rB = 140737488351232 := rfl
  obtain ⟨hpl, u, rfl, hL⟩ := hp
  refine fa Tryz.func20 b20_eq v20_eq r20_eq (.inr (by simp)) ?_
  refine va_seqr ?_
  refine ia_op (oa_box rfl fun H1 hk1 hr1 => ?_)
  refine ia_op (oa_box rfl fun H2 hk2 hr2 => ?_)
  obtain ⟨b, hb⟩ : ∃ b, b = H.nx := ⟨_, rfl⟩
  rw [← hb] at hr1 ⊢
  obtain ⟨b2, hb2⟩ : ∃ b, b = H1.nx := ⟨_, rfl⟩
  rw [← hb2] at hr2 ⊢
  have hr1 : IsRow H2 b [u] false false := hr1.keep0 hk2
  have hr2 : IsRow H2 b2 [.int .i64 kd, .int .i64 pr, .int .i64 mk, .int .i64 dp] false false := hr2
  have hK2 := hk1.trans0 hk2
  obtain ⟨els, hsl, hel⟩ := isLs_elem (hL.keep hK2 fun _ _ _ h => h.keep hK2)
  refine ia_pl rfl ?_
  refine ia_nil (va_seq (va_seqr ?_))
  have out : (pr < 0 ∨ (p.length : Int) ≤ pr) → ∀ l', VA Tryz.prog tb gl v20c0 l' H2 (seqA Tryz.prog tb gl v20t2 (leftA [.tmp 4, .tmp 5] Q)) := by
    intro h l'
    refine va_seqr ?_
    refine ia_pl rfl ?_
    refine ia_nil (va_ret ⟨_, rfl, ?_⟩)
    have := hQ H2 hK2
    rw [tickT, if_pos h] at this
    exact this
  by_cases h0 : pr < 0
  · (repeat (first | refine ia_gdN rfl ?_ | refine ia_gdU rfl ?_ | ((first | refine ia_op ?_ | refine ia_gdY rfl ?_); first | refine oa_move rfl ?_ | refine oa_assign rfl ?_ | refine oa_nilCheck rfl ?_ | refine oa_fieldAddr FpF.h (by decide) rfl ?_ | refine oa_load1 PlF.h rfl hr2 rfl ?_ | refine oa_lssF rfl rfl (by omega) ?_ | refine oa_lssT rfl rfl (by omega) ?_ | refine oa_leqF rfl rfl (by omega) ?_ | refine oa_leqT rfl rfl (by omega) ?_ | refine oa_gtrF rfl rfl (by omega) ?_ | refine oa_gtrT rfl rfl (by omega) ?_ | refine oa_geqF rfl rfl (by omega) ?_ | refine oa_geqT rfl rfl (by omega) ?_ | refine oa_eqlF rfl rfl (by omega) ?_ | refine oa_eqlT rfl rfl (by omega) ?_ | refine oa_neqF rfl rfl (by omega) ?_ | refine oa_neqT rfl rfl (by omega) ?_ | refine oa_pickT rfl rfl rfl ?_ | refine oa_pickF rfl rfl ?_ | refine oa_not rfl ?_ | refine oa_extract rfl rfl ?_)))
    exact ia_nil (va_condT rfl (out (.inl h0) _))
  by_cases h1 : (p.length : Int) ≤ pr
  · (repeat (first | refine ia_gdN rfl ?_ | refine ia_gdU rfl ?_ | ((first | refine ia_op ?_ | refine ia_gdY rfl ?_); first | refine oa_move rfl ?_ | refine oa_assign rfl ?_ | refine oa_nilCheck rfl ?_ | refine oa_fieldAddr FpF.h (by decide) rfl ?_ | refine oa_load1 PlF.h rfl hr2 rfl ?_ | refine oa_load1 PlF.h rfl hr1 rfl ?_ | refine oa_lenSl rfl rfl rfl UnF.h rfl hsl ?_ | refine oa_lssF rfl rfl (by omega) ?_ | refine oa_lssT rfl rfl (by omega) ?_ | refine oa_leqF rfl rfl (by omega) ?_ | refine oa_leqT rfl rfl (by omega) ?_ | refine oa_gtrF rfl rfl (by omega) ?_ | refine oa_gtrT rfl rfl (by omega) ?_ | refine oa_geqF rfl rfl (by omega) ?_ | refine oa_geqT rfl rfl (by omega) ?_ | refine oa_eqlF rfl rfl (by omega) ?_ | refine oa_eqlT rfl rfl (by omega) ?_ | refine oa_neqF rfl rfl (by omega) ?_ | refine oa_neqT rfl rfl (by omega) ?_ | refine oa_pickT rfl rfl rfl ?_ | refine oa_pickF rfl rfl ?_ | refine oa_not rfl ?_ | refine oa_extract rfl rfl ?_)))
    exact ia_nil (va_condT rfl (out (.inr h1) _))
  (repeat (first | refine ia_gdN rfl ?_ | refine ia_gdU rfl ?_ | ((first | refine ia_op ?_ | refine ia_gdY rfl ?_); first | refine oa_move rfl ?_ | refine oa_assign rfl ?_ | refine oa_nilCheck rfl ?_ | refine oa_fieldAddr FpF.h (by decide) rfl ?_ | refine oa_load1 PlF.h rfl hr2 rfl ?_ | refine oa_load1 PlF.h rfl hr1 rfl ?_ | refine oa_lenSl rfl rfl rfl UnF.h rfl hsl ?_ | refine oa_lssF rfl rfl (by omega) ?_ | refine oa_lssT rfl rfl (by omega) ?_ | refine oa_leqF rfl rfl (by omega) ?_ | refine oa_leqT rfl rfl (by omega) ?_ | refine oa_gtrF rfl rfl (by omega) ?_ | refine oa_gtrT rfl rfl (by omega) ?_ | refine oa_geqF rfl rfl (by omega) ?_ | refine oa_geqT rfl rfl (by omega) ?_ | refine oa_eqlF rfl rfl (by omega) ?_ | refine oa_eqlT rfl rfl (by omega) ?_ | refine oa_neqF rfl rfl (by omega) ?_ | refine oa_neqT rfl rfl (by omega) ?_ | refine oa_pickT rfl rfl rfl ?_ | refine oa_pickF rfl rfl ?_ | refine oa_not rfl ?_ | refine oa_extract rfl rfl ?_)))
  refine ia_nil (va_condF rfl (va_skip (va_seqr ?_)))
  obtain ⟨i, rfl⟩ : ∃ i : Nat, pr = (i : Int) := ⟨pr.toNat, by omega⟩
  have hi : i < p.length := by omega
  obtain ⟨x, hx⟩ : ∃ x, p[i]? = some x := ⟨_, List.getElem?_eq_getElem hi⟩
  obtain ⟨cx, hcx, vm, vb, rfl, hs1, _⟩ := hel i x hx
  have hnl := hs x (List.mem_of_getElem? hx)
  have hnm : nameT p (i : Int) = x.name := by simp [nameT, hx]
  have hdl := deepT_len hd
  refine ia_pl rfl ?_; (repeat ((first | refine ia_op (oa_nilCheck rfl ?_) | refine ia_op (oa_fieldAddr FpF.h (by decide) rfl ?_) | refine ia_op (oa_load1 PlF.h rfl hr1 rfl ?_) | refine ia_op (oa_load1 PlF.h rfl hr2 rfl ?_)); refine ia_pl rfl ?_))
  refine ia_op (oa_indexSl UnF.h SzF.h rfl hsl rfl rfl hi fun q0 hq0 => ?_)
  rw [hcx] at hq0
  refine ia_op (oa_pfieldAddr FpF.h (by decide) rfl hq0 fun q1 hq1 => ?_)
  refine ia_op (oa_pload PlF.h rfl hq1 rfl ?_)
  refine ia_pl rfl ?_; (repeat ((first | refine ia_op (oa_nilCheck rfl ?_) | refine ia_op (oa_fieldAddr FpF.h (by decide) rfl ?_) | refine ia_op (oa_load1 PlF.h rfl hr1 rfl ?_) | refine ia_op (oa_load1 PlF.h rfl hr2 rfl ?_)); refine ia_pl rfl ?_))
  refine ia_op (oa_call rfl rfl rfl (Text_ok dp hd.1 hd.2 H2 fun H3 hk3 => ?_))
  refine ia_ckL PlF.h rfl (hr1.keep0 hk3) rfl rfl ?_
  refine ia_ckL PlF.h rfl (hr2.keep0 hk3) rfl rfl ?_
  refine ia_ckP PlF.h rfl (hq1.keep hk3 fun _ h => h) rfl rfl ?_
  have htl := textZ_len hd
  refine ia_op (oa_sadd rfl rfl (by simp only [List.length_cons, List.length_nil]; omega) ?_)
  refine ia_op (oa_sadd rfl rfl (by simp only [List.length_append, List.length_cons, List.length_nil]; omega) ?_)
  refine ia_pl rfl ?_
  refine ia_nil (va_seq (va_seqr ?_))
  have hr23 := hr2.keep0 hk3
  have hK3 := hK2.trans0 hk3
  refine ia_pl rfl ?_; (repeat ((first | refine ia_op (oa_nilCheck rfl ?_) | refine ia_op (oa_fieldAddr FpF.h (by decide) rfl ?_) | refine ia_op (oa_load1 PlF.h rfl hr23 rfl ?_)); refine ia_pl rfl ?_))
  refine ia_nil (va_block (va_seqr ?_))
  by_cases e1 : kd = 1
  · (repeat (first | refine ia_gdN rfl ?_ | refine ia_gdU rfl ?_ | ((first | refine ia_op ?_ | refine ia_gdY rfl ?_); first | refine oa_move rfl ?_ | refine oa_assign rfl ?_ | refine oa_nilCheck rfl ?_ | refine oa_fieldAddr FpF.h (by decide) rfl ?_ | refine oa_lssF rfl rfl (by omega) ?_ | refine oa_lssT rfl rfl (by omega) ?_ | refine oa_leqF rfl rfl (by omega) ?_ | refine oa_leqT rfl rfl (by omega) ?_ | refine oa_gtrF rfl rfl (by omega) ?_ | refine oa_gtrT rfl rfl (by omega) ?_ | refine oa_geqF rfl rfl (by omega) ?_ | refine oa_geqT rfl rfl (by omega) ?_ | refine oa_eqlF rfl rfl (by omega) ?_ | refine oa_eqlT rfl rfl (by omega) ?_ | refine oa_neqF rfl rfl (by omega) ?_ | refine oa_neqT rfl rfl (by omega) ?_ | refine oa_pickT rfl rfl rfl ?_ | refine oa_pickF rfl rfl ?_ | refine oa_not rfl ?_ | refine oa_extract rfl rfl ?_)))
    refine ia_nil (va_condT rfl (va_seqr ?_))
    refine ia_pl rfl ?_
    refine ia_op (oa_newSlice (n := 3) ElF.h (by decide) rfl rfl fun H4 hk4 hr4 => ?_)
    refine ia_op (oa_call rfl rfl rfl (Join_ok (ws := [[101, 110, 116, 101, 114], x.name, deepT dp]) (IsRow.sl (es := 1) (n := 3) hr4 rfl (Nat.le_refl 3)) (by
      simp only [List.flatMap_cons, List.flatMap_nil, List.length_append, List.length_cons, List.length_nil]; omega) (by simp only [List.length_cons, List.length_nil]; omega) fun H5 hk5 => ?_))
    refine ia_pl rfl ?_
    refine ia_nil (va_ret ⟨_, rfl, ?_⟩)
    have := hQ H5 ((hK3.trans0 hk4).trans0 hk5)
    rw [tickT, if_neg (by omega), if_pos e1, hnm] at this
    exact this
  (repeat (first | refine ia_gdN rfl ?_ | refine ia_gdU rfl ?_ | ((first | refine ia_op ?_ | refine ia_gdY rfl ?_); first | refine oa_move rfl ?_ | refine oa_assign rfl ?_ | refine oa_nilCheck rfl ?_ | refine oa_fieldAddr FpF.h (by decide) rfl ?_ | refine oa_lssF rfl rfl (by omega) ?_ | refine oa_lssT rfl rfl (by omega) ?_ | refine oa_leqF rfl rfl (by omega) ?_ | refine oa_leqT rfl rfl (by omega) ?_ | refine oa_gtrF rfl rfl (by omega) ?_ | refine oa_gtrT rfl rfl (by omega) ?_ | refine oa_geqF rfl rfl (by omega) ?_ | refine oa_geqT rfl rfl (by omega) ?_ | refine oa_eqlF rfl rfl (by omega) ?_ | refine oa_eqlT rfl rfl (by omega) ?_ | refine oa_neqF rfl rfl (by omega) ?_ | refine oa_neqT rfl rfl (by omega) ?_ | refine oa_pickT rfl rfl rfl ?_ | refine oa_pickF rfl rfl ?_ | refine oa_not rfl ?_ | refine oa_extract rfl rfl ?_)))
  refine ia_nil (va_condF rfl (va_seqr ?_))
  by_cases e2 : kd = 2
  · (repeat (first | refine ia_gdN rfl ?_ | refine ia_gdU rfl ?_ | ((first | refine ia_op ?_ | refine ia_gdY rfl ?_); first | refine oa_move rfl ?_ | refine oa_assign rfl ?_ | refine oa_nilCheck rfl ?_ | refine oa_fieldAddr FpF.h (by decide) rfl ?_ | refine oa_lssF rfl rfl (by omega) ?_ | refine oa_lssT rfl rfl (by omega) ?_ | refine oa_leqF rfl rfl (by omega) ?_ | refine oa_leqT rfl rfl (by omega) ?_ | refine oa_gtrF rfl rfl (by omega) ?_ | refine oa_gtrT rfl rfl (by omega) ?_ | refine oa_geqF rfl rfl (by omega) ?_ | refine oa_geqT rfl rfl (by omega) ?_ | refine oa_eqlF rfl rfl (by omega) ?_ | refine oa_eqlT rfl rfl (by omega) ?_ | refine oa_neqF rfl rfl (by omega) ?_ | refine oa_neqT rfl rfl (by omega) ?_ | refine oa_pickT rfl rfl rfl ?_ | refine oa_pickF rfl rfl ?_ | refine oa_not rfl ?_ | refine oa_extract rfl rfl ?_)))
    refine ia_nil (va_condT rfl (va_seqr ?_))
    have hml := textZ_len hm
    refine ia_pl rfl ?_; (repeat ((first | refine ia_op (oa_nilCheck rfl ?_) | refine ia_op (oa_fieldAddr FpF.h (by decide) rfl ?_) | refine ia_op (oa_load1 PlF.h rfl hr23 rfl ?_)); refine ia_pl rfl ?_))
    refine ia_op (oa_call rfl rfl rfl (Text_ok mk hm.1 hm.2 H3 fun H4 hk4 => ?_))
    refine ia_pl rfl ?_
    refine ia_op (oa_newSlice (n := 4) ElF.h (by decide) rfl rfl fun H5 hk5 hr5 => ?_)
    refine ia_op (oa_call rfl rfl rfl (Join_ok (ws := [[97, 116], x.name, textZ mk, deepT dp]) (IsRow.sl (es := 1) (n := 4) hr5 rfl (Nat.le_refl 4)) (by
      simp only [List.flatMap_cons, List.flatMap_nil, List.length_append, List.length_cons, List.length_nil]; omega) (by simp only [List.length_cons, List.length_nil]; omega) fun H6 hk6 => ?_))
    refine ia_pl rfl ?_
    refine ia_nil (va_ret ⟨_, rfl, ?_⟩)
    have := hQ H6 (((hK3.trans0 hk4).trans0 hk5).trans0 hk6)
    rw [tickT, if_neg (by omega), if_neg e1, if_pos e2, hnm] at this
    exact this
  (repeat (first | refine ia_gdN rfl ?_ | refine ia_gdU rfl ?_ | ((first | refine ia_op ?_ | refine ia_gdY rfl ?_); first | refine oa_move rfl ?_ | refine oa_assign rfl ?_ | refine oa_nilCheck rfl ?_ | refine oa_fieldAddr FpF.h (by decide) rfl ?_ | refine oa_lssF rfl rfl (by omega) ?_ | refine oa_lssT rfl rfl (by omega) ?_ | refine oa_leqF rfl rfl (by omega) ?_ | refine oa_leqT rfl rfl (by omega) ?_ | refine oa_gtrF rfl rfl (by omega) ?_ | refine oa_gtrT rfl rfl (by omega) ?_ | refine oa_geqF rfl rfl (by omega) ?_ | refine oa_geqT rfl rfl (by omega) ?_ | refine oa_eqlF rfl rfl (by omega) ?_ | refine oa_eqlT rfl rfl (by omega) ?_ | refine oa_neqF rfl rfl (by omega) ?_ | refine oa_neqT rfl rfl (by omega) ?_ | refine oa_pickT rfl rfl rfl ?_ | refine oa_pickF rfl rfl ?_ | refine oa_not rfl ?_ | refine oa_extract rfl rfl ?_)))
  refine ia_nil (va_condF rfl (va_seqr ?_))
  by_cases e3 : kd = 3
  · (repeat (first | refine ia_gdN rfl ?_ | refine ia_gdU rfl ?_ | ((first | refine ia_op ?_ | refine ia_gdY rfl ?_); first | refine oa_move rfl ?_ | refine oa_assign rfl ?_ | refine oa_nilCheck rfl ?_ | refine oa_fieldAddr FpF.h (by decide) rfl ?_ | refine oa_lssF rfl rfl (by omega) ?_ | refine oa_lssT rfl rfl (by omega) ?_ | refine oa_leqF rfl rfl (by omega) ?_ | refine oa_leqT rfl rfl (by omega) ?_ | refine oa_gtrF rfl rfl (by omega) ?_ | refine oa_gtrT rfl rfl (by omega) ?_ | refine oa_geqF rfl rfl (by omega) ?_ | refine oa_geqT rfl rfl (by omega) ?_ | refine oa_eqlF rfl rfl (by omega) ?_ | refine oa_eqlT rfl rfl (by omega) ?_ | refine oa_neqF rfl rfl (by omega) ?_ | refine oa_neqT rfl rfl (by omega) ?_ | refine oa_pickT rfl rfl rfl ?_ | refine oa_pickF rfl rfl ?_ | refine oa_not rfl ?_ | refine oa_extract rfl rfl ?_)))
    refine ia_nil (va_condT rfl (va_seqr ?_))
    refine ia_pl rfl ?_
    refine ia_op (oa_newSlice (n := 3) ElF.h (by decide) rfl rfl fun H4 hk4 hr4 => ?_)
    refine ia_op (oa_call rfl rfl rfl (Join_ok (ws := [[108, 101, 97, 118, 101], x.name, deepT dp]) (IsRow.sl (es := 1) (n := 3) hr4 rfl (Nat.le_refl 3)) (by
      simp only [List.flatMap_cons, List.flatMap_nil, List.length_append, List.length_cons, List.length_nil]; omega) (by simp only [List.length_cons, List.length_nil]; omega) fun H5 hk5 => ?_))
    refine ia_pl rfl ?_
    refine ia_nil (va_ret ⟨_, rfl, ?_⟩)
    have := hQ H5 ((hK3.trans0 hk4).trans0 hk5)
    rw [tickT, if_neg (by omega), if_neg e1, if_neg e2, if_pos e3, hnm] at this
    exact this
  (repeat (first | refine ia_gdN rfl ?_ | refine ia_gdU rfl ?_ | ((first | refine ia_op ?_ | refine ia_gdY rfl ?_); first | refine oa_move rfl ?_ | refine oa_assign rfl ?_ | refine oa_nilCheck rfl ?_ | refine oa_fieldAddr FpF.h (by decide) rfl ?_ | refine oa_lssF rfl rfl (by omega) ?_ | refine oa_lssT rfl rfl (by omega) ?_ | refine oa_leqF rfl rfl (by omega) ?_ | refine oa_leqT rfl rfl (by omega) ?_ | refine oa_gtrF rfl rfl (by omega) ?_ | refine oa_gtrT rfl rfl (by omega) ?_ | refine oa_geqF rfl rfl (by omega) ?_ | refine oa_geqT rfl rfl (by omega) ?_ | refine oa_eqlF rfl rfl (by omega) ?_ | refine oa_eqlT rfl rfl (by omega) ?_ | refine oa_neqF rfl rfl (by omega) ?_ | refine oa_neqT rfl rfl (by omega) ?_ | refine oa_pickT rfl rfl rfl ?_ | refine oa_pickF rfl rfl ?_ | refine oa_not rfl ?_ | refine oa_extract rfl rfl ?_)))
  refine ia_nil (va_condF rfl (va_skip (va_seqr ?_)))
  refine ia_pl rfl ?_
  refine ia_nil (va_ret ⟨_, rfl, ?_⟩)
  have := hQ H3 hK3
  rw [tickT, if_neg (by omega), if_neg e1, if_neg e2, if_neg e3] at this
  exact this
set_option maxHeartbeats 0 in
theorem rTick_ok {p : List Prc} {kd pr mk dp : Int} (hp : IsPg H v p) (hs : ∀ x ∈ p, x.name.length < 100000) (hm : ok64 mk) (hd : ok64 dp)
    (hQ : ∀ H', Keep Non H H' → Q (.tup [S (tickT p kd pr mk dp).1, .int .i64 (tickT p kd pr mk dp).2]) H') : WpF Tryz.prog tb gl 21 [v, .agg [.int .i64 kd, .int .i64 pr, .int .i64 mk, .int .i64 dp]] H Q := by
  have hp63 : pow63 = 9223372036854775808 := rfl
  have hrB : rB = 140737488351232 := rfl
  obtain ⟨hpl, u, rfl, hL⟩ := hp
  refine fa Tryz.func21 b21_eq v21_eq r21_eq (.inr (by simp)) ?_
  refine va_seqr ?_
  refine ia_op (oa_box rfl fun H1 hk1 hr1 => ?_)
  refine ia_op (oa_box rfl fun H2 hk2 hr2 => ?_)
  obtain ⟨b, hb⟩ : ∃ b, b = H.nx := ⟨_, rfl⟩
  rw [← hb] at hr1 ⊢
  obtain ⟨b2, hb2⟩ : ∃ b, b = H1.nx := ⟨_, rfl⟩
  rw [← hb2] at hr2 ⊢
  have hr1 : IsRow H2 b [u] false false := hr1.keep0 hk2
  have hr2 : IsRow H2 b2 [.int .i64 kd, .int .i64 pr, .int .i64 mk, .int .i64 dp] false false := hr2
  have hK2 := hk1.trans0 hk2
  obtain ⟨els, hsl, hel⟩ := isLs_elem (hL.keep hK2 fun _ _ _ h => h.keep hK2)
  refine ia_pl rfl ?_
  refine ia_nil (va_seq (va_seqr ?_))
  have out : (pr < 0 ∨ (p.length : Int) ≤ pr) → ∀ l', VA Tryz.prog tb gl v21c0 l' H2 (seqA Tryz.prog tb gl v21t2 (leftA [.tmp 4, .tmp 5] Q)) := by
    intro h l'
    refine va_seqr ?_
    refine ia_pl rfl ?_
    refine ia_nil (va_ret ⟨_, rfl, ?_⟩)
    have := hQ H2 hK2
    rw [tickT, if_pos h] at this
    exact this
  by_cases h0 : pr < 0
  · (repeat (first | refine ia_gdN rfl ?_ | refine ia_gdU rfl ?_ | ((first | refine ia_op ?_ | refine ia_gdY rfl ?_); first | refine oa_move rfl ?_ | refine oa_assign rfl ?_ | refine oa_nilCheck rfl ?_ | refine oa_fieldAddr FpF.h (by decide) rfl ?_ | refine oa_load1 PlF.h rfl hr2 rfl ?_ | refine oa_lssF rfl rfl (by omega) ?_ | refine oa_lssT rfl rfl (by omega) ?_ | refine oa_leqF rfl rfl (by omega) ?_ | refine oa_leqT rfl rfl (by omega) ?_ | refine oa_gtrF rfl rfl (by omega) ?_ | refine oa_gtrT rfl rfl (by omega) ?_ | refine oa_geqF rfl rfl (by omega) ?_ | refine oa_geqT rfl rfl (by omega) ?_ | refine oa_eqlF rfl rfl (by omega) ?_ | refine oa_eqlT rfl rfl (by omega) ?_ | refine oa_neqF rfl rfl (by omega) ?_ | refine oa_neqT rfl rfl (by omega) ?_ | refine oa_pickT rfl rfl rfl ?_ | refine oa_pickF rfl rfl ?_ | refine oa_not rfl ?_ | refine oa_extract rfl rfl ?_)))
    exact ia_nil (va_condT rfl (out (.inl h0) _))
  by_cases h1 : (p.length : Int) ≤ pr
  · (repeat (first | refine ia_gdN rfl ?_ | refine ia_gdU rfl ?_ | ((first | refine ia_op ?_ | refine ia_gdY rfl ?_); first | refine oa_move rfl ?_ | refine oa_assign rfl ?_ | refine oa_nilCheck rfl ?_ | refine oa_fieldAddr FpF.h (by decide) rfl ?_ | refine oa_load1 PlF.h rfl hr2 rfl ?_ | refine oa_load1 PlF.h rfl hr1 rfl ?_ | refine oa_lenSl rfl rfl rfl UnF.h rfl hsl ?_ | refine oa_lssF rfl rfl (by omega) ?_ | refine oa_lssT rfl rfl (by omega) ?_ | refine oa_leqF rfl rfl (by omega) ?_ | refine oa_leqT rfl rfl (by omega) ?_ | refine oa_gtrF rfl rfl (by omega) ?_ | refine oa_gtrT rfl rfl (by omega) ?_ | refine oa_geqF rfl rfl (by omega) ?_ | refine oa_geqT rfl rfl (by omega) ?_ | refine oa_eqlF rfl rfl (by omega) ?_ | refine oa_eqlT rfl rfl (by omega) ?_ | refine oa_neqF rfl rfl (by omega) ?_ | refine oa_neqT rfl rfl (by omega) ?_ | refine oa_pickT rfl rfl rfl ?_ | refine oa_pickF rfl rfl ?_ | refine oa_not rfl ?_ | refine oa_extract rfl rfl ?_)))
    exact ia_nil (va_condT rfl (out (.inr h1) _))
  (repeat (first | refine ia_gdN rfl ?_ | refine ia_gdU rfl ?_ | ((first | refine ia_op ?_ | refine ia_gdY rfl ?_); first | refine oa_move rfl ?_ | refine oa_assign rfl ?_ | refine oa_nilCheck rfl ?_ | refine oa_fieldAddr FpF.h (by decide) rfl ?_ | refine oa_load1 PlF.h rfl hr2 rfl ?_ | refine oa_load1 PlF.h rfl hr1 rfl ?_ | refine oa_lenSl rfl rfl rfl UnF.h rfl hsl ?_ | refine oa_lssF rfl rfl (by omega) ?_ | refine oa_lssT rfl rfl (by omega) ?_ | refine oa_leqF rfl rfl (by omega) ?_ | refine oa_leqT rfl rfl (by omega) ?_ | refine oa_gtrF rfl rfl (by omega) ?_ | refine oa_gtrT rfl rfl (by omega) ?_ | refine oa_geqF rfl rfl (by omega) ?_ | refine oa_geqT rfl rfl (by omega) ?_ | refine oa_eqlF rfl rfl (by omega) ?_ | refine oa_eqlT rfl rfl (by omega) ?_ | refine oa_neqF rfl rfl (by omega) ?_ | refine oa_neqT rfl rfl (by omega) ?_ | refine oa_pickT rfl rfl rfl ?_ | refine oa_pickF rfl rfl ?_ | refine oa_not rfl ?_ | refine oa_extract rfl rfl ?_)))
  refine ia_nil (va_condF rfl (va_skip (va_seqr ?_)))
  obtain ⟨i, rfl⟩ : ∃ i : Nat, pr = (i : Int) := ⟨pr.toNat, by omega⟩
  have hi : i < p.length := by omega
  obtain ⟨x, hx⟩ : ∃ x, p[i]? = some x := ⟨_, List.getElem?_eq_getElem hi⟩
  obtain ⟨cx, hcx, vm, vb, rfl, hs1, _⟩ := hel i x hx
  have hnl := hs x (List.mem_of_getElem? hx)
  have hnm : nameT p (i : Int) = x.name := by simp [nameT, hx]
  refine ia_pl rfl ?_; (repeat ((first | refine ia_op (oa_nilCheck rfl ?_) | refine ia_op (oa_fieldAddr FpF.h (by decide) rfl ?_) | refine ia_op (oa_load1 PlF.h rfl hr1 rfl ?_) | refine ia_op (oa_load1 PlF.h rfl hr2 rfl ?_)); refine ia_pl rfl ?_))
  refine ia_op (oa_indexSl UnF.h SzF.h rfl hsl rfl rfl hi fun q0 hq0 => ?_)
  rw [hcx] at hq0
  refine ia_op (oa_pfieldAddr FpF.h (by decide) rfl hq0 fun q1 hq1 => ?_)
  refine ia_op (oa_pload PlF.h rfl hq1 rfl ?_)
  refine ia_pl rfl ?_
  refine ia_nil (va_seqr ?_)
  refine ia_pl rfl ?_; (repeat ((first | refine ia_op (oa_nilCheck rfl ?_) | refine ia_op (oa_fieldAddr FpF.h (by decide) rfl ?_) | refine ia_op (oa_load1 PlF.h rfl hr2 rfl ?_)); refine ia_pl rfl ?_))
  refine ia_op (oa_call rfl rfl rfl (ZText_ok dp hd fun H3 hk3 => ?_))
  have hr23 := hr2.keep0 hk3
  have hK3 := hK2.trans0 hk3
  have htl := textZ_len hd
  have hml := textZ_len hm
  refine ia_op (oa_sadd rfl rfl (by simp only [List.length_cons, List.length_nil]; omega) ?_)
  refine ia_op (oa_sadd rfl rfl (by simp only [List.length_append, List.length_cons, List.length_nil]; omega) ?_)
  refine ia_pl rfl ?_
  refine ia_nil (va_seq (va_seqr ?_))
  by_cases e1 : kd = 1
  · (repeat (first | refine ia_gdN rfl ?_ | refine ia_gdU rfl ?_ | ((first | refine ia_op ?_ | refine ia_gdY rfl ?_); first | refine oa_move rfl ?_ | refine oa_assign rfl ?_ | refine oa_nilCheck rfl ?_ | refine oa_fieldAddr FpF.h (by decide) rfl ?_ | refine oa_load1 PlF.h rfl hr23 rfl ?_ | refine oa_lssF rfl rfl (by omega) ?_ | refine oa_lssT rfl rfl (by omega) ?_ | refine oa_leqF rfl rfl (by omega) ?_ | refine oa_leqT rfl rfl (by omega) ?_ | refine oa_gtrF rfl rfl (by omega) ?_ | refine oa_gtrT rfl rfl (by omega) ?_ | refine oa_geqF rfl rfl (by omega) ?_ | refine oa_geqT rfl rfl (by omega) ?_ | refine oa_eqlF rfl rfl (by omega) ?_ | refine oa_eqlT rfl rfl (by omega) ?_ | refine oa_neqF rfl rfl (by omega) ?_ | refine oa_neqT rfl rfl (by omega) ?_ | refine oa_pickT rfl rfl rfl ?_ | refine oa_pickF rfl rfl ?_ | refine oa_not rfl ?_ | refine oa_extract rfl rfl ?_)))
    refine ia_nil (va_condT rfl (va_seqr ?_))
    refine ia_pl rfl ?_
    refine ia_op (oa_sadd rfl rfl (by simp only [List.length_cons, List.length_nil]; omega) ?_)
    refine ia_pl rfl ?_
    refine ia_op (oa_sadd rfl rfl (by simp only [List.length_append, List.length_cons, List.length_nil]; omega) ?_)
    refine ia_pl rfl ?_
    refine ia_nil (va_ret ⟨_, rfl, ?_⟩)
    have := hQ H3 hK3
    rw [tickT, if_neg (by omega), if_pos e1, hnm] at this
    simpa [joinW, deepT] using this
  (repeat (first | refine ia_gdN rfl ?_ | refine ia_gdU rfl ?_ | ((first | refine ia_op ?_ | refine ia_gdY rfl ?_); first | refine oa_move rfl ?_ | refine oa_assign rfl ?_ | refine oa_nilCheck rfl ?_ | refine oa_fieldAddr FpF.h (by decide) rfl ?_ | refine oa_load1 PlF.h rfl hr23 rfl ?_ | refine oa_lssF rfl rfl (by omega) ?_ | refine oa_lssT rfl rfl (by omega) ?_ | refine oa_leqF rfl rfl (by omega) ?_ | refine oa_leqT rfl rfl (by omega) ?_ | refine oa_gtrF rfl rfl (by omega) ?_ | refine oa_gtrT rfl rfl (by omega) ?_ | refine oa_geqF rfl rfl (by omega) ?_ | refine oa_geqT rfl rfl (by omega) ?_ | refine oa_eqlF rfl rfl (by omega) ?_ | refine oa_eqlT rfl rfl (by omega) ?_ | refine oa_neqF rfl rfl (by omega) ?_ | refine oa_neqT rfl rfl (by omega) ?_ | refine oa_pickT rfl rfl rfl ?_ | refine oa_pickF rfl rfl ?_ | refine oa_not rfl ?_ | refine oa_extract rfl rfl ?_)))
  refine ia_nil (va_condF rfl (va_skip (va_seq (va_seqr ?_))))
  by_cases e2 : kd = 2
  · (repeat (first | refine ia_gdN rfl ?_ | refine ia_gdU rfl ?_ | ((first | refine ia_op ?_ | refine ia_gdY rfl ?_); first | refine oa_move rfl ?_ | refine oa_assign rfl ?_ | refine oa_nilCheck rfl ?_ | refine oa_fieldAddr FpF.h (by decide) rfl ?_ | refine oa_load1 PlF.h rfl hr23 rfl ?_ | refine oa_lssF rfl rfl (by omega) ?_ | refine oa_lssT rfl rfl (by omega) ?_ | refine oa_leqF rfl rfl (by omega) ?_ | refine oa_leqT rfl rfl (by omega) ?_ | refine oa_gtrF rfl rfl (by omega) ?_ | refine oa_gtrT rfl rfl (by omega) ?_ | refine oa_geqF rfl rfl (by omega) ?_ | refine oa_geqT rfl rfl (by omega) ?_ | refine oa_eqlF rfl rfl (by omega) ?_ | refine oa_eqlT rfl rfl (by omega) ?_ | refine oa_neqF rfl rfl (by omega) ?_ | refine oa_neqT rfl rfl (by omega) ?_ | refine oa_pickT rfl rfl rfl ?_ | refine oa_pickF rfl rfl ?_ | refine oa_not rfl ?_ | refine oa_extract rfl rfl ?_)))
    refine ia_nil (va_condT rfl (va_seqr ?_))
    refine ia_pl rfl ?_
    refine ia_op (oa_sadd rfl rfl (by simp only [List.length_cons, List.length_nil]; omega) ?_)
    refine ia_op (oa_sadd rfl rfl (by simp only [List.length_append, List.length_cons, List.length_nil]; omega) ?_)
    refine ia_pl rfl ?_; (repeat ((first | refine ia_op (oa_nilCheck rfl ?_) | refine ia_op (oa_fieldAddr FpF.h (by decide) rfl ?_) | refine ia_op (oa_load1 PlF.h rfl hr23 rfl ?_)); refine ia_pl rfl ?_))
    refine ia_op (oa_call rfl rfl rfl (ZText_ok mk hm fun H4 hk4 => ?_))
    refine ia_op (oa_sadd rfl rfl (by simp only [List.length_append, List.length_cons, List.length_nil]; omega) ?_)
    refine ia_pl rfl ?_
    refine ia_op (oa_sadd rfl rfl (by simp only [List.length_append, List.length_cons, List.length_nil]; omega) ?_)
    refine ia_pl rfl ?_
    refine ia_nil (va_ret ⟨_, rfl, ?_⟩)
    have := hQ H4 (hK3.trans0 hk4)
    rw [tickT, if_neg (by omega), if_neg e1, if_pos e2, hnm] at this
    simpa [joinW, deepT] using this
  (repeat (first | refine ia_gdN rfl ?_ | refine ia_gdU rfl ?_ | ((first | refine ia_op ?_ | refine ia_gdY rfl ?_); first | refine oa_move rfl ?_ | refine oa_assign rfl ?_ | refine oa_nilCheck rfl ?_ | refine oa_fieldAddr FpF.h (by decide) rfl ?_ | refine oa_load1 PlF.h rfl hr23 rfl ?_ | refine oa_lssF rfl rfl (by omega) ?_ | refine oa_lssT rfl rfl (by omega) ?_ | refine oa_leqF rfl rfl (by omega) ?_ | refine oa_leqT rfl rfl (by omega) ?_ | refine oa_gtrF rfl rfl (by omega) ?_ | refine oa_gtrT rfl rfl (by omega) ?_ | refine oa_geqF rfl rfl (by omega) ?_ | refine oa_geqT rfl rfl (by omega) ?_ | refine oa_eqlF rfl rfl (by omega) ?_ | refine oa_eqlT rfl rfl (by omega) ?_ | refine oa_neqF rfl rfl (by omega) ?_ | refine oa_neqT rfl rfl (by omega) ?_ | refine oa_pickT rfl rfl rfl ?_ | refine oa_pickF rfl rfl ?_ | refine oa_not rfl ?_ | refine oa_extract rfl rfl ?_)))
  refine ia_nil (va_condF rfl (va_skip (va_seq (va_seqr ?_))))
  by_cases e3 : kd = 3
  · (repeat (first | refine ia_gdN rfl ?_ | refine ia_gdU rfl ?_ | ((first | refine ia_op ?_ | refine ia_gdY rfl ?_); first | refine oa_move rfl ?_ | refine oa_assign rfl ?_ | refine oa_nilCheck rfl ?_ | refine oa_fieldAddr FpF.h (by decide) rfl ?_ | refine oa_load1 PlF.h rfl hr23 rfl ?_ | refine oa_lssF rfl rfl (by omega) ?_ | refine oa_lssT rfl rfl (by omega) ?_ | refine oa_leqF rfl rfl (by omega) ?_ | refine oa_leqT rfl rfl (by omega) ?_ | refine oa_gtrF rfl rfl (by omega) ?_ | refine oa_gtrT rfl rfl (by omega) ?_ | refine oa_geqF rfl rfl (by omega) ?_ | refine oa_geqT rfl rfl (by omega) ?_ | refine oa_eqlF rfl rfl (by omega) ?_ | refine oa_eqlT rfl rfl (by omega) ?_ | refine oa_neqF rfl rfl (by omega) ?_ | refine oa_neqT rfl rfl (by omega) ?_ | refine oa_pickT rfl rfl rfl ?_ | refine oa_pickF rfl rfl ?_ | refine oa_not rfl ?_ | refine oa_extract rfl rfl ?_)))
    refine ia_nil (va_condT rfl (va_seqr ?_))
    refine ia_pl rfl ?_
    refine ia_op (oa_sadd rfl rfl (by simp only [List.length_cons, List.length_nil]; omega) ?_)
    refine ia_pl rfl ?_
    refine ia_op (oa_sadd rfl rfl (by simp only [List.length_append, List.length_cons, List.length_nil]; omega) ?_)
    refine ia_pl rfl ?_
    refine ia_nil (va_ret ⟨_, rfl, ?_⟩)
    have := hQ H3 hK3
    rw [tickT, if_neg (by omega), if_neg e1, if_neg e2, if_pos e3, hnm] at this
    simpa [joinW, deepT] using this
  (repeat (first | refine ia_gdN rfl ?_ | refine ia_gdU rfl ?_ | ((first | refine ia_op ?_ | refine ia_gdY rfl ?_); first | refine oa_move rfl ?_ | refine oa_assign rfl ?_ | refine oa_nilCheck rfl ?_ | refine oa_fieldAddr FpF.h (by decide) rfl ?_ | refine oa_load1 PlF.h rfl hr23 rfl ?_ | refine oa_lssF rfl rfl (by omega) ?_ | refine oa_lssT rfl rfl (by omega) ?_ | refine oa_leqF rfl rfl (by omega) ?_ | refine oa_leqT rfl rfl (by omega) ?_ | refine oa_gtrF rfl rfl (by omega) ?_ | refine oa_gtrT rfl rfl (by omega) ?_ | refine oa_geqF rfl rfl (by omega) ?_ | refine oa_geqT rfl rfl (by omega) ?_ | refine oa_eqlF rfl rfl (by omega) ?_ | refine oa_eqlT rfl rfl (by omega) ?_ | refine oa_neqF rfl rfl (by omega) ?_ | refine oa_neqT rfl rfl (by omega) ?_ | refine oa_pickT rfl rfl rfl ?_ | refine oa_pickF rfl rfl ?_ | refine oa_not rfl ?_ | refine oa_extract rfl rfl ?_)))
  refine ia_nil (va_condF rfl (va_skip (va_seqr ?_)))
  refine ia_pl rfl ?_
  refine ia_nil (va_ret ⟨_, rfl, ?_⟩)
  have := hQ H3 hK3
  rw [tickT, if_neg (by omega), if_neg e1, if_neg e2, if_neg e3] at this
  exact this
set_option maxHeartbeats 0 in
/-- a program that is great, or of which all parts are bounded -/
theorem great_ok {p : List Prc} (hp : IsPg H v p) (hQ : ∀ g H', Keep Non H H' → (g = false → sizPs p ≤ 500) → Q (.bool g) H') : WpF Tryz.prog tb gl 7 [v] H Q := by
  have hc : v.cells.length = 1 ∧ v = .agg v.cells := by
    obtain ⟨_, u, rfl, _⟩ := hp
    exact ⟨rfl, rfl⟩
  refine fa Tryz.func7 b7_eq v7_eq r7_eq (.inr (by simp)) ?_
  refine va_seqr ?_
  refine ia_op (oa_box rfl fun H1 hk1 hr1 => ?_)
  refine ia_pl rfl ?_
  refine ia_nil (va_seqr ?_)
  refine ia_op (oa_ploadN (k := 1) PlF.h hc.1 (by decide) rfl hr1.pts ?_)
  rw [← hc.2]
  refine ia_op (oa_call rfl rfl rfl (Size_ok (hp.keep hk1) fun n H2 hk2 hC => ?_))
  unfold Cut at hC
  by_cases h : 500 < n
  · refine ia_op (oa_gtrW rfl rfl (decide_eq_true h) ?_)
    refine ia_pl rfl ?_
    exact ia_nil (va_ret ⟨_, rfl, hQ true _ (hk1.trans0 hk2) (fun h => by cases h)⟩)
  · refine ia_op (oa_gtrW rfl rfl (decide_eq_false h) ?_)
    refine ia_pl rfl ?_
    exact ia_nil (va_ret ⟨_, rfl, hQ false _ (hk1.trans0 hk2) (fun _ => by omega)⟩)
set_option maxHeartbeats 0 in
theorem ticks_ok (hlaid : Laid gl H) {p : List Prc} {kd pr mk dp : Int} (hp : IsPg H v p) (hm : ok64 mk) (hd : ok64 dp) :
    WpF Tryz.prog [8] gl 6 [v, .agg [.int .i64 kd, .int .i64 pr, .int .i64 mk, .int .i64 dp]] H fun r _ => r = .bool true := by
  have hc : v.cells.length = 1 ∧ v = .agg v.cells := by
    obtain ⟨_, u, rfl, _⟩ := hp
    exact ⟨rfl, rfl⟩
  refine fa Tryz.func6 b6_eq v6_eq r6_eq (.inr (by simp)) ?_
  refine va_seqr ?_
  refine ia_op (oa_box rfl fun H1 hk1 hr1 => ?_)
  refine ia_op (oa_box rfl fun H2 hk2 hr2 => ?_)
  have hr1 := (hr1.keep0 hk2).pts
  have hr2 := hr2.pts
  have hK2 := hk1.trans0 hk2
  refine ia_pl rfl ?_
  refine ia_nil (va_seq (va_seqr ?_))
  refine ia_op (oa_ploadN (k := 1) PlF.h hc.1 (by decide) rfl hr1 ?_)
  rw [← hc.2]
  refine ia_op (oa_call rfl rfl rfl (great_ok (hp.keep hK2) fun g H3 hk3 hg => ?_))
  have hK3 := hK2.trans0 hk3
  cases g with
  | true =>
    refine ia_nil (va_condT rfl (va_seqr ?_))
    refine ia_op (oa_known rfl (hlaid.keep hK3) ?_)
    refine ia_pl rfl ?_
    exact ia_nil (va_ret ⟨_, rfl, rfl⟩)
  | false =>
    have hsz := hg rfl
    have hnames : ∀ x ∈ p, x.name.length < 100000 := fun x hx => by
      have := sizPs_mem hx
      simp only [sizP] at this
      omega
    refine ia_nil (va_condF rfl (va_skip (va_seqr ?_)))
    have hr13 := hr1.keep hk3 fun _ h => h
    have hr23 := hr2.keep hk3 fun _ h => h
    refine ia_op (oa_ploadN (k := 1) PlF.h hc.1 (by decide) rfl hr13 ?_)
    rw [← hc.2]
    refine ia_op (oa_ploadN (k := 4) PlF.h rfl (by decide) rfl hr23 ?_)
    refine ia_op (oa_call rfl rfl rfl (vTick_ok (hp.keep hK3) hnames hm hd fun H4 hk4 => ?_))
    have hK4 := hK3.trans0 hk4
    refine ia_pl rfl ?_
    refine ia_nil (va_seqr ?_)
    refine ia_op (oa_ploadN (k := 1) PlF.h hc.1 (by decide) rfl (hr13.keep hk4 fun _ h => h) ?_)
    rw [← hc.2]
    refine ia_op (oa_ploadN (k := 4) PlF.h rfl (by decide) rfl (hr23.keep hk4 fun _ h => h) ?_)
    refine ia_op (oa_call rfl rfl rfl (rTick_ok (hp.keep hK4) hnames hm hd fun H5 hk5 => ?_))
    refine ia_pl rfl ?_
    refine ia_nil (va_seqr ?_)
    refine ia_pl rfl ?_
    refine ia_op (oa_seqlW rfl rfl (decide_eq_true rfl) ?_)
    refine ia_pl rfl ?_
    refine ia_gdY rfl (oa_move rfl (ia_gdY rfl (oa_move rfl ?_)))
    refine ia_gdY rfl (oa_eqlW rfl rfl (decide_eq_true rfl) ?_)
    refine ia_op (oa_pickT rfl rfl rfl ?_)
    refine ia_pl rfl ?_
    refine ia_gdY rfl (oa_known rfl (hlaid.keep (hK4.trans0 hk5)) ?_)
    refine ia_op (oa_pickT rfl rfl rfl ?_)
    refine ia_pl rfl ?_
    exact ia_nil (va_ret ⟨_, rfl, rfl⟩)
end
end Go.Proofs.YtalnmaalhocjfaaGreatDoor
