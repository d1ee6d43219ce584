/-
  Matched calls, the document's way: the least of the greatest matchings, the matching of two rows (parallaxref15), walked. Conditions: the rows' lengths.
-/
import Derived.Test.YtndhniapohlniaaGreatDoorMat1
namespace Go.Proofs.YtndhniapohlniaaGreatDoor
open Go Go.Proofs.YtndhniapohlniaaGreatDoor.Eng
/-! facts about types -/
theorem ze_96 : zeroOf Tryz.prog 96 = some (.agg [.int .i64 0, .int .i64 0]) := by kernel_rfl
instance ize_96 : ZeF Tryz.prog 96 (.agg [.int .i64 0, .int .i64 0]) := ⟨ze_96⟩
theorem bs_96 : structOK Tryz.prog 96 = true := by kernel_rfl
instance ibs_96 : BsF Tryz.prog 96 := ⟨bs_96⟩
theorem ps_96 : plcsOK Tryz.prog 96 0 [(0, 1), (1, 1)] = true := by kernel_rfl
instance ips_96 : PsF Tryz.prog 96 [(0, 1), (1, 1)] := ⟨ps_96⟩
theorem el_32 : elemI Tryz.prog 32 = some ⟨96, 2, .agg [.int .i64 0, .int .i64 0]⟩ := by kernel_rfl
instance iel_32 : ElF Tryz.prog 32 ⟨96, 2, .agg [.int .i64 0, .int .i64 0]⟩ := ⟨el_32⟩
theorem un_32 : Tryz.prog.underlying 32 = some (.slice 96) := by kernel_rfl
instance iun_32 : UnF Tryz.prog 32 (.slice 96) := ⟨un_32⟩
/-! f96: parallax/parallaxref15.least, parameters #[151, 151, 3, 3] -/
def v96l0h0 : CV := .seq (.reg [.op (some 22) (.move (.tmp 11)),
    .op (some 23) (.move (.tmp 0)),
    .op (some 24) (.call ⟨.builtin .len, #[(.tmp 23)], #[151]⟩),
    .op (some 25) (.move (.tmp 2)),
    .op (some 26) (.binOp .sub 3 (.tmp 24) (.tmp 25) 3),
    .op (some 27) (.binOp .lss 3 (.tmp 22) (.tmp 26) 3),
    .op (some 28) (.move (.tmp 27)),
    .gd 28 true (some 29) (.move (.tmp 12)),
    .gd 28 true (some 30) (.move (.tmp 1)),
    .gd 28 true (some 31) (.call ⟨.builtin .len, #[(.tmp 30)], #[151]⟩),
    .gd 28 true (some 32) (.move (.tmp 3)),
    .gd 28 true (some 33) (.binOp .sub 3 (.tmp 31) (.tmp 32) 3),
    .gd 28 true (some 34) (.binOp .lss 3 (.tmp 29) (.tmp 33) 3),
    .op (some 35) (.pick (.tmp 28) (.tmp 34) (.const (.bool false))),
    .op (some 36) (.move (.tmp 35)),
    .gd 36 true (some 37) (.move (.tmp 9)),
    .gd 36 true (some 38) (.move (.tmp 11)),
    .gd 36 true (some 39) (.indexAddr 80 (.tmp 37) (.tmp 38)),
    .gd 36 true (some 40) (.load 52 (.tmp 39)),
    .gd 36 true (some 41) (.move (.tmp 12)),
    .gd 36 true (some 42) (.indexAddr 52 (.tmp 40) (.tmp 41)),
    .gd 36 true (some 43) (.load 3 (.tmp 42)),
    .gd 36 true (some 44) (.binOp .gtr 3 (.tmp 43) (.const (.int .i64 0)) 3),
    .op (some 45) (.pick (.tmp 36) (.tmp 44) (.const (.bool false)))])
  (.cond (.tmp 45) (.skip) (.exit 0))
def v96l1h0 : CV := .seq (.reg [.op (some 47) (.move (.tmp 14)),
    .op (some 48) (.move (.tmp 1)),
    .op (some 49) (.call ⟨.builtin .len, #[(.tmp 48)], #[151]⟩),
    .op (some 50) (.move (.tmp 3)),
    .op (some 51) (.binOp .sub 3 (.tmp 49) (.tmp 50) 3),
    .op (some 52) (.binOp .lss 3 (.tmp 47) (.tmp 51) 3),
    .op (some 53) (.move (.tmp 52)),
    .gd 53 true (some 54) (.move (.tmp 13)),
    .gd 53 true (some 55) (.binOp .lss 3 (.tmp 54) (.const (.int .i64 0)) 3),
    .op (some 56) (.pick (.tmp 53) (.tmp 55) (.const (.bool false)))])
  (.cond (.tmp 56) (.skip) (.exit 2))
def v96k1 : CV := .seq (.reg [.op (some 59) (.move (.tmp 0)),
    .op (some 60) (.move (.tmp 2)),
    .op (some 61) (.move (.tmp 11)),
    .op (some 62) (.binOp .add 3 (.tmp 60) (.tmp 61) 3),
    .op (some 63) (.indexAddr 151 (.tmp 59) (.tmp 62)),
    .op (some 64) (.load 235 (.tmp 63)),
    .op (some 65) (.move (.tmp 1)),
    .op (some 66) (.move (.tmp 3)),
    .op (some 67) (.move (.tmp 14)),
    .op (some 68) (.binOp .add 3 (.tmp 66) (.tmp 67) 3),
    .op (some 69) (.indexAddr 151 (.tmp 65) (.tmp 68)),
    .op (some 70) (.load 235 (.tmp 69)),
    .op (some 71) (.binOp .eql 235 (.tmp 64) (.tmp 70) 235),
    .op (some 72) (.move (.tmp 71)),
    .gd 72 true (some 73) (.move (.tmp 9)),
    .gd 72 true (some 74) (.move (.tmp 11)),
    .gd 72 true (some 75) (.binOp .add 3 (.tmp 74) (.const (.int .i64 1)) 3),
    .gd 72 true (some 76) (.indexAddr 80 (.tmp 73) (.tmp 75)),
    .gd 72 true (some 77) (.load 52 (.tmp 76)),
    .gd 72 true (some 78) (.move (.tmp 14)),
    .gd 72 true (some 79) (.binOp .add 3 (.tmp 78) (.const (.int .i64 1)) 3),
    .gd 72 true (some 80) (.indexAddr 52 (.tmp 77) (.tmp 79)),
    .gd 72 true (some 81) (.load 3 (.tmp 80)),
    .gd 72 true (some 82) (.binOp .add 3 (.tmp 81) (.const (.int .i64 1)) 3),
    .gd 72 true (some 83) (.move (.tmp 9)),
    .gd 72 true (some 84) (.move (.tmp 11)),
    .gd 72 true (some 85) (.indexAddr 80 (.tmp 83) (.tmp 84)),
    .gd 72 true (some 86) (.load 52 (.tmp 85)),
    .gd 72 true (some 87) (.move (.tmp 12)),
    .gd 72 true (some 88) (.indexAddr 52 (.tmp 86) (.tmp 87)),
    .gd 72 true (some 89) (.load 3 (.tmp 88)),
    .gd 72 true (some 90) (.binOp .eql 3 (.tmp 82) (.tmp 89) 3),
    .op (some 91) (.pick (.tmp 72) (.tmp 90) (.const (.bool false)))])
  (.cond (.tmp 91) (.reg [.op (some 92) (.move (.tmp 14)),
    .op (some 13) (.assign (.tmp 92))]) (.skip))
def v96l1t1 : CV := .seq (.block 3 v96k1)
  (.reg [.op (some 57) (.move (.tmp 14)),
    .op (some 58) (.binOp .add 3 (.tmp 57) (.const (.int .i64 1)) 3),
    .op (some 14) (.assign (.tmp 58))])
def v96l1 : CV := .seq v96l1h0 v96l1t1
def v96k0h1 : CV := .seq (.reg [.op (some 46) (.move (.tmp 12)),
    .op (some 14) (.assign (.tmp 46))])
  (.block 2 (.loop v96l1))
def v96c2 : CV := .seq (.reg [.op (some 95) (.move (.tmp 10)),
    .op (some 96) (.move (.tmp 2)),
    .op (some 97) (.move (.tmp 11)),
    .op (some 98) (.binOp .add 3 (.tmp 96) (.tmp 97) 3),
    .op (some 99) (.move (.tmp 3)),
    .op (some 100) (.move (.tmp 13)),
    .op (some 101) (.binOp .add 3 (.tmp 99) (.tmp 100) 3),
    .op (some 102) (.build 96 #[(0, (.tmp 98)), (1, (.tmp 101))]),
    .op (some 103) (.buildSlice 32 1 #[(0, (.tmp 102))]),
    .op (some 104) (.call ⟨.builtin .append, #[(.tmp 95), (.tmp 103)], #[32, 32]⟩),
    .op (some 10) (.assign (.tmp 104))])
  (.reg [.op (some 105) (.move (.tmp 13)),
    .op (some 106) (.binOp .add 3 (.tmp 105) (.const (.int .i64 1)) 3),
    .op (some 12) (.assign (.tmp 106))])
def v96k0h2 : CV := .seq (.reg [.op (some 93) (.move (.tmp 13)),
    .op (some 94) (.binOp .geq 3 (.tmp 93) (.const (.int .i64 0)) 3)])
  (.cond (.tmp 94) v96c2 (.skip))
def v96k0t2 : CV := .seq v96k0h2
  (.reg [.op (some 107) (.move (.tmp 11)),
    .op (some 108) (.binOp .add 3 (.tmp 107) (.const (.int .i64 1)) 3),
    .op (some 11) (.assign (.tmp 108))])
def v96k0t1 : CV := .seq v96k0h1 v96k0t2
def v96k0 : CV := .seq (.reg [.op (some 13) (.assign (.const (.int .i64 (-1))))]) v96k0t1
def v96l0 : CV := .seq v96l0h0
  (.block 1 v96k0)
def v96t5 : CV := .seq (.reg [.op (some 109) (.move (.tmp 10)),
    .op (some 8) (.assign (.tmp 109))])
  (.ret)
def v96t4 : CV := .seq (.block 0 (.loop v96l0)) v96t5
def v96t3 : CV := .seq (.reg [.op (some 11) (.assign (.const (.int .i64 0))),
    .op (some 12) (.assign (.const (.int .i64 0)))]) v96t4
def v96t2 : CV := .seq (.reg [.op (some 10) (.assign (.const (.slice none 0 0)))]) v96t3
def v96t1 : CV := .seq (.reg [.op (some 15) (.move (.tmp 0)),
    .op (some 16) (.move (.tmp 2)),
    .op (some 17) (.slice 151 (.tmp 15) (some (.tmp 16)) none none),
    .op (some 18) (.move (.tmp 1)),
    .op (some 19) (.move (.tmp 3)),
    .op (some 20) (.slice 151 (.tmp 18) (some (.tmp 19)) none none),
    .op (some 21) (.call ⟨.value (.func 174), #[(.tmp 17), (.tmp 20)], #[151, 151]⟩),
    .op (some 9) (.assign (.tmp 21))]) v96t2
def v96 : CV := .seq (.reg [.op (some 8) (.assign (.const (.slice none 0 0)))]) v96t1
noncomputable def b96 : Code := Tryz.f96.body.getD .skip
theorem b96_eq : Tryz.f96.body = some b96 := by kernel_rfl
theorem v96_eq : viewC Tryz.prog b96 = some v96 := by kernel_rfl
theorem r96_eq : Tryz.f96.results.toList = [.tmp 8] := by kernel_rfl
/-! f47: parallax/parallaxref15.Match, parameters #[151, 151, 3] -/
def v47h2 : CV := .seq (.reg [.op (some 14) (.move (.tmp 8)),
    .op (some 15) (.binOp .lss 3 (.tmp 14) (.const (.int .i64 0)) 3)])
  (.cond (.tmp 15) (.reg [.op (some 16) (.move (.tmp 0)),
    .op (some 17) (.call ⟨.builtin .len, #[(.tmp 16)], #[151]⟩),
    .op (some 8) (.assign (.tmp 17))]) (.skip))
def v47l0h0 : CV := .seq (.reg [.op (some 18) (.move (.tmp 10)),
    .op (some 19) (.move (.tmp 8)),
    .op (some 20) (.binOp .lss 3 (.tmp 18) (.tmp 19) 3)])
  (.cond (.tmp 20) (.skip) (.exit 0))
def v47l0t1 : CV := .seq (.block 1 (.reg [.op (some 23) (.move (.tmp 9)),
    .op (some 24) (.move (.tmp 10)),
    .op (some 25) (.move (.tmp 10)),
    .op (some 26) (.build 96 #[(0, (.tmp 24)), (1, (.tmp 25))]),
    .op (some 27) (.buildSlice 32 1 #[(0, (.tmp 26))]),
    .op (some 28) (.call ⟨.builtin .append, #[(.tmp 23), (.tmp 27)], #[32, 32]⟩),
    .op (some 9) (.assign (.tmp 28))]))
  (.reg [.op (some 21) (.move (.tmp 10)),
    .op (some 22) (.binOp .add 3 (.tmp 21) (.const (.int .i64 1)) 3),
    .op (some 10) (.assign (.tmp 22))])
def v47l0 : CV := .seq v47l0h0 v47l0t1
def v47h4 : CV := .seq (.reg [.op (some 10) (.assign (.const (.int .i64 0)))])
  (.block 0 (.loop v47l0))
def v47h5 : CV := .seq (.reg [.op (some 29) (.move (.tmp 2)),
    .op (some 30) (.binOp .lss 3 (.tmp 29) (.const (.int .i64 0)) 3)])
  (.cond (.tmp 30) (.reg [.op (some 2) (.assign (.const (.int .i64 0)))]) (.skip))
def v47c1 : CV := .seq (.reg [.op (some 42) (.move (.tmp 9)),
    .op (some 6) (.assign (.tmp 42)),
    .op (some 7) (.assign (.const (.bool true)))])
  (.ret)
def v47h6 : CV := .seq (.reg [.op (some 31) (.move (.tmp 0)),
    .op (some 32) (.call ⟨.builtin .len, #[(.tmp 31)], #[151]⟩),
    .op (some 33) (.move (.tmp 8)),
    .op (some 34) (.binOp .sub 3 (.tmp 32) (.tmp 33) 3),
    .op (some 35) (.move (.tmp 1)),
    .op (some 36) (.call ⟨.builtin .len, #[(.tmp 35)], #[151]⟩),
    .op (some 37) (.move (.tmp 8)),
    .op (some 38) (.binOp .sub 3 (.tmp 36) (.tmp 37) 3),
    .op (some 39) (.binOp .mul 3 (.tmp 34) (.tmp 38) 3),
    .op (some 40) (.move (.tmp 2)),
    .op (some 41) (.binOp .gtr 3 (.tmp 39) (.tmp 40) 3)])
  (.cond (.tmp 41) v47c1 (.skip))
def v47t7 : CV := .seq (.reg [.op (some 43) (.move (.tmp 9)),
    .op (some 44) (.move (.tmp 0)),
    .op (some 45) (.move (.tmp 1)),
    .op (some 46) (.move (.tmp 8)),
    .op (some 47) (.move (.tmp 8)),
    .op (some 48) (.call ⟨.value (.func 96), #[(.tmp 44), (.tmp 45), (.tmp 46), (.tmp 47)], #[151, 151, 3, 3]⟩),
    .op (some 49) (.call ⟨.builtin .append, #[(.tmp 43), (.tmp 48)], #[32, 32]⟩),
    .op (some 6) (.assign (.tmp 49)),
    .op (some 7) (.assign (.const (.bool false)))])
  (.ret)
def v47t6 : CV := .seq v47h6 v47t7
def v47t5 : CV := .seq v47h5 v47t6
def v47t4 : CV := .seq v47h4 v47t5
def v47t3 : CV := .seq (.reg [.op (some 9) (.assign (.const (.slice none 0 0)))]) v47t4
def v47t2 : CV := .seq v47h2 v47t3
def v47t1 : CV := .seq (.reg [.op (some 11) (.move (.tmp 0)),
    .op (some 12) (.move (.tmp 1)),
    .op (some 13) (.call ⟨.value (.func 95), #[(.tmp 11), (.tmp 12)], #[151, 151]⟩),
    .op (some 8) (.assign (.tmp 13))]) v47t2
def v47 : CV := .seq (.reg [.op (some 6) (.assign (.const (.slice none 0 0))),
    .op (some 7) (.assign (.const (.bool false)))]) v47t1
noncomputable def b47 : Code := Tryz.f47.body.getD .skip
theorem b47_eq : Tryz.f47.body = some b47 := by kernel_rfl
theorem v47_eq : viewC Tryz.prog b47 = some v47 := by kernel_rfl
theorem r47_eq : Tryz.f47.results.toList = [.tmp 6, .tmp 7] := by kernel_rfl

section
variable {tb : List FuncId} {gl : List (List AV)} {H : Heap} {v w : AV} {Q : AV → Heap → Prop}
/-- what the first hit of a row is, as far as one has looked -/
def FoundR (e : Nat → Nat → Bool) (n m W x y h : Nat) : Option Nat → Prop
  | none => ∀ h', y ≤ h' → h' < h → ¬ Hit e n m W x h'
  | some f => y ≤ f ∧ Hit e n m W x f ∧ ∀ h', y ≤ h' → h' < f → ¬ Hit e n m W x h'
def foundI : Option Nat → Int
  | none => -1
  | some f => (f : Int)
abbrev RlA := Nat × Nat × List (Nat × Nat) × AV
structure RlI (e : Nat → Nat → Bool) (n m : Nat) (H : Heap) (k : Nat) (a : RlA) (H' : Heap) : Prop where
  keep : Keep Non H H'
  le1 : a.1 ≤ n
  le2 : a.2.1 ≤ m
  siz : a.2.2.1.length ≤ a.1
  con : ∀ l, LeastM e n m a.1 a.2.1 l → LeastM e n m 0 0 (a.2.2.1 ++ l)
  own : Own H' a.2.2.2 2 a.2.2.1.length ((a.2.2.1.map (shP k)).flatMap prN)
  new : ∀ c, ownB a.2.2.2 c → H.nx ≤ c
theorem oa_indexP {t e : TypeId} {x i : Operand} {l : Fm} {Q : AV → Heap → Prop} {es n b o j : Nat} {k0 : IntKind} {z0 : Int} (hu : Tryz.prog.underlying t = some (.slice e)) (hz : szOf Tryz.prog e = some es) (hx : evA x l = some v) (hp : v = .so b o n es ∨ ∃ c, v = .sl b o n c) (hi : evA i l = some (.int k0 z0)) (hz0 : z0 = (j : Int)) (hj : j < n) (q : Q (.ptr b (o + j * es)) H) : OA Tryz.prog tb gl (.indexAddr t x i) l H Q :=
  oa (fun T hT => by
    have hb : Nat.blt j n = true := by rw [blt_iff]; simpa using hj
    have hi' : ev i T = some (.int k0 (.ofNat j)) := by rw [evA_ok hT hi, hz0]; rfl
    rcases hp with rfl | ⟨c, rfl⟩
    · simp only [oper, oIndexAddr, hu, evA_ok hT hx, hi', idx, hb, cond_true, hz, fN_eq]; rfl
    · simp only [oper, oIndexAddr, hu, evA_ok hT hx, hi', idx, hb, cond_true, hz, fN_eq]; rfl) q
theorem isSl_ix {H : Heap} {v : AV} {es n : Nat} {cs : List AV} (h : IsSl H v es n cs) (hn : 0 < n) : ∃ b o row tl ro, (v = .so b o n es ∨ ∃ c, v = .sl b o n c) ∧ IsRow H b row tl ro ∧ ∀ j, j < cs.length → row[o + j]? = cs[j]? := by
  obtain ⟨_, ⟨_, h0⟩ | ⟨_, _, _, _, h0⟩ | ⟨b, o, row, tl, ro, h1, h2, h3⟩⟩ := h
  · omega
  · omega
  · exact ⟨b, o, row, tl, ro, h1.imp And.left fun ⟨c, h, _⟩ => ⟨c, h⟩, h2, h3⟩
set_option maxHeartbeats 0 in
theorem rleast_ok {al bl : List (Int × Int)} {k : Nat} (hn : al.length ≤ 500) (hm : bl.length ≤ 500) (hk1 : k ≤ al.length) (hk2 : k ≤ bl.length) (hv : IsSl H v 2 al.length (al.flatMap evC)) (hw : IsSl H w 2 bl.length (bl.flatMap evC))
    (hvs : ∀ b o w z, v ≠ .se b o w z) (hws : ∀ b o w' z, w ≠ .se b o w' z)
    (hQ : ∀ l u H', LeastM (eqM (al.drop k) (bl.drop k)) (al.length - k) (bl.length - k) 0 0 l → Keep Non H H' → Own H' u 2 l.length ((l.map (shP k)).flatMap prN) → (∀ c, ownB u c → H.nx ≤ c) → Q u H') : WpF Tryz.prog tb gl 96 [v, w, .int .i64 (k : Int), .int .i64 (k : Int)] H Q := by
  have hlim : limit = 1000000 := rfl
  refine fa Tryz.func96 b96_eq v96_eq r96_eq (.inr (by simp)) ?_
  refine va_seqr ?_
  refine ia_pl rfl ?_
  refine ia_nil (va_seqr ?_)
  refine ia_pl rfl ?_
  refine ia_op (oa_cutSl UnF.h SzF.h (by decide) rfl hv (bndA_of rfl rfl) rfl hk1 (Nat.le_refl _) hvs fun v' hv' => ?_)
  refine ia_pl rfl ?_
  refine ia_op (oa_cutSl UnF.h SzF.h (by decide) rfl hw (bndA_of rfl rfl) rfl hk2 (Nat.le_refl _) hws fun w' hw' => ?_)
  rw [flat_drop evC_len, List.take_of_length_le (by rw [flat_length evC_len, List.length_drop]; exact Nat.le_refl _)] at hv' hw'
  have e1 : (al.drop k).length = al.length - k := List.length_drop
  have e2 : (bl.drop k).length = bl.length - k := List.length_drop
  rw [← e1] at hv'
  rw [← e2] at hw'
  refine ia_op (oa_call rfl rfl rfl (rSizes_ok (by omega) (by omega) hv' hw' fun us0 below us H1 S => ?_))
  rw [e1, e2] at S
  obtain ⟨n, hn'⟩ : ∃ n, n = al.length - k := ⟨_, rfl⟩
  obtain ⟨m, hm'⟩ : ∃ m, m = bl.length - k := ⟨_, rfl⟩
  obtain ⟨e, hee⟩ : ∃ e, e = eqM (al.drop k) (bl.drop k) := ⟨_, rfl⟩
  rw [← hn', ← hm', ← hee] at S hQ
  have hul := S.len
  refine ia_pl rfl ?_
  refine ia_nil (va_seqr ?_)
  refine ia_pl rfl ?_
  refine ia_nil (va_seqr ?_)
  refine ia_pl rfl ?_
  refine ia_nil (va_seq (va_block ?_))
  refine va_loop (fun (a : RlA) => [(0, v), (1, w), (2, .int .i64 (k : Int)), (3, .int .i64 (k : Int)), (9, us0), (10, a.2.2.2), (11, .int .i64 (a.1 : Int)), (12, .int .i64 (a.2.1 : Int))]) (fun a H' => RlI e n m H1 k a H') (fun a => n - a.1) ?_ (0, 0, [], .nils) _ H1 ⟨rfl, rfl, rfl, rfl, rfl, rfl, rfl, rfl, trivial⟩
    ⟨.refl _ _, Nat.zero_le _, Nat.zero_le _, Nat.le_refl _, fun l h => h, .nil _ _, fun _ h => h.elim⟩
  rintro ⟨x, y, pre, u⟩ H2 ⟨hk12, hx, hy, hsz, hcon, hown, hnew⟩
  simp only at hx hy hsz hcon hown hnew
  dsimp only
  have hkeep := S.keep.trans0 hk12
  have hv2 := hv.keep0 hkeep
  have hw2 := hw.keep0 hkeep
  -- a size is asked
  have hus : ∀ (i : Nat), i ≤ n → ∃ b cells, us[i]? = some (.sl b 0 (m + 1) (m + 1)) ∧ IsRow H1 b cells false false ∧ ∀ j, j ≤ m → cells[j]? = some (.int .i64 (Lm e n m i j : Nat)) := by
    intro i hi
    obtain ⟨z, hz⟩ : ∃ z, us[i]? = some z := ⟨_, List.getElem?_eq_getElem (by omega)⟩
    obtain ⟨b, cells, rfl, h2, _, h3⟩ := S.row i z hz
    rw [Nat.sub_self, Nat.zero_add] at h3
    exact ⟨b, cells, hz, h2, h3⟩
  obtain ⟨bu, ou, row, tl, ro, hpu, hrowu, hgetu⟩ := isSl_ix S.own (by omega)
  have hrow2 := hrowu.keep0 hk12
  have hgu : ∀ (i : Nat) z, us[i]? = some z → row[ou + i * 1]? = some z := fun i z hz => by
    rw [Nat.mul_one, hgetu i (List.getElem?_eq_some_iff.1 hz).1]
    exact hz
  have hle := Lm_le (e := e) (n := n) (m := m) x y
  have fin : Lm e n m x y = 0 → ∀ l', Sb [(10, u)] l' → VA Tryz.prog tb gl v96t5 l' H2 (leftA [.tmp 8] Q) := by
    intro hz l' hs
    refine VA.sub hs (va_seqr ?_)
    refine ia_pl rfl ?_
    have hl := hcon [] (.done hz)
    rw [List.append_nil] at hl
    exact ia_nil (va_ret ⟨_, rfl, hQ pre u H2 hl hkeep hown fun c hc => Nat.le_trans S.keep.nx (hnew c hc)⟩)
  refine va_seq (va_seqr ?_)
  by_cases c1 : x < n
  rotate_left
  · (repeat (first | refine ia_gdN rfl ?_ | refine ia_gdU rfl ?_ | ((first | refine ia_op ?_ | refine ia_gdY rfl ?_); first | refine oa_move rfl ?_ | refine oa_assign rfl ?_ | refine oa_nilCheck rfl ?_ | refine oa_fieldAddr FpF.h (by decide) rfl ?_ | refine oa_lenSl rfl rfl rfl UnF.h rfl hv2 ?_ | refine oa_lenSl rfl rfl rfl UnF.h rfl hw2 ?_ | refine oa_subW (c := (n : Int)) rfl rfl (wrapE_i64 (by omega) (by omega) (by omega)) ?_ | refine oa_subW (c := (m : Int)) rfl rfl (wrapE_i64 (by omega) (by omega) (by omega)) ?_ | refine oa_lssF rfl rfl (by omega) ?_ | refine oa_lssT rfl rfl (by omega) ?_ | refine oa_leqF rfl rfl (by omega) ?_ | refine oa_leqT rfl rfl (by omega) ?_ | refine oa_gtrF rfl rfl (by omega) ?_ | refine oa_gtrT rfl rfl (by omega) ?_ | refine oa_geqF rfl rfl (by omega) ?_ | refine oa_geqT rfl rfl (by omega) ?_ | refine oa_eqlF rfl rfl (by omega) ?_ | refine oa_eqlT rfl rfl (by omega) ?_ | refine oa_neqF rfl rfl (by omega) ?_ | refine oa_neqT rfl rfl (by omega) ?_ | refine oa_pickT rfl rfl rfl ?_ | refine oa_pickF rfl rfl ?_ | refine oa_not rfl ?_ | refine oa_extract rfl rfl ?_)))
    exact ia_nil (va_condF rfl (va_exit (fin (Lm_out (by omega)) _ ⟨rfl, trivial⟩)))
  by_cases c2 : y < m
  rotate_left
  · (repeat (first | refine ia_gdN rfl ?_ | refine ia_gdU rfl ?_ | ((first | refine ia_op ?_ | refine ia_gdY rfl ?_); first | refine oa_move rfl ?_ | refine oa_assign rfl ?_ | refine oa_nilCheck rfl ?_ | refine oa_fieldAddr FpF.h (by decide) rfl ?_ | refine oa_lenSl rfl rfl rfl UnF.h rfl hv2 ?_ | refine oa_lenSl rfl rfl rfl UnF.h rfl hw2 ?_ | refine oa_subW (c := (n : Int)) rfl rfl (wrapE_i64 (by omega) (by omega) (by omega)) ?_ | refine oa_subW (c := (m : Int)) rfl rfl (wrapE_i64 (by omega) (by omega) (by omega)) ?_ | refine oa_lssF rfl rfl (by omega) ?_ | refine oa_lssT rfl rfl (by omega) ?_ | refine oa_leqF rfl rfl (by omega) ?_ | refine oa_leqT rfl rfl (by omega) ?_ | refine oa_gtrF rfl rfl (by omega) ?_ | refine oa_gtrT rfl rfl (by omega) ?_ | refine oa_geqF rfl rfl (by omega) ?_ | refine oa_geqT rfl rfl (by omega) ?_ | refine oa_eqlF rfl rfl (by omega) ?_ | refine oa_eqlT rfl rfl (by omega) ?_ | refine oa_neqF rfl rfl (by omega) ?_ | refine oa_neqT rfl rfl (by omega) ?_ | refine oa_pickT rfl rfl rfl ?_ | refine oa_pickF rfl rfl ?_ | refine oa_not rfl ?_ | refine oa_extract rfl rfl ?_)))
    exact ia_nil (va_condF rfl (va_exit (fin (Lm_out (by omega)) _ ⟨rfl, trivial⟩)))
  obtain ⟨bx, cellsx, hux, hrx, hvx⟩ := hus x hx
  obtain ⟨bx1, cellsx1, hux1, hrx1, hvx1⟩ := hus (x + 1) c1
  have hgx := hgu x _ hux
  have hgx1 := hgu (x + 1) _ hux1
  have hrx2 := hrx.keep0 hk12
  have hrx12 := hrx1.keep0 hk12
  have hcx : cellsx[0 + y * 1]? = some (.int .i64 (Lm e n m x y : Nat)) := by rw [Nat.mul_one, Nat.zero_add]; exact hvx y hy
  by_cases c3 : Lm e n m x y = 0
  · (repeat (first | refine ia_gdN rfl ?_ | refine ia_gdU rfl ?_ | ((first | refine ia_op ?_ | refine ia_gdY rfl ?_); first | refine oa_move rfl ?_ | refine oa_assign rfl ?_ | refine oa_nilCheck rfl ?_ | refine oa_fieldAddr FpF.h (by decide) rfl ?_ | refine oa_lenSl rfl rfl rfl UnF.h rfl hv2 ?_ | refine oa_lenSl rfl rfl rfl UnF.h rfl hw2 ?_ | refine oa_subW (c := (n : Int)) rfl rfl (wrapE_i64 (by omega) (by omega) (by omega)) ?_ | refine oa_subW (c := (m : Int)) rfl rfl (wrapE_i64 (by omega) (by omega) (by omega)) ?_ | refine oa_indexP UnF.h SzF.h rfl hpu rfl rfl (by omega) ?_ | refine oa_load1 PlF.h rfl hrow2 hgx ?_ | refine oa_indexRowO (j := y) UnF.h SzF.h rfl rfl rfl (by omega) ?_ | refine oa_load1 PlF.h rfl hrx2 hcx ?_ | refine oa_lssF rfl rfl (by omega) ?_ | refine oa_lssT rfl rfl (by omega) ?_ | refine oa_leqF rfl rfl (by omega) ?_ | refine oa_leqT rfl rfl (by omega) ?_ | refine oa_gtrF rfl rfl (by omega) ?_ | refine oa_gtrT rfl rfl (by omega) ?_ | refine oa_geqF rfl rfl (by omega) ?_ | refine oa_geqT rfl rfl (by omega) ?_ | refine oa_eqlF rfl rfl (by omega) ?_ | refine oa_eqlT rfl rfl (by omega) ?_ | refine oa_neqF rfl rfl (by omega) ?_ | refine oa_neqT rfl rfl (by omega) ?_ | refine oa_pickT rfl rfl rfl ?_ | refine oa_pickF rfl rfl ?_ | refine oa_not rfl ?_ | refine oa_extract rfl rfl ?_)))
    exact ia_nil (va_condF rfl (va_exit (fin c3 _ ⟨rfl, trivial⟩)))
  (repeat (first | refine ia_gdN rfl ?_ | refine ia_gdU rfl ?_ | ((first | refine ia_op ?_ | refine ia_gdY rfl ?_); first | refine oa_move rfl ?_ | refine oa_assign rfl ?_ | refine oa_nilCheck rfl ?_ | refine oa_fieldAddr FpF.h (by decide) rfl ?_ | refine oa_lenSl rfl rfl rfl UnF.h rfl hv2 ?_ | refine oa_lenSl rfl rfl rfl UnF.h rfl hw2 ?_ | refine oa_subW (c := (n : Int)) rfl rfl (wrapE_i64 (by omega) (by omega) (by omega)) ?_ | refine oa_subW (c := (m : Int)) rfl rfl (wrapE_i64 (by omega) (by omega) (by omega)) ?_ | refine oa_indexP UnF.h SzF.h rfl hpu rfl rfl (by omega) ?_ | refine oa_load1 PlF.h rfl hrow2 hgx ?_ | refine oa_indexRowO (j := y) UnF.h SzF.h rfl rfl rfl (by omega) ?_ | refine oa_load1 PlF.h rfl hrx2 hcx ?_ | refine oa_lssF rfl rfl (by omega) ?_ | refine oa_lssT rfl rfl (by omega) ?_ | refine oa_leqF rfl rfl (by omega) ?_ | refine oa_leqT rfl rfl (by omega) ?_ | refine oa_gtrF rfl rfl (by omega) ?_ | refine oa_gtrT rfl rfl (by omega) ?_ | refine oa_geqF rfl rfl (by omega) ?_ | refine oa_geqT rfl rfl (by omega) ?_ | refine oa_eqlF rfl rfl (by omega) ?_ | refine oa_eqlT rfl rfl (by omega) ?_ | refine oa_neqF rfl rfl (by omega) ?_ | refine oa_neqT rfl rfl (by omega) ?_ | refine oa_pickT rfl rfl rfl ?_ | refine oa_pickF rfl rfl ?_ | refine oa_not rfl ?_ | refine oa_extract rfl rfl ?_)))
  refine ia_nil (va_condT rfl (va_skip (va_block (va_seqr ?_))))
  refine ia_pl rfl ?_
  refine ia_nil (va_seq (va_seqr ?_))
  refine ia_pl rfl ?_
  refine ia_nil (va_block ?_)
  refine va_loop (fun (a : Nat × Option Nat) => [(0, v), (1, w), (2, .int .i64 (k : Int)), (3, .int .i64 (k : Int)), (9, us0), (10, u), (11, .int .i64 (x : Int)), (12, .int .i64 (y : Int)), (13, .int .i64 (foundI a.2)), (14, .int .i64 (a.1 : Int))])
    (fun a H' => H' = H2 ∧ y ≤ a.1 ∧ a.1 ≤ m ∧ FoundR e n m (Lm e n m x y) x y a.1 a.2) (fun a => m - a.1) ?_ (y, none) _ H2 ⟨rfl, rfl, rfl, rfl, rfl, rfl, rfl, rfl, rfl, rfl, trivial⟩ ⟨rfl, Nat.le_refl _, hy, fun h' a b => by omega⟩
  rintro ⟨h, fo⟩ H3 ⟨hH, hyh, hhm, hfo⟩
  subst hH
  simp only at hyh hhm hfo
  dsimp only
  -- behind the search
  have after : (fo = none → h = m) → ∀ l', Sb [(0, v), (1, w), (2, .int .i64 (k : Int)), (3, .int .i64 (k : Int)), (9, us0), (10, u), (11, .int .i64 (x : Int)), (12, .int .i64 (y : Int)), (13, .int .i64 (foundI fo))] l' →
      VA Tryz.prog tb gl v96k0t2 l' H3 (Nrm fun l2 H' => ∃ a, n - a.1 < n - x ∧ Sb [(0, v), (1, w), (2, .int .i64 (k : Int)), (3, .int .i64 (k : Int)), (9, us0), (10, a.2.2.2), (11, .int .i64 (a.1 : Int)), (12, .int .i64 (a.2.1 : Int))] l2 ∧ RlI e n m H1 k a H') := by
    intro hnm l' hs
    refine VA.sub hs (va_seq (va_seqr ?_))
    refine ia_pl rfl ?_
    cases fo with
    | none =>
      refine ia_op (oa_geqW rfl rfl (decide_eq_false (by simp only [foundI]; omega)) (ia_nil (va_condF rfl (va_skip (va_reg ?_)))))
      refine ia_pl rfl ?_
      refine ia_op (oa_addW (c := ((x + 1 : Nat) : Int)) rfl rfl (wrapE_i64 (by omega) (by omega) (by omega)) ?_)
      refine ia_pl rfl ?_
      have hh := hnm rfl
      refine ia_nil ⟨(x + 1, y, pre, u), by simp only; omega, ⟨rfl, rfl, rfl, rfl, rfl, rfl, rfl, rfl, trivial⟩, hk12, c1, hy, by simp only; omega, fun l hl => hcon l (hl.skip (Nat.pos_of_ne_zero c3) fun h' hy' hit => hfo h' hy' (by have := hit.2.1; omega) hit), hown, hnew⟩
    | some f =>
      obtain ⟨f1, f2, f3⟩ := hfo
      have fm := f2.2.1
      refine ia_op (oa_geqW rfl rfl (decide_eq_true (by simp only [foundI]; omega)) (ia_nil (va_condT rfl (va_seqr ?_))))
      refine ia_pl rfl ?_
      refine ia_op (oa_addW (c := ((k + x : Nat) : Int)) rfl rfl (wrapE_i64 (by omega) (by omega) (by omega)) ?_)
      refine ia_pl rfl ?_
      refine ia_op (oa_addW (c := ((k + f : Nat) : Int)) rfl rfl (wrapE_i64 (by simp only [foundI]; omega) (by omega) (by omega)) ?_)
      refine ia_op (oa_struct BsF.h ZeF.h PsF.h rfl ?_)
      refine ia_op (oa_newSlice (n := 1) ElF.h (by decide) rfl rfl fun H4 hk4 hr4 => ?_)
      refine ia_op (oa_append rfl rfl rfl ElF.h (.inl UnF.h) rfl (hown.keep0 hk4) rfl (IsRow.sl (es := 2) (n := 1) hr4 rfl (Nat.le_refl 1)).elems rfl rfl (by omega) fun u' H5 ho5 hk5 hb5 => ?_)
      refine ia_pl rfl ?_
      refine ia_nil (va_reg ?_)
      refine ia_pl rfl ?_
      refine ia_op (oa_addW (c := ((f + 1 : Nat) : Int)) rfl rfl (wrapE_i64 (by simp only [foundI]; omega) (by omega) (by omega)) ?_)
      refine ia_pl rfl ?_
      refine ia_nil (va_reg ?_)
      refine ia_pl rfl ?_
      refine ia_op (oa_addW (c := ((x + 1 : Nat) : Int)) rfl rfl (wrapE_i64 (by omega) (by omega) (by omega)) ?_)
      refine ia_pl rfl ?_
      have hx1 := (hk12.trans0 hk4).nx
      have hK5 : Keep Non H1 H5 := (hk12.trans0 hk4).trans hk5 fun c hc => .inr (hnew c hc)
      refine ia_nil ⟨(x + 1, f + 1, pre ++ [(x, f)], u'), by simp only; omega, ⟨rfl, rfl, rfl, rfl, rfl, rfl, rfl, rfl, trivial⟩, hK5, c1, by simp only; omega, by simp only [List.length_append, List.length_singleton]; omega, fun l hl => ?_, ?_, fun c hc => (hb5 c hc).elim (hnew c) fun h => by omega⟩
      · simp only
        rw [List.append_assoc]
        exact hcon _ (.more (Nat.pos_of_ne_zero c3) ⟨Nat.le_refl _, f1, f2, fun k' h' a b _ => by omega, f3⟩ hl)
      · simp only [List.length_append, List.length_singleton, List.map_append, List.flatMap_append]
        exact ho5
  refine va_seq (va_seqr ?_)
  refine ia_pl rfl ?_; (repeat ((first | refine ia_op (oa_lenSl rfl rfl rfl UnF.h rfl hw2 ?_)); refine ia_pl rfl ?_))
  refine ia_op (oa_subW (c := (m : Int)) rfl rfl (wrapE_i64 (by omega) (by omega) (by omega)) ?_)
  by_cases c4 : h = m
  · refine ia_op (oa_lssW rfl rfl (decide_eq_false (by omega)) ?_)
    (repeat (first | refine ia_gdN rfl ?_ | refine ia_gdU rfl ?_ | ((first | refine ia_op ?_ | refine ia_gdY rfl ?_); first | refine oa_move rfl ?_ | refine oa_assign rfl ?_ | refine oa_nilCheck rfl ?_ | refine oa_fieldAddr FpF.h (by decide) rfl ?_ | refine oa_lssF rfl rfl (by omega) ?_ | refine oa_lssT rfl rfl (by omega) ?_ | refine oa_leqF rfl rfl (by omega) ?_ | refine oa_leqT rfl rfl (by omega) ?_ | refine oa_gtrF rfl rfl (by omega) ?_ | refine oa_gtrT rfl rfl (by omega) ?_ | refine oa_geqF rfl rfl (by omega) ?_ | refine oa_geqT rfl rfl (by omega) ?_ | refine oa_eqlF rfl rfl (by omega) ?_ | refine oa_eqlT rfl rfl (by omega) ?_ | refine oa_neqF rfl rfl (by omega) ?_ | refine oa_neqT rfl rfl (by omega) ?_ | refine oa_pickT rfl rfl rfl ?_ | refine oa_pickF rfl rfl ?_ | refine oa_not rfl ?_ | refine oa_extract rfl rfl ?_)))
    refine ia_nil (va_condF rfl (va_exit (va_cut _ (after (fun _ => c4) _ ⟨rfl, rfl, rfl, rfl, rfl, rfl, rfl, rfl, rfl, trivial⟩) fun l' H' h => h)))
  refine ia_op (oa_lssW rfl rfl (decide_eq_true (by omega)) ?_)
  refine ia_pl rfl ?_
  refine ia_gdY rfl (oa_move rfl ?_)
  cases fo with
  | some f =>
    refine ia_gdY rfl (oa_lssW rfl rfl (decide_eq_false (by simp only [foundI]; omega)) ?_)
    refine ia_op (oa_pickT rfl rfl rfl ?_)
    refine ia_nil (va_condF rfl (va_exit (va_cut _ (after (fun h => by cases h) _ ⟨rfl, rfl, rfl, rfl, rfl, rfl, rfl, rfl, rfl, trivial⟩) fun l' H' h => h)))
  | none =>
  refine ia_gdY rfl (oa_lssW rfl rfl (decide_eq_true (by simp only [foundI]; omega)) ?_)
  refine ia_op (oa_pickT rfl rfl rfl ?_)
  refine ia_nil (va_condT rfl (va_skip (va_seq ?_)))
  have hcx1 : cellsx1[0 + (h + 1) * 1]? = some (.int .i64 (Lm e n m (x + 1) (h + 1) : Nat)) := by rw [Nat.mul_one, Nat.zero_add]; exact hvx1 (h + 1) (by omega)
  obtain ⟨p, hp⟩ : ∃ p, al[k + x]? = some p := ⟨_, List.getElem?_eq_getElem (by omega)⟩
  obtain ⟨q, hq⟩ : ∃ q, bl[k + h]? = some q := ⟨_, List.getElem?_eq_getElem (by omega)⟩
  have hch1 := flat_chunk evC_len al (k + x) p hp
  have hch2 := flat_chunk evC_len bl (k + h) q hq
  have hexh : e x h = eqM al bl (k + x) (k + h) := by rw [hee, eqM_drop]
  have hLe := Lm_le (e := e) (n := n) (m := m) (x + 1) (h + 1)
  refine va_cut (fun l' H' => H' = H3 ∧ ∃ fo', FoundR e n m (Lm e n m x y) x y (h + 1) fo' ∧ Sb [(0, v), (1, w), (2, .int .i64 (k : Int)), (3, .int .i64 (k : Int)), (9, us0), (10, u), (11, .int .i64 (x : Int)), (12, .int .i64 (y : Int)), (13, .int .i64 (foundI fo')), (14, .int .i64 (h : Int))] l') ?_ ?_
  · refine va_block (va_seqr ?_)
    refine ia_pl rfl ?_
    refine ia_op (oa_addW (c := ((k + x : Nat) : Int)) rfl rfl (wrapE_i64 (by omega) (by omega) (by omega)) ?_)
    refine ia_op (oa_indexSl UnF.h SzF.h rfl hv2 rfl rfl (by omega) fun q0 hq0 => ?_)
    rw [hch1] at hq0
    refine ia_op (oa_ploadN (k := 2) PlF.h rfl (by decide) rfl hq0 ?_)
    refine ia_pl rfl ?_
    refine ia_op (oa_addW (c := ((k + h : Nat) : Int)) rfl rfl (wrapE_i64 (by omega) (by omega) (by omega)) ?_)
    refine ia_op (oa_indexSl UnF.h SzF.h rfl hw2 rfl rfl (by omega) fun q0 hq0 => ?_)
    rw [hch2] at hq0
    refine ia_op (oa_ploadN (k := 2) PlF.h rfl (by decide) rfl hq0 ?_)
    refine ia_op (oa_aeql ff_ev eg_ev rfl rfl (flatEq_int (flatEq_int rfl)) ?_)
    rw [evq, ← eqM_get hp hq, ← hexh]
    refine ia_op (oa_move rfl ?_)
    have hno : ¬ Hit e n m (Lm e n m x y) x h → FoundR e n m (Lm e n m x y) x y (h + 1) none := fun hh h' a b hit => by
      by_cases hhh : h' = h
      · rw [hhh] at hit; exact hh hit
      · exact hfo h' a (by omega) hit
    cases heq : e x h with
    | false =>
      (repeat (first | refine ia_gdN rfl ?_ | refine ia_gdU rfl ?_ | ((first | refine ia_op ?_ | refine ia_gdY rfl ?_); first | refine oa_move rfl ?_ | refine oa_assign rfl ?_ | refine oa_nilCheck rfl ?_ | refine oa_fieldAddr FpF.h (by decide) rfl ?_ | refine oa_lssF rfl rfl (by omega) ?_ | refine oa_lssT rfl rfl (by omega) ?_ | refine oa_leqF rfl rfl (by omega) ?_ | refine oa_leqT rfl rfl (by omega) ?_ | refine oa_gtrF rfl rfl (by omega) ?_ | refine oa_gtrT rfl rfl (by omega) ?_ | refine oa_geqF rfl rfl (by omega) ?_ | refine oa_geqT rfl rfl (by omega) ?_ | refine oa_eqlF rfl rfl (by omega) ?_ | refine oa_eqlT rfl rfl (by omega) ?_ | refine oa_neqF rfl rfl (by omega) ?_ | refine oa_neqT rfl rfl (by omega) ?_ | refine oa_pickT rfl rfl rfl ?_ | refine oa_pickF rfl rfl ?_ | refine oa_not rfl ?_ | refine oa_extract rfl rfl ?_)))
      exact ia_nil (va_condF rfl (va_skip ⟨rfl, none, hno (fun hit => by rw [hit.2.2.1] at heq; cases heq), rfl, rfl, rfl, rfl, rfl, rfl, rfl, rfl, rfl, rfl, trivial⟩))
    | true =>
      by_cases hW : Lm e n m (x + 1) (h + 1) + 1 = Lm e n m x y
      · (repeat (first | refine ia_gdN rfl ?_ | refine ia_gdU rfl ?_ | ((first | refine ia_op ?_ | refine ia_gdY rfl ?_); first | refine oa_move rfl ?_ | refine oa_assign rfl ?_ | refine oa_nilCheck rfl ?_ | refine oa_fieldAddr FpF.h (by decide) rfl ?_ | refine oa_addW (c := ((x + 1 : Nat) : Int)) rfl rfl (wrapE_i64 (by omega) (by omega) (by omega)) ?_ | refine oa_indexP UnF.h SzF.h rfl hpu rfl rfl (by omega) ?_ | refine oa_load1 PlF.h rfl hrow2 hgx ?_ | refine oa_load1 PlF.h rfl hrow2 hgx1 ?_ | refine oa_addW (c := ((h + 1 : Nat) : Int)) rfl rfl (wrapE_i64 (by omega) (by omega) (by omega)) ?_ | refine oa_indexRowO UnF.h SzF.h rfl rfl rfl (by omega) ?_ | refine oa_load1 PlF.h rfl hrx12 hcx1 ?_ | refine oa_load1 PlF.h rfl hrx2 hcx ?_ | refine oa_addW (c := ((Lm e n m (x + 1) (h + 1) + 1 : Nat) : Int)) rfl rfl (wrapE_i64 (by omega) (by omega) (by omega)) ?_ | refine oa_lssF rfl rfl (by omega) ?_ | refine oa_lssT rfl rfl (by omega) ?_ | refine oa_leqF rfl rfl (by omega) ?_ | refine oa_leqT rfl rfl (by omega) ?_ | refine oa_gtrF rfl rfl (by omega) ?_ | refine oa_gtrT rfl rfl (by omega) ?_ | refine oa_geqF rfl rfl (by omega) ?_ | refine oa_geqT rfl rfl (by omega) ?_ | refine oa_eqlF rfl rfl (by omega) ?_ | refine oa_eqlT rfl rfl (by omega) ?_ | refine oa_neqF rfl rfl (by omega) ?_ | refine oa_neqT rfl rfl (by omega) ?_ | refine oa_pickT rfl rfl rfl ?_ | refine oa_pickF rfl rfl ?_ | refine oa_not rfl ?_ | refine oa_extract rfl rfl ?_)))
        refine ia_nil (va_condT rfl (va_reg ?_))
        refine ia_pl rfl ?_
        exact ia_nil ⟨rfl, some h, ⟨hyh, ⟨c1, by omega, heq, hW⟩, hfo⟩, rfl, rfl, rfl, rfl, rfl, rfl, rfl, rfl, rfl, rfl, trivial⟩
      · (repeat (first | refine ia_gdN rfl ?_ | refine ia_gdU rfl ?_ | ((first | refine ia_op ?_ | refine ia_gdY rfl ?_); first | refine oa_move rfl ?_ | refine oa_assign rfl ?_ | refine oa_nilCheck rfl ?_ | refine oa_fieldAddr FpF.h (by decide) rfl ?_ | refine oa_addW (c := ((x + 1 : Nat) : Int)) rfl rfl (wrapE_i64 (by omega) (by omega) (by omega)) ?_ | refine oa_indexP UnF.h SzF.h rfl hpu rfl rfl (by omega) ?_ | refine oa_load1 PlF.h rfl hrow2 hgx ?_ | refine oa_load1 PlF.h rfl hrow2 hgx1 ?_ | refine oa_addW (c := ((h + 1 : Nat) : Int)) rfl rfl (wrapE_i64 (by omega) (by omega) (by omega)) ?_ | refine oa_indexRowO UnF.h SzF.h rfl rfl rfl (by omega) ?_ | refine oa_load1 PlF.h rfl hrx12 hcx1 ?_ | refine oa_load1 PlF.h rfl hrx2 hcx ?_ | refine oa_addW (c := ((Lm e n m (x + 1) (h + 1) + 1 : Nat) : Int)) rfl rfl (wrapE_i64 (by omega) (by omega) (by omega)) ?_ | refine oa_lssF rfl rfl (by omega) ?_ | refine oa_lssT rfl rfl (by omega) ?_ | refine oa_leqF rfl rfl (by omega) ?_ | refine oa_leqT rfl rfl (by omega) ?_ | refine oa_gtrF rfl rfl (by omega) ?_ | refine oa_gtrT rfl rfl (by omega) ?_ | refine oa_geqF rfl rfl (by omega) ?_ | refine oa_geqT rfl rfl (by omega) ?_ | refine oa_eqlF rfl rfl (by omega) ?_ | refine oa_eqlT rfl rfl (by omega) ?_ | refine oa_neqF rfl rfl (by omega) ?_ | refine oa_neqT rfl rfl (by omega) ?_ | refine oa_pickT rfl rfl rfl ?_ | refine oa_pickF rfl rfl ?_ | refine oa_not rfl ?_ | refine oa_extract rfl rfl ?_)))
        exact ia_nil (va_condF rfl (va_skip ⟨rfl, none, hno (fun hit => hW hit.2.2.2), rfl, rfl, rfl, rfl, rfl, rfl, rfl, rfl, rfl, rfl, trivial⟩))
  rintro l5 H5 ⟨hH, fo', hfo', hs5⟩
  subst hH
  refine VA.sub hs5 (va_reg ?_)
  refine ia_pl rfl ?_
  refine ia_op (oa_addW (c := ((h + 1 : Nat) : Int)) rfl rfl (wrapE_i64 (by omega) (by omega) (by omega)) ?_)
  refine ia_pl rfl ?_
  refine ia_nil ⟨(h + 1, fo'), ?_, ⟨rfl, rfl, rfl, rfl, rfl, rfl, rfl, rfl, rfl, rfl, trivial⟩, rfl, by simp only; omega, by simp only; omega, hfo'⟩
  show m - (h + 1) < m - h
  omega
set_option maxHeartbeats 0 in
theorem ralMatch_ok {al bl : List (Int × Int)} {lim : Int} (hn : al.length ≤ 500) (hm : bl.length ≤ 500) (hl0 : -9223372036854775808 ≤ lim ∧ lim < 9223372036854775808) (hv : IsSl H v 2 al.length (al.flatMap evC)) (hw : IsSl H w 2 bl.length (bl.flatMap evC))
    (hvs : ∀ b o w z, v ≠ .se b o w z) (hws : ∀ b o w' z, w ≠ .se b o w' z)
    (hQ : ∀ l c u H', MatM (eqM al bl) al.length bl.length lim l c → Keep Non H H' → Own H' u 2 l.length (l.flatMap prN) → (∀ c, ownB u c → H.nx ≤ c) → Q (.tup [u, .bool c]) H') : WpF Tryz.prog tb gl 47 [v, w, .int .i64 lim] H Q := by
  have hlim : limit = 1000000 := rfl
  refine fa Tryz.func47 b47_eq v47_eq r47_eq (.inr (by simp)) ?_
  refine va_seqr ?_
  refine ia_pl rfl ?_
  refine ia_nil (va_seqr ?_)
  refine ia_pl rfl ?_
  refine ia_op (oa_call rfl rfl rfl (rParting_ok hn hm hv hw fun k hP => ?_))
  refine ia_pl rfl ?_
  have hP0 := hP
  obtain ⟨hk1, hk2, hk3, hk4⟩ := hP0
  refine ia_nil (va_seq (va_cut (fun l' H' => H' = H ∧ Sb [(0, v), (1, w), (2, .int .i64 lim), (8, .int .i64 (k : Int))] l') ?_ ?_))
  · refine va_seqr ?_
    refine ia_pl rfl ?_
    by_cases hk : k = al.length ∧ k = bl.length
    · rw [if_pos hk]
      refine ia_op (oa_lssW rfl rfl (decide_eq_true (by omega)) (ia_nil (va_condT rfl (va_reg ?_))))
      refine ia_pl rfl ?_; (repeat ((first | refine ia_op (oa_lenSl rfl rfl rfl UnF.h rfl hv ?_)); refine ia_pl rfl ?_))
      rw [hk.1]
      exact ia_nil ⟨rfl, rfl, rfl, rfl, rfl, trivial⟩
    · rw [if_neg hk]
      refine ia_op (oa_lssW rfl rfl (decide_eq_false (by omega)) (ia_nil (va_condF rfl (va_skip ⟨rfl, rfl, rfl, rfl, rfl, trivial⟩))))
  rintro l1 H1 ⟨hH, hs1⟩
  subst hH
  refine VA.sub hs1 (va_seqr ?_)
  refine ia_pl rfl ?_
  refine ia_nil (va_seq (va_seqr ?_))
  refine ia_pl rfl ?_
  refine ia_nil (va_block ?_)
  refine va_loop (fun (a : Nat × AV) => [(0, v), (1, w), (2, .int .i64 lim), (8, .int .i64 (k : Int)), (9, a.2), (10, .int .i64 (a.1 : Int))])
    (fun a H' => Keep Non H1 H' ∧ a.1 ≤ k ∧ Own H' a.2 2 a.1 (((List.range a.1).map fun i => (i, i)).flatMap prN) ∧ ∀ c, ownB a.2 c → H1.nx ≤ c) (fun a => k - a.1) ?_ (0, .nils) _ H1 ⟨rfl, rfl, rfl, rfl, rfl, rfl, trivial⟩ ⟨.refl _ _, Nat.zero_le _, .nil _ _, fun _ h => h.elim⟩
  rintro ⟨i, u⟩ H2 ⟨hk, hik, hown, hnew⟩
  simp only at hik hown hnew
  refine va_seq (va_seqr ?_)
  refine ia_pl rfl ?_
  by_cases hi : i < k
  · refine ia_op (oa_lssW rfl rfl (decide_eq_true (by simp only; omega)) (ia_nil (va_condT rfl (va_skip (va_seq (va_block (va_reg ?_)))))))
    refine ia_pl rfl ?_
    refine ia_op (oa_struct BsF.h ZeF.h PsF.h rfl ?_)
    refine ia_op (oa_newSlice (n := 1) ElF.h (by decide) rfl rfl fun H3 hk3 hr3 => ?_)
    refine ia_op (oa_append rfl rfl rfl ElF.h (.inl UnF.h) rfl (hown.keep0 hk3) rfl (IsRow.sl (es := 2) (n := 1) hr3 rfl (Nat.le_refl 1)).elems rfl rfl (by omega) fun u' H4 ho4 hk4 hb4 => ?_)
    refine ia_pl rfl ?_
    refine ia_nil (va_reg ?_)
    refine ia_pl rfl ?_
    refine ia_op (oa_addW (c := ((i + 1 : Nat) : Int)) rfl rfl (wrapE_i64 (by omega) (by omega) (by omega)) ?_)
    refine ia_pl rfl ?_
    refine ia_nil ⟨(i + 1, u'), ?_, ⟨rfl, rfl, rfl, rfl, rfl, rfl, trivial⟩, (hk.trans0 hk3).trans hk4 fun c hc => .inr (hnew c hc), by simp only; omega, ?_, fun c hc => (hb4 c hc).elim (hnew c) fun h => Nat.le_trans (hk.trans0 hk3).nx h⟩
    · show k - (i + 1) < k - i
      omega
    · simp only [List.range_succ, List.map_append, List.flatMap_append]
      exact ho4
  have hi' : i = k := by omega
  subst hi'
  refine ia_op (oa_lssW rfl rfl (decide_eq_false (by simp only; omega)) (ia_nil (va_condF rfl (va_exit (va_seq ?_)))))
  have hv2 := hv.keep0 hk
  have hw2 := hw.keep0 hk
  obtain ⟨M, hM⟩ : ∃ M : Nat, max 0 lim = (M : Int) := ⟨(max 0 lim).toNat, by omega⟩
  have hlenr : ((List.range i).map fun i => (i, i)).length = i := by rw [List.length_map, List.length_range]
  refine va_cut (fun l' H' => H' = H2 ∧ Sb [(0, v), (1, w), (2, .int .i64 (M : Int)), (8, .int .i64 (i : Int)), (9, u)] l') ?_ ?_
  · refine va_seqr ?_
    refine ia_pl rfl ?_
    by_cases hneg : lim < 0
    · refine ia_op (oa_lssW rfl rfl (decide_eq_true hneg) (ia_nil (va_condT rfl (va_reg ?_))))
      refine ia_pl rfl ?_
      obtain rfl : M = 0 := by omega
      exact ia_nil ⟨rfl, rfl, rfl, rfl, rfl, rfl, trivial⟩
    · refine ia_op (oa_lssW rfl rfl (decide_eq_false hneg) (ia_nil (va_condF rfl (va_skip ⟨rfl, ?_⟩))))
      rw [show lim = (M : Int) by omega]
      exact ⟨rfl, rfl, rfl, rfl, rfl, trivial⟩
  rintro l3 H3 ⟨hH, hs3⟩
  subst hH
  obtain ⟨N, hN⟩ : ∃ N, N = (al.length - i) * (bl.length - i) := ⟨_, rfl⟩
  have hNle : N ≤ 500 * 500 := by rw [hN]; exact Nat.mul_le_mul (by omega) (by omega)
  refine VA.sub hs3 (va_seq (va_seqr ?_))
  refine ia_pl rfl ?_; (repeat ((first | refine ia_op (oa_lenSl rfl rfl rfl UnF.h rfl hv2 ?_) | refine ia_op (oa_lenSl rfl rfl rfl UnF.h rfl hw2 ?_)); refine ia_pl rfl ?_))
  refine ia_op (oa_subW (c := ((al.length - i : Nat) : Int)) rfl rfl (wrapE_i64 (by omega) (by omega) (by omega)) ?_)
  refine ia_pl rfl ?_; (repeat ((first | refine ia_op (oa_lenSl rfl rfl rfl UnF.h rfl hv2 ?_) | refine ia_op (oa_lenSl rfl rfl rfl UnF.h rfl hw2 ?_)); refine ia_pl rfl ?_))
  refine ia_op (oa_subW (c := ((bl.length - i : Nat) : Int)) rfl rfl (wrapE_i64 (by omega) (by omega) (by omega)) ?_)
  refine ia_op (oa_mulN rfl rfl (by rw [← hN]; omega) ?_)
  rw [← hN]
  refine ia_pl rfl ?_
  by_cases hc : M < N
  · refine ia_op (oa_gtrW rfl rfl (decide_eq_true (by omega)) (ia_nil (va_condT rfl (va_seqr ?_))))
    refine ia_pl rfl ?_
    exact ia_nil (va_ret ⟨_, rfl, hQ _ true u H3 (.cut hP (by rw [← hN]; exact ⟨by omega, by omega⟩)) hk (by rw [hlenr]; exact hown) hnew⟩)
  refine ia_op (oa_gtrW rfl rfl (decide_eq_false (by omega)) (ia_nil (va_condF rfl (va_skip (va_seqr ?_)))))
  refine ia_pl rfl ?_
  refine ia_op (oa_call rfl rfl rfl (rleast_ok (k := i) hn hm hk1 hk2 hv2 hw2 hvs hws fun l u2 H4 hL hk4 ho4 hn4 => ?_))
  have hfits := hL.len
  have hle := Lm_le (e := eqM (al.drop i) (bl.drop i)) (n := al.length - i) (m := bl.length - i) 0 0
  have hown4 := hown.keep0 hk4
  refine ia_op (oa_append rfl rfl rfl ElF.h (.inl UnF.h) rfl hown4 rfl ho4.sl.elems (by rw [flat_length prN_len, List.length_map]) (scal_prN _) (by omega) fun u' H5 ho5 hk5 hb5 => ?_)
  refine ia_pl rfl ?_
  rw [eqM_drop] at hL
  refine ia_nil (va_ret ⟨_, rfl, hQ _ false u' H5 (.all hP (by rw [← hN]; omega) hL) ((hk.trans0 hk4).trans hk5 fun c hc => .inr (hnew c hc)) ?_ fun c hc => (hb5 c hc).elim (hnew c) fun h => Nat.le_trans (hk.trans0 hk4).nx h⟩)
  rw [List.length_append, List.flatMap_append, hlenr, List.length_map]
  exact ho5
end
end Go.Proofs.YtndhniapohlniaaGreatDoor
