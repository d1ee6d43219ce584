/-
  calls.Tree: its walk. No conditions.
-/
import Derived.Test.YtndhniapohlniaaGreatDoorProg
import Derived.Test.YtndhniapohlniaaGreatDoorCore8
import Derived.Test.YtndhniapohlniaaGreatDoorTree
import Derived.KernelRfl
namespace Go.Proofs.YtndhniapohlniaaGreatDoor
open Go Go.Proofs.YtndhniapohlniaaGreatDoor.Eng
/-! facts about types -/
theorem un_22 : Tryz.prog.underlying 22 = some (.slice 75) := by kernel_rfl
instance iun_22 : UnF Tryz.prog 22 (.slice 75) := ⟨un_22⟩
theorem el_22 : elemI Tryz.prog 22 = some ⟨75, 4, .agg [.int .i64 0, .int .i64 0, .int .i64 0, .int .i64 0]⟩ := by kernel_rfl
instance iel_22 : ElF Tryz.prog 22 ⟨75, 4, .agg [.int .i64 0, .int .i64 0, .int .i64 0, .int .i64 0]⟩ := ⟨el_22⟩
theorem un_3 : Tryz.prog.underlying 3 = some (.int .i64) := by kernel_rfl
instance iun_3 : UnF Tryz.prog 3 (.int .i64) := ⟨un_3⟩
theorem sz_75 : szOf Tryz.prog 75 = some 4 := by kernel_rfl
instance isz_75 : SzF Tryz.prog 75 4 := ⟨sz_75⟩
theorem pl_75 : plcOf Tryz.prog 75 0 = some ⟨0, true, 4⟩ := by kernel_rfl
instance ipl_75 : PlF Tryz.prog 75 ⟨0, true, 4⟩ := ⟨pl_75⟩
theorem ze_75 : zeroOf Tryz.prog 75 = some (.agg [.int .i64 0, .int .i64 0, .int .i64 0, .int .i64 0]) := by kernel_rfl
instance ize_75 : ZeF Tryz.prog 75 (.agg [.int .i64 0, .int .i64 0, .int .i64 0, .int .i64 0]) := ⟨ze_75⟩
theorem un_52 : Tryz.prog.underlying 52 = some (.slice 3) := by kernel_rfl
instance iun_52 : UnF Tryz.prog 52 (.slice 3) := ⟨un_52⟩
theorem el_52 : elemI Tryz.prog 52 = some ⟨3, 1, .int .i64 0⟩ := by kernel_rfl
instance iel_52 : ElF Tryz.prog 52 ⟨3, 1, .int .i64 0⟩ := ⟨el_52⟩
theorem sz_3 : szOf Tryz.prog 3 = some 1 := by kernel_rfl
instance isz_3 : SzF Tryz.prog 3 1 := ⟨sz_3⟩
theorem pl_3 : plcOf Tryz.prog 3 0 = some ⟨0, false, 1⟩ := by kernel_rfl
instance ipl_3 : PlF Tryz.prog 3 ⟨0, false, 1⟩ := ⟨pl_3⟩
theorem fp_75_0 : fieldPlc Tryz.prog 75 0 = some ⟨0, false, 1⟩ := by kernel_rfl
instance ifp_75_0 : FpF Tryz.prog 75 0 ⟨0, false, 1⟩ := ⟨fp_75_0⟩
theorem fp_75_3 : fieldPlc Tryz.prog 75 3 = some ⟨3, false, 1⟩ := by kernel_rfl
instance ifp_75_3 : FpF Tryz.prog 75 3 ⟨3, false, 1⟩ := ⟨fp_75_3⟩
theorem un_25 : Tryz.prog.underlying 25 = some (.slice 41) := by kernel_rfl
instance iun_25 : UnF Tryz.prog 25 (.slice 41) := ⟨un_25⟩
theorem el_25 : elemI Tryz.prog 25 = some ⟨41, 4, .agg [.int .i64 0, .int .i64 0, .int .i64 0, .int .i64 0]⟩ := by kernel_rfl
instance iel_25 : ElF Tryz.prog 25 ⟨41, 4, .agg [.int .i64 0, .int .i64 0, .int .i64 0, .int .i64 0]⟩ := ⟨el_25⟩
theorem fp_75_1 : fieldPlc Tryz.prog 75 1 = some ⟨1, false, 1⟩ := by kernel_rfl
instance ifp_75_1 : FpF Tryz.prog 75 1 ⟨1, false, 1⟩ := ⟨fp_75_1⟩
theorem ze_41 : zeroOf Tryz.prog 41 = some (.agg [.int .i64 0, .int .i64 0, .int .i64 0, .int .i64 0]) := by kernel_rfl
instance ize_41 : ZeF Tryz.prog 41 (.agg [.int .i64 0, .int .i64 0, .int .i64 0, .int .i64 0]) := ⟨ze_41⟩
theorem bs_41 : structOK Tryz.prog 41 = true := by kernel_rfl
instance ibs_41 : BsF Tryz.prog 41 := ⟨bs_41⟩
theorem ps_41 : plcsOK Tryz.prog 41 0 [(0, 1), (1, 1), (2, 1), (3, 1)] = true := by kernel_rfl
instance ips_41 : PsF Tryz.prog 41 [(0, 1), (1, 1), (2, 1), (3, 1)] := ⟨ps_41⟩
theorem sz_41 : szOf Tryz.prog 41 = some 4 := by kernel_rfl
instance isz_41 : SzF Tryz.prog 41 4 := ⟨sz_41⟩
theorem fp_41_0 : fieldPlc Tryz.prog 41 0 = some ⟨0, false, 1⟩ := by kernel_rfl
instance ifp_41_0 : FpF Tryz.prog 41 0 ⟨0, false, 1⟩ := ⟨fp_41_0⟩
theorem fp_41_2 : fieldPlc Tryz.prog 41 2 = some ⟨2, false, 1⟩ := by kernel_rfl
instance ifp_41_2 : FpF Tryz.prog 41 2 ⟨2, false, 1⟩ := ⟨fp_41_2⟩
/-! f7: parallax/calls.Tree, parameters #[22] -/
def v7k0h2 : CV := .seq (.reg [.op (some 16) (.move (.tmp 5)),
    .op (some 17) (.call ⟨.builtin .len, #[(.tmp 16)], #[52]⟩),
    .op (some 18) (.binOp .gtr 3 (.tmp 17) (.const (.int .i64 0)) 3)])
  (.cond (.tmp 18) (.reg [.op (some 19) (.move (.tmp 5)),
    .op (some 20) (.move (.tmp 5)),
    .op (some 21) (.call ⟨.builtin .len, #[(.tmp 20)], #[52]⟩),
    .op (some 22) (.binOp .sub 3 (.tmp 21) (.const (.int .i64 1)) 3),
    .op (some 23) (.indexAddr 52 (.tmp 19) (.tmp 22)),
    .op (some 24) (.load 3 (.tmp 23)),
    .op (some 8) (.assign (.tmp 24))]) (.skip))
def v7c1 : CV := .seq (.reg [.op (some 2) (.assign (.const (.slice none 0 0))),
    .op (some 3) (.assign (.const (.int .i64 32)))])
  (.ret)
def v7k0h3 : CV := .seq (.reg [.op (some 25) (.move (.tmp 8)),
    .op (some 26) (.binOp .lss 3 (.tmp 25) (.const (.int .i64 0)) 3),
    .op (some 27) (.move (.tmp 26)),
    .gd 27 true (some 28) (.move (.tmp 6)),
    .gd 27 true (some 29) (.binOp .gtr 3 (.tmp 28) (.const (.int .i64 0)) 3),
    .op (some 30) (.pick (.tmp 27) (.tmp 29) (.const (.bool false)))])
  (.cond (.tmp 30) v7c1 (.skip))
def v7c3 : CV := .seq (.reg [.op (some 2) (.assign (.const (.slice none 0 0))),
    .op (some 3) (.assign (.const (.int .i64 32)))])
  (.ret)
def v7c2h0 : CV := .seq (.reg [.op (some 35) (.fieldAddr 75 (.tmp 7) 3),
    .op (some 36) (.load 3 (.tmp 35)),
    .op (some 37) (.move (.tmp 5)),
    .op (some 38) (.call ⟨.builtin .len, #[(.tmp 37)], #[52]⟩),
    .op (some 39) (.binOp .add 3 (.tmp 38) (.const (.int .i64 1)) 3),
    .op (some 40) (.binOp .neq 3 (.tmp 36) (.tmp 39) 3)])
  (.cond (.tmp 40) v7c3 (.skip))
def v7c2t2 : CV := .seq (.reg [.op (some 46) (.move (.tmp 4)),
    .op (some 47) (.fieldAddr 75 (.tmp 7) 1),
    .op (some 48) (.load 3 (.tmp 47)),
    .op (some 49) (.move (.tmp 6)),
    .op (some 50) (.binOp .add 3 (.tmp 49) (.const (.int .i64 1)) 3),
    .op (some 51) (.move (.tmp 8)),
    .op (some 52) (.build 41 #[(0, (.tmp 48)), (1, (.tmp 50)), (3, (.tmp 51))]),
    .op (some 53) (.buildSlice 25 1 #[(0, (.tmp 52))]),
    .op (some 54) (.call ⟨.builtin .append, #[(.tmp 46), (.tmp 53)], #[25, 25]⟩),
    .op (some 4) (.assign (.tmp 54))])
  (.exit 1)
def v7c2t1 : CV := .seq (.reg [.op (some 41) (.move (.tmp 5)),
    .op (some 42) (.move (.tmp 4)),
    .op (some 43) (.call ⟨.builtin .len, #[(.tmp 42)], #[25]⟩),
    .op (some 44) (.buildSlice 52 1 #[(0, (.tmp 43))]),
    .op (some 45) (.call ⟨.builtin .append, #[(.tmp 41), (.tmp 44)], #[52, 52]⟩),
    .op (some 5) (.assign (.tmp 45))]) v7c2t2
def v7c2 : CV := .seq v7c2h0 v7c2t1
def v7c4h0 : CV := .seq (.reg [.op (some 56) (.binOp .eql 3 (.tmp 32) (.const (.int .i64 2)) 3),
    .op (some 55) (.assign (.tmp 56))])
  (.cond (.tmp 55) (.skip) (.reg [.op (some 57) (.binOp .eql 3 (.tmp 32) (.const (.int .i64 3)) 3),
    .op (some 55) (.assign (.tmp 57))]))
def v7c6 : CV := .seq (.reg [.op (some 2) (.assign (.const (.slice none 0 0))),
    .op (some 3) (.assign (.const (.int .i64 32)))])
  (.ret)
def v7c5h0 : CV := .seq (.reg [.op (some 58) (.move (.tmp 8)),
    .op (some 59) (.binOp .lss 3 (.tmp 58) (.const (.int .i64 0)) 3),
    .op (some 60) (.move (.tmp 59)),
    .gd 60 false (some 61) (.fieldAddr 75 (.tmp 7) 3),
    .gd 60 false (some 62) (.load 3 (.tmp 61)),
    .gd 60 false (some 63) (.move (.tmp 5)),
    .gd 60 false (some 64) (.call ⟨.builtin .len, #[(.tmp 63)], #[52]⟩),
    .gd 60 false (some 65) (.binOp .neq 3 (.tmp 62) (.tmp 64) 3),
    .op (some 66) (.pick (.tmp 60) (.const (.bool true)) (.tmp 65)),
    .op (some 67) (.move (.tmp 66)),
    .gd 67 false (some 68) (.fieldAddr 75 (.tmp 7) 1),
    .gd 67 false (some 69) (.load 3 (.tmp 68)),
    .gd 67 false (some 70) (.move (.tmp 4)),
    .gd 67 false (some 71) (.move (.tmp 8)),
    .gd 67 false (some 72) (.indexAddr 25 (.tmp 70) (.tmp 71)),
    .gd 67 false (some 73) (.fieldAddr 41 (.tmp 72) 0),
    .gd 67 false (some 74) (.load 3 (.tmp 73)),
    .gd 67 false (some 75) (.binOp .neq 3 (.tmp 69) (.tmp 74) 3),
    .op (some 76) (.pick (.tmp 67) (.const (.bool true)) (.tmp 75))])
  (.cond (.tmp 76) v7c6 (.skip))
def v7c7 : CV := .seq (.reg [.op (some 80) (.move (.tmp 4)),
    .op (some 81) (.move (.tmp 8)),
    .op (some 82) (.move (.tmp 6)),
    .op (some 83) (.binOp .add 3 (.tmp 82) (.const (.int .i64 1)) 3),
    .op (some 84) (.indexAddr 25 (.tmp 80) (.tmp 81)),
    .op (some 85) (.fieldAddr 41 (.tmp 84) 2),
    .op none (.store 3 (.tmp 85) (.tmp 83))])
  (.reg [.op (some 86) (.move (.tmp 5)),
    .op (some 87) (.move (.tmp 5)),
    .op (some 88) (.call ⟨.builtin .len, #[(.tmp 87)], #[52]⟩),
    .op (some 89) (.binOp .sub 3 (.tmp 88) (.const (.int .i64 1)) 3),
    .op (some 90) (.slice 52 (.tmp 86) none (some (.tmp 89)) none),
    .op (some 5) (.assign (.tmp 90))])
def v7c5h1 : CV := .seq (.reg [.op (some 77) (.fieldAddr 75 (.tmp 7) 0),
    .op (some 78) (.load 3 (.tmp 77)),
    .op (some 79) (.binOp .eql 3 (.tmp 78) (.const (.int .i64 3)) 3)])
  (.cond (.tmp 79) v7c7 (.skip))
def v7c5t1 : CV := .seq v7c5h1
  (.exit 1)
def v7c5 : CV := .seq v7c5h0 v7c5t1
def v7c4 : CV := .seq v7c4h0
  (.cond (.tmp 55) v7c5 (.skip))
def v7k1 : CV := .seq (.reg [.op (some 34) (.binOp .eql 3 (.tmp 32) (.const (.int .i64 1)) 3),
    .op (some 33) (.assign (.tmp 34))])
  (.cond (.tmp 33) v7c2 v7c4)
def v7k0h4 : CV := .seq (.reg [.op (some 31) (.fieldAddr 75 (.tmp 7) 0),
    .op (some 32) (.load 3 (.tmp 31))])
  (.block 2 v7k1)
def v7k0t5 : CV := .seq (.reg [.op (some 2) (.assign (.const (.slice none 0 0))),
    .op (some 3) (.assign (.const (.int .i64 32)))])
  (.ret)
def v7k0t4 : CV := .seq v7k0h4 v7k0t5
def v7k0t3 : CV := .seq v7k0h3 v7k0t4
def v7k0t2 : CV := .seq v7k0h2 v7k0t3
def v7k0t1 : CV := .seq (.reg [.op (some 8) (.assign (.const (.int .i64 (-1))))]) v7k0t2
def v7k0 : CV := .seq (.reg [.op (some 13) (.move (.tmp 11)),
    .op (some 14) (.indexAddr 22 (.tmp 9) (.tmp 11)),
    .op (some 15) (.load 75 (.tmp 14)),
    .op (some 7) (.alloc 75),
    .op (some 6) (.assign (.tmp 13)),
    .op none (.store 75 (.tmp 7) (.tmp 15))]) v7k0t1
def v7l0t2 : CV := .seq (.block 1 v7k0)
  (.reg [.op (some 91) (.binOp .add 3 (.tmp 11) (.const (.int .i64 1)) 3),
    .op (some 11) (.move (.tmp 91))])
def v7l0t1 : CV := .seq (.cond (.tmp 12) (.skip) (.exit 0)) v7l0t2
def v7l0 : CV := .seq (.reg [.op (some 12) (.binOp .lss 3 (.tmp 11) (.tmp 10) 3)]) v7l0t1
def v7h3 : CV := .seq (.reg [.op (some 9) (.move (.tmp 0)),
    .op (some 10) (.call ⟨.builtin .len, #[(.tmp 9)], #[22]⟩),
    .op (some 11) (.move (.const (.int .i64 0)))])
  (.block 0 (.loop v7l0))
def v7c8 : CV := .seq (.reg [.op (some 2) (.assign (.const (.slice none 0 0))),
    .op (some 3) (.assign (.const (.int .i64 32)))])
  (.ret)
def v7h4 : CV := .seq (.reg [.op (some 92) (.move (.tmp 4)),
    .op (some 93) (.call ⟨.builtin .len, #[(.tmp 92)], #[25]⟩),
    .op (some 94) (.binOp .eql 3 (.tmp 93) (.const (.int .i64 0)) 3)])
  (.cond (.tmp 94) v7c8 (.skip))
def v7t5 : CV := .seq (.reg [.op (some 95) (.move (.tmp 4)),
    .op (some 2) (.assign (.tmp 95)),
    .op (some 3) (.assign (.const (.int .i64 0)))])
  (.ret)
def v7t4 : CV := .seq v7h4 v7t5
def v7t3 : CV := .seq v7h3 v7t4
def v7t2 : CV := .seq (.reg [.op (some 5) (.assign (.const (.slice none 0 0)))]) v7t3
def v7t1 : CV := .seq (.reg [.op (some 4) (.assign (.const (.slice none 0 0)))]) v7t2
def v7 : CV := .seq (.reg [.op (some 2) (.assign (.const (.slice none 0 0))),
    .op (some 3) (.assign (.const (.int .i64 0)))]) v7t1
noncomputable def b7 : Code := Tryz.f7.body.getD .skip
theorem b7_eq : Tryz.f7.body = some b7 := by kernel_rfl
theorem v7_eq : viewC Tryz.prog b7 = some v7 := by kernel_rfl
theorem r7_eq : Tryz.f7.results.toList = [.tmp 2, .tmp 3] := by kernel_rfl

def tkC (t : Tk) : List AV := [.int .i64 t.kind, .int .i64 t.proc, .int .i64 t.mark, .int .i64 t.depth]
def clC (c : Cl) : List AV := [.int .i64 c.proc, .int .i64 (c.enter : Int), .int .i64 (c.leave : Int), .int .i64 c.up]
def ixC (n : Nat) : List AV := [.int .i64 (n : Int)]
theorem tkC_len (t : Tk) : (tkC t).length = 4 := rfl
theorem clC_len (c : Cl) : (clC c).length = 4 := rfl
theorem ixC_len (n : Nat) : (ixC n).length = 1 := rfl
theorem lim_eq : limit = 1000000 := rfl
/-- what Tree answers -/
def TreeR (l : List Tk) (H H' : Heap) (r : AV) : Prop := match treeT l with
  | some out => ∃ u, r = .tup [u, .int .i64 0] ∧ Own H' u 4 out.length (out.flatMap clC) ∧ ∀ c, ownB u c → H.nx ≤ c
  | none => r = .tup [.nils, .int .i64 32]
abbrev TA := Nat × List Cl × List Nat × AV × AV
def treeF (v : AV) (n : Nat) (a : TA) : Fm := [(4, a.2.2.2.1), (5, a.2.2.2.2), (9, v), (10, .int .i64 (n : Int)), (11, .int .i64 (a.1 : Int))]
structure TreeI (l : List Tk) (H : Heap) (a : TA) (H' : Heap) : Prop where
  keep : Keep Non H H'
  le : a.1 ≤ l.length
  run : runT a.1 (l.drop a.1) a.2.1 a.2.2.1 = runT 0 l [] []
  inv : TInv a.1 a.2.1 a.2.2.1
  out : Own H' a.2.2.2.1 4 a.2.1.length (a.2.1.flatMap clC)
  opn : Own H' a.2.2.2.2 1 a.2.2.1.length (a.2.2.1.flatMap ixC)
  apart : ∀ c, ownB a.2.2.2.1 c → ¬ ownB a.2.2.2.2 c
  newo : ∀ c, ownB a.2.2.2.1 c → H.nx ≤ c
  newp : ∀ c, ownB a.2.2.2.2 c → H.nx ≤ c
section
variable {tb : List FuncId} {gl : List (List AV)} {l : List Tk} {H : Heap} {v : AV} {Q : AV → Heap → Prop}
/-- behind a round that goes on -/
theorem tree_cont {a : TA} {R : Ex → Fm → Heap → Prop} {l' : Fm} {H' : Heap} {out : List Cl} {op : List Nat} {u w : AV} (hn : l.length < 1000) (hs : Sb (treeF v l.length (a.1, out, op, u, w)) l') (I : TreeI l H (a.1 + 1, out, op, u, w) H') :
    VA Tryz.prog tb gl (.reg [.op (some 91) (.binOp .add 3 (.tmp 11) (.const (.int .i64 1)) 3), .op (some 11) (.move (.tmp 91))]) l' H' (roundA (treeF v l.length) (TreeI l H) (fun a => l.length - a.1) a R) := by
  have hle := I.le
  simp only at hle
  refine VA.sub hs (va_reg ?_)
  refine ia_op (oa_addW (c := ((a.1 + 1 : Nat) : Int)) rfl rfl (wrapE_i64 (by omega) (by omega) (by omega)) ?_)
  refine ia_op (oa_move rfl (ia_nil ⟨(a.1 + 1, out, op, u, w), ?_, ⟨rfl, rfl, rfl, rfl, rfl, trivial⟩, I⟩))
  show l.length - (a.1 + 1) < l.length - a.1
  omega
theorem tree_err {R : Ex → Fm → Heap → Prop} {l' : Fm} {H' : Heap} (h : ∀ l2, Sb [(2, .nils), (3, .int .i64 32)] l2 → R .ret l2 H') : VA Tryz.prog tb gl (.seq (.reg [.op (some 2) (.assign (.const (.slice none 0 0))), .op (some 3) (.assign (.const (.int .i64 32)))]) .ret) l' H' R := by
  refine va_seqr ?_
  refine ia_pl rfl ?_
  exact ia_nil (va_ret (h _ ⟨rfl, rfl, trivial⟩))
set_option maxHeartbeats 0 in
/-- a call more -/
theorem tree_enter (hn : l.length < 1000) {i : Nat} {t : Tk} {out : List Cl} {op : List Nat} {u w : AV} {b7 : Nat} {up : Int} {H3 : Heap} {R : Ex → Fm → Heap → Prop} {l' : Fm} (hlt : i < l.length)
    (hs : Sb [(4, u), (5, w), (6, .int .i64 (i : Int)), (7, .ptr b7 0), (8, .int .i64 up), (9, v), (10, .int .i64 (l.length : Int)), (11, .int .i64 (i : Int))] l') (hr3 : IsRow H3 b7 (tkC t) false false)
    (hkeep : Keep Non H H3) (hout : Own H3 u 4 out.length (out.flatMap clC)) (hopn : Own H3 w 1 op.length (op.flatMap ixC)) (hap : ∀ c, ownB u c → ¬ ownB w c) (hno : ∀ c, ownB u c → H.nx ≤ c) (hnp : ∀ c, ownB w c → H.nx ≤ c)
    (hlo : out.length ≤ i) (hlp : op.length ≤ i) (h7w : ¬ ownB w b7)
    (hR : ∀ l2 H4 u' w', Sb (treeF v l.length (i, out ++ [⟨t.proc, i + 1, 0, up⟩], op ++ [out.length], u', w')) l2 → Keep Non H H4 → Own H4 u' 4 (out ++ [(⟨t.proc, i + 1, 0, up⟩ : Cl)]).length ((out ++ [(⟨t.proc, i + 1, 0, up⟩ : Cl)]).flatMap clC) → Own H4 w' 1 (op ++ [out.length]).length ((op ++ [out.length]).flatMap ixC) →
      (∀ c, ownB u' c → ¬ ownB w' c) → (∀ c, ownB u' c → H.nx ≤ c) → (∀ c, ownB w' c → H.nx ≤ c) → R (.exit 1) l2 H4) : VA Tryz.prog tb gl v7c2t1 l' H3 R := by
  have hlim : limit = 1000000 := rfl
  refine VA.sub hs (va_seqr ?_)
  refine ia_op (oa_move rfl (ia_op (oa_move rfl ?_)))
  refine ia_op (oa_lenSl rfl rfl rfl UnF.h rfl hout.sl ?_)
  refine ia_op (oa_newSlice (n := 1) ElF.h (by decide) rfl rfl fun H4 hk4 hr4 => ?_)
  refine ia_op (oa_append rfl rfl rfl ElF.h (.inl UnF.h) rfl (hopn.keep0 hk4) rfl (IsRow.sl (es := 1) (n := 1) hr4 rfl (Nat.le_refl 1)).elems rfl rfl (by omega) fun w' H5 ho5 hk5 hb5 => ?_)
  have hku : ∀ c, ownB u c → ¬ ownB w c := hap
  have hout5 : Own H5 u 4 out.length (out.flatMap clC) := (hout.keep0 hk4).keep hk5 hap
  have hr5 : IsRow H5 b7 (tkC t) false false := (hr3.keep0 hk4).keep hk5 (.inl h7w)
  have hkeep5 : Keep Non H H5 := (hkeep.trans0 hk4).trans hk5 fun c hc => .inr (hnp c hc)
  have hnp5 : ∀ c, ownB w' c → H.nx ≤ c := fun c hc => (hb5 c hc).elim (hnp c) fun h => Nat.le_trans (hkeep.trans0 hk4).nx h
  have hap5 : ∀ c, ownB u c → ¬ ownB w' c := fun c hu hw => (hb5 c hw).elim (hap c hu) fun h => by
    have := (hout.keep0 hk4).lt hu
    omega
  refine ia_op (oa_assign rfl (ia_nil (va_seqr ?_)))
  refine ia_op (oa_move rfl ?_)
  refine ia_op (oa_fieldAddr FpF.h (by decide) rfl ?_)
  refine ia_op (oa_load1 PlF.h rfl hr5 rfl ?_)
  refine ia_op (oa_move rfl ?_)
  refine ia_op (oa_addW (c := ((i + 1 : Nat) : Int)) rfl rfl (wrapE_i64 (by omega) (by omega) (by omega)) ?_)
  refine ia_op (oa_move rfl ?_)
  refine ia_op (oa_struct BsF.h ZeF.h PsF.h rfl ?_)
  refine ia_op (oa_newSlice (n := 1) ElF.h (by decide) rfl rfl fun H6 hk6 hr6 => ?_)
  refine ia_op (oa_append rfl rfl rfl ElF.h (.inl UnF.h) rfl (hout5.keep0 hk6) rfl (IsRow.sl (es := 4) (n := 1) hr6 rfl (Nat.le_refl 1)).elems rfl rfl (by omega) fun u' H7 ho7 hk7 hb7 => ?_)
  refine ia_op (oa_assign rfl (ia_nil (va_exit ?_)))
  refine hR _ H7 u' w' ⟨rfl, rfl, rfl, rfl, rfl, trivial⟩ ((hkeep5.trans0 hk6).trans hk7 fun c hc => .inr (hno c hc)) ?_ ?_ (fun c hu hw => ?_) (fun c hc => (hb7 c hc).elim (hno c) fun h => Nat.le_trans (hkeep5.trans0 hk6).nx h) hnp5
  · rw [List.length_append, List.flatMap_append]; exact ho7
  · rw [List.length_append, List.flatMap_append]; exact (ho5.keep0 hk6).keep hk7 fun c hw hu => hap5 c hu hw
  · rcases hb7 c hu with h | h
    · exact hap5 c h hw
    · have := (ho5.keep0 hk6).lt hw
      omega
set_option maxHeartbeats 0 in
theorem tree_round (hn : l.length < 1000) (hv : IsSlR H v 4 l.length (l.flatMap tkC)) (a : TA) (H1 : Heap) (I : TreeI l H a H1) {R : Ex → Fm → Heap → Prop}
    (hdone : ∀ l', a.1 = l.length → Sb (treeF v l.length a) l' → R (.exit 0) l' H1) (herr : ∀ l' H2, Keep Non H H2 → Sb [(2, .nils), (3, .int .i64 32)] l' → runT 0 l [] [] = none → R .ret l' H2) :
    VA Tryz.prog tb gl v7l0 (treeF v l.length a) H1 (roundA (treeF v l.length) (TreeI l H) (fun a => l.length - a.1) a R) := by
  obtain ⟨i, out, op, u, w⟩ := a
  obtain ⟨hkeep, hle, hrun, hinv, hout, hopn, hap, hno, hnp⟩ := I
  simp only at hkeep hle hrun hinv hout hopn hap hno hnp hdone
  refine va_seqr ?_
  by_cases hi : i = l.length
  · refine ia_op (oa_lssW rfl rfl (decide_eq_false (by simp only; omega)) ?_)
    refine ia_nil (va_seq (va_condF rfl (va_exit (hdone _ hi ⟨rfl, rfl, rfl, rfl, rfl, trivial⟩))))
  have hlt : i < l.length := by omega
  refine ia_op (oa_lssW rfl rfl (decide_eq_true (by simp only; omega)) ?_)
  refine ia_nil (va_seq (va_condT rfl (va_skip ?_)))
  obtain ⟨t, ht⟩ : ∃ t, l[i]? = some t := ⟨_, List.getElem?_eq_getElem hlt⟩
  have hdrop : l.drop i = t :: l.drop (i + 1) := by
    rw [List.drop_eq_getElem_cons hlt]
    rw [List.getElem?_eq_getElem hlt] at ht
    injection ht with ht
    rw [ht]
  rw [hdrop] at hrun
  simp only [runT] at hrun
  have hnone : stepT i t out op = none → runT 0 l [] [] = none := fun h => by rw [← hrun, h]
  have hsome : ∀ o p, stepT i t out op = some (o, p) → runT (i + 1) (l.drop (i + 1)) o p = runT 0 l [] [] := fun o p h => by rw [← hrun, h]
  have hv1 := (hv.keep hkeep).sl
  have hchunk := flat_chunk tkC_len l i t ht
  -- the tick is copied
  refine va_seq (va_block (va_seqr ?_))
  refine ia_op (oa_move rfl ?_)
  refine ia_op (oa_indexSl UnF.h SzF.h rfl hv1 rfl rfl hlt fun p hp => ?_)
  rw [hchunk] at hp
  refine ia_op (oa_ploadN (k := 4) PlF.h rfl (by decide) rfl hp ?_)
  refine ia_op (oa_alloc ZeF.h fun H2 hk2 hr2 => ?_)
  refine ia_op (oa_assign rfl ?_)
  refine ia_op (oa_storeAll (k := 4) SzF.h rfl rfl rfl rfl hr2 rfl fun H3 hk3 hn3 hr3 => ?_)
  have hK3 : Keep Non H1 H3 := hk2.trans hk3 fun c hc => .inr (by omega)
  have hkeep3 := hkeep.trans0 hK3
  have hout3 := hout.keep0 hK3
  have hopn3 := hopn.keep0 hK3
  have hbu : ∀ c, ownB u c → c < H1.nx := fun c hc => hout.lt hc
  have hbw : ∀ c, ownB w c → c < H1.nx := fun c hc => hopn.lt hc
  refine ia_nil (va_seqr ?_)
  refine ia_pl rfl ?_
  refine ia_nil (va_seq (va_seqr ?_))
  refine ia_op (oa_move rfl ?_)
  refine ia_op (oa_lenSl rfl rfl rfl UnF.h rfl hopn3.sl ?_)
  -- what follows a tick that is none's
  have bad : runT 0 l [] [] = none → ∀ (l' : Fm) (R' : Ex → Fm → Heap → Prop), (∀ l2, R .ret l2 H3 → R' .ret l2 H3) → VA Tryz.prog tb gl (.seq (.reg [.op (some 2) (.assign (.const (.slice none 0 0))), .op (some 3) (.assign (.const (.int .i64 32)))]) .ret) l' H3 R' :=
    fun h l' R' hR => tree_err fun l2 hl2 => hR l2 (herr l2 H3 hkeep3 hl2 h)
  -- what follows a round that went well
  have cont : ∀ (l2 : Fm) (H4 : Heap) (out' : List Cl) (op' : List Nat) (u' w' : AV), stepT i t out op = some (out', op') → Sb (treeF v l.length (i, out', op', u', w')) l2 → Keep Non H H4 → Own H4 u' 4 out'.length (out'.flatMap clC) → Own H4 w' 1 op'.length (op'.flatMap ixC) →
      (∀ c, ownB u' c → ¬ ownB w' c) → (∀ c, ownB u' c → H.nx ≤ c) → (∀ c, ownB w' c → H.nx ≤ c) →
      VA Tryz.prog tb gl (.reg [.op (some 91) (.binOp .add 3 (.tmp 11) (.const (.int .i64 1)) 3), .op (some 11) (.move (.tmp 91))]) l2 H4 (roundA (treeF v l.length) (TreeI l H) (fun a => l.length - a.1) (i, out, op, u, w) R) :=
    fun l2 H4 out' op' u' w' hst hs2 hk4 ho4 hp4 ha4 hn4 hm4 => tree_cont hn hs2 ⟨hk4, hlt, hsome _ _ hst, hinv.step hst, ho4, hp4, ha4, hn4, hm4⟩
  have h7w : ¬ ownB w H1.nx := fun h => by have := hbw _ h; omega
  have hopl : op.length ≤ i := by
    have h1 := hinv.len
    have h2 : op.length ≤ out.length := by
      have : ∀ k ∈ op, k < out.length := fun k hk => by obtain ⟨c, h, _⟩ := (hinv.opn k).1 hk; exact (List.getElem?_eq_some_iff.1 h).1
      exact sorted_len hinv.sor this
    omega
  have hol := hinv.len
  rcases hop : op.getLast? with _ | u0
  · -- nothing is open
    have hop0 : op = [] := List.getLast?_eq_none_iff.1 hop
    subst hop0
    refine ia_op (oa_gtrW rfl rfl (decide_eq_false (by simp)) (ia_nil (va_condF rfl (va_skip ?_))))
    refine va_seq (va_seqr ?_)
    refine ia_op (oa_move rfl ?_)
    refine ia_op (oa_lssW rfl rfl (decide_eq_true (by decide)) ?_)
    refine ia_op (oa_move rfl ?_)
    refine ia_gdY rfl (oa_move rfl ?_)
    by_cases hi0 : 0 < i
    · refine ia_gdY rfl (oa_gtrW rfl rfl (decide_eq_true (by omega)) ?_)
      refine ia_op (oa_pickT rfl rfl rfl (ia_nil (va_condT rfl (bad (hnone (by simp [stepT, hi0])) _ _ fun _ h => h))))
    have hi1 : i = 0 := by omega
    refine ia_gdY rfl (oa_gtrW rfl rfl (decide_eq_false (by omega)) ?_)
    refine ia_op (oa_pickT rfl rfl rfl (ia_nil (va_condF rfl (va_skip (va_seq (va_seqr ?_))))))
    refine ia_op (oa_fieldAddr FpF.h (by decide) rfl ?_)
    refine ia_op (oa_load1 PlF.h rfl hr3 rfl ?_)
    refine ia_nil (va_block (va_seqr ?_))
    by_cases hk1 : t.kind = 1
    · refine ia_op (oa_eqlW rfl rfl (decide_eq_true hk1) (ia_op (oa_assign rfl (ia_nil (va_condT rfl (va_seq (va_seqr ?_)))))))
      refine ia_op (oa_fieldAddr FpF.h (by decide) rfl ?_)
      refine ia_op (oa_load1 PlF.h rfl hr3 rfl ?_)
      refine ia_op (oa_move rfl ?_)
      refine ia_op (oa_lenSl rfl rfl rfl UnF.h rfl hopn3.sl ?_)
      refine ia_op (oa_addW (c := 1) rfl rfl (wrapE_i64 (by simp) (by omega) (by omega)) ?_)
      by_cases hd1 : t.depth = 1
      · refine ia_op (oa_neqW rfl rfl (decide_eq_false (by simp [hd1])) (ia_nil (va_condF rfl (va_skip ?_))))
        refine tree_enter hn (up := -1) (i := i) (t := t) (out := out) (op := []) hlt ⟨rfl, rfl, rfl, rfl, rfl, rfl, rfl, rfl, trivial⟩ hr3 hkeep3 hout3 hopn3 hap hno hnp hol (Nat.zero_le _) h7w fun l2 H4 u' w' g1 g2 g3 g4 g5 g6 g7 => ?_
        exact cont l2 H4 _ _ u' w' (by simp [stepT, hi1, hk1, hd1]) g1 g2 g3 g4 g5 g6 g7
      · refine ia_op (oa_neqW rfl rfl (decide_eq_true hd1) (ia_nil (va_condT rfl (bad (hnone (by simp [stepT, hi1, hd1])) _ _ fun _ h => h))))
    · have hst : stepT i t out [] = none := by simp [stepT, hi1, hk1]
      refine ia_op (oa_eqlW rfl rfl (decide_eq_false hk1) (ia_op (oa_assign rfl (ia_nil (va_condF rfl (va_seq (va_seqr ?_)))))))
      by_cases hk2 : t.kind = 2
      · refine ia_op (oa_eqlW rfl rfl (decide_eq_true hk2) (ia_op (oa_assign rfl (ia_nil (va_condT rfl (va_skip (va_condT rfl (va_seq (va_seqr ?_)))))))))
        (repeat (first | refine ia_gdN rfl ?_ | refine ia_gdU rfl ?_ | ((first | refine ia_op ?_ | refine ia_gdY rfl ?_); first | refine oa_move rfl ?_ | refine oa_assign rfl ?_ | refine oa_nilCheck rfl ?_ | refine oa_fieldAddr FpF.h (by decide) rfl ?_ | refine oa_lssF rfl rfl (by omega) ?_ | refine oa_lssT rfl rfl (by omega) ?_ | refine oa_leqF rfl rfl (by omega) ?_ | refine oa_leqT rfl rfl (by omega) ?_ | refine oa_gtrF rfl rfl (by omega) ?_ | refine oa_gtrT rfl rfl (by omega) ?_ | refine oa_geqF rfl rfl (by omega) ?_ | refine oa_geqT rfl rfl (by omega) ?_ | refine oa_eqlF rfl rfl (by omega) ?_ | refine oa_eqlT rfl rfl (by omega) ?_ | refine oa_neqF rfl rfl (by omega) ?_ | refine oa_neqT rfl rfl (by omega) ?_ | refine oa_pickT rfl rfl rfl ?_ | refine oa_pickF rfl rfl ?_ | refine oa_not rfl ?_ | refine oa_extract rfl rfl ?_)))
        exact ia_nil (va_condT rfl (bad (hnone hst) _ _ fun _ h => h))
      refine ia_op (oa_eqlW rfl rfl (decide_eq_false hk2) (ia_op (oa_assign rfl (ia_nil (va_condF rfl (va_reg ?_))))))
      by_cases hk3 : t.kind = 3
      · refine ia_op (oa_eqlW rfl rfl (decide_eq_true hk3) (ia_op (oa_assign rfl (ia_nil (va_condT rfl (va_seq (va_seqr ?_)))))))
        (repeat (first | refine ia_gdN rfl ?_ | refine ia_gdU rfl ?_ | ((first | refine ia_op ?_ | refine ia_gdY rfl ?_); first | refine oa_move rfl ?_ | refine oa_assign rfl ?_ | refine oa_nilCheck rfl ?_ | refine oa_fieldAddr FpF.h (by decide) rfl ?_ | refine oa_lssF rfl rfl (by omega) ?_ | refine oa_lssT rfl rfl (by omega) ?_ | refine oa_leqF rfl rfl (by omega) ?_ | refine oa_leqT rfl rfl (by omega) ?_ | refine oa_gtrF rfl rfl (by omega) ?_ | refine oa_gtrT rfl rfl (by omega) ?_ | refine oa_geqF rfl rfl (by omega) ?_ | refine oa_geqT rfl rfl (by omega) ?_ | refine oa_eqlF rfl rfl (by omega) ?_ | refine oa_eqlT rfl rfl (by omega) ?_ | refine oa_neqF rfl rfl (by omega) ?_ | refine oa_neqT rfl rfl (by omega) ?_ | refine oa_pickT rfl rfl rfl ?_ | refine oa_pickF rfl rfl ?_ | refine oa_not rfl ?_ | refine oa_extract rfl rfl ?_)))
        exact ia_nil (va_condT rfl (bad (hnone hst) _ _ fun _ h => h))
      refine ia_op (oa_eqlW rfl rfl (decide_eq_false hk3) (ia_op (oa_assign rfl (ia_nil (va_condF rfl (va_skip ?_))))))
      exact bad (hnone hst) _ _ fun _ h => h
  · -- the last one that is open
    obtain ⟨pre, hpre⟩ := List.getLast?_eq_some_iff.1 hop
    have hplen : op.length = pre.length + 1 := by rw [hpre]; simp
    have hget : op[op.length - 1]? = some u0 := by rw [← List.getLast?_eq_getElem?, hop]
    have hu0 : u0 ∈ op := List.mem_of_getLast? hop
    obtain ⟨c0, hc0, hz0⟩ := (hinv.opn u0).1 hu0
    have hu0l : u0 < out.length := (List.getElem?_eq_some_iff.1 hc0).1
    have hchunk0 := flat_chunk ixC_len op (op.length - 1) u0 hget
    have hchunkc := flat_chunk clC_len out u0 c0 hc0
    refine ia_op (oa_gtrW rfl rfl (decide_eq_true (by omega)) (ia_nil (va_condT rfl (va_reg ?_))))
    refine ia_op (oa_move rfl (ia_op (oa_move rfl ?_)))
    refine ia_op (oa_lenSl rfl rfl rfl UnF.h rfl hopn3.sl ?_)
    refine ia_op (oa_subW (c := ((op.length - 1 : Nat) : Int)) rfl rfl (wrapE_i64 (by omega) (by omega) (by omega)) ?_)
    refine ia_op (oa_indexSl UnF.h SzF.h rfl hopn3.sl rfl rfl (by omega) fun p hp => ?_)
    rw [hchunk0] at hp
    refine ia_op (oa_pload PlF.h rfl hp rfl ?_)
    refine ia_op (oa_assign rfl (ia_nil (va_seq (va_seqr ?_))))
    (repeat (first | refine ia_gdN rfl ?_ | refine ia_gdU rfl ?_ | ((first | refine ia_op ?_ | refine ia_gdY rfl ?_); first | refine oa_move rfl ?_ | refine oa_assign rfl ?_ | refine oa_nilCheck rfl ?_ | refine oa_fieldAddr FpF.h (by decide) rfl ?_ | refine oa_lssF rfl rfl (by omega) ?_ | refine oa_lssT rfl rfl (by omega) ?_ | refine oa_leqF rfl rfl (by omega) ?_ | refine oa_leqT rfl rfl (by omega) ?_ | refine oa_gtrF rfl rfl (by omega) ?_ | refine oa_gtrT rfl rfl (by omega) ?_ | refine oa_geqF rfl rfl (by omega) ?_ | refine oa_geqT rfl rfl (by omega) ?_ | refine oa_eqlF rfl rfl (by omega) ?_ | refine oa_eqlT rfl rfl (by omega) ?_ | refine oa_neqF rfl rfl (by omega) ?_ | refine oa_neqT rfl rfl (by omega) ?_ | refine oa_pickT rfl rfl rfl ?_ | refine oa_pickF rfl rfl ?_ | refine oa_not rfl ?_ | refine oa_extract rfl rfl ?_)))
    refine ia_nil (va_condF rfl (va_skip (va_seq (va_seqr ?_))))
    refine ia_op (oa_fieldAddr FpF.h (by decide) rfl ?_)
    refine ia_op (oa_load1 PlF.h rfl hr3 rfl ?_)
    refine ia_nil (va_block (va_seqr ?_))
    by_cases hk1 : t.kind = 1
    · refine ia_op (oa_eqlW rfl rfl (decide_eq_true hk1) (ia_op (oa_assign rfl (ia_nil (va_condT rfl (va_seq (va_seqr ?_)))))))
      refine ia_op (oa_fieldAddr FpF.h (by decide) rfl ?_)
      refine ia_op (oa_load1 PlF.h rfl hr3 rfl ?_)
      refine ia_op (oa_move rfl ?_)
      refine ia_op (oa_lenSl rfl rfl rfl UnF.h rfl hopn3.sl ?_)
      refine ia_op (oa_addW (c := (op.length : Int) + 1) rfl rfl (wrapE_i64 rfl (by omega) (by omega)) ?_)
      by_cases hd1 : t.depth = (op.length : Int) + 1
      · refine ia_op (oa_neqW rfl rfl (decide_eq_false (by simp [hd1])) (ia_nil (va_condF rfl (va_skip ?_))))
        refine tree_enter hn (up := (u0 : Int)) (i := i) (t := t) (out := out) (op := op) hlt ⟨rfl, rfl, rfl, rfl, rfl, rfl, rfl, rfl, trivial⟩ hr3 hkeep3 hout3 hopn3 hap hno hnp hol hopl h7w fun l2 H4 u' w' g1 g2 g3 g4 g5 g6 g7 => ?_
        exact cont l2 H4 _ _ u' w' (by simp [stepT, hop, hk1, hd1]) g1 g2 g3 g4 g5 g6 g7
      · refine ia_op (oa_neqW rfl rfl (decide_eq_true hd1) (ia_nil (va_condT rfl (bad (hnone (by simp [stepT, hop, hk1, hd1])) _ _ fun _ h => h))))
    · refine ia_op (oa_eqlW rfl rfl (decide_eq_false hk1) (ia_op (oa_assign rfl (ia_nil (va_condF rfl (va_seq (va_seqr ?_)))))))
      -- a statement, or a call that is left
      have body : t.kind = 2 ∨ t.kind = 3 → ∀ l2 : Fm, Sb [(4, u), (5, w), (6, .int .i64 (i : Int)), (7, .ptr H1.nx 0), (8, .int .i64 (u0 : Int)), (9, v), (10, .int .i64 (l.length : Int)), (11, .int .i64 (i : Int))] l2 →
          ∀ R' : Ex → Fm → Heap → Prop, (∀ l3, R .ret l3 H3 → R' .ret l3 H3) → (∀ l3 H4 out' op' u' w', stepT i t out op = some (out', op') → Sb (treeF v l.length (i, out', op', u', w')) l3 → Keep Non H H4 → Own H4 u' 4 out'.length (out'.flatMap clC) → Own H4 w' 1 op'.length (op'.flatMap ixC) →
            (∀ c, ownB u' c → ¬ ownB w' c) → (∀ c, ownB u' c → H.nx ≤ c) → (∀ c, ownB w' c → H.nx ≤ c) → R' (.exit 1) l3 H4) → VA Tryz.prog tb gl v7c5 l2 H3 R' := by
        intro hk23 l2 hs2 R' hret hgo
        refine VA.sub hs2 (va_seq (va_seqr ?_))
        refine ia_op (oa_move rfl ?_)
        refine ia_op (oa_lssW rfl rfl (decide_eq_false (by omega)) ?_)
        refine ia_op (oa_move rfl ?_)
        refine ia_gdY rfl (oa_fieldAddr FpF.h (by decide) rfl ?_)
        refine ia_gdY rfl (oa_load1 PlF.h rfl hr3 rfl ?_)
        refine ia_gdY rfl (oa_move rfl ?_)
        refine ia_gdY rfl (oa_lenSl rfl rfl rfl UnF.h rfl hopn3.sl ?_)
        by_cases hd1 : t.depth = (op.length : Int)
        · refine ia_gdY rfl (oa_neqW rfl rfl (decide_eq_false (by simp [hd1])) ?_)
          refine ia_op (oa_pickF rfl rfl (ia_op (oa_move rfl ?_)))
          refine ia_gdY rfl (oa_fieldAddr FpF.h (by decide) rfl ?_)
          refine ia_gdY rfl (oa_load1 PlF.h rfl hr3 rfl ?_)
          refine ia_gdY rfl (oa_move rfl (ia_gdY rfl (oa_move rfl ?_)))
          refine ia_gdY rfl (oa_indexSl UnF.h SzF.h rfl hout3.sl rfl rfl hu0l fun p hp => ?_)
          rw [hchunkc] at hp
          refine ia_gdY rfl (oa_pfieldAddr FpF.h (by decide) rfl hp fun p' hp' => ?_)
          refine ia_gdY rfl (oa_pload PlF.h rfl hp' rfl ?_)
          by_cases hpr : t.proc = c0.proc
          · refine ia_gdY rfl (oa_neqW rfl rfl (decide_eq_false (by simp [hpr])) ?_)
            refine ia_op (oa_pickF rfl rfl (ia_nil (va_condF rfl (va_skip (va_seq (va_seqr ?_))))))
            refine ia_op (oa_fieldAddr FpF.h (by decide) rfl ?_)
            refine ia_op (oa_load1 PlF.h rfl hr3 rfl ?_)
            by_cases hk3 : t.kind = 3
            · refine ia_op (oa_eqlW rfl rfl (decide_eq_true hk3) (ia_nil (va_condT rfl (va_seqr ?_))))
              obtain ⟨bu, hbu0⟩ := hout3.so (by omega)
              subst hbu0
              refine ia_op (oa_move rfl (ia_op (oa_move rfl (ia_op (oa_move rfl ?_)))))
              refine ia_op (oa_addW (c := ((i + 1 : Nat) : Int)) rfl rfl (wrapE_i64 (by omega) (by omega) (by omega)) ?_)
              refine ia_op (oa_indexOwn UnF.h SzF.h rfl rfl rfl hu0l ?_)
              refine ia_op (oa_fieldAddr FpF.h (by decide) rfl ?_)
              have hol3 : u0 * 4 + 2 < (out.flatMap clC).length := by rw [flat_length clC_len]; omega
              refine ia_op (oa_storeOwn SzF.h rfl rfl rfl hout3 hol3 fun H4 hk4 hn4 ho4 => ?_)
              rw [flat_set clC_len out u0 2 c0 ⟨c0.proc, c0.enter, i + 1, c0.up⟩ _ hc0 (by omega) rfl] at ho4
              have hp4 : Own H4 w 1 op.length (op.flatMap ixC) := hopn3.keep hk4 fun c hw hu => hap c hu hw
              have hK4 : Keep Non H H4 := hkeep3.trans hk4 fun c hc => .inr (hno c hc)
              refine ia_nil (va_reg ?_)
              refine ia_op (oa_move rfl (ia_op (oa_move rfl ?_)))
              refine ia_op (oa_lenSl rfl rfl rfl UnF.h rfl hp4.sl ?_)
              refine ia_op (oa_subW (c := ((op.length - 1 : Nat) : Int)) rfl rfl (wrapE_i64 (by omega) (by omega) (by omega)) ?_)
              refine ia_op (oa_cutOwn (c := op.length - 1) UnF.h SzF.h (by decide) rfl hp4 (bndA_of rfl rfl) (by omega) (by omega) fun w' hw' hb' => ?_)
              refine ia_op (oa_assign rfl (ia_nil (va_exit ?_)))
              have hcut : (op.flatMap ixC).take ((op.length - 1) * 1) = op.dropLast.flatMap ixC := by
                rw [hpre, List.dropLast_concat, List.flatMap_append, List.take_append_of_le_length (by rw [flat_length ixC_len]; simp), List.take_of_length_le (by rw [flat_length ixC_len]; simp)]
              rw [hcut] at hw'
              refine hgo _ H4 (out.set u0 ⟨c0.proc, c0.enter, i + 1, c0.up⟩) op.dropLast _ w' (by simp [stepT, hop, hk3, hc0, hd1, hpr]) ⟨rfl, rfl, rfl, rfl, rfl, trivial⟩ hK4 (by rw [List.length_set]; exact ho4) (by rw [List.length_dropLast]; exact hw') (fun c hu hw => hap c hu (hb' c hw)) hno fun c hc => hnp c (hb' c hc)
            · refine ia_op (oa_eqlW rfl rfl (decide_eq_false hk3) (ia_nil (va_condF rfl (va_skip (va_exit ?_)))))
              exact hgo _ H3 out op u w (by simp [stepT, hop, hc0, hd1, hpr, hk23.resolve_right hk3]) ⟨rfl, rfl, rfl, rfl, rfl, trivial⟩ hkeep3 hout3 hopn3 hap hno hnp
          · refine ia_gdY rfl (oa_neqW rfl rfl (decide_eq_true hpr) ?_)
            refine ia_op (oa_pickF rfl rfl (ia_nil (va_condT rfl (bad (hnone (by simp [stepT, hop, hk1, hc0, hpr])) _ _ fun l3 h => hret l3 h))))
        · refine ia_gdY rfl (oa_neqW rfl rfl (decide_eq_true hd1) ?_)
          (repeat (first | refine ia_gdN rfl ?_ | refine ia_gdU rfl ?_ | ((first | refine ia_op ?_ | refine ia_gdY rfl ?_); first | refine oa_move rfl ?_ | refine oa_assign rfl ?_ | refine oa_nilCheck rfl ?_ | refine oa_fieldAddr FpF.h (by decide) rfl ?_ | refine oa_lssF rfl rfl (by omega) ?_ | refine oa_lssT rfl rfl (by omega) ?_ | refine oa_leqF rfl rfl (by omega) ?_ | refine oa_leqT rfl rfl (by omega) ?_ | refine oa_gtrF rfl rfl (by omega) ?_ | refine oa_gtrT rfl rfl (by omega) ?_ | refine oa_geqF rfl rfl (by omega) ?_ | refine oa_geqT rfl rfl (by omega) ?_ | refine oa_eqlF rfl rfl (by omega) ?_ | refine oa_eqlT rfl rfl (by omega) ?_ | refine oa_neqF rfl rfl (by omega) ?_ | refine oa_neqT rfl rfl (by omega) ?_ | refine oa_pickT rfl rfl rfl ?_ | refine oa_pickF rfl rfl ?_ | refine oa_not rfl ?_ | refine oa_extract rfl rfl ?_)))
          exact ia_nil (va_condT rfl (bad (hnone (by simp [stepT, hop, hk1, hc0, hd1])) _ _ fun l3 h => hret l3 h))
      by_cases hk2 : t.kind = 2
      · refine ia_op (oa_eqlW rfl rfl (decide_eq_true hk2) (ia_op (oa_assign rfl (ia_nil (va_condT rfl (va_skip (va_condT rfl (body (.inl hk2) _ ⟨rfl, rfl, rfl, rfl, rfl, rfl, rfl, rfl, trivial⟩ _ (fun _ h => h) cont))))))))
      refine ia_op (oa_eqlW rfl rfl (decide_eq_false hk2) (ia_op (oa_assign rfl (ia_nil (va_condF rfl (va_reg ?_))))))
      by_cases hk3 : t.kind = 3
      · refine ia_op (oa_eqlW rfl rfl (decide_eq_true hk3) (ia_op (oa_assign rfl (ia_nil (va_condT rfl (body (.inr hk3) _ ⟨rfl, rfl, rfl, rfl, rfl, rfl, rfl, rfl, trivial⟩ _ (fun _ h => h) cont))))))
      refine ia_op (oa_eqlW rfl rfl (decide_eq_false hk3) (ia_op (oa_assign rfl (ia_nil (va_condF rfl (va_skip ?_))))))
      exact bad (hnone (by simp [stepT, hop, hk1, hk2, hk3, hc0])) _ _ fun _ h => h
set_option maxHeartbeats 0 in
theorem Tree_ok (hn : l.length < 1000) (hv : IsSlR H v 4 l.length (l.flatMap tkC)) {Q : AV → Heap → Prop} (q : ∀ r H', Keep Non H H' → TreeR l H H' r → Q r H') : WpF Tryz.prog tb gl 7 [v] H Q := by
  refine fa Tryz.func7 b7_eq v7_eq r7_eq (.inr (by simp)) ?_
  refine va_seqr ?_
  refine ia_pl rfl ?_
  refine ia_nil (va_seqr ?_)
  refine ia_pl rfl ?_
  refine ia_nil (va_seqr ?_)
  refine ia_pl rfl ?_
  refine ia_nil (va_seq (va_seqr ?_))
  refine ia_op (oa_move rfl ?_)
  refine ia_op (oa_lenSl rfl rfl rfl UnF.h rfl hv.sl ?_)
  refine ia_op (oa_move rfl (ia_nil (va_block ?_)))
  refine va_loop (treeF v l.length) (TreeI l H) (fun a => l.length - a.1) (fun a H1 I => tree_round hn hv a H1 I (fun l' hi hs => ?_) (fun l' H2 hk hs hr => ?_)) (0, [], [], .nils, .nils) _ H ⟨rfl, rfl, rfl, rfl, rfl, trivial⟩
    ⟨.refl _ _, Nat.zero_le _, rfl, .init, .nil _ _, .nil _ _, fun _ h => h.elim, fun _ h => h.elim, fun _ h => h.elim⟩
  · obtain ⟨i, out, op, u, w⟩ := a
    obtain ⟨hkeep, _, hrun, _, hout, _, _, hno, _⟩ := I
    simp only at hi hkeep hrun hout hno
    subst hi
    rw [List.drop_length] at hrun
    simp only [runT] at hrun
    show VA Tryz.prog tb gl v7t4 l' H1 _
    refine VA.sub hs (va_seq (va_seqr ?_))
    refine ia_op (oa_move rfl ?_)
    refine ia_op (oa_lenSl rfl rfl rfl UnF.h rfl hout.sl ?_)
    by_cases h0 : out = []
    · have ht : treeT l = none := by simp [treeT, ← hrun, h0]
      refine ia_op (oa_eqlW rfl rfl (decide_eq_true (by simp [h0])) (ia_nil (va_condT rfl (tree_err fun l2 h2 => ?_))))
      exact ⟨_, by simp only [resLA, h2.1, h2.2.1]; rfl, q _ H1 hkeep (by simp only [TreeR, ht])⟩
    · have ht : treeT l = some out := by simp [treeT, ← hrun, h0]
      have hpos : 0 < out.length := List.length_pos_iff.2 h0
      refine ia_op (oa_eqlW rfl rfl (decide_eq_false (by omega)) (ia_nil (va_condF rfl (va_skip (va_seqr ?_)))))
      refine ia_pl rfl ?_
      refine ia_nil (va_ret ⟨_, rfl, q _ H1 hkeep ?_⟩)
      simp only [TreeR, ht]
      exact ⟨u, rfl, hout, hno⟩
  · have ht : treeT l = none := by simp [treeT, hr]
    exact ⟨_, by simp only [resLA, hs.1, hs.2.1]; rfl, q _ H2 hk (by simp only [TreeR, ht])⟩
end
end Go.Proofs.YtndhniapohlniaaGreatDoor
