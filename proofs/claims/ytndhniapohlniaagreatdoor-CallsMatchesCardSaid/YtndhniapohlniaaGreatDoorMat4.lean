/-
  Matched calls, the document's way: calls as rows of events (rows), walked. Conditions: the rows' lengths.
-/
import Derived.Test.YtndhniapohlniaaGreatDoorMat3
namespace Go.Proofs.YtndhniapohlniaaGreatDoor
open Go Go.Proofs.YtndhniapohlniaaGreatDoor.Eng
/-! facts about types -/
theorem fp_94_0 : fieldPlc Tryz.prog 94 0 = some ⟨0, false, 1⟩ := by kernel_rfl
instance ifp_94_0 : FpF Tryz.prog 94 0 ⟨0, false, 1⟩ := ⟨fp_94_0⟩
/-! f46: parallax/parallaxref16.rows, parameters #[35, 52, 35, 52, 23] -/
def v46l0h0 : CV := .seq (.reg [.op (some 23) (.move (.tmp 15)),
    .op (some 24) (.move (.tmp 1)),
    .op (some 25) (.call ⟨.builtin .len, #[(.tmp 24)], #[52]⟩),
    .op (some 26) (.binOp .lss 3 (.tmp 23) (.tmp 25) 3)])
  (.cond (.tmp 26) (.skip) (.exit 0))
def v46l1h0 : CV := .seq (.reg [.op (some 38) (.move (.tmp 17)),
    .op (some 39) (.move (.tmp 4)),
    .op (some 40) (.call ⟨.builtin .len, #[(.tmp 39)], #[23]⟩),
    .op (some 41) (.binOp .lss 3 (.tmp 38) (.tmp 40) 3)])
  (.cond (.tmp 41) (.skip) (.exit 2))
def v46k1 : CV := .seq (.reg [.op (some 44) (.move (.tmp 14)),
    .op (some 45) (.move (.tmp 17)),
    .op (some 46) (.indexAddr 92 (.tmp 44) (.tmp 45)),
    .op (some 47) (.load 4 (.tmp 46)),
    .op (some 48) (.move (.tmp 47)),
    .gd 48 true (some 49) (.move (.tmp 4)),
    .gd 48 true (some 50) (.move (.tmp 17)),
    .gd 48 true (some 51) (.indexAddr 23 (.tmp 49) (.tmp 50)),
    .gd 48 true (some 52) (.indexAddr 45 (.tmp 51) (.const (.int .i64 0))),
    .gd 48 true (some 53) (.load 3 (.tmp 52)),
    .gd 48 true (some 54) (.move (.tmp 0)),
    .gd 48 true (some 55) (.move (.tmp 1)),
    .gd 48 true (some 56) (.move (.tmp 15)),
    .gd 48 true (some 57) (.indexAddr 52 (.tmp 55) (.tmp 56)),
    .gd 48 true (some 58) (.load 3 (.tmp 57)),
    .gd 48 true (some 59) (.indexAddr 35 (.tmp 54) (.tmp 58)),
    .gd 48 true (some 60) (.fieldAddr 94 (.tmp 59) 0),
    .gd 48 true (some 61) (.load 3 (.tmp 60)),
    .gd 48 true (some 62) (.binOp .eql 3 (.tmp 53) (.tmp 61) 3),
    .op (some 63) (.pick (.tmp 48) (.tmp 62) (.const (.bool false)))])
  (.cond (.tmp 63) (.reg [.op (some 64) (.move (.tmp 17)),
    .op (some 65) (.build 235 #[(0, (.const (.int .i64 1))), (1, (.tmp 64))]),
    .op none (.store 235 (.tmp 16) (.tmp 65))]) (.skip))
def v46l1t1 : CV := .seq (.block 3 v46k1)
  (.reg [.op (some 42) (.move (.tmp 17)),
    .op (some 43) (.binOp .add 3 (.tmp 42) (.const (.int .i64 1)) 3),
    .op (some 17) (.assign (.tmp 43))])
def v46l1 : CV := .seq v46l1h0 v46l1t1
def v46k0h1 : CV := .seq (.reg [.op (some 17) (.assign (.const (.int .i64 0)))])
  (.block 2 (.loop v46l1))
def v46k0t1 : CV := .seq v46k0h1
  (.reg [.op (some 66) (.move (.tmp 12)),
    .op (some 67) (.load 235 (.tmp 16)),
    .op (some 68) (.buildSlice 151 1 #[(0, (.tmp 67))]),
    .op (some 69) (.call ⟨.builtin .append, #[(.tmp 66), (.tmp 68)], #[151, 151]⟩),
    .op (some 12) (.assign (.tmp 69))])
def v46k0 : CV := .seq (.reg [.op (some 29) (.move (.tmp 0)),
    .op (some 30) (.move (.tmp 1)),
    .op (some 31) (.move (.tmp 15)),
    .op (some 32) (.indexAddr 52 (.tmp 30) (.tmp 31)),
    .op (some 33) (.load 3 (.tmp 32)),
    .op (some 34) (.indexAddr 35 (.tmp 29) (.tmp 33)),
    .op (some 35) (.fieldAddr 94 (.tmp 34) 0),
    .op (some 36) (.load 3 (.tmp 35)),
    .op (some 37) (.build 235 #[(0, (.const (.int .i64 8))), (1, (.tmp 36))]),
    .op (some 16) (.alloc 235),
    .op none (.store 235 (.tmp 16) (.tmp 37))]) v46k0t1
def v46l0t1 : CV := .seq (.block 1 v46k0)
  (.reg [.op (some 27) (.move (.tmp 15)),
    .op (some 28) (.binOp .add 3 (.tmp 27) (.const (.int .i64 1)) 3),
    .op (some 15) (.assign (.tmp 28))])
def v46l0 : CV := .seq v46l0h0 v46l0t1
def v46h3 : CV := .seq (.reg [.op (some 15) (.assign (.const (.int .i64 0)))])
  (.block 0 (.loop v46l0))
def v46l2h0 : CV := .seq (.reg [.op (some 70) (.move (.tmp 18)),
    .op (some 71) (.move (.tmp 3)),
    .op (some 72) (.call ⟨.builtin .len, #[(.tmp 71)], #[52]⟩),
    .op (some 73) (.binOp .lss 3 (.tmp 70) (.tmp 72) 3)])
  (.cond (.tmp 73) (.skip) (.exit 4))
def v46l3h0 : CV := .seq (.reg [.op (some 85) (.move (.tmp 20)),
    .op (some 86) (.move (.tmp 4)),
    .op (some 87) (.call ⟨.builtin .len, #[(.tmp 86)], #[23]⟩),
    .op (some 88) (.binOp .lss 3 (.tmp 85) (.tmp 87) 3)])
  (.cond (.tmp 88) (.skip) (.exit 6))
def v46k3 : CV := .seq (.reg [.op (some 91) (.move (.tmp 14)),
    .op (some 92) (.move (.tmp 20)),
    .op (some 93) (.indexAddr 92 (.tmp 91) (.tmp 92)),
    .op (some 94) (.load 4 (.tmp 93)),
    .op (some 95) (.move (.tmp 94)),
    .gd 95 true (some 96) (.move (.tmp 4)),
    .gd 95 true (some 97) (.move (.tmp 20)),
    .gd 95 true (some 98) (.indexAddr 23 (.tmp 96) (.tmp 97)),
    .gd 95 true (some 99) (.indexAddr 45 (.tmp 98) (.const (.int .i64 1))),
    .gd 95 true (some 100) (.load 3 (.tmp 99)),
    .gd 95 true (some 101) (.move (.tmp 2)),
    .gd 95 true (some 102) (.move (.tmp 3)),
    .gd 95 true (some 103) (.move (.tmp 18)),
    .gd 95 true (some 104) (.indexAddr 52 (.tmp 102) (.tmp 103)),
    .gd 95 true (some 105) (.load 3 (.tmp 104)),
    .gd 95 true (some 106) (.indexAddr 35 (.tmp 101) (.tmp 105)),
    .gd 95 true (some 107) (.fieldAddr 94 (.tmp 106) 0),
    .gd 95 true (some 108) (.load 3 (.tmp 107)),
    .gd 95 true (some 109) (.binOp .eql 3 (.tmp 100) (.tmp 108) 3),
    .op (some 110) (.pick (.tmp 95) (.tmp 109) (.const (.bool false)))])
  (.cond (.tmp 110) (.reg [.op (some 111) (.move (.tmp 20)),
    .op (some 112) (.build 235 #[(0, (.const (.int .i64 1))), (1, (.tmp 111))]),
    .op none (.store 235 (.tmp 19) (.tmp 112))]) (.skip))
def v46l3t1 : CV := .seq (.block 7 v46k3)
  (.reg [.op (some 89) (.move (.tmp 20)),
    .op (some 90) (.binOp .add 3 (.tmp 89) (.const (.int .i64 1)) 3),
    .op (some 20) (.assign (.tmp 90))])
def v46l3 : CV := .seq v46l3h0 v46l3t1
def v46k2h1 : CV := .seq (.reg [.op (some 20) (.assign (.const (.int .i64 0)))])
  (.block 6 (.loop v46l3))
def v46k2t1 : CV := .seq v46k2h1
  (.reg [.op (some 113) (.move (.tmp 13)),
    .op (some 114) (.load 235 (.tmp 19)),
    .op (some 115) (.buildSlice 151 1 #[(0, (.tmp 114))]),
    .op (some 116) (.call ⟨.builtin .append, #[(.tmp 113), (.tmp 115)], #[151, 151]⟩),
    .op (some 13) (.assign (.tmp 116))])
def v46k2 : CV := .seq (.reg [.op (some 76) (.move (.tmp 2)),
    .op (some 77) (.move (.tmp 3)),
    .op (some 78) (.move (.tmp 18)),
    .op (some 79) (.indexAddr 52 (.tmp 77) (.tmp 78)),
    .op (some 80) (.load 3 (.tmp 79)),
    .op (some 81) (.indexAddr 35 (.tmp 76) (.tmp 80)),
    .op (some 82) (.fieldAddr 94 (.tmp 81) 0),
    .op (some 83) (.load 3 (.tmp 82)),
    .op (some 84) (.build 235 #[(0, (.const (.int .i64 9))), (1, (.tmp 83))]),
    .op (some 19) (.alloc 235),
    .op none (.store 235 (.tmp 19) (.tmp 84))]) v46k2t1
def v46l2t1 : CV := .seq (.block 5 v46k2)
  (.reg [.op (some 74) (.move (.tmp 18)),
    .op (some 75) (.binOp .add 3 (.tmp 74) (.const (.int .i64 1)) 3),
    .op (some 18) (.assign (.tmp 75))])
def v46l2 : CV := .seq v46l2h0 v46l2t1
def v46h4 : CV := .seq (.reg [.op (some 18) (.assign (.const (.int .i64 0)))])
  (.block 4 (.loop v46l2))
def v46t5 : CV := .seq (.reg [.op (some 117) (.move (.tmp 12)),
    .op (some 118) (.move (.tmp 13)),
    .op (some 10) (.assign (.tmp 117)),
    .op (some 11) (.assign (.tmp 118))])
  (.ret)
def v46t4 : CV := .seq v46h4 v46t5
def v46t3 : CV := .seq v46h3 v46t4
def v46t2 : CV := .seq (.reg [.op (some 21) (.move (.tmp 4)),
    .op (some 22) (.call ⟨.value (.func 21), #[(.tmp 21)], #[23]⟩),
    .op (some 14) (.assign (.tmp 22))]) v46t3
def v46t1 : CV := .seq (.reg [.op (some 12) (.assign (.const (.slice none 0 0))),
    .op (some 13) (.assign (.const (.slice none 0 0)))]) v46t2
def v46 : CV := .seq (.reg [.op (some 10) (.assign (.const (.slice none 0 0))),
    .op (some 11) (.assign (.const (.slice none 0 0)))]) v46t1
noncomputable def b46 : Code := Tryz.f46.body.getD .skip
theorem b46_eq : Tryz.f46.body = some b46 := by kernel_rfl
theorem v46_eq : viewC Tryz.prog b46 = some v46 := by kernel_rfl
theorem r46_eq : Tryz.f46.results.toList = [.tmp 10, .tmp 11] := by kernel_rfl

section
variable {tb : List FuncId} {gl : List (List AV)} {H : Heap} {va vks vb vls vp : AV} {Q : AV → Heap → Prop}
set_option maxHeartbeats 0 in
/-- the second of the two rows -/
theorem rrows2_ok {B : List Cl} {ls : List Nat} {ps : List (Int × Int)} {cs : List Bool} {ul uc : AV} {Hd : Heap} {R : Ex → Fm → Heap → Prop} (hn : ps.length < 1000) (hll : ls.length < 1000) (hcl : cs.length = ps.length) (hvb : IsSl Hd vb 4 B.length (B.flatMap clC)) (hvl : IsSl Hd vls 1 ls.length (ls.flatMap ixC)) (hvp : IsSl Hd vp 2 ps.length (ps.flatMap prC))
    (huc : IsSl Hd uc 1 cs.length (cs.flatMap bC)) (hls : ∀ k ∈ ls, k < B.length)
    (fin3 : ∀ (l' : Fm) (um : AV) (H' : Heap), Keep Non Hd H' → Own H' um 2 ls.length ((ls.map (evR B ps cs (·.2) 9)).flatMap evC) → (∀ c, ownB um c → Hd.nx ≤ c) → Sb [(12, ul), (13, um)] l' → R (.exit 4) l' H') {l0 : Fm} (hs0 : Sb [(0, va), (1, vks), (2, vb), (3, vls), (4, vp), (12, ul), (13, .nils), (14, uc), (18, .int .i64 0)] l0) :
    VA Tryz.prog tb gl (.loop v46l2) l0 Hd R := by
  have hlim : limit = 1000000 := rfl
  refine va_loop (fun (a : Nat × AV) => [(0, va), (1, vks), (2, vb), (3, vls), (4, vp), (12, ul), (13, a.2), (14, uc), (18, .int .i64 (a.1 : Int))]) (fun a H' => Keep Non Hd H' ∧ a.1 ≤ ls.length ∧ Own H' a.2 2 (ls.take a.1).length (((ls.take a.1).map (evR B ps cs (·.2) 9)).flatMap evC) ∧ ∀ c, ownB a.2 c → Hd.nx ≤ c) (fun a => ls.length - a.1) ?_ (0, .nils) l0 Hd hs0 ⟨.refl _ _, Nat.zero_le _, .nil _ _, fun _ h => h.elim⟩
  rintro ⟨i, u⟩ H1 ⟨hk1, hle, ho, hno⟩
  simp only at hle ho hno
  dsimp only
  refine va_seq (va_seqr ?_)
  refine ia_pl rfl ?_; (repeat ((first | refine ia_op (oa_lenSl rfl rfl rfl UnF.h rfl (hvl.keep0 hk1) ?_)); refine ia_pl rfl ?_))
  by_cases hi : i < ls.length
  rotate_left
  · refine ia_op (oa_lssW rfl rfl (decide_eq_false (by omega)) (ia_nil (va_condF rfl (va_exit ?_))))
    rw [List.take_of_length_le (by omega)] at ho
    exact fin3 _ u H1 hk1 ho hno ⟨rfl, rfl, trivial⟩
  refine ia_op (oa_lssW rfl rfl (decide_eq_true (by omega)) (ia_nil (va_condT rfl (va_skip (va_seq (va_block (va_seqr ?_)))))))
  obtain ⟨x, hx⟩ : ∃ x, ls[i]? = some x := ⟨_, List.getElem?_eq_getElem hi⟩
  have hxA := hls x (List.mem_of_getElem? hx)
  obtain ⟨c, hc⟩ : ∃ c, B[x]? = some c := ⟨_, List.getElem?_eq_getElem hxA⟩
  have htake : ls.take (i + 1) = ls.take i ++ [x] := by rw [List.take_add_one, hx]; rfl
  have hlen : (ls.take i).length = i := by rw [List.length_take]; omega
  have hpo : procOf B x = c.proc := by simp [procOf, hc]
  obtain ⟨bk, ok, rowk, tlk, rok, hpk, hrowk, hgetk⟩ := isSl_ix (hvl.keep0 hk1) (by omega)
  obtain ⟨ba, oa, rowa, tla, roa, hpa, hrowa, hgeta⟩ := isSl_ix (hvb.keep0 hk1) (by omega)
  have hflk : (ls.flatMap ixC).length = ls.length * 1 := flat_length ixC_len ls
  have hfla : (B.flatMap clC).length = B.length * 4 := flat_length clC_len B
  have hk0 : rowk[ok + i * 1]? = some (.int .i64 (x : Int)) := by
    rw [hgetk _ (by omega)]
    exact flat_get ixC_len (o := 0) hx (by decide)
  have ha0 : rowa[oa + x * 4 + 0]? = some (.int .i64 c.proc) := by
    rw [show oa + x * 4 + 0 = oa + (x * 4 + 0) by omega, hgeta _ (by omega)]
    exact flat_get clC_len hc (by decide)
  (repeat (first | refine ia_gdN rfl ?_ | refine ia_gdU rfl ?_ | ((first | refine ia_op ?_ | refine ia_gdY rfl ?_); first | refine oa_move rfl ?_ | refine oa_assign rfl ?_ | refine oa_nilCheck rfl ?_ | refine oa_fieldAddr FpF.h (by decide) rfl ?_ | refine oa_indexP UnF.h SzF.h rfl hpk rfl rfl hi ?_ | refine oa_load1 PlF.h rfl hrowk hk0 ?_ | refine oa_indexP UnF.h SzF.h rfl hpa rfl rfl hxA ?_ | refine oa_load1 PlF.h rfl hrowa ha0 ?_ | refine oa_lssF rfl rfl (by omega) ?_ | refine oa_lssT rfl rfl (by omega) ?_ | refine oa_leqF rfl rfl (by omega) ?_ | refine oa_leqT rfl rfl (by omega) ?_ | refine oa_gtrF rfl rfl (by omega) ?_ | refine oa_gtrT rfl rfl (by omega) ?_ | refine oa_geqF rfl rfl (by omega) ?_ | refine oa_geqT rfl rfl (by omega) ?_ | refine oa_eqlF rfl rfl (by omega) ?_ | refine oa_eqlT rfl rfl (by omega) ?_ | refine oa_neqF rfl rfl (by omega) ?_ | refine oa_neqT rfl rfl (by omega) ?_ | refine oa_pickT rfl rfl rfl ?_ | refine oa_pickF rfl rfl ?_ | refine oa_not rfl ?_ | refine oa_extract rfl rfl ?_)))
  refine ia_op (oa_struct BsF.h ZeF.h PsF.h rfl ?_)
  refine ia_op (oa_alloc ZeF.h fun H2 hk2 hr2 => ?_)
  obtain ⟨b16, hb16⟩ : ∃ b, b = H1.nx := ⟨_, rfl⟩
  rw [← hb16] at hr2 ⊢
  have hl2 := hr2.1
  refine ia_op (oa_storeAll (k := 2) SzF.h rfl rfl rfl rfl hr2 rfl fun H3 hk3 hn3 hr3 => ?_)
  have hK13 : Keep Non H1 H3 := hk2.trans hk3 fun k h => .inr (by omega)
  have hr3' : IsRow H3 b16 (evC (evF ps cs (·.2) 9 (procOf B x) 0)) false false := by rw [hpo]; exact hr3
  refine ia_nil (va_seq (va_seqr ?_))
  refine ia_pl rfl ?_
  refine ia_nil (va_block ?_)
  refine va_loop (fun (k : Nat) => [(0, va), (1, vks), (2, vb), (3, vls), (4, vp), (12, ul), (13, u), (14, uc), (18, .int .i64 (i : Int)), (19, .ptr b16 0), (20, .int .i64 (k : Int))]) (fun k H' => Keep (· = b16) H3 H' ∧ k ≤ ps.length ∧ IsRow H' b16 (evC (evF ps cs (·.2) 9 (procOf B x) k)) false false) (fun k => ps.length - k) ?_ 0 _ H3 ⟨rfl, rfl, rfl, rfl, rfl, rfl, rfl, rfl, rfl, rfl, rfl, trivial⟩ ⟨.refl _ _, Nat.zero_le _, hr3'⟩
  rintro k H4 ⟨hk4, hkl, hr4⟩
  have hK14 : Keep Non H1 H4 := hK13.trans hk4 fun k h => .inr (by omega)
  have hvp4 := (hvp.keep0 hk1).keep0 hK14
  refine va_seq (va_seqr ?_)
  refine ia_pl rfl ?_; (repeat ((first | refine ia_op (oa_lenSl rfl rfl rfl UnF.h rfl hvp4 ?_)); refine ia_pl rfl ?_))
  by_cases hkp : k < ps.length
  rotate_left
  · obtain rfl : k = ps.length := by omega
    refine ia_op (oa_lssW rfl rfl (decide_eq_false (by omega)) (ia_nil (va_condF rfl (va_exit (va_reg ?_)))))
    refine ia_pl rfl ?_
    refine ia_op (oa_loadN (z := 2) (i := 0) PlF.h rfl hr4 (Nat.le_refl 2) ?_)
    refine ia_op (oa_newSlice (n := 1) ElF.h (by decide) rfl rfl fun H5 hk5 hr5 => ?_)
    refine ia_op (oa_append rfl rfl rfl ElF.h (.inl UnF.h) rfl ((ho.keep0 hK14).keep0 hk5) rfl (IsRow.sl (es := 2) (n := 1) hr5 rfl (Nat.le_refl 1)).elems rfl rfl (by omega) fun u' H6 ho6 hk6 hb6 => ?_)
    refine ia_pl rfl ?_
    refine ia_nil (va_reg ?_)
    refine ia_pl rfl ?_
    refine ia_op (oa_addW (c := ((i + 1 : Nat) : Int)) rfl rfl (wrapE_i64 (by omega) (by omega) (by omega)) ?_)
    refine ia_pl rfl ?_
    have hKL5 := (hk1.trans0 hK14).trans0 hk5
    refine ia_nil ⟨(i + 1, u'), ?_, ⟨rfl, rfl, rfl, rfl, rfl, rfl, rfl, rfl, rfl, trivial⟩, hKL5.trans hk6 fun c hc => .inr (hno c hc), by simp only; omega, ?_, fun c hc => (hb6 c hc).elim (hno c) fun h => Nat.le_trans hKL5.nx h⟩
    · show ls.length - (i + 1) < ls.length - i
      omega
    · simp only
      rw [htake, List.length_append, List.map_append, List.flatMap_append]
      exact ho6
  refine ia_op (oa_lssW rfl rfl (decide_eq_true (by omega)) (ia_nil (va_condT rfl (va_skip (va_seq ?_)))))
  obtain ⟨ck, hck⟩ : ∃ ck, cs[k]? = some ck := ⟨_, List.getElem?_eq_getElem (by omega)⟩
  obtain ⟨q, hq⟩ : ∃ q, ps[k]? = some q := ⟨_, List.getElem?_eq_getElem hkp⟩
  obtain ⟨bu, ou, rowu, tlu, rou, hpu, hrowu, hgetu⟩ := isSl_ix (((huc.keep0 hk1).keep0 hK14)) (by omega)
  obtain ⟨bp, op, rowp, tlp, rop, hpp, hrowp, hgetp⟩ := isSl_ix hvp4 (by omega)
  have hflu : (cs.flatMap bC).length = cs.length * 1 := flat_length bC_len cs
  have hflp : (ps.flatMap prC).length = ps.length * 2 := flat_length prC_len ps
  have hcu : rowu[ou + k * 1]? = some (.bool ck) := by
    rw [hgetu _ (by omega)]
    exact flat_get bC_len (o := 0) hck (by decide)
  have hcp : rowp[op + k * 2 + 1 * 1]? = some (.int .i64 q.2) := by
    rw [show op + k * 2 + 1 * 1 = op + (k * 2 + 1) by omega, hgetp _ (by omega)]
    exact flat_get prC_len hq (by decide)
  have hkcs : k < cs.length := by omega
  have hrowk4 := hrowk.keep0 hK14
  have hrowa4 := hrowa.keep0 hK14
  refine va_cut (fun l' H' => Keep (· = b16) H3 H' ∧ IsRow H' b16 (evC (evF ps cs (·.2) 9 (procOf B x) (k + 1))) false false ∧ Sb [(0, va), (1, vks), (2, vb), (3, vls), (4, vp), (12, ul), (13, u), (14, uc), (18, .int .i64 (i : Int)), (19, .ptr b16 0), (20, .int .i64 (k : Int))] l') ?_ ?_
  · refine va_block (va_seqr ?_)
    cases ck with
    | false =>
      (repeat (first | refine ia_gdN rfl ?_ | refine ia_gdU rfl ?_ | ((first | refine ia_op ?_ | refine ia_gdY rfl ?_); first | refine oa_move rfl ?_ | refine oa_assign rfl ?_ | refine oa_nilCheck rfl ?_ | refine oa_fieldAddr FpF.h (by decide) rfl ?_ | refine oa_indexP UnF.h SzF.h rfl hpu rfl rfl hkcs ?_ | refine oa_load1 PlF.h rfl hrowu hcu ?_ | refine oa_lssF rfl rfl (by omega) ?_ | refine oa_lssT rfl rfl (by omega) ?_ | refine oa_leqF rfl rfl (by omega) ?_ | refine oa_leqT rfl rfl (by omega) ?_ | refine oa_gtrF rfl rfl (by omega) ?_ | refine oa_gtrT rfl rfl (by omega) ?_ | refine oa_geqF rfl rfl (by omega) ?_ | refine oa_geqT rfl rfl (by omega) ?_ | refine oa_eqlF rfl rfl (by omega) ?_ | refine oa_eqlT rfl rfl (by omega) ?_ | refine oa_neqF rfl rfl (by omega) ?_ | refine oa_neqT rfl rfl (by omega) ?_ | refine oa_pickT rfl rfl rfl ?_ | refine oa_pickF rfl rfl ?_ | refine oa_not rfl ?_ | refine oa_extract rfl rfl ?_)))
      refine ia_nil (va_condF rfl (va_skip ⟨hk4, ?_, rfl, rfl, rfl, rfl, rfl, rfl, rfl, rfl, rfl, rfl, rfl, trivial⟩))
      simp only [evF]
      rw [if_neg (by rw [hck]; simp)]
      exact hr4
    | true =>
      by_cases e1 : q.2 = c.proc
      · (repeat (first | refine ia_gdN rfl ?_ | refine ia_gdU rfl ?_ | ((first | refine ia_op ?_ | refine ia_gdY rfl ?_); first | refine oa_move rfl ?_ | refine oa_assign rfl ?_ | refine oa_nilCheck rfl ?_ | refine oa_fieldAddr FpF.h (by decide) rfl ?_ | refine oa_indexP UnF.h SzF.h rfl hpu rfl rfl hkcs ?_ | refine oa_load1 PlF.h rfl hrowu hcu ?_ | refine oa_indexP UnF.h SzF.h rfl hpp rfl rfl hkp ?_ | refine oa_indexArr (j := 1) UnF.h SzF.h rfl rfl rfl (by decide) ?_ | refine oa_load1 PlF.h rfl hrowp hcp ?_ | refine oa_indexP UnF.h SzF.h rfl hpk rfl rfl hi ?_ | refine oa_load1 PlF.h rfl hrowk4 hk0 ?_ | refine oa_indexP UnF.h SzF.h rfl hpa rfl rfl hxA ?_ | refine oa_load1 PlF.h rfl hrowa4 ha0 ?_ | refine oa_lssF rfl rfl (by omega) ?_ | refine oa_lssT rfl rfl (by omega) ?_ | refine oa_leqF rfl rfl (by omega) ?_ | refine oa_leqT rfl rfl (by omega) ?_ | refine oa_gtrF rfl rfl (by omega) ?_ | refine oa_gtrT rfl rfl (by omega) ?_ | refine oa_geqF rfl rfl (by omega) ?_ | refine oa_geqT rfl rfl (by omega) ?_ | refine oa_eqlF rfl rfl (by omega) ?_ | refine oa_eqlT rfl rfl (by omega) ?_ | refine oa_neqF rfl rfl (by omega) ?_ | refine oa_neqT rfl rfl (by omega) ?_ | refine oa_pickT rfl rfl rfl ?_ | refine oa_pickF rfl rfl ?_ | refine oa_not rfl ?_ | refine oa_extract rfl rfl ?_)))
        refine ia_nil (va_condT rfl (va_reg ?_))
        refine ia_pl rfl ?_
        refine ia_op (oa_struct BsF.h ZeF.h PsF.h rfl ?_)
        refine ia_op (oa_storeAll (k := 2) SzF.h rfl rfl rfl rfl hr4 rfl fun H5 hk5 hn5 hr5 => ?_)
        refine ia_nil ⟨hk4.trans hk5 fun c hc => .inl hc, ?_, rfl, rfl, rfl, rfl, rfl, rfl, rfl, rfl, rfl, rfl, rfl, trivial⟩
        simp only [evF]
        rw [if_pos (by rw [hck, hq, hpo]; simp [e1])]
        exact hr5
      · (repeat (first | refine ia_gdN rfl ?_ | refine ia_gdU rfl ?_ | ((first | refine ia_op ?_ | refine ia_gdY rfl ?_); first | refine oa_move rfl ?_ | refine oa_assign rfl ?_ | refine oa_nilCheck rfl ?_ | refine oa_fieldAddr FpF.h (by decide) rfl ?_ | refine oa_indexP UnF.h SzF.h rfl hpu rfl rfl hkcs ?_ | refine oa_load1 PlF.h rfl hrowu hcu ?_ | refine oa_indexP UnF.h SzF.h rfl hpp rfl rfl hkp ?_ | refine oa_indexArr (j := 1) UnF.h SzF.h rfl rfl rfl (by decide) ?_ | refine oa_load1 PlF.h rfl hrowp hcp ?_ | refine oa_indexP UnF.h SzF.h rfl hpk rfl rfl hi ?_ | refine oa_load1 PlF.h rfl hrowk4 hk0 ?_ | refine oa_indexP UnF.h SzF.h rfl hpa rfl rfl hxA ?_ | refine oa_load1 PlF.h rfl hrowa4 ha0 ?_ | refine oa_lssF rfl rfl (by omega) ?_ | refine oa_lssT rfl rfl (by omega) ?_ | refine oa_leqF rfl rfl (by omega) ?_ | refine oa_leqT rfl rfl (by omega) ?_ | refine oa_gtrF rfl rfl (by omega) ?_ | refine oa_gtrT rfl rfl (by omega) ?_ | refine oa_geqF rfl rfl (by omega) ?_ | refine oa_geqT rfl rfl (by omega) ?_ | refine oa_eqlF rfl rfl (by omega) ?_ | refine oa_eqlT rfl rfl (by omega) ?_ | refine oa_neqF rfl rfl (by omega) ?_ | refine oa_neqT rfl rfl (by omega) ?_ | refine oa_pickT rfl rfl rfl ?_ | refine oa_pickF rfl rfl ?_ | refine oa_not rfl ?_ | refine oa_extract rfl rfl ?_)))
        refine ia_nil (va_condF rfl (va_skip ⟨hk4, ?_, rfl, rfl, rfl, rfl, rfl, rfl, rfl, rfl, rfl, rfl, rfl, trivial⟩))
        simp only [evF]
        rw [if_neg (by rw [hck, hq, hpo]; simp [e1])]
        exact hr4
  rintro l5 H5 ⟨hk5, hr5, hs5⟩
  refine VA.sub hs5 (va_reg ?_)
  refine ia_pl rfl ?_
  refine ia_op (oa_addW (c := ((k + 1 : Nat) : Int)) rfl rfl (wrapE_i64 (by omega) (by omega) (by omega)) ?_)
  refine ia_pl rfl ?_
  refine ia_nil ⟨k + 1, ?_, ⟨rfl, rfl, rfl, rfl, rfl, rfl, rfl, rfl, rfl, rfl, rfl, trivial⟩, hk5, by omega, hr5⟩
  show ps.length - (k + 1) < ps.length - k
  omega
set_option maxHeartbeats 0 in
theorem rrows_ok {A B : List Cl} {ks ls : List Nat} {ps : List (Int × Int)} (hn : ps.length < 1000) (hkl : ks.length < 1000) (hll : ls.length < 1000) (hva0 : IsSl H va 4 A.length (A.flatMap clC)) (hvb0 : IsSl H vb 4 B.length (B.flatMap clC)) (hvk0 : IsSl H vks 1 ks.length (ks.flatMap ixC)) (hvl0 : IsSl H vls 1 ls.length (ls.flatMap ixC)) (hvp0 : IsSl H vp 2 ps.length (ps.flatMap prC))
    (hks : ∀ k ∈ ks, k < A.length) (hls : ∀ k ∈ ls, k < B.length)
    (hQ : ∀ cs ul um H', CntP ps cs → cs.length = ps.length → Keep Non H H' → Own H' ul 2 ks.length ((ks.map (evR A ps cs (·.1) 8)).flatMap evC) → Own H' um 2 ls.length ((ls.map (evR B ps cs (·.2) 9)).flatMap evC) → Q (.tup [ul, um]) H') : WpF Tryz.prog tb gl 46 [va, vks, vb, vls, vp] H Q := by
  have hlim : limit = 1000000 := rfl
  refine fa Tryz.func46 b46_eq v46_eq r46_eq (.inr (by simp)) ?_
  refine va_seqr ?_
  refine ia_pl rfl ?_
  refine ia_nil (va_seqr ?_)
  refine ia_pl rfl ?_
  refine ia_nil (va_seqr ?_)
  refine ia_pl rfl ?_
  refine ia_op (oa_call rfl rfl rfl (counting_ok hn hvp0 fun cs uc Hc hC hcl hkc huc0 hnc => ?_))
  have hva := hva0.keep0 hkc
  have hvb := hvb0.keep0 hkc
  have hvk := hvk0.keep0 hkc
  have hvl := hvl0.keep0 hkc
  have hvp := hvp0.keep0 hkc
  have huc := huc0.sl
  refine ia_pl rfl ?_
  have fin2 : ∀ (l' : Fm) (ul : AV) (Hd : Heap), Keep Non Hc Hd → Own Hd ul 2 ks.length ((ks.map (evR A ps cs (·.1) 8)).flatMap evC) → (∀ c, ownB ul c → Hc.nx ≤ c) → Sb [(0, va), (1, vks), (2, vb), (3, vls), (4, vp), (12, ul), (13, .nils), (14, uc)] l' → VA Tryz.prog tb gl v46t4 l' Hd (leftA [.tmp 10, .tmp 11] Q) := by
    intro l' ul Hd hkd hol hnl hs
    refine VA.sub hs (va_seq (va_seqr ?_))
    refine ia_pl rfl ?_
    refine ia_nil (va_block (rrows2_ok (B := B) (ls := ls) (ps := ps) (cs := cs) (ul := ul) (uc := uc) hn hll hcl (hvb.keep0 hkd) (hvl.keep0 hkd) (hvp.keep0 hkd) (huc.keep0 hkd) hls (fun l2 um He hke hom hnm hs2 => ?_) ⟨rfl, rfl, rfl, rfl, rfl, rfl, rfl, rfl, rfl, trivial⟩))
    refine VA.sub hs2 (va_seqr ?_)
    refine ia_pl rfl ?_
    exact ia_nil (va_ret ⟨_, rfl, hQ cs ul um He hC hcl ((hkc.trans0 hkd).trans0 hke) (hol.keep0 hke) hom⟩)
  refine ia_nil (va_seq (va_seqr ?_))
  refine ia_pl rfl ?_
  refine ia_nil (va_block ?_)
  refine va_loop (fun (a : Nat × AV) => [(0, va), (1, vks), (2, vb), (3, vls), (4, vp), (13, .nils), (12, a.2), (14, uc), (15, .int .i64 (a.1 : Int))]) (fun a H' => Keep Non Hc H' ∧ a.1 ≤ ks.length ∧ Own H' a.2 2 (ks.take a.1).length (((ks.take a.1).map (evR A ps cs (·.1) 8)).flatMap evC) ∧ ∀ c, ownB a.2 c → Hc.nx ≤ c) (fun a => ks.length - a.1) ?_ (0, .nils) _ Hc ⟨rfl, rfl, rfl, rfl, rfl, rfl, rfl, rfl, rfl, trivial⟩ ⟨.refl _ _, Nat.zero_le _, .nil _ _, fun _ h => h.elim⟩
  rintro ⟨i, u⟩ H1 ⟨hk1, hle, ho, hno⟩
  simp only at hle ho hno
  dsimp only
  refine va_seq (va_seqr ?_)
  refine ia_pl rfl ?_; (repeat ((first | refine ia_op (oa_lenSl rfl rfl rfl UnF.h rfl (hvk.keep0 hk1) ?_)); refine ia_pl rfl ?_))
  by_cases hi : i < ks.length
  rotate_left
  · refine ia_op (oa_lssW rfl rfl (decide_eq_false (by omega)) (ia_nil (va_condF rfl (va_exit ?_))))
    rw [List.take_of_length_le (by omega)] at ho
    exact fin2 _ u H1 hk1 ho hno ⟨rfl, rfl, rfl, rfl, rfl, rfl, rfl, rfl, trivial⟩
  refine ia_op (oa_lssW rfl rfl (decide_eq_true (by omega)) (ia_nil (va_condT rfl (va_skip (va_seq (va_block (va_seqr ?_)))))))
  obtain ⟨x, hx⟩ : ∃ x, ks[i]? = some x := ⟨_, List.getElem?_eq_getElem hi⟩
  have hxA := hks x (List.mem_of_getElem? hx)
  obtain ⟨c, hc⟩ : ∃ c, A[x]? = some c := ⟨_, List.getElem?_eq_getElem hxA⟩
  have htake : ks.take (i + 1) = ks.take i ++ [x] := by rw [List.take_add_one, hx]; rfl
  have hlen : (ks.take i).length = i := by rw [List.length_take]; omega
  have hpo : procOf A x = c.proc := by simp [procOf, hc]
  obtain ⟨bk, ok, rowk, tlk, rok, hpk, hrowk, hgetk⟩ := isSl_ix (hvk.keep0 hk1) (by omega)
  obtain ⟨ba, oa, rowa, tla, roa, hpa, hrowa, hgeta⟩ := isSl_ix (hva.keep0 hk1) (by omega)
  have hflk : (ks.flatMap ixC).length = ks.length * 1 := flat_length ixC_len ks
  have hfla : (A.flatMap clC).length = A.length * 4 := flat_length clC_len A
  have hk0 : rowk[ok + i * 1]? = some (.int .i64 (x : Int)) := by
    rw [hgetk _ (by omega)]
    exact flat_get ixC_len (o := 0) hx (by decide)
  have ha0 : rowa[oa + x * 4 + 0]? = some (.int .i64 c.proc) := by
    rw [show oa + x * 4 + 0 = oa + (x * 4 + 0) by omega, hgeta _ (by omega)]
    exact flat_get clC_len hc (by decide)
  (repeat (first | refine ia_gdN rfl ?_ | refine ia_gdU rfl ?_ | ((first | refine ia_op ?_ | refine ia_gdY rfl ?_); first | refine oa_move rfl ?_ | refine oa_assign rfl ?_ | refine oa_nilCheck rfl ?_ | refine oa_fieldAddr FpF.h (by decide) rfl ?_ | refine oa_indexP UnF.h SzF.h rfl hpk rfl rfl hi ?_ | refine oa_load1 PlF.h rfl hrowk hk0 ?_ | refine oa_indexP UnF.h SzF.h rfl hpa rfl rfl hxA ?_ | refine oa_load1 PlF.h rfl hrowa ha0 ?_ | refine oa_lssF rfl rfl (by omega) ?_ | refine oa_lssT rfl rfl (by omega) ?_ | refine oa_leqF rfl rfl (by omega) ?_ | refine oa_leqT rfl rfl (by omega) ?_ | refine oa_gtrF rfl rfl (by omega) ?_ | refine oa_gtrT rfl rfl (by omega) ?_ | refine oa_geqF rfl rfl (by omega) ?_ | refine oa_geqT rfl rfl (by omega) ?_ | refine oa_eqlF rfl rfl (by omega) ?_ | refine oa_eqlT rfl rfl (by omega) ?_ | refine oa_neqF rfl rfl (by omega) ?_ | refine oa_neqT rfl rfl (by omega) ?_ | refine oa_pickT rfl rfl rfl ?_ | refine oa_pickF rfl rfl ?_ | refine oa_not rfl ?_ | refine oa_extract rfl rfl ?_)))
  refine ia_op (oa_struct BsF.h ZeF.h PsF.h rfl ?_)
  refine ia_op (oa_alloc ZeF.h fun H2 hk2 hr2 => ?_)
  obtain ⟨b16, hb16⟩ : ∃ b, b = H1.nx := ⟨_, rfl⟩
  rw [← hb16] at hr2 ⊢
  have hl2 := hr2.1
  refine ia_op (oa_storeAll (k := 2) SzF.h rfl rfl rfl rfl hr2 rfl fun H3 hk3 hn3 hr3 => ?_)
  have hK13 : Keep Non H1 H3 := hk2.trans hk3 fun k h => .inr (by omega)
  have hr3' : IsRow H3 b16 (evC (evF ps cs (·.1) 8 (procOf A x) 0)) false false := by rw [hpo]; exact hr3
  refine ia_nil (va_seq (va_seqr ?_))
  refine ia_pl rfl ?_
  refine ia_nil (va_block ?_)
  refine va_loop (fun (k : Nat) => [(0, va), (1, vks), (2, vb), (3, vls), (4, vp), (13, .nils), (12, u), (14, uc), (15, .int .i64 (i : Int)), (16, .ptr b16 0), (17, .int .i64 (k : Int))]) (fun k H' => Keep (· = b16) H3 H' ∧ k ≤ ps.length ∧ IsRow H' b16 (evC (evF ps cs (·.1) 8 (procOf A x) k)) false false) (fun k => ps.length - k) ?_ 0 _ H3 ⟨rfl, rfl, rfl, rfl, rfl, rfl, rfl, rfl, rfl, rfl, rfl, trivial⟩ ⟨.refl _ _, Nat.zero_le _, hr3'⟩
  rintro k H4 ⟨hk4, hkl, hr4⟩
  have hK14 : Keep Non H1 H4 := hK13.trans hk4 fun k h => .inr (by omega)
  have hvp4 := (hvp.keep0 hk1).keep0 hK14
  refine va_seq (va_seqr ?_)
  refine ia_pl rfl ?_; (repeat ((first | refine ia_op (oa_lenSl rfl rfl rfl UnF.h rfl hvp4 ?_)); refine ia_pl rfl ?_))
  by_cases hkp : k < ps.length
  rotate_left
  · obtain rfl : k = ps.length := by omega
    refine ia_op (oa_lssW rfl rfl (decide_eq_false (by omega)) (ia_nil (va_condF rfl (va_exit (va_reg ?_)))))
    refine ia_pl rfl ?_
    refine ia_op (oa_loadN (z := 2) (i := 0) PlF.h rfl hr4 (Nat.le_refl 2) ?_)
    refine ia_op (oa_newSlice (n := 1) ElF.h (by decide) rfl rfl fun H5 hk5 hr5 => ?_)
    refine ia_op (oa_append rfl rfl rfl ElF.h (.inl UnF.h) rfl ((ho.keep0 hK14).keep0 hk5) rfl (IsRow.sl (es := 2) (n := 1) hr5 rfl (Nat.le_refl 1)).elems rfl rfl (by omega) fun u' H6 ho6 hk6 hb6 => ?_)
    refine ia_pl rfl ?_
    refine ia_nil (va_reg ?_)
    refine ia_pl rfl ?_
    refine ia_op (oa_addW (c := ((i + 1 : Nat) : Int)) rfl rfl (wrapE_i64 (by omega) (by omega) (by omega)) ?_)
    refine ia_pl rfl ?_
    have hKL5 := (hk1.trans0 hK14).trans0 hk5
    refine ia_nil ⟨(i + 1, u'), ?_, ⟨rfl, rfl, rfl, rfl, rfl, rfl, rfl, rfl, rfl, trivial⟩, hKL5.trans hk6 fun c hc => .inr (hno c hc), by simp only; omega, ?_, fun c hc => (hb6 c hc).elim (hno c) fun h => Nat.le_trans hKL5.nx h⟩
    · show ks.length - (i + 1) < ks.length - i
      omega
    · simp only
      rw [htake, List.length_append, List.map_append, List.flatMap_append]
      exact ho6
  refine ia_op (oa_lssW rfl rfl (decide_eq_true (by omega)) (ia_nil (va_condT rfl (va_skip (va_seq ?_)))))
  obtain ⟨ck, hck⟩ : ∃ ck, cs[k]? = some ck := ⟨_, List.getElem?_eq_getElem (by omega)⟩
  obtain ⟨q, hq⟩ : ∃ q, ps[k]? = some q := ⟨_, List.getElem?_eq_getElem hkp⟩
  obtain ⟨bu, ou, rowu, tlu, rou, hpu, hrowu, hgetu⟩ := isSl_ix (((huc.keep0 hk1).keep0 hK14)) (by omega)
  obtain ⟨bp, op, rowp, tlp, rop, hpp, hrowp, hgetp⟩ := isSl_ix hvp4 (by omega)
  have hflu : (cs.flatMap bC).length = cs.length * 1 := flat_length bC_len cs
  have hflp : (ps.flatMap prC).length = ps.length * 2 := flat_length prC_len ps
  have hcu : rowu[ou + k * 1]? = some (.bool ck) := by
    rw [hgetu _ (by omega)]
    exact flat_get bC_len (o := 0) hck (by decide)
  have hcp : rowp[op + k * 2 + 0 * 1]? = some (.int .i64 q.1) := by
    rw [show op + k * 2 + 0 * 1 = op + (k * 2 + 0) by omega, hgetp _ (by omega)]
    exact flat_get prC_len hq (by decide)
  have hkcs : k < cs.length := by omega
  have hrowk4 := hrowk.keep0 hK14
  have hrowa4 := hrowa.keep0 hK14
  refine va_cut (fun l' H' => Keep (· = b16) H3 H' ∧ IsRow H' b16 (evC (evF ps cs (·.1) 8 (procOf A x) (k + 1))) false false ∧ Sb [(0, va), (1, vks), (2, vb), (3, vls), (4, vp), (13, .nils), (12, u), (14, uc), (15, .int .i64 (i : Int)), (16, .ptr b16 0), (17, .int .i64 (k : Int))] l') ?_ ?_
  · refine va_block (va_seqr ?_)
    cases ck with
    | false =>
      (repeat (first | refine ia_gdN rfl ?_ | refine ia_gdU rfl ?_ | ((first | refine ia_op ?_ | refine ia_gdY rfl ?_); first | refine oa_move rfl ?_ | refine oa_assign rfl ?_ | refine oa_nilCheck rfl ?_ | refine oa_fieldAddr FpF.h (by decide) rfl ?_ | refine oa_indexP UnF.h SzF.h rfl hpu rfl rfl hkcs ?_ | refine oa_load1 PlF.h rfl hrowu hcu ?_ | refine oa_lssF rfl rfl (by omega) ?_ | refine oa_lssT rfl rfl (by omega) ?_ | refine oa_leqF rfl rfl (by omega) ?_ | refine oa_leqT rfl rfl (by omega) ?_ | refine oa_gtrF rfl rfl (by omega) ?_ | refine oa_gtrT rfl rfl (by omega) ?_ | refine oa_geqF rfl rfl (by omega) ?_ | refine oa_geqT rfl rfl (by omega) ?_ | refine oa_eqlF rfl rfl (by omega) ?_ | refine oa_eqlT rfl rfl (by omega) ?_ | refine oa_neqF rfl rfl (by omega) ?_ | refine oa_neqT rfl rfl (by omega) ?_ | refine oa_pickT rfl rfl rfl ?_ | refine oa_pickF rfl rfl ?_ | refine oa_not rfl ?_ | refine oa_extract rfl rfl ?_)))
      refine ia_nil (va_condF rfl (va_skip ⟨hk4, ?_, rfl, rfl, rfl, rfl, rfl, rfl, rfl, rfl, rfl, rfl, rfl, trivial⟩))
      simp only [evF]
      rw [if_neg (by rw [hck]; simp)]
      exact hr4
    | true =>
      by_cases e1 : q.1 = c.proc
      · (repeat (first | refine ia_gdN rfl ?_ | refine ia_gdU rfl ?_ | ((first | refine ia_op ?_ | refine ia_gdY rfl ?_); first | refine oa_move rfl ?_ | refine oa_assign rfl ?_ | refine oa_nilCheck rfl ?_ | refine oa_fieldAddr FpF.h (by decide) rfl ?_ | refine oa_indexP UnF.h SzF.h rfl hpu rfl rfl hkcs ?_ | refine oa_load1 PlF.h rfl hrowu hcu ?_ | refine oa_indexP UnF.h SzF.h rfl hpp rfl rfl hkp ?_ | refine oa_indexArr (j := 0) UnF.h SzF.h rfl rfl rfl (by decide) ?_ | refine oa_load1 PlF.h rfl hrowp hcp ?_ | refine oa_indexP UnF.h SzF.h rfl hpk rfl rfl hi ?_ | refine oa_load1 PlF.h rfl hrowk4 hk0 ?_ | refine oa_indexP UnF.h SzF.h rfl hpa rfl rfl hxA ?_ | refine oa_load1 PlF.h rfl hrowa4 ha0 ?_ | refine oa_lssF rfl rfl (by omega) ?_ | refine oa_lssT rfl rfl (by omega) ?_ | refine oa_leqF rfl rfl (by omega) ?_ | refine oa_leqT rfl rfl (by omega) ?_ | refine oa_gtrF rfl rfl (by omega) ?_ | refine oa_gtrT rfl rfl (by omega) ?_ | refine oa_geqF rfl rfl (by omega) ?_ | refine oa_geqT rfl rfl (by omega) ?_ | refine oa_eqlF rfl rfl (by omega) ?_ | refine oa_eqlT rfl rfl (by omega) ?_ | refine oa_neqF rfl rfl (by omega) ?_ | refine oa_neqT rfl rfl (by omega) ?_ | refine oa_pickT rfl rfl rfl ?_ | refine oa_pickF rfl rfl ?_ | refine oa_not rfl ?_ | refine oa_extract rfl rfl ?_)))
        refine ia_nil (va_condT rfl (va_reg ?_))
        refine ia_pl rfl ?_
        refine ia_op (oa_struct BsF.h ZeF.h PsF.h rfl ?_)
        refine ia_op (oa_storeAll (k := 2) SzF.h rfl rfl rfl rfl hr4 rfl fun H5 hk5 hn5 hr5 => ?_)
        refine ia_nil ⟨hk4.trans hk5 fun c hc => .inl hc, ?_, rfl, rfl, rfl, rfl, rfl, rfl, rfl, rfl, rfl, rfl, rfl, trivial⟩
        simp only [evF]
        rw [if_pos (by rw [hck, hq, hpo]; simp [e1])]
        exact hr5
      · (repeat (first | refine ia_gdN rfl ?_ | refine ia_gdU rfl ?_ | ((first | refine ia_op ?_ | refine ia_gdY rfl ?_); first | refine oa_move rfl ?_ | refine oa_assign rfl ?_ | refine oa_nilCheck rfl ?_ | refine oa_fieldAddr FpF.h (by decide) rfl ?_ | refine oa_indexP UnF.h SzF.h rfl hpu rfl rfl hkcs ?_ | refine oa_load1 PlF.h rfl hrowu hcu ?_ | refine oa_indexP UnF.h SzF.h rfl hpp rfl rfl hkp ?_ | refine oa_indexArr (j := 0) UnF.h SzF.h rfl rfl rfl (by decide) ?_ | refine oa_load1 PlF.h rfl hrowp hcp ?_ | refine oa_indexP UnF.h SzF.h rfl hpk rfl rfl hi ?_ | refine oa_load1 PlF.h rfl hrowk4 hk0 ?_ | refine oa_indexP UnF.h SzF.h rfl hpa rfl rfl hxA ?_ | refine oa_load1 PlF.h rfl hrowa4 ha0 ?_ | refine oa_lssF rfl rfl (by omega) ?_ | refine oa_lssT rfl rfl (by omega) ?_ | refine oa_leqF rfl rfl (by omega) ?_ | refine oa_leqT rfl rfl (by omega) ?_ | refine oa_gtrF rfl rfl (by omega) ?_ | refine oa_gtrT rfl rfl (by omega) ?_ | refine oa_geqF rfl rfl (by omega) ?_ | refine oa_geqT rfl rfl (by omega) ?_ | refine oa_eqlF rfl rfl (by omega) ?_ | refine oa_eqlT rfl rfl (by omega) ?_ | refine oa_neqF rfl rfl (by omega) ?_ | refine oa_neqT rfl rfl (by omega) ?_ | refine oa_pickT rfl rfl rfl ?_ | refine oa_pickF rfl rfl ?_ | refine oa_not rfl ?_ | refine oa_extract rfl rfl ?_)))
        refine ia_nil (va_condF rfl (va_skip ⟨hk4, ?_, rfl, rfl, rfl, rfl, rfl, rfl, rfl, rfl, rfl, rfl, rfl, trivial⟩))
        simp only [evF]
        rw [if_neg (by rw [hck, hq, hpo]; simp [e1])]
        exact hr4
  rintro l5 H5 ⟨hk5, hr5, hs5⟩
  refine VA.sub hs5 (va_reg ?_)
  refine ia_pl rfl ?_
  refine ia_op (oa_addW (c := ((k + 1 : Nat) : Int)) rfl rfl (wrapE_i64 (by omega) (by omega) (by omega)) ?_)
  refine ia_pl rfl ?_
  refine ia_nil ⟨k + 1, ?_, ⟨rfl, rfl, rfl, rfl, rfl, rfl, rfl, rfl, rfl, rfl, rfl, trivial⟩, hk5, by omega, hr5⟩
  show ps.length - (k + 1) < ps.length - k
  omega
end
end Go.Proofs.YtndhniapohlniaaGreatDoor
