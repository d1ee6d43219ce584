/-
  Matched calls, the document's way: under and Match (parallaxref16), walked. Conditions: the calls' number.
-/
import Derived.Test.YtndhniapohlniaaGreatDoorMat4
namespace Go.Proofs.YtndhniapohlniaaGreatDoor
open Go Go.Proofs.YtndhniapohlniaaGreatDoor.Eng
/-! facts about types -/
theorem fp_96_0 : fieldPlc Tryz.prog 96 0 = some ⟨0, false, 1⟩ := by kernel_rfl
instance ifp_96_0 : FpF Tryz.prog 96 0 ⟨0, false, 1⟩ := ⟨fp_96_0⟩
theorem fp_96_1 : fieldPlc Tryz.prog 96 1 = some ⟨1, false, 1⟩ := by kernel_rfl
instance ifp_96_1 : FpF Tryz.prog 96 1 ⟨1, false, 1⟩ := ⟨fp_96_1⟩
/-! f22: parallax/parallaxref16.under, parameters #[35, 35, 3, 3, 23, 3] -/
def v22l0h0 : CV := .seq (.reg [.op (some 50) (.move (.tmp 21)),
    .op (some 51) (.move (.tmp 19)),
    .op (some 52) (.call ⟨.builtin .len, #[(.tmp 51)], #[32]⟩),
    .op (some 53) (.binOp .lss 3 (.tmp 50) (.tmp 52) 3)])
  (.cond (.tmp 53) (.skip) (.exit 0))
def v22k0t1 : CV := .seq (.reg [.op (some 80) (.move (.tmp 14)),
    .op (some 81) (.move (.tmp 22)),
    .op (some 82) (.call ⟨.builtin .append, #[(.tmp 80), (.tmp 81)], #[32, 32]⟩),
    .op (some 14) (.assign (.tmp 82))])
  (.reg [.op (some 83) (.move (.tmp 20)),
    .op (some 84) (.move (.tmp 83)),
    .gd 84 false (some 85) (.move (.tmp 23)),
    .op (some 86) (.pick (.tmp 84) (.const (.bool true)) (.tmp 85)),
    .op (some 20) (.assign (.tmp 86))])
def v22k0 : CV := .seq (.reg [.op (some 57) (.move (.tmp 0)),
    .op (some 58) (.move (.tmp 1)),
    .op (some 59) (.move (.tmp 15)),
    .op (some 60) (.move (.tmp 19)),
    .op (some 61) (.move (.tmp 21)),
    .op (some 62) (.indexAddr 32 (.tmp 60) (.tmp 61)),
    .op (some 63) (.fieldAddr 96 (.tmp 62) 0),
    .op (some 64) (.load 3 (.tmp 63)),
    .op (some 65) (.indexAddr 52 (.tmp 59) (.tmp 64)),
    .op (some 66) (.load 3 (.tmp 65)),
    .op (some 67) (.move (.tmp 16)),
    .op (some 68) (.move (.tmp 19)),
    .op (some 69) (.move (.tmp 21)),
    .op (some 70) (.indexAddr 32 (.tmp 68) (.tmp 69)),
    .op (some 71) (.fieldAddr 96 (.tmp 70) 1),
    .op (some 72) (.load 3 (.tmp 71)),
    .op (some 73) (.indexAddr 52 (.tmp 67) (.tmp 72)),
    .op (some 74) (.load 3 (.tmp 73)),
    .op (some 75) (.move (.tmp 4)),
    .op (some 76) (.move (.tmp 5)),
    .op (some 77) (.call ⟨.value (.func 22), #[(.tmp 57), (.tmp 58), (.tmp 66), (.tmp 74), (.tmp 75), (.tmp 76)], #[35, 35, 3, 3, 23, 3]⟩),
    .op (some 56) (.move (.tmp 77)),
    .op (some 78) (.extract (.tmp 56) 0),
    .op (some 79) (.extract (.tmp 56) 1),
    .op (some 22) (.assign (.tmp 78)),
    .op (some 23) (.assign (.tmp 79))]) v22k0t1
def v22l0t1 : CV := .seq (.block 1 v22k0)
  (.reg [.op (some 54) (.move (.tmp 21)),
    .op (some 55) (.binOp .add 3 (.tmp 54) (.const (.int .i64 1)) 3),
    .op (some 21) (.assign (.tmp 55))])
def v22l0 : CV := .seq v22l0h0 v22l0t1
def v22h5 : CV := .seq (.reg [.op (some 21) (.assign (.const (.int .i64 0)))])
  (.block 0 (.loop v22l0))
def v22t6 : CV := .seq (.reg [.op (some 87) (.move (.tmp 14)),
    .op (some 88) (.move (.tmp 20)),
    .op (some 12) (.assign (.tmp 87)),
    .op (some 13) (.assign (.tmp 88))])
  (.ret)
def v22t5 : CV := .seq v22h5 v22t6
def v22t4 : CV := .seq (.reg [.op (some 44) (.move (.tmp 17)),
    .op (some 45) (.move (.tmp 18)),
    .op (some 46) (.move (.tmp 5)),
    .op (some 47) (.call ⟨.value (.func 47), #[(.tmp 44), (.tmp 45), (.tmp 46)], #[151, 151, 3]⟩),
    .op (some 43) (.move (.tmp 47)),
    .op (some 48) (.extract (.tmp 43) 0),
    .op (some 49) (.extract (.tmp 43) 1),
    .op (some 19) (.assign (.tmp 48)),
    .op (some 20) (.assign (.tmp 49))]) v22t5
def v22t3 : CV := .seq (.reg [.op (some 35) (.move (.tmp 0)),
    .op (some 36) (.move (.tmp 15)),
    .op (some 37) (.move (.tmp 1)),
    .op (some 38) (.move (.tmp 16)),
    .op (some 39) (.move (.tmp 4)),
    .op (some 40) (.call ⟨.value (.func 46), #[(.tmp 35), (.tmp 36), (.tmp 37), (.tmp 38), (.tmp 39)], #[35, 52, 35, 52, 23]⟩),
    .op (some 34) (.move (.tmp 40)),
    .op (some 41) (.extract (.tmp 34) 0),
    .op (some 42) (.extract (.tmp 34) 1),
    .op (some 17) (.assign (.tmp 41)),
    .op (some 18) (.assign (.tmp 42))]) v22t4
def v22t2 : CV := .seq (.reg [.op (some 28) (.move (.tmp 0)),
    .op (some 29) (.move (.tmp 2)),
    .op (some 30) (.call ⟨.value (.func 45), #[(.tmp 28), (.tmp 29)], #[35, 3]⟩),
    .op (some 31) (.move (.tmp 1)),
    .op (some 32) (.move (.tmp 3)),
    .op (some 33) (.call ⟨.value (.func 45), #[(.tmp 31), (.tmp 32)], #[35, 3]⟩),
    .op (some 15) (.assign (.tmp 30)),
    .op (some 16) (.assign (.tmp 33))]) v22t3
def v22t1 : CV := .seq (.reg [.op (some 24) (.move (.tmp 2)),
    .op (some 25) (.move (.tmp 3)),
    .op (some 26) (.build 96 #[(0, (.tmp 24)), (1, (.tmp 25))]),
    .op (some 27) (.buildSlice 32 1 #[(0, (.tmp 26))]),
    .op (some 14) (.assign (.tmp 27))]) v22t2
def v22 : CV := .seq (.reg [.op (some 12) (.assign (.const (.slice none 0 0))),
    .op (some 13) (.assign (.const (.bool false)))]) v22t1
noncomputable def b22 : Code := Tryz.f22.body.getD .skip
theorem b22_eq : Tryz.f22.body = some b22 := by kernel_rfl
theorem v22_eq : viewC Tryz.prog b22 = some v22 := by kernel_rfl
theorem r22_eq : Tryz.f22.results.toList = [.tmp 12, .tmp 13] := by kernel_rfl
/-! f9: parallax/parallaxref16.Match, parameters #[35, 35, 23, 3] -/
def v9c0 : CV := .seq (.reg [.op (some 8) (.assign (.const (.slice none 0 0))),
    .op (some 9) (.assign (.const (.bool false)))])
  (.ret)
def v9h1 : CV := .seq (.reg [.op (some 13) (.move (.tmp 0)),
    .op (some 14) (.call ⟨.builtin .len, #[(.tmp 13)], #[35]⟩),
    .op (some 15) (.binOp .eql 3 (.tmp 14) (.const (.int .i64 0)) 3),
    .op (some 16) (.move (.tmp 15)),
    .gd 16 false (some 17) (.move (.tmp 1)),
    .gd 16 false (some 18) (.call ⟨.builtin .len, #[(.tmp 17)], #[35]⟩),
    .gd 16 false (some 19) (.binOp .eql 3 (.tmp 18) (.const (.int .i64 0)) 3),
    .op (some 20) (.pick (.tmp 16) (.const (.bool true)) (.tmp 19))])
  (.cond (.tmp 20) v9c0 (.skip))
def v9l1h0 : CV := .seq (.reg [.op (some 23) (.move (.tmp 12)),
    .op (some 24) (.move (.tmp 2)),
    .op (some 25) (.call ⟨.builtin .len, #[(.tmp 24)], #[23]⟩),
    .op (some 26) (.binOp .lss 3 (.tmp 23) (.tmp 25) 3)])
  (.cond (.tmp 26) (.skip) (.exit 0))
def v9l1t1 : CV := .seq (.block 1 (.reg [.op (some 29) (.move (.tmp 10)),
    .op (some 30) (.move (.tmp 29)),
    .gd 30 false (some 31) (.move (.tmp 11)),
    .gd 30 false (some 32) (.move (.tmp 12)),
    .gd 30 false (some 33) (.indexAddr 92 (.tmp 31) (.tmp 32)),
    .gd 30 false (some 34) (.load 4 (.tmp 33)),
    .gd 30 false (some 35) (.move (.tmp 34)),
    .gd 35 true (some 36) (.move (.tmp 2)),
    .gd 35 true (some 37) (.move (.tmp 12)),
    .gd 35 true (some 38) (.indexAddr 23 (.tmp 36) (.tmp 37)),
    .gd 35 true (some 39) (.indexAddr 45 (.tmp 38) (.const (.int .i64 0))),
    .gd 35 true (some 40) (.load 3 (.tmp 39)),
    .gd 35 true (some 41) (.move (.tmp 0)),
    .gd 35 true (some 42) (.indexAddr 35 (.tmp 41) (.const (.int .i64 0))),
    .gd 35 true (some 43) (.fieldAddr 94 (.tmp 42) 0),
    .gd 35 true (some 44) (.load 3 (.tmp 43)),
    .gd 35 true (some 45) (.binOp .eql 3 (.tmp 40) (.tmp 44) 3),
    .gd 30 false (some 46) (.pick (.tmp 35) (.tmp 45) (.const (.bool false))),
    .gd 30 false (some 47) (.move (.tmp 46)),
    .gd 47 true (some 48) (.move (.tmp 2)),
    .gd 47 true (some 49) (.move (.tmp 12)),
    .gd 47 true (some 50) (.indexAddr 23 (.tmp 48) (.tmp 49)),
    .gd 47 true (some 51) (.indexAddr 45 (.tmp 50) (.const (.int .i64 1))),
    .gd 47 true (some 52) (.load 3 (.tmp 51)),
    .gd 47 true (some 53) (.move (.tmp 1)),
    .gd 47 true (some 54) (.indexAddr 35 (.tmp 53) (.const (.int .i64 0))),
    .gd 47 true (some 55) (.fieldAddr 94 (.tmp 54) 0),
    .gd 47 true (some 56) (.load 3 (.tmp 55)),
    .gd 47 true (some 57) (.binOp .eql 3 (.tmp 52) (.tmp 56) 3),
    .gd 30 false (some 58) (.pick (.tmp 47) (.tmp 57) (.const (.bool false))),
    .op (some 59) (.pick (.tmp 30) (.const (.bool true)) (.tmp 58)),
    .op (some 10) (.assign (.tmp 59))]))
  (.reg [.op (some 27) (.move (.tmp 12)),
    .op (some 28) (.binOp .add 3 (.tmp 27) (.const (.int .i64 1)) 3),
    .op (some 12) (.assign (.tmp 28))])
def v9l1 : CV := .seq v9l1h0 v9l1t1
def v9h4 : CV := .seq (.reg [.op (some 12) (.assign (.const (.int .i64 0)))])
  (.block 0 (.loop v9l1))
def v9c2 : CV := .seq (.reg [.op (some 8) (.assign (.const (.slice none 0 0))),
    .op (some 9) (.assign (.const (.bool false)))])
  (.ret)
def v9h5 : CV := .seq (.reg [.op (some 60) (.move (.tmp 10)),
    .op (some 61) (.unOp .not 4 (.tmp 60))])
  (.cond (.tmp 61) v9c2 (.skip))
def v9t6 : CV := .seq (.reg [.op (some 62) (.move (.tmp 0)),
    .op (some 63) (.move (.tmp 1)),
    .op (some 64) (.move (.tmp 2)),
    .op (some 65) (.move (.tmp 3)),
    .op (some 66) (.call ⟨.value (.func 22), #[(.tmp 62), (.tmp 63), (.const (.int .i64 0)), (.const (.int .i64 0)), (.tmp 64), (.tmp 65)], #[35, 35, 3, 3, 23, 3]⟩),
    .op (some 67) (.extract (.tmp 66) 0),
    .op (some 68) (.extract (.tmp 66) 1),
    .op (some 8) (.assign (.tmp 67)),
    .op (some 9) (.assign (.tmp 68))])
  (.ret)
def v9t5 : CV := .seq v9h5 v9t6
def v9t4 : CV := .seq v9h4 v9t5
def v9t3 : CV := .seq (.reg [.op (some 21) (.move (.tmp 2)),
    .op (some 22) (.call ⟨.value (.func 21), #[(.tmp 21)], #[23]⟩),
    .op (some 11) (.assign (.tmp 22))]) v9t4
def v9t2 : CV := .seq (.reg [.op (some 10) (.assign (.const (.bool false)))]) v9t3
def v9t1 : CV := .seq v9h1 v9t2
def v9 : CV := .seq (.reg [.op (some 8) (.assign (.const (.slice none 0 0))),
    .op (some 9) (.assign (.const (.bool false)))]) v9t1
noncomputable def b9 : Code := Tryz.f9.body.getD .skip
theorem b9_eq : Tryz.f9.body = some b9 := by kernel_rfl
theorem v9_eq : viewC Tryz.prog b9 = some v9 := by kernel_rfl
theorem r9_eq : Tryz.f9.results.toList = [.tmp 8, .tmp 9] := by kernel_rfl

/-- pairs so far: as they were laid, or the call's own -/
def AccV (n0 : Nat) (H : Heap) (u : AV) (out : List (Nat × Nat)) : Prop := (∃ b, u = .sl b 0 out.length out.length ∧ IsRow H b (out.flatMap prN) false false) ∨ (Own H u 2 out.length (out.flatMap prN) ∧ ∀ c, ownB u c → n0 ≤ c)
theorem AccV.sl {n0 : Nat} {H : Heap} {u : AV} {out : List (Nat × Nat)} (h : AccV n0 H u out) : IsSl H u 2 out.length (out.flatMap prN) := by
  rcases h with ⟨b, rfl, hr⟩ | ⟨ho, _⟩
  · exact hr.sl (flat_length prN_len out) (Nat.le_refl _)
  · exact ho.sl
theorem AccV.mono {n0 n1 : Nat} {H : Heap} {u : AV} {out : List (Nat × Nat)} (h : AccV n0 H u out) (k : n1 ≤ n0) : AccV n1 H u out := h.imp id fun ⟨a, b⟩ => ⟨a, fun c hc => Nat.le_trans k (b c hc)⟩
theorem AccV.keep0 {n0 : Nat} {H H' : Heap} {u : AV} {out : List (Nat × Nat)} (h : AccV n0 H u out) (k : Keep Non H H') : AccV n0 H' u out := by
  rcases h with ⟨b, h1, hr⟩ | ⟨ho, h2⟩
  · exact .inl ⟨b, h1, hr.keep0 k⟩
  · exact .inr ⟨ho.keep0 k, h2⟩
section
variable {tb : List FuncId} {gl : List (List AV)} {H : Heap} {va vb vp : AV} {Q : AV → Heap → Prop}
theorem oa_accAppend {n0 : Nat} {u w : AV} {out : List (Nat × Nat)} {c : Call} {x y : Operand} {l : Fm} {t e u' : TypeId} {z : AV} {xs : List AV} {m : Nat} (hc : c.callee = .builtin .append) (ha : c.args.toList = [x, y]) (ht : c.argTypes.toList = [t, u']) (hE : elemI Tryz.prog t = some ⟨e, 2, z⟩) (hu : Tryz.prog.underlying u' = some (.slice e) ∨ Tryz.prog.underlying u' = some .string)
    (hx : evA x l = some u) (acc : AccV n0 H u out) (hn0 : n0 ≤ H.nx) (hy : evA y l = some w) (hel : elemsOf H w 2 = some (m, xs)) (hlen : xs.length = m * 2) (hs : scalL xs = true) (hm : 0 < m) (hn : out.length + m < limit)
    (q : ∀ v' H', Own H' v' 2 (out.length + m) (out.flatMap prN ++ xs) → Keep (fun c => n0 ≤ c) H H' → (∀ c, ownB v' c → n0 ≤ c) → Q v' H') : OA Tryz.prog tb gl (.call c) l H Q := by
  rcases acc with ⟨b, rfl, hr⟩ | ⟨ho, hnew⟩
  · have hol : (out.flatMap prN ++ xs).length = (out.length + m) * 2 := by rw [List.length_append, flat_length prN_len, hlen]; omega
    obtain ⟨h1, h2⟩ := newOpen_own (H := H) hol hn
    refine oa (fun T hT => ?_) (q _ _ h2 ((keep_push _ _).wide fun _ h => h.elim) fun c hc => by have hc : c = H.nx := hc; omega)
    have hx' : evL [x, y] T = some [.sl b 0 out.length out.length, w] := evLA_ok hT (by simp only [evLA, hx, hy])
    have hm' : Nat.blt m limit = true := by rw [blt_iff]; simp; omega
    obtain ⟨_, tr, hB, hT'⟩ := hr
    have e1 : Nat.ble (Nat.add out.length m) out.length = false := by
      rw [ble_iff]
      exact decide_eq_false (by show ¬ out.length + m ≤ out.length; omega)
    have e2 : takeC tr 0 (Nat.mul out.length 2) = some (out.flatMap prN) := takeC_some _ _ _ (flat_length prN_len out) fun j hj => by
      rw [Nat.zero_add]
      exact hT' j (by rw [flat_length prN_len]; exact hj)
    have h1' : newOpen H (Nat.add out.length m) 2 (out.flatMap prN ++ xs) = _ := h1
    simp only [oper, oCall, ha, hx', hc, ht, oBuiltin, oAppend, hE]
    rcases hu with hu | hu
    · simp only [hu, appS, hel, hm', cond_true, appendR, e1, cond_false, hB, e2, h1']
    · simp only [hu, appS, hel, hm', cond_true, appendR, e1, cond_false, hB, e2, h1']
  · exact oa_append hc ha ht hE hu hx ho hy hel hlen hs hn fun v' H' h1 h2 h3 => q v' H' h1 (h2.wide hnew) fun c hc => (h3 c hc).elim (hnew c) fun h => Nat.le_trans hn0 h
variable (A B : List Cl) (ps : List (Int × Int)) (lim : Int) (va vb vp) (H0 : Heap)
variable (tb gl) in
def UndS (d : Nat) : Prop := ∀ (i j : Nat) (H : Heap) (Q : AV → Heap → Prop), A.length - i ≤ d → i < A.length → j < B.length → Keep Non H0 H →
  (∀ out c u H', VisW A B (numT 0 ps [] []).1 (numT 0 ps [] []).2 lim [(i, j)] out c → Keep Non H H' → AccV H.nx H' u out → Q (.tup [u, .bool c]) H') → WpF Tryz.prog tb gl 22 [va, vb, .int .i64 (i : Int), .int .i64 (j : Int), vp, .int .i64 lim] H Q
variable {A B ps lim va vb vp H0}
set_option maxHeartbeats 0 in
theorem under_ok {nA nB : Nat} {op op' : List Nat} (I : TInv nA A op) (J : TInv nB B op') (hA : A.length ≤ 500) (hB : B.length ≤ 500) (hps : ps.length < 1000) (hlim0 : -9223372036854775808 ≤ lim ∧ lim < 9223372036854775808)
    (hva : IsSl H0 va 4 A.length (A.flatMap clC)) (hvb : IsSl H0 vb 4 B.length (B.flatMap clC)) (hvp : IsSl H0 vp 2 ps.length (ps.flatMap prC)) : ∀ d, UndS tb gl va vb vp A B ps lim H0 d := by
  intro d
  have hlim : limit = 1000000 := rfl
  induction d with
  | zero => intro i j H Q hd hi; omega
  | succ d ih =>
  intro i j H Q hd hi hj hk0 hQ
  have hva0 := hva.keep0 hk0
  have hvb0 := hvb.keep0 hk0
  have hvp0 := hvp.keep0 hk0
  refine fa Tryz.func22 b22_eq v22_eq r22_eq (.inr (by simp)) ?_
  refine va_seqr ?_
  refine ia_pl rfl ?_
  refine ia_nil (va_seqr ?_)
  refine ia_pl rfl ?_
  refine ia_op (oa_struct BsF.h ZeF.h PsF.h rfl ?_)
  refine ia_op (oa_newSlice (n := 1) ElF.h (by decide) rfl rfl fun H1 hk1 hr1 => ?_)
  refine ia_pl rfl ?_
  have acc1 : ∀ n0, AccV n0 H1 (.sl H.nx 0 1 1) [(i, j)] := fun _ => .inl ⟨H.nx, rfl, hr1⟩
  refine ia_nil (va_seqr ?_)
  refine ia_pl rfl ?_
  refine ia_op (oa_call rfl rfl rfl (rKids_ok (A := A) (k := i) (by omega) (by omega) (hva0.keep0 hk1) fun ux H2 hk2 hox hnx => ?_))
  refine ia_pl rfl ?_
  refine ia_op (oa_call rfl rfl rfl (rKids_ok (A := B) (k := j) (by omega) (by omega) ((hvb0.keep0 hk1).keep0 hk2) fun uy H3 hk3 hoy hny => ?_))
  refine ia_pl rfl ?_
  have hK13 := hk2.trans0 hk3
  have hKH3 := hk1.trans0 hK13
  have hkl : (kidA A i).length ≤ A.length := kidsT_len A i A.length
  have hkr : (kidA B j).length ≤ B.length := kidsT_len B j B.length
  refine ia_nil (va_seqr ?_)
  refine ia_pl rfl ?_
  refine ia_op (oa_call rfl rfl rfl (rrows_ok (A := A) (B := B) (ks := kidA A i) (ls := kidA B j) (ps := ps) hps (by omega) (by omega) (hva0.keep0 hKH3) (hvb0.keep0 hKH3) (hox.keep0 hk3).sl hoy.sl (hvp0.keep0 hKH3) (fun k hk => (mem_kidA hk).elim fun _ h => h.2.2.2) (fun k hk => (mem_kidA hk).elim fun _ h => h.2.2.2) fun cs ul um H4 hC hcl hk4 hol hom => ?_))
  refine ia_pl rfl ?_
  refine ia_nil (va_seqr ?_)
  refine ia_pl rfl ?_
  have s9 : IsSl H4 ul 2 ((kidA A i).map (evR A ps cs (·.1) 8)).length (((kidA A i).map (evR A ps cs (·.1) 8)).flatMap evC) := by rw [List.length_map]; exact hol.sl
  have s10 : IsSl H4 um 2 ((kidA B j).map (evR B ps cs (·.2) 9)).length (((kidA B j).map (evR B ps cs (·.2) 9)).flatMap evC) := by rw [List.length_map]; exact hom.sl
  refine ia_op (oa_call rfl rfl rfl (ralMatch_ok (by rw [List.length_map]; omega) (by rw [List.length_map]; omega) hlim0 s9 s10 (own_noSe hol) (own_noSe hom) fun found cm uf H5 hMat hk5 hof hnf => ?_))
  rw [List.length_map, List.length_map, rows_same hC hcl] at hMat
  refine ia_pl rfl ?_
  have hK15 := (hK13.trans0 hk4).trans0 hk5
  have hKH5 := hk1.trans0 hK15
  have hK25 := (hk3.trans0 hk4).trans0 hk5
  have hK35 := hk4.trans0 hk5
  have hfl := hMat.fits
  have hfn : found.length ≤ (kidA A i).length := by
    have := sorted_len (op := found.map (·.1)) (n := (kidA A i).length) (by rw [List.pairwise_map]; exact hfl.2.imp fun h => h.1) (fun k hk => by obtain ⟨q, hq, rfl⟩ := List.mem_map.1 hk; exact (hfl.1 q hq).1)
    rwa [List.length_map] at this
  refine ia_nil (va_seq (va_seqr ?_))
  refine ia_pl rfl ?_
  refine ia_nil (va_block ?_)
  refine va_loop (fun (a : Nat × List (Nat × Nat) × Bool × AV) => [(0, va), (1, vb), (4, vp), (5, .int .i64 lim), (14, a.2.2.2), (15, ux), (16, uy), (19, uf), (20, .bool (cm || a.2.2.1)), (21, .int .i64 (a.1 : Int))])
    (fun a H' => a.1 ≤ found.length ∧ Keep Non H5 H' ∧ VisW A B (numT 0 ps [] []).1 (numT 0 ps [] []).2 lim ((found.take a.1).map (kidP A B i j)) a.2.1 a.2.2.1 ∧ AccV H5.nx H' a.2.2.2 ((i, j) :: a.2.1)) (fun a => found.length - a.1) ?_ (0, [], false, .sl H.nx 0 1 1) _ H5 ⟨rfl, rfl, rfl, rfl, rfl, rfl, rfl, rfl, by rw [Bool.or_false]; rfl, rfl, trivial⟩ ⟨Nat.zero_le _, .refl _ _, .nil, (acc1 _).keep0 hK15⟩
  rintro ⟨q, outq, cq, u⟩ H6 ⟨hle, hk6, hvis, hacc⟩
  simp only at hle hvis hacc
  dsimp only
  have hof6 := (hof.keep0 hk6).sl
  refine va_seq (va_seqr ?_)
  refine ia_pl rfl ?_; (repeat ((first | refine ia_op (oa_lenSl rfl rfl rfl UnF.h rfl hof6 ?_)); refine ia_pl rfl ?_))
  by_cases hqn : q < found.length
  rotate_left
  · obtain rfl : q = found.length := by omega
    rw [List.take_length] at hvis
    refine ia_op (oa_lssW rfl rfl (decide_eq_false (by omega)) (ia_nil (va_condF rfl (va_exit (va_seqr ?_)))))
    refine ia_pl rfl ?_
    exact ia_nil (va_ret ⟨_, rfl, hQ ((i, j) :: outq) (cm || cq) u H6 (.step hMat (by rw [List.append_nil]; exact hvis)) (hKH5.trans0 hk6) (hacc.mono hKH5.nx)⟩)
  refine ia_op (oa_lssW rfl rfl (decide_eq_true (by omega)) (ia_nil (va_condT rfl (va_skip (va_seq (va_block (va_seqr ?_)))))))
  obtain ⟨f, hf⟩ : ∃ f, found[q]? = some f := ⟨_, List.getElem?_eq_getElem hqn⟩
  obtain ⟨fm1, fm2, fm3⟩ := hfl.1 f (List.mem_of_getElem? hf)
  obtain ⟨hkb1, hkb2⟩ := kids_bef I J hMat
  have hkm : kidP A B i j f ∈ found.map (kidP A B i j) := List.mem_map.2 ⟨f, List.mem_of_getElem? hf, rfl⟩
  obtain ⟨hki, hkj, hkA, hkB⟩ := hkb2 _ hkm
  have eP1 : (kidP A B i j f).1 = (kidA A i).getD f.1 0 := rfl
  have eP2 : (kidP A B i j f).2 = (kidA B j).getD f.2 0 := rfl
  obtain ⟨bf, of, rowf, tlf, rof, hpf, hrowf, hgetf⟩ := isSl_ix hof6 (by omega)
  have hox6 := ((hox.keep0 hK25).keep0 hk6).sl
  have hoy6 := ((hoy.keep0 hK35).keep0 hk6).sl
  obtain ⟨bx, ox, rowx, tlx, rox, hpx, hrowx, hgetx⟩ := isSl_ix hox6 (by omega)
  obtain ⟨bY, oY, rowY, tlY, roY, hpY, hrowY, hgetY⟩ := isSl_ix hoy6 (by omega)
  have lf : (found.flatMap prN).length = found.length * 2 := flat_length prN_len found
  have lx : ((kidA A i).flatMap ixC).length = (kidA A i).length * 1 := flat_length ixC_len _
  have lY : ((kidA B j).flatMap ixC).length = (kidA B j).length * 1 := flat_length ixC_len _
  have c0 : rowf[of + q * 2 + 0]? = some (.int .i64 (f.1 : Int)) := by rw [show of + q * 2 + 0 = of + (q * 2 + 0) by omega, hgetf _ (by omega)]; exact flat_get prN_len hf (by decide)
  have c1 : rowf[of + q * 2 + 1]? = some (.int .i64 (f.2 : Int)) := by rw [show of + q * 2 + 1 = of + (q * 2 + 1) by omega, hgetf _ (by omega)]; exact flat_get prN_len hf (by decide)
  have c2 : rowx[ox + f.1 * 1]? = some (.int .i64 (((kidA A i).getD f.1 0 : Nat) : Int)) := by rw [hgetx _ (by omega)]; exact flat_get ixC_len (o := 0) (getD_of fm1).2 (by decide)
  have c3 : rowY[oY + f.2 * 1]? = some (.int .i64 (((kidA B j).getD f.2 0 : Nat) : Int)) := by rw [hgetY _ (by omega)]; exact flat_get ixC_len (o := 0) (getD_of fm2).2 (by decide)
  (repeat (first | refine ia_gdN rfl ?_ | refine ia_gdU rfl ?_ | ((first | refine ia_op ?_ | refine ia_gdY rfl ?_); first | refine oa_move rfl ?_ | refine oa_assign rfl ?_ | refine oa_nilCheck rfl ?_ | refine oa_fieldAddr FpF.h (by decide) rfl ?_ | refine oa_indexP UnF.h SzF.h rfl hpf rfl rfl hqn ?_ | refine oa_load1 PlF.h rfl hrowf c0 ?_ | refine oa_load1 PlF.h rfl hrowf c1 ?_ | refine oa_indexP UnF.h SzF.h rfl hpx rfl rfl fm1 ?_ | refine oa_load1 PlF.h rfl hrowx c2 ?_ | refine oa_indexP UnF.h SzF.h rfl hpY rfl rfl fm2 ?_ | refine oa_load1 PlF.h rfl hrowY c3 ?_ | refine oa_lssF rfl rfl (by omega) ?_ | refine oa_lssT rfl rfl (by omega) ?_ | refine oa_leqF rfl rfl (by omega) ?_ | refine oa_leqT rfl rfl (by omega) ?_ | refine oa_gtrF rfl rfl (by omega) ?_ | refine oa_gtrT rfl rfl (by omega) ?_ | refine oa_geqF rfl rfl (by omega) ?_ | refine oa_geqT rfl rfl (by omega) ?_ | refine oa_eqlF rfl rfl (by omega) ?_ | refine oa_eqlT rfl rfl (by omega) ?_ | refine oa_neqF rfl rfl (by omega) ?_ | refine oa_neqT rfl rfl (by omega) ?_ | refine oa_pickT rfl rfl rfl ?_ | refine oa_pickF rfl rfl ?_ | refine oa_not rfl ?_ | refine oa_extract rfl rfl ?_)))
  refine ia_op (oa_call rfl rfl rfl (ih ((kidA A i).getD f.1 0) ((kidA B j).getD f.2 0) H6 _ (by omega) (by omega) (by omega) ((hk0.trans0 hKH5).trans0 hk6) fun out' c' u' H7 hv' hk7 hacc' => ?_))
  refine ia_pl rfl ?_
  have hvn := hvis.append hv'
  have hvn' : VisW A B (numT 0 ps [] []).1 (numT 0 ps [] []).2 lim ((found.take (q + 1)).map (kidP A B i j)) (outq ++ out') (cq || c') := by
    rw [List.take_add_one, hf, List.map_append]
    exact hvn
  have hlen := hvn'.len2 I J (hkb1.sublist ((List.take_sublist _ _).map _)) (fun p hp => by
    have hp2 : p ∈ found.map (kidP A B i j) := by
      obtain ⟨g, hg, rfl⟩ := List.mem_map.1 hp
      exact List.mem_map.2 ⟨g, List.mem_of_mem_take hg, rfl⟩
    exact ⟨(hkb2 p hp2).2.2.1, (hkb2 p hp2).2.2.2⟩)
  rw [List.length_append] at hlen
  have hpos : 0 < out'.length := by cases hv'; simp
  have hxH : H.nx ≤ H6.nx := (hKH5.trans0 hk6).nx
  have hx7 := hk7.nx
  have hx6 := hk6.nx
  have hx5 := hKH5.nx
  refine ia_nil (va_seqr ?_)
  refine ia_pl rfl ?_
  refine ia_op (oa_accAppend (n0 := H5.nx) rfl rfl rfl ElF.h (.inl UnF.h) rfl (hacc.keep0 hk7) (by omega) rfl hacc'.sl.elems (flat_length prN_len out') (scal_prN out') hpos (by simp only [List.length_cons]; omega) fun u2 H8 ho8 hk8 hn8 => ?_)
  refine ia_pl rfl ?_
  refine ia_nil (va_reg ?_)
  refine ia_pl rfl ?_
  refine IA.mono (Q := fun l' H' => H' = H8 ∧ Sb [(0, va), (1, vb), (4, vp), (5, .int .i64 lim), (14, u2), (15, ux), (16, uy), (19, uf), (20, .bool (cm || (cq || c'))), (21, .int .i64 (q : Int))] l') ?_ ?_
  · rw [← Bool.or_assoc]
    cases hb : (cm || cq) with
    | true =>
      (repeat (first | refine ia_gdN rfl ?_ | refine ia_gdU rfl ?_ | ((first | refine ia_op ?_ | refine ia_gdY rfl ?_); first | refine oa_move rfl ?_ | refine oa_assign rfl ?_ | refine oa_nilCheck rfl ?_ | refine oa_fieldAddr FpF.h (by decide) rfl ?_ | refine oa_lssF rfl rfl (by omega) ?_ | refine oa_lssT rfl rfl (by omega) ?_ | refine oa_leqF rfl rfl (by omega) ?_ | refine oa_leqT rfl rfl (by omega) ?_ | refine oa_gtrF rfl rfl (by omega) ?_ | refine oa_gtrT rfl rfl (by omega) ?_ | refine oa_geqF rfl rfl (by omega) ?_ | refine oa_geqT rfl rfl (by omega) ?_ | refine oa_eqlF rfl rfl (by omega) ?_ | refine oa_eqlT rfl rfl (by omega) ?_ | refine oa_neqF rfl rfl (by omega) ?_ | refine oa_neqT rfl rfl (by omega) ?_ | refine oa_pickT rfl rfl rfl ?_ | refine oa_pickF rfl rfl ?_ | refine oa_not rfl ?_ | refine oa_extract rfl rfl ?_)))
      exact ia_nil ⟨rfl, rfl, rfl, rfl, rfl, rfl, rfl, rfl, rfl, rfl, rfl, trivial⟩
    | false =>
      (repeat (first | refine ia_gdN rfl ?_ | refine ia_gdU rfl ?_ | ((first | refine ia_op ?_ | refine ia_gdY rfl ?_); first | refine oa_move rfl ?_ | refine oa_assign rfl ?_ | refine oa_nilCheck rfl ?_ | refine oa_fieldAddr FpF.h (by decide) rfl ?_ | refine oa_lssF rfl rfl (by omega) ?_ | refine oa_lssT rfl rfl (by omega) ?_ | refine oa_leqF rfl rfl (by omega) ?_ | refine oa_leqT rfl rfl (by omega) ?_ | refine oa_gtrF rfl rfl (by omega) ?_ | refine oa_gtrT rfl rfl (by omega) ?_ | refine oa_geqF rfl rfl (by omega) ?_ | refine oa_geqT rfl rfl (by omega) ?_ | refine oa_eqlF rfl rfl (by omega) ?_ | refine oa_eqlT rfl rfl (by omega) ?_ | refine oa_neqF rfl rfl (by omega) ?_ | refine oa_neqT rfl rfl (by omega) ?_ | refine oa_pickT rfl rfl rfl ?_ | refine oa_pickF rfl rfl ?_ | refine oa_not rfl ?_ | refine oa_extract rfl rfl ?_)))
      exact ia_nil ⟨rfl, rfl, rfl, rfl, rfl, rfl, rfl, rfl, rfl, rfl, rfl, trivial⟩
  rintro l8 H9 ⟨hH, hs8⟩
  subst hH
  refine VA.sub hs8 (va_reg ?_)
  refine ia_pl rfl ?_
  refine ia_op (oa_addW (c := ((q + 1 : Nat) : Int)) rfl rfl (wrapE_i64 (by omega) (by omega) (by omega)) ?_)
  refine ia_pl rfl ?_
  refine ia_nil ⟨(q + 1, outq ++ out', cq || c', u2), ?_, ⟨rfl, rfl, rfl, rfl, rfl, rfl, rfl, rfl, rfl, rfl, trivial⟩, by simp only; omega, (hk6.trans0 hk7).trans hk8 fun c hc => .inr hc, hvn', .inr ⟨?_, hn8⟩⟩
  · show found.length - (q + 1) < found.length - q
    omega
  · simp only [List.length_cons, List.length_append]
    rw [show outq.length + out'.length + 1 = outq.length + 1 + out'.length by omega, ← List.cons_append, List.flatMap_append]
    exact ho8
set_option maxHeartbeats 0 in
theorem rMatch_ok {A B : List Cl} {ps : List (Int × Int)} {lim : Int} {nA nB : Nat} {op op' : List Nat} (I : TInv nA A op) (J : TInv nB B op') (hA : A.length ≤ 500) (hB : B.length ≤ 500) (hA0 : 0 < A.length) (hB0 : 0 < B.length) (hps : ps.length < 1000)
    (hlim0 : -9223372036854775808 ≤ lim ∧ lim < 9223372036854775808) (hva : IsSl H va 4 A.length (A.flatMap clC)) (hvb : IsSl H vb 4 B.length (B.flatMap clC)) (hvp : IsSl H vp 2 ps.length (ps.flatMap prC))
    (hQ : ∀ out c u H', FirstP A B (numT 0 ps [] []).1 (numT 0 ps [] []).2 → VisW A B (numT 0 ps [] []).1 (numT 0 ps [] []).2 lim [(0, 0)] out c → Keep Non H H' → IsSl H' u 2 out.length (out.flatMap prN) → Q (.tup [u, .bool c]) H')
    (hN : ∀ H', ¬ FirstP A B (numT 0 ps [] []).1 (numT 0 ps [] []).2 → Keep Non H H' → Q (.tup [.nils, .bool false]) H') : WpF Tryz.prog tb gl 9 [va, vb, vp, .int .i64 lim] H Q := by
  refine fa Tryz.func9 b9_eq v9_eq r9_eq (.inr (by simp)) ?_
  refine va_seqr ?_
  refine ia_pl rfl ?_
  refine ia_nil (va_seq (va_seqr ?_))
  (repeat (first | refine ia_gdN rfl ?_ | refine ia_gdU rfl ?_ | ((first | refine ia_op ?_ | refine ia_gdY rfl ?_); first | refine oa_move rfl ?_ | refine oa_assign rfl ?_ | refine oa_nilCheck rfl ?_ | refine oa_fieldAddr FpF.h (by decide) rfl ?_ | refine oa_lenSl rfl rfl rfl UnF.h rfl hva ?_ | refine oa_lenSl rfl rfl rfl UnF.h rfl hvb ?_ | refine oa_lssF rfl rfl (by omega) ?_ | refine oa_lssT rfl rfl (by omega) ?_ | refine oa_leqF rfl rfl (by omega) ?_ | refine oa_leqT rfl rfl (by omega) ?_ | refine oa_gtrF rfl rfl (by omega) ?_ | refine oa_gtrT rfl rfl (by omega) ?_ | refine oa_geqF rfl rfl (by omega) ?_ | refine oa_geqT rfl rfl (by omega) ?_ | refine oa_eqlF rfl rfl (by omega) ?_ | refine oa_eqlT rfl rfl (by omega) ?_ | refine oa_neqF rfl rfl (by omega) ?_ | refine oa_neqT rfl rfl (by omega) ?_ | refine oa_pickT rfl rfl rfl ?_ | refine oa_pickF rfl rfl ?_ | refine oa_not rfl ?_ | refine oa_extract rfl rfl ?_)))
  refine ia_nil (va_condF rfl (va_skip (va_seqr ?_)))
  refine ia_pl rfl ?_
  refine ia_nil (va_seqr ?_)
  refine ia_pl rfl ?_
  refine ia_op (oa_call rfl rfl rfl (counting_ok hps hvp fun cs uc H1 hC hcl hk1 huc hnc => ?_))
  refine ia_pl rfl ?_
  obtain ⟨c, hc⟩ : ∃ c, A[0]? = some c := ⟨_, List.getElem?_eq_getElem hA0⟩
  obtain ⟨d, hd⟩ : ∃ d, B[0]? = some d := ⟨_, List.getElem?_eq_getElem hB0⟩
  have hF := firstP_iff hC hcl hc hd
  have hva1 := hva.keep0 hk1
  have hvb1 := hvb.keep0 hk1
  have hvp1 := hvp.keep0 hk1
  obtain ⟨ba, oa', rowa, tla, roa, hpa, hrowa, hgeta⟩ := isSl_ix hva1 hA0
  obtain ⟨bb, ob', rowb, tlb, rob, hpb, hrowb, hgetb⟩ := isSl_ix hvb1 hB0
  have la : (A.flatMap clC).length = A.length * 4 := flat_length clC_len A
  have lb : (B.flatMap clC).length = B.length * 4 := flat_length clC_len B
  have a0 : rowa[oa' + 0 * 4 + 0]? = some (.int .i64 c.proc) := by rw [show oa' + 0 * 4 + 0 = oa' + (0 * 4 + 0) by omega, hgeta _ (by omega)]; exact flat_get clC_len hc (by decide)
  have b0 : rowb[ob' + 0 * 4 + 0]? = some (.int .i64 d.proc) := by rw [show ob' + 0 * 4 + 0 = ob' + (0 * 4 + 0) by omega, hgetb _ (by omega)]; exact flat_get clC_len hd (by decide)
  refine ia_nil (va_seq (va_seqr ?_))
  refine ia_pl rfl ?_
  refine ia_nil (va_block ?_)
  refine va_loop (fun (a : Nat × Bool) => [(0, va), (1, vb), (2, vp), (3, .int .i64 lim), (10, .bool a.2), (11, uc), (12, .int .i64 (a.1 : Int))])
    (fun a H' => H' = H1 ∧ a.1 ≤ ps.length ∧ (a.2 = true ↔ ∃ (k : Nat) (p : Int × Int), k < a.1 ∧ ps[k]? = some p ∧ cs[k]? = some true ∧ p.1 = c.proc ∧ p.2 = d.proc)) (fun a => ps.length - a.1) ?_ (0, false) _ H1 ⟨rfl, rfl, rfl, rfl, rfl, rfl, rfl, trivial⟩ ⟨rfl, Nat.zero_le _, ⟨fun h => (by cases h), fun ⟨k, p, h, _⟩ => absurd h (Nat.not_lt_zero _)⟩⟩
  rintro ⟨k, b⟩ H2 ⟨hH, hkl, hb⟩
  subst hH
  simp only at hkl hb
  dsimp only
  refine va_seq (va_seqr ?_)
  refine ia_pl rfl ?_; (repeat ((first | refine ia_op (oa_lenSl rfl rfl rfl UnF.h rfl hvp1 ?_)); refine ia_pl rfl ?_))
  by_cases hk : k < ps.length
  rotate_left
  · refine ia_op (oa_lssW rfl rfl (decide_eq_false (by omega)) (ia_nil (va_condF rfl (va_exit (va_seq (va_seqr ?_))))))
    have hbF : b = true ↔ FirstP A B (numT 0 ps [] []).1 (numT 0 ps [] []).2 := by
      rw [hb, hF]
      exact ⟨fun ⟨k', p, _, h⟩ => ⟨k', p, h⟩, fun ⟨k', p, h1, h2⟩ => ⟨k', p, by have := (List.getElem?_eq_some_iff.1 h1).1; omega, h1, h2⟩⟩
    refine ia_pl rfl ?_
    cases b with
    | false =>
      refine ia_nil (va_condT rfl (va_seqr ?_))
      refine ia_pl rfl ?_
      exact ia_nil (va_ret ⟨_, rfl, hN H2 (fun h => by cases hbF.2 h) hk1⟩)
    | true =>
      refine ia_nil (va_condF rfl (va_skip (va_seqr ?_)))
      refine ia_pl rfl ?_
      refine ia_op (oa_call rfl rfl rfl (under_ok (tb := tb) (gl := gl) (va := va) (vb := vb) (vp := vp) (H0 := H2) I J hA hB hps hlim0 hva1 hvb1 hvp1 A.length 0 0 H2 _ (by omega) hA0 hB0 (.refl _ _) fun out c' u H3 hV hk3 hacc => ?_))
      refine ia_pl rfl ?_
      exact ia_nil (va_ret ⟨_, rfl, hQ out c' u H3 (hbF.1 rfl) hV (hk1.trans0 hk3) hacc.sl⟩)
  refine ia_op (oa_lssW rfl rfl (decide_eq_true (by omega)) (ia_nil (va_condT rfl (va_skip (va_seq ?_)))))
  obtain ⟨ck, hck⟩ : ∃ ck, cs[k]? = some ck := ⟨_, List.getElem?_eq_getElem (by omega)⟩
  obtain ⟨q, hq⟩ : ∃ q, ps[k]? = some q := ⟨_, List.getElem?_eq_getElem hk⟩
  obtain ⟨bu, ou, rowu, tlu, rou, hpu, hrowu, hgetu⟩ := isSl_ix huc.sl (by omega)
  obtain ⟨bp, op', rowp, tlp, rop, hpp, hrowp, hgetp⟩ := isSl_ix hvp1 (by omega)
  have lu : (cs.flatMap bC).length = cs.length * 1 := flat_length bC_len cs
  have lp : (ps.flatMap prC).length = ps.length * 2 := flat_length prC_len ps
  have u0 : rowu[ou + k * 1]? = some (.bool ck) := by rw [hgetu _ (by omega)]; exact flat_get bC_len (o := 0) hck (by decide)
  have p0 : rowp[op' + k * 2 + 0 * 1]? = some (.int .i64 q.1) := by rw [show op' + k * 2 + 0 * 1 = op' + (k * 2 + 0) by omega, hgetp _ (by omega)]; exact flat_get prC_len hq (by decide)
  have p1 : rowp[op' + k * 2 + 1 * 1]? = some (.int .i64 q.2) := by rw [show op' + k * 2 + 1 * 1 = op' + (k * 2 + 1) by omega, hgetp _ (by omega)]; exact flat_get prC_len hq (by decide)
  have hkcs : k < cs.length := by omega
  refine va_cut (fun l' H' => H' = H2 ∧ ∃ b', (b' = true ↔ b = true ∨ (ck = true ∧ q.1 = c.proc ∧ q.2 = d.proc)) ∧ Sb [(0, va), (1, vb), (2, vp), (3, .int .i64 lim), (10, .bool b'), (11, uc), (12, .int .i64 (k : Int))] l') ?_ ?_
  · refine va_block (va_reg ?_)
    cases b with
    | true =>
      (repeat (first | refine ia_gdN rfl ?_ | refine ia_gdU rfl ?_ | ((first | refine ia_op ?_ | refine ia_gdY rfl ?_); first | refine oa_move rfl ?_ | refine oa_assign rfl ?_ | refine oa_nilCheck rfl ?_ | refine oa_fieldAddr FpF.h (by decide) rfl ?_ | refine oa_lssF rfl rfl (by omega) ?_ | refine oa_lssT rfl rfl (by omega) ?_ | refine oa_leqF rfl rfl (by omega) ?_ | refine oa_leqT rfl rfl (by omega) ?_ | refine oa_gtrF rfl rfl (by omega) ?_ | refine oa_gtrT rfl rfl (by omega) ?_ | refine oa_geqF rfl rfl (by omega) ?_ | refine oa_geqT rfl rfl (by omega) ?_ | refine oa_eqlF rfl rfl (by omega) ?_ | refine oa_eqlT rfl rfl (by omega) ?_ | refine oa_neqF rfl rfl (by omega) ?_ | refine oa_neqT rfl rfl (by omega) ?_ | refine oa_pickT rfl rfl rfl ?_ | refine oa_pickF rfl rfl ?_ | refine oa_not rfl ?_ | refine oa_extract rfl rfl ?_)))
      exact ia_nil ⟨rfl, true, by simp, rfl, rfl, rfl, rfl, rfl, rfl, rfl, trivial⟩
    | false =>
      cases ck with
      | false =>
        (repeat (first | refine ia_gdN rfl ?_ | refine ia_gdU rfl ?_ | ((first | refine ia_op ?_ | refine ia_gdY rfl ?_); first | refine oa_move rfl ?_ | refine oa_assign rfl ?_ | refine oa_nilCheck rfl ?_ | refine oa_fieldAddr FpF.h (by decide) rfl ?_ | refine oa_indexP UnF.h SzF.h rfl hpu rfl rfl hkcs ?_ | refine oa_load1 PlF.h rfl hrowu u0 ?_ | refine oa_lssF rfl rfl (by omega) ?_ | refine oa_lssT rfl rfl (by omega) ?_ | refine oa_leqF rfl rfl (by omega) ?_ | refine oa_leqT rfl rfl (by omega) ?_ | refine oa_gtrF rfl rfl (by omega) ?_ | refine oa_gtrT rfl rfl (by omega) ?_ | refine oa_geqF rfl rfl (by omega) ?_ | refine oa_geqT rfl rfl (by omega) ?_ | refine oa_eqlF rfl rfl (by omega) ?_ | refine oa_eqlT rfl rfl (by omega) ?_ | refine oa_neqF rfl rfl (by omega) ?_ | refine oa_neqT rfl rfl (by omega) ?_ | refine oa_pickT rfl rfl rfl ?_ | refine oa_pickF rfl rfl ?_ | refine oa_not rfl ?_ | refine oa_extract rfl rfl ?_)))
        exact ia_nil ⟨rfl, false, by simp, rfl, rfl, rfl, rfl, rfl, rfl, rfl, trivial⟩
      | true =>
        by_cases e1 : q.1 = c.proc
        · by_cases e2 : q.2 = d.proc
          · (repeat (first | refine ia_gdN rfl ?_ | refine ia_gdU rfl ?_ | ((first | refine ia_op ?_ | refine ia_gdY rfl ?_); first | refine oa_move rfl ?_ | refine oa_assign rfl ?_ | refine oa_nilCheck rfl ?_ | refine oa_fieldAddr FpF.h (by decide) rfl ?_ | refine oa_indexP UnF.h SzF.h rfl hpu rfl rfl hkcs ?_ | refine oa_load1 PlF.h rfl hrowu u0 ?_ | refine oa_indexP UnF.h SzF.h rfl hpp rfl rfl hk ?_ | refine oa_indexArr (j := 0) UnF.h SzF.h rfl rfl rfl (by decide) ?_ | refine oa_indexArr (j := 1) UnF.h SzF.h rfl rfl rfl (by decide) ?_ | refine oa_load1 PlF.h rfl hrowp p0 ?_ | refine oa_load1 PlF.h rfl hrowp p1 ?_ | refine oa_indexP (j := 0) UnF.h SzF.h rfl hpa rfl rfl hA0 ?_ | refine oa_indexP (j := 0) UnF.h SzF.h rfl hpb rfl rfl hB0 ?_ | refine oa_load1 PlF.h rfl hrowa a0 ?_ | refine oa_load1 PlF.h rfl hrowb b0 ?_ | refine oa_lssF rfl rfl (by omega) ?_ | refine oa_lssT rfl rfl (by omega) ?_ | refine oa_leqF rfl rfl (by omega) ?_ | refine oa_leqT rfl rfl (by omega) ?_ | refine oa_gtrF rfl rfl (by omega) ?_ | refine oa_gtrT rfl rfl (by omega) ?_ | refine oa_geqF rfl rfl (by omega) ?_ | refine oa_geqT rfl rfl (by omega) ?_ | refine oa_eqlF rfl rfl (by omega) ?_ | refine oa_eqlT rfl rfl (by omega) ?_ | refine oa_neqF rfl rfl (by omega) ?_ | refine oa_neqT rfl rfl (by omega) ?_ | refine oa_pickT rfl rfl rfl ?_ | refine oa_pickF rfl rfl ?_ | refine oa_not rfl ?_ | refine oa_extract rfl rfl ?_)))
            exact ia_nil ⟨rfl, true, by simp [e1, e2], rfl, rfl, rfl, rfl, rfl, rfl, rfl, trivial⟩
          · (repeat (first | refine ia_gdN rfl ?_ | refine ia_gdU rfl ?_ | ((first | refine ia_op ?_ | refine ia_gdY rfl ?_); first | refine oa_move rfl ?_ | refine oa_assign rfl ?_ | refine oa_nilCheck rfl ?_ | refine oa_fieldAddr FpF.h (by decide) rfl ?_ | refine oa_indexP UnF.h SzF.h rfl hpu rfl rfl hkcs ?_ | refine oa_load1 PlF.h rfl hrowu u0 ?_ | refine oa_indexP UnF.h SzF.h rfl hpp rfl rfl hk ?_ | refine oa_indexArr (j := 0) UnF.h SzF.h rfl rfl rfl (by decide) ?_ | refine oa_indexArr (j := 1) UnF.h SzF.h rfl rfl rfl (by decide) ?_ | refine oa_load1 PlF.h rfl hrowp p0 ?_ | refine oa_load1 PlF.h rfl hrowp p1 ?_ | refine oa_indexP (j := 0) UnF.h SzF.h rfl hpa rfl rfl hA0 ?_ | refine oa_indexP (j := 0) UnF.h SzF.h rfl hpb rfl rfl hB0 ?_ | refine oa_load1 PlF.h rfl hrowa a0 ?_ | refine oa_load1 PlF.h rfl hrowb b0 ?_ | refine oa_lssF rfl rfl (by omega) ?_ | refine oa_lssT rfl rfl (by omega) ?_ | refine oa_leqF rfl rfl (by omega) ?_ | refine oa_leqT rfl rfl (by omega) ?_ | refine oa_gtrF rfl rfl (by omega) ?_ | refine oa_gtrT rfl rfl (by omega) ?_ | refine oa_geqF rfl rfl (by omega) ?_ | refine oa_geqT rfl rfl (by omega) ?_ | refine oa_eqlF rfl rfl (by omega) ?_ | refine oa_eqlT rfl rfl (by omega) ?_ | refine oa_neqF rfl rfl (by omega) ?_ | refine oa_neqT rfl rfl (by omega) ?_ | refine oa_pickT rfl rfl rfl ?_ | refine oa_pickF rfl rfl ?_ | refine oa_not rfl ?_ | refine oa_extract rfl rfl ?_)))
            exact ia_nil ⟨rfl, false, by simp [e2], rfl, rfl, rfl, rfl, rfl, rfl, rfl, trivial⟩
        · (repeat (first | refine ia_gdN rfl ?_ | refine ia_gdU rfl ?_ | ((first | refine ia_op ?_ | refine ia_gdY rfl ?_); first | refine oa_move rfl ?_ | refine oa_assign rfl ?_ | refine oa_nilCheck rfl ?_ | refine oa_fieldAddr FpF.h (by decide) rfl ?_ | refine oa_indexP UnF.h SzF.h rfl hpu rfl rfl hkcs ?_ | refine oa_load1 PlF.h rfl hrowu u0 ?_ | refine oa_indexP UnF.h SzF.h rfl hpp rfl rfl hk ?_ | refine oa_indexArr (j := 0) UnF.h SzF.h rfl rfl rfl (by decide) ?_ | refine oa_load1 PlF.h rfl hrowp p0 ?_ | refine oa_indexP (j := 0) UnF.h SzF.h rfl hpa rfl rfl hA0 ?_ | refine oa_load1 PlF.h rfl hrowa a0 ?_ | refine oa_lssF rfl rfl (by omega) ?_ | refine oa_lssT rfl rfl (by omega) ?_ | refine oa_leqF rfl rfl (by omega) ?_ | refine oa_leqT rfl rfl (by omega) ?_ | refine oa_gtrF rfl rfl (by omega) ?_ | refine oa_gtrT rfl rfl (by omega) ?_ | refine oa_geqF rfl rfl (by omega) ?_ | refine oa_geqT rfl rfl (by omega) ?_ | refine oa_eqlF rfl rfl (by omega) ?_ | refine oa_eqlT rfl rfl (by omega) ?_ | refine oa_neqF rfl rfl (by omega) ?_ | refine oa_neqT rfl rfl (by omega) ?_ | refine oa_pickT rfl rfl rfl ?_ | refine oa_pickF rfl rfl ?_ | refine oa_not rfl ?_ | refine oa_extract rfl rfl ?_)))
          exact ia_nil ⟨rfl, false, by simp [e1], rfl, rfl, rfl, rfl, rfl, rfl, rfl, trivial⟩
  rintro l5 H5 ⟨hH, b', hb', hs5⟩
  subst hH
  refine VA.sub hs5 (va_reg ?_)
  refine ia_pl rfl ?_
  refine ia_op (oa_addW (c := ((k + 1 : Nat) : Int)) rfl rfl (wrapE_i64 (by omega) (by omega) (by omega)) ?_)
  refine ia_pl rfl ?_
  refine ia_nil ⟨(k + 1, b'), ?_, ⟨rfl, rfl, rfl, rfl, rfl, rfl, rfl, trivial⟩, rfl, by simp only; omega, ?_⟩
  · show ps.length - (k + 1) < ps.length - k
    omega
  · simp only
    rw [hb', hb]
    constructor
    · rintro (⟨k', p, h1, h2⟩ | ⟨h1, h2⟩)
      · exact ⟨k', p, by omega, h2⟩
      · exact ⟨k, q, by omega, hq, by rw [hck, h1], h2⟩
    · rintro ⟨k', p, h1, h2, h3, h4⟩
      by_cases e : k' = k
      · subst e
        rw [hck] at h3
        rw [hq] at h2
        injection h3 with h3
        injection h2 with h2
        subst h2
        exact .inr ⟨h3, h4⟩
      · exact .inl ⟨k', p, by omega, h2, h3, h4⟩
end
end Go.Proofs.YtndhniapohlniaaGreatDoor
