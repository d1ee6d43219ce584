/-
  The printer's statements and blocks (syntax.writer.stmt, block), walked. Conditions: how large the statements are.
-/
import Derived.Test.YtbmedhaopnhggaaGreatDoorWrS
namespace Go.Proofs.YtbmedhaopnhggaaGreatDoor
open Go Eng Tryz
set_option maxHeartbeats 0
instance ipl_157 : PlF prog 157 ⟨0, true, 7⟩ := ⟨by kernel_rfl⟩
instance ize_157 : ZeF prog 157 (.agg [.int .i64 0, .str 0 0, .str 0 0, .int .i64 0, .nils, .nils, .nils]) := ⟨by kernel_rfl⟩
def v169h3 : CV := Jt [Jd 21 0, Jm 22 21, Jg 23 150 22 1, Jf 24 4 23] (.cond (Ja 24) (.ret) (.skip))
def v169k0h0 : CV := Jt [Jc 47 (.binOp .eql 3 (Ja 26) (Jb 4) 3), Jh 46 47] (.cond (Ja 46) (.skip) (.reg [Jc 48 (.binOp .eql 3 (Ja 26) (Jb 5) 3), Jh 46 48]))
def v169c1 : CV := Jt [Jd 76 0, Jc 77 (.buildSlice 49 1 #[(0, (.const (.string ⟨⟨[101, 108, 115, 101]⟩⟩)))]), Jo 78 104 76 77 148 49] (.reg [Jd 79 0, Jg 80 157 4 6, Jf 81 72 80, Jd 82 2, Jc 83 (.binOp .add 3 (Ja 82) (Jb 1) 3), Jc 84 (.call ⟨.value (.func 107), #[(Ja 79), (Ja 81), (Ja 83)], #[148, 72, 3]⟩)])
def v169c0h4 : CV := Jt [Jg 72 157 4 6, Jf 73 72 72, Jj 74 73 72, Jc 75 (.binOp .gtr 3 (Ja 74) (Jb 0) 3)] (.cond (Ja 75) v169c1 (.skip))
def v169c0t4 : CV := .seq v169c0h4 (.ret)
def v169c0t3 : CV := Jt [Jd 66 0, Jg 67 157 4 5, Jf 68 72 67, Jd 69 2, Jc 70 (.binOp .add 3 (Ja 69) (Jb 1) 3), Jc 71 (.call ⟨.value (.func 107), #[(Ja 66), (Ja 68), (Ja 70)], #[148, 72, 3]⟩)] v169c0t4
def v169c0t2 : CV := Jt [Jd 63 0, Jc 64 (.buildSlice 49 1 #[(0, (.const (.string ⟨⟨[41]⟩⟩)))]), Jo 65 104 63 64 148 49] v169c0t3
def v169c0t1 : CV := Jt [Jd 55 0, Jg 56 157 4 4, Jf 57 155 56, Jc 58 (.indexAddr 155 (Ja 57) (Jb 0)), Jf 59 180 58, Jd 60 2, Jc 61 (.binOp .add 3 (Ja 60) (Jb 1) 3), Jc 62 (.call ⟨.value (.func 224), #[(Ja 55), (Ja 59), (Ja 61)], #[148, 180, 3]⟩)] v169c0t2
def v169c0 : CV := Jt [Jd 49 0, Jg 50 157 4 0, Jf 51 3 50, Jn 52 223 51 3, Jc 53 (.buildSlice 49 2 #[(0, (Ja 52)), (1, (.const (.string ⟨⟨[40]⟩⟩)))]), Jo 54 104 49 53 148 49] v169c0t1
def v169c5 : CV := Jt [Jd 95 0, Jg 96 157 4 1, Jf 97 9 96, Jo 98 105 95 97 148 9] (.reg [Jd 99 0, Jc 100 (.buildSlice 49 1 #[(0, (.const (.string ⟨⟨[61]⟩⟩)))]), Jo 101 104 99 100 148 49])
def v169c4h0 : CV := Jt [Jg 92 157 4 1, Jf 93 9 92, Jc 94 (.binOp .neq 9 (Ja 93) (.const (.string ⟨⟨[]⟩⟩)) 9)] (.cond (Ja 94) v169c5 (.skip))
def v169c4t1 : CV := Jt [Jd 102 0, Jg 103 157 4 2, Jf 104 9 103, Jo 105 105 102 104 148 9] (.reg [Jd 106 0, Jg 107 157 4 4, Jf 108 155 107, Jd 109 2, Jc 110 (.binOp .add 3 (Ja 109) (Jb 1) 3), Jc 111 (.call ⟨.value (.func 226), #[(Ja 106), (Ja 108), (Ja 110)], #[148, 155, 3]⟩)])
def v169c4 : CV := .seq v169c4h0 v169c4t1
def v169c6h0 : CV := Jt [Jc 113 (.binOp .eql 3 (Ja 26) (Jb 2) 3), Jh 112 113] (.cond (Ja 112) (.skip) (.reg [Jc 114 (.binOp .eql 3 (Ja 26) (Jb 3) 3), Jh 112 114]))
def v169c8t1 : CV := Jt [Jd 125 0, Jg 126 157 4 4, Jf 127 155 126, Jc 128 (.indexAddr 155 (Ja 127) (Jb 0)), Jf 129 180 128, Jd 130 2, Jc 131 (.binOp .add 3 (Ja 130) (Jb 1) 3), Jc 132 (.call ⟨.value (.func 224), #[(Ja 125), (Ja 129), (Ja 131)], #[148, 180, 3]⟩)] (.reg [Jd 133 0, Jc 134 (.buildSlice 49 1 #[(0, (.const (.string ⟨⟨[93]⟩⟩)))]), Jo 135 104 133 134 148 49])
def v169c8 : CV := Jt [Jd 122 0, Jc 123 (.buildSlice 49 1 #[(0, (.const (.string ⟨⟨[91]⟩⟩)))]), Jo 124 104 122 123 148 49] v169c8t1
def v169c7h1 : CV := Jt [Jg 119 157 4 0, Jf 120 3 119, Jc 121 (.binOp .eql 3 (Ja 120) (Jb 3) 3)] (.cond (Ja 121) v169c8 (.skip))
def v169c7t2 : CV := Jt [Jd 136 0, Jc 137 (.buildSlice 49 1 #[(0, (.const (.string ⟨⟨[61]⟩⟩)))]), Jo 138 104 136 137 148 49] (.reg [Jd 139 0, Jg 140 157 4 4, Jf 141 155 140, Jg 142 157 4 4, Jf 143 155 142, Jj 144 143 155, Jc 145 (.binOp .sub 3 (Ja 144) (Jb 1) 3), Jk 146 155 141 145, Jf 147 180 146, Jd 148 2, Jc 149 (.binOp .add 3 (Ja 148) (Jb 1) 3), Jc 150 (.call ⟨.value (.func 224), #[(Ja 139), (Ja 147), (Ja 149)], #[148, 180, 3]⟩)])
def v169c7t1 : CV := .seq v169c7h1 v169c7t2
def v169c7 : CV := Jt [Jd 115 0, Jg 116 157 4 1, Jf 117 9 116, Jo 118 105 115 117 148 9] v169c7t1
def v169c10 : CV := Jt [Jd 153 0, Jc 154 (.buildSlice 49 1 #[(0, (.const (.string ⟨⟨[114, 101, 97, 100]⟩⟩)))]), Jo 155 104 153 154 148 49] (.reg [Jd 156 0, Jg 157 157 4 1, Jf 158 9 157, Jo 159 105 156 158 148 9])
def v169k1 : CV := Jt [Jk 38 155 34 36, Jf 39 180 38, Jc 7 (.alloc 180), .op none (.store 180 (Ja 7) (Ja 39))] (.reg [Jd 40 0, Jf 41 180 7, Jd 42 2, Jc 43 (.binOp .add 3 (Ja 42) (Jb 1) 3), Jc 44 (.call ⟨.value (.func 224), #[(Ja 40), (Ja 41), (Ja 43)], #[148, 180, 3]⟩)])
def v169l12t2 : CV := .seq (.block 2 v169k1) (.reg [Jc 45 (.binOp .add 3 (Ja 36) (Jb 1) 3), Jd 36 45])
def v169l12t1 : CV := .seq (.cond (Ja 37) (.skip) (.exit 1)) v169l12t2
def v169l12 : CV := Jt [Jc 37 (.binOp .lss 3 (Ja 36) (Ja 35) 3)] v169l12t1
def v169c11t1 : CV := Jt [Jg 33 157 4 4, Jf 34 155 33, Jj 35 34 155, Je 36 0] (.block 1 (.loop v169l12))
def v169c11 : CV := Jt [Jd 27 0, Jg 28 157 4 0, Jf 29 3 28, Jn 30 223 29 3, Jc 31 (.buildSlice 49 1 #[(0, (Ja 30))]), Jo 32 104 27 31 148 49] v169c11t1
def v169c9 : CV := Jt [Jc 152 (.binOp .eql 3 (Ja 26) (Jb 9) 3), Jh 151 152] (.cond (Ja 151) v169c10 v169c11)
def v169c6 : CV := .seq v169c6h0 (.cond (Ja 112) v169c7 v169c9)
def v169c3 : CV := Jt [Jc 91 (.binOp .eql 3 (Ja 26) (Jb 6) 3), Jh 90 91] (.cond (Ja 90) v169c4 v169c6)
def v169c2 : CV := Jt [Jc 86 (.binOp .eql 3 (Ja 26) (Jb 1) 3), Jh 85 86] (.cond (Ja 85) (.reg [Jd 87 0, Jf 88 157 4, Jo 89 225 87 88 148 157]) v169c3)
def v169k0 : CV := .seq v169k0h0 (.cond (Ja 46) v169c0 v169c2)
def v169h4 : CV := Jt [Jg 25 157 4 0, Jf 26 3 25] (.block 0 v169k0)
def v169t4 : CV := .seq v169h4 (.reg [Jd 160 0, Jc 161 (.buildSlice 49 1 #[(0, (.const (.string ⟨⟨[59]⟩⟩)))]), Jo 162 104 160 161 148 49])
def v169t3 : CV := .seq v169h3 v169t4
def v169t2 : CV := Jt [Jd 17 0, Jf 18 157 4, Jn 19 222 18 157, Jo 20 167 17 19 148 4] v169t3
def v169t1 : CV := Jt [Jd 8 0, Jd 9 0, Jm 10 9, Jg 11 150 10 2, Jf 12 3 11, Jd 13 2, Jc 14 (.call ⟨.builtin .max, #[(Ja 12), (Ja 13)], #[3, 3]⟩), Jm 15 8, Jg 16 150 15 2, .op none (.store 3 (Ja 16) (Ja 14))] v169t2
def v169 : CV := Jt [Jc 4 (.box 157 (Ja 1))] v169t1
noncomputable def b169 : Code := f169.body.getD .skip
theorem b169_eq : f169.body = some b169 := by kernel_rfl
theorem v169_eq : viewC prog b169 = some v169 := by kernel_rfl
theorem r169_eq : f169.results.toList = [] := by kernel_rfl
def v107k0 : CV := Jt [Jk 15 72 11 13, Jf 16 157 15, Jc 7 (.alloc 157), .op none (.store 157 (Ja 7) (Ja 16))] (.reg [Jd 17 0, Jf 18 157 7, Jd 19 2, Jc 20 (.call ⟨.value (.func 169), #[(Ja 17), (Ja 18), (Ja 19)], #[148, 157, 3]⟩)])
def v107l0t2 : CV := .seq (.block 1 v107k0) (.reg [Jc 21 (.binOp .add 3 (Ja 13) (Jb 1) 3), Jd 13 21])
def v107l0t1 : CV := .seq (.cond (Ja 14) (.skip) (.exit 0)) v107l0t2
def v107l0 : CV := Jt [Jc 14 (.binOp .lss 3 (Ja 13) (Ja 12) 3)] v107l0t1
def v107h1 : CV := Jt [Jd 11 1, Jj 12 11 72, Je 13 0] (.block 0 (.loop v107l0))
def v107t1 : CV := .seq v107h1 (.reg [Jd 22 0, Jc 23 (.buildSlice 49 1 #[(0, (.const (.string ⟨⟨[125]⟩⟩)))]), Jo 24 104 22 23 148 49])
def v107 : CV := Jt [Jd 8 0, Jc 9 (.buildSlice 49 1 #[(0, (.const (.string ⟨⟨[123]⟩⟩)))]), Jo 10 104 8 9 148 49] v107t1
noncomputable def b107 : Code := f107.body.getD .skip
theorem b107_eq : f107.body = some b107 := by kernel_rfl
theorem v107_eq : viewC prog b107 = some v107 := by kernel_rfl
theorem r107_eq : f107.results.toList = [] := by kernel_rfl
mutual
theorem zkn : ∀ x : Exp, szE x + 1 ≤ 2 * sizE x
 | .mk k n z l => by have := zpf l; simp only [szE, sizE]; omega
theorem zpf : ∀ l : List Exp, szEs l ≤ 2 * sizEs l
 | [] => by simp [szEs]
 | x :: l => by have := zkn x; have := zpf l; simp only [szEs, sizEs]; omega
end
section
variable {tb : List FuncId} {gl : List (List AV)} {A : Nat → Prop} {H : Heap} {u v w : AV} {b : Nat} {s : WS} {Q : AV → Heap → Prop}
theorem zfr {α : Type} {A : Nat → Prop} {R : Heap → List AV → α → Prop} {z : Nat} {H : Heap} {v : AV} {xs : List α} (h : IsLs A R z H v xs) : Eng.scal v = true := by
 obtain ⟨els, ⟨_, ⟨rfl | ⟨a, rfl⟩, _⟩ | ⟨b, o, row, tl, ro, ⟨rfl, _⟩ | ⟨c, rfl, _⟩, _⟩⟩, _⟩ := h <;> rfl
theorem zi3 {c : List AV} {e : Stm} (h : IsS A H c e) : scalL c = true := by
 obtain ⟨v1, v2, v3, rfl, _, _, _, _, _, _, _, h1, h2, h3⟩ := h.out
 have a1 := zfr h1
 have a2 := zfr h2
 have a3 := zfr h3
 refine zej fun v hv => ?_
 simp only [List.mem_cons, List.not_mem_nil, or_false] at hv
 rcases hv with rfl | rfl | rfl | rfl | rfl | rfl | rfl <;> first | assumption | rfl
def StmtOK (tb : List FuncId) (gl : List (List AV)) (k : Nat) : Prop := ∀ (A : Nat → Prop) (x : Stm) (c : List AV) (d b : Nat) (H : Heap) (u : AV) (s : WS) (Q : AV → Heap → Prop), szS x < k → IsS A H c x → (∀ a, A a → Off b H u a) → KeysIn H → Wr b H u s → d + 2 * sizS x < 1000000 → s.words.length + 12 * sizS x < 1000000 →
 (∀ u' H', Wk b H u H' u' → Wr b H' u' (wSt x d s) → Q (.tup []) H') → WpF prog tb gl 169 [.ptr b 0, .agg c, .int .i64 (d : Int)] H Q
theorem zlt {k d : Nat} (ih : StmtOK tb gl k) {l : List Stm} (hk : szSs l ≤ k) (hL : IsLs A (IsS A) 7 H v l) (hA : ∀ a, A a → Off b H u a) (hK : KeysIn H) (hW : Wr b H u s) (hd : d + 2 * sizSs l < 1000000) (hl : s.words.length + 12 * sizSs l + 2 < 1000000) (hll : l.length ≤ rB)
  (hQ : ∀ u' H', Wk b H u H' u' → Wr b H' u' (wBlock l d s) → Q (.tup []) H') : WpF prog tb gl 107 [.ptr b 0, v, .int .i64 (d : Int)] H Q := by
 have hrB : rB = 140737488351232 := rfl
 refine fa func107 b107_eq v107_eq r107_eq (.inr (by simp)) ?_
 refine zac ?_
 refine zae rfl ?_
 refine zaa (zar (n := 1) ElF.h (by decide) rfl rfl fun Hp2 hp2 rp2 => ?_)
 refine zaa (zaj rfl rfl rfl (zb6 (ws := [[123]]) (hW.keep0 hp2) (IsRow.sl (es := 1) (n := 1) rp2 rfl (Nat.le_refl 1)) (by simp only [zau, zbf, zch, zce, List.length_cons, List.length_nil]; omega) fun u2 H2 k2 W2 => ?_))
 replace k2 := (Wk.of hp2).trans k2
 obtain ⟨els, hsl, _⟩ := zbc (k2.stms hA hL)
 refine zab (zak (zac ?_))
 refine zae rfl ?_
 refine zaa (za8 rfl rfl rfl UnF.h rfl hsl ?_)
 refine zae rfl ?_
 refine zab (zam ?_)
 refine zbw (fun (i : Nat) => [(0, .ptr b 0), (2, .int .i64 (d : Int)), (11, v), (12, .int .i64 (l.length : Int)), (13, .int .i64 (i : Int))]) (fun i H' => i ≤ l.length ∧ ∃ u', Wk b H u H' u' ∧ Wr b H' u' (wSts (l.take i) d (s.put [[123]]))) (fun i => l.length - i) ?_ 0 _ H2 ⟨rfl, rfl, rfl, rfl, rfl, trivial⟩ ⟨Nat.zero_le _, u2, k2, by simpa [wSts] using W2⟩
 rintro i H3 ⟨hle, u3, kk3, W3⟩
 have hlen := zhu (l.take i) d (s.put [[123]])
 have htk := zex l i
 rw [zau] at hlen
 simp only [List.length_singleton] at hlen
 refine zac ?_
 by_cases hi : i < l.length
 rotate_left
 ·refine zaa (zcb rfl rfl (decide_eq_false (by omega)) (zab (zak (zag rfl (zbn (zaw ?_))))))
  rw [List.take_of_length_le (by omega)] at W3 hlen
  refine zae rfl ?_
  refine zaa (zar (n := 1) ElF.h (by decide) rfl rfl fun Hp5 hp5 rp5 => ?_)
  refine zaa (zaj rfl rfl rfl (zb6 (ws := [[125]]) (W3.keep0 hp5) (IsRow.sl (es := 1) (n := 1) rp5 rfl (Nat.le_refl 1)) (by simp only [zau, zbf, zch, zce, List.length_cons, List.length_nil]; omega) fun u5 H5 k5 W5 => ?_))
  replace k5 := (Wk.of hp5).trans k5
  exact zab ⟨_, rfl, hQ u5 H5 (kk3.trans k5) W5⟩
 obtain ⟨x, hx⟩ : ∃ x, l[i]? = some x := ⟨_, List.getElem?_eq_getElem hi⟩
 refine zaa (zcb rfl rfl (decide_eq_true (by omega)) (zab (zak (zah rfl (zan (zak (zam (zac ?_))))))))
 obtain ⟨els3, hsl3, hel3⟩ := zbc (kk3.stms hA hL)
 obtain ⟨cx, hcx, hEx⟩ := hel3 i x hx
 have hcx7 : cx.length = 7 := by obtain ⟨_, _, _, h, _⟩ := hEx.out; rw [h]; rfl
 have hsx : szS x < szSs l ∧ sizSs (l.take i) + sizS x ≤ sizSs l := by
  refine ⟨zfe (List.mem_of_getElem? hx), ?_⟩
  have := zex l (i + 1)
  rw [zbt hx, zgb] at this
  exact this
 refine zae rfl ?_
 refine zaa (za3 UnF.h SzF.h rfl hsl3 rfl rfl hi fun q0 hq0 => ?_)
 rw [hcx] at hq0
 refine zaa (zaq (k := 7) PlF.h hcx7 (by decide) rfl hq0 ?_)
 refine zaa (zci ZeF.h fun H4 hk4 hr4 => ?_)
 refine zae rfl ?_
 obtain ⟨bx, hbx⟩ : ∃ b, b = H3.nx := ⟨_, rfl⟩
 have hoff : Off b H4 u3 bx := by
  have := hr4.1
  rw [hbx]
  exact W3.fresh this
 rw [← hbx] at hr4 ⊢
 refine zaa (zbv (k := 7) SzF.h hcx7 rfl rfl (zi3 hEx) hr4 hcx7 fun H5 hk5 hn5 hr5 => ?_)
 have hk35 : Keep Non H3 H5 := (hk4.trans hk5 fun c hc => .inr (by rw [hc, hbx]; exact Nat.le_refl _)).wide fun _ h => h
 have W5 := W3.keep0 hk35
 have kk5 : Wk b H u H5 u3 := kk3.trans (.of hk35)
 have hE5 := hEx.keep hk35
 refine zab (zaw ?_)
 refine zae rfl ?_
 refine zaa (zaq (k := 7) PlF.h hcx7 (by decide) rfl hr5.pts ?_)
 refine zae rfl ?_
 refine zaa (zaj rfl rfl rfl (ih A x cx d b H5 u3 _ _ (by omega) hE5 (fun a ha => kk5.off (hA a ha)) (hK.keep kk5.keep) W5 (by omega) (by omega) fun u7 H7 k7 W7 => ?_))
 refine zab (zaw ?_)
 refine zaa (za0 (c := ((i + 1 : Nat) : Int)) rfl rfl Ju ?_)
 refine zae rfl ?_
 refine zab ⟨i + 1, ?_, ⟨rfl, rfl, rfl, rfl, rfl, trivial⟩, by omega, u7, kk5.trans k7, ?_⟩
 ·show l.length - (i + 1) < l.length - i
  omega
 ·rw [zbt hx, zoi]
  exact W7
theorem zu1 : ∀ k, StmtOK tb gl k
 | 0 => fun _ _ _ _ _ _ _ _ _ h => by omega
 | k + 1 => by
  intro A x c d b H u s Q hk hE hA hK hW hd hl hQ
  have ih : StmtOK tb gl k := zu1 k
  have hrB : rB = 140737488351232 := rfl
  obtain ⟨ve, vb, vf, hc, hkd, hnu, hnl, hpl, hll, hbl, hfl, hLe, hLb, hLf⟩ := hE.out
  have hc7 : c.length = 7 := by rw [hc]; rfl
  have hsz := zpd x
  have hszS : szS x = szSs x.body + szSs x.els + 1 := by cases x; simp only [szS]; rfl
  refine fa func169 b169_eq v169_eq r169_eq (.inr (by simp)) ?_
  refine zac ?_
  refine zaa (zcd rfl fun H1 hk1 hr1 => ?_)
  have hW1 := hW.keep0 hk1
  obtain ⟨bx, hbx⟩ : ∃ b, b = H.nx := ⟨_, rfl⟩
  have hoff : Off b H1 u bx := by
   have := hr1.1
   rw [hbx]
   exact hW.fresh this
  rw [← hbx] at hr1 ⊢
  have hr1 : IsRow H1 bx c false false := hr1
  have hE1 := hE.keep hk1
  have hA1 : ∀ a, A a → Off b H1 u a := fun a ha => (Wk.of hk1).off (hA a ha)
  refine zab (zac ?_)
  -- how deep
  refine zae rfl ?_; (repeat ((refine zaa ?_; first | refine za5 rfl ?_ | refine zad FpF.h (by decide) rfl ?_ | refine zaf PlF.h rfl hW1.row rfl ?_); refine zae rfl ?_))
  refine zaa (zo8 (m := ((max s.most d : Nat) : Int)) rfl rfl rfl rfl (by omega) ?_)
  refine zae rfl ?_; (repeat ((refine zaa ?_; first | refine za5 rfl ?_ | refine zad FpF.h (by decide) rfl ?_); refine zae rfl ?_))
  refine zaa (zcc SzF.h rfl rfl rfl hW1.row (by simp) fun H2 hk2 hn2 hr2 => ?_)
  have k2 : Wk b H1 u H2 u := ⟨hk2.wide fun c hc => Or.inl hc, fun c hc => .inl hc⟩
  have W2 : Wr b H2 u (s.deep d) := ⟨hr2, hW1.own.keep hk2 fun c hc h => hW1.ne (h ▸ hc), hW1.ne⟩
  refine zab (zac ?_)
  refine zae rfl ?_
  refine zaa (zaq (k := 7) PlF.h hc7 (by decide) rfl (k2.row hoff hr1).pts ?_)
  refine zaa (zaj rfl rfl rfl (fits_ok (k2.stm hA1 hE1) fun H3 hk3 => ?_))
  refine zaa (zaj rfl rfl rfl (zgw (W2.keep0 hk3) fun H4 k4 W4 => ?_))
  have kk : Wk b H u H4 u := (Wk.of hk1).trans (k2.trans ((Wk.of hk3).trans k4))
  have kk1 : Wk b H1 u H4 u := k2.trans ((Wk.of hk3).trans k4)
  obtain ⟨s1, hs1⟩ : ∃ s1, s1 = (s.deep d).need (fitsB x) := ⟨_, rfl⟩
  rw [← hs1] at W4
  have hl1 : s1.words.length = s.words.length := by rw [hs1]; rfl
  have hoff4 := kk1.off hoff
  have hrc := kk1.row hoff hr1
  have hr4 : IsRow H4 bx [.int .i64 x.kind, S x.name, S x.proc, .int .i64 x.num, ve, vb, vf] false false := hc ▸ hrc
  have hE4 := kk.stm hA hE
  have hA4 : ∀ a, A a → Off b H4 u a := fun a ha => kk.off (hA a ha)
  have hK4 := hK.keep kk.keep
  refine zab (zak (zac ?_))
  rw [wSt_at x d s s1 hs1] at hQ
  have hW4r := W4.row
  cases hbad : s1.bad with
  | true =>
   rw [if_pos hbad] at hQ
   rw [hbad] at hW4r
   refine zae rfl ?_; (repeat ((refine zaa ?_; first | refine za5 rfl ?_ | refine zad FpF.h (by decide) rfl ?_ | refine zaf PlF.h rfl hW4r rfl ?_); refine zae rfl ?_))
   exact zab (zah rfl (zao ⟨_, rfl, hQ u H4 kk W4⟩))
  | false =>
  rw [if_neg (by rw [hbad]; simp)] at hQ
  rw [hbad] at hW4r
  refine zae rfl ?_; (repeat ((refine zaa ?_; first | refine za5 rfl ?_ | refine zad FpF.h (by decide) rfl ?_ | refine zaf PlF.h rfl hW4r rfl ?_); refine zae rfl ?_))
  refine zab (zag rfl (zan (zak (zac ?_))))
  have hfit : fitsB x = true := by
   have h : (s.bad || !fitsB x) = false := by rw [← hbad, hs1]; rfl
   simp only [Bool.or_eq_false_iff, Bool.not_eq_false'] at h
   exact h.2
  obtain ⟨f45, f2, f3, _⟩ := zd9 hfit
  refine zae rfl ?_; (repeat ((refine zaa ?_; first | refine zad FpF.h (by decide) rfl ?_ | refine zaf PlF.h rfl hr4 rfl ?_); refine zae rfl ?_))
  refine zab (zam (zak (zac ?_)))
  -- the end
  have fin : ∀ (l' : Fm) (H' : Heap) (u' : AV) (s' : WS), lk 0 l' = some (.ptr b 0) → Wk b H4 u H' u' → Wr b H' u' s' → s'.words.length + 1 < 1000000 → (∀ u'' H'', Wk b H u H'' u'' → Wr b H'' u'' (s'.put [[59]]) → Q (.tup []) H'') →
    VA prog tb gl (.reg [.op (some 160) (.move (.tmp 0)), .op (some 161) (.buildSlice 49 1 #[(0, (.const (.string ⟨⟨[59]⟩⟩)))]), .op (some 162) (.call ⟨.value (.func 104), #[(.tmp 160), (.tmp 161)], #[148, 49]⟩)]) l' H' (leftA [] Q) := by
   intro l' H' u' s' h0 hk' hW' hn hq
   refine VA.sub (l0 := [(0, .ptr b 0)]) ⟨h0, trivial⟩ (zaw ?_)
   refine zae rfl ?_
   refine zaa (zar (n := 1) ElF.h (by decide) rfl rfl fun Hp7 hp7 rp7 => ?_)
   refine zaa (zaj rfl rfl rfl (zb6 (ws := [[59]]) (hW'.keep0 hp7) (IsRow.sl (es := 1) (n := 1) rp7 rfl (Nat.le_refl 1)) (by simp only [zau, zbf, zch, zce, List.length_cons, List.length_nil]; omega) fun u7 H7 k7 W7 => ?_))
   replace k7 := (Wk.of hp7).trans k7
   exact zab ⟨_, rfl, hq u7 H7 (kk.trans (hk'.trans k7)) W7⟩
  by_cases e45 : x.kind = 4 ∨ x.kind = 5
  ·rw [if_pos e45] at hQ
   obtain ⟨a, hxa⟩ := f45 e45
   simp only [hxa] at hQ
   have hsa : sizE a + sizSs x.body + sizSs x.els + 1 ≤ sizS x := by
    rw [hxa] at hsz
    simp only [sizEs] at hsz
    omega
   have hsa2 := zkn a
   have branch : ∀ l', lk 0 l' = some (.ptr b 0) → lk 2 l' = some (.int .i64 (d : Int)) → lk 4 l' = some (.ptr bx 0) → ∀ Q', Q' Ex.ret = leftA [] Q Ex.ret → VA prog tb gl v169c0 l' H4 Q' := by
    intro l' g0 g2 g4 Q' hQ'
    refine VA.sub (l0 := [(0, .ptr b 0), (2, .int .i64 (d : Int)), (4, .ptr bx 0)]) ⟨g0, g2, g4, trivial⟩ (zac ?_)
    refine zae rfl ?_; (repeat ((refine zaa ?_; first | refine zad FpF.h (by decide) rfl ?_ | refine zaf PlF.h rfl hr4 rfl ?_); refine zae rfl ?_))
    refine zaa (zaj rfl rfl rfl (zvq x.kind ?_))
    refine zae rfl ?_
    refine zaa (zar (n := 2) ElF.h (by decide) rfl rfl fun Hp5 hp5 rp5 => ?_)
    refine zaa (zaj rfl rfl rfl (zb6 (ws := [wordB x.kind, [40]]) (W4.keep0 hp5) (IsRow.sl (es := 1) (n := 2) rp5 rfl (Nat.le_refl 2)) (by simp only [zau, zbf, zch, zce, List.length_cons, List.length_nil]; omega) fun u5 H5 k5 W5 => ?_))
    replace k5 := (Wk.of hp5).trans k5
    have hr5 := k5.row hoff4 hr4
    obtain ⟨els, hsl, hel⟩ := zbc ((kk.trans k5).exps hA hLe)
    obtain ⟨ca, hca, hEa⟩ := hel 0 a (by rw [hxa]; rfl)
    have hca4 : ca.length = 4 := by obtain ⟨_, h, _⟩ := hEa.out; rw [h]; rfl
    refine zab (zac ?_)
    refine zae rfl ?_; (repeat ((refine zaa ?_; first | refine zad FpF.h (by decide) rfl ?_ | refine zaf PlF.h rfl hr5 rfl ?_); refine zae rfl ?_))
    refine zaa (za3 (j := 0) UnF.h SzF.h rfl hsl rfl rfl (by rw [hxa]; simp) fun q0 hq0 => ?_)
    rw [hca] at hq0
    refine zaa (zaq (k := 4) PlF.h hca4 (by decide) rfl hq0 ?_)
    refine zae rfl ?_
    refine zaa (za0 (c := ((d + 1 : Nat) : Int)) rfl rfl Ju ?_)
    refine zaa (zaj rfl rfl rfl (zfm (szE a + 1) A a ca (d + 1) b H5 u5 _ _ (by omega) hEa (fun a ha => (kk.trans k5).off (hA a ha)) (hK4.keep k5.keep) W5 (by omega) (by rw [zau]; simp only [List.length_cons, List.length_nil]; omega) fun u6 H6 k6 W6 => ?_))
    have hlen6 := wE_len' a (d + 1) (s1.put [wordB x.kind, [40]])
    rw [zau] at hlen6
    simp only [List.length_cons, List.length_nil] at hlen6
    refine zab (zac ?_)
    refine zae rfl ?_
    refine zaa (zar (n := 1) ElF.h (by decide) rfl rfl fun Hp7 hp7 rp7 => ?_)
    refine zaa (zaj rfl rfl rfl (zb6 (ws := [[41]]) (W6.keep0 hp7) (IsRow.sl (es := 1) (n := 1) rp7 rfl (Nat.le_refl 1)) (by simp only [zau, zbf, zch, zce, List.length_cons, List.length_nil]; omega) fun u7 H7 k7 W7 => ?_))
    replace k7 := (Wk.of hp7).trans k7
    have k47 := k5.trans (k6.trans k7)
    have hr7 := k47.row hoff4 hr4
    refine zab (zac ?_)
    refine zae rfl ?_; (repeat ((refine zaa ?_; first | refine zad FpF.h (by decide) rfl ?_ | refine zaf PlF.h rfl hr7 rfl ?_); refine zae rfl ?_))
    refine zaa (za0 (c := ((d + 1 : Nat) : Int)) rfl rfl Ju ?_)
    refine zaa (zaj rfl rfl rfl (zlt (d := d + 1) ih (by omega) ((kk.trans k47).stms hA hLb) (fun a ha => (kk.trans k47).off (hA a ha)) (hK4.keep k47.keep) W7 (by omega) (by rw [zau]; simp only [List.length_cons, List.length_nil]; omega) hbl fun u8 H8 k8 W8 => ?_))
    have k48 := k47.trans k8
    have hr8 := k48.row hoff4 hr4
    obtain ⟨els8, hsl8, _⟩ := zbc ((kk.trans k48).stms hA hLf)
    have hlen8 := zlm x.body (d + 1) ((wE a (d + 1) (s1.put [wordB x.kind, [40]])).put [[41]])
    rw [zau] at hlen8
    simp only [List.length_cons, List.length_nil] at hlen8
    refine zab (zak (zac ?_))
    refine zae rfl ?_; (repeat ((refine zaa ?_; first | refine zad FpF.h (by decide) rfl ?_ | refine zaf PlF.h rfl hr8 rfl ?_ | refine za8 rfl rfl rfl UnF.h rfl hsl8 ?_); refine zae rfl ?_))
    by_cases e0 : x.els.length = 0
    ·rw [if_pos e0] at hQ
     refine zaa (zb9 rfl rfl (by omega) (zab (zag rfl (zan (zao ?_)))))
     rw [hQ']
     exact ⟨_, rfl, hQ u8 H8 (kk.trans k48) W8⟩
    ·rw [if_neg e0] at hQ
     refine zaa (zcu rfl rfl (by omega) (zab (zah rfl (zac ?_))))
     refine zae rfl ?_
     refine zaa (zar (n := 1) ElF.h (by decide) rfl rfl fun Hp9 hp9 rp9 => ?_)
     refine zaa (zaj rfl rfl rfl (zb6 (ws := [[101, 108, 115, 101]]) (W8.keep0 hp9) (IsRow.sl (es := 1) (n := 1) rp9 rfl (Nat.le_refl 1)) (by simp only [zau, zbf, zch, zce, List.length_cons, List.length_nil]; omega) fun u9 H9 k9 W9 => ?_))
     replace k9 := (Wk.of hp9).trans k9
     have k49 := k48.trans k9
     have hr9 := k49.row hoff4 hr4
     refine zab (zaw ?_)
     refine zae rfl ?_; (repeat ((refine zaa ?_; first | refine zad FpF.h (by decide) rfl ?_ | refine zaf PlF.h rfl hr9 rfl ?_); refine zae rfl ?_))
     refine zaa (za0 (c := ((d + 1 : Nat) : Int)) rfl rfl Ju ?_)
     refine zaa (zaj rfl rfl rfl (zlt (d := d + 1) ih (by omega) ((kk.trans k49).stms hA hLf) (fun a ha => (kk.trans k49).off (hA a ha)) (hK4.keep k49.keep) W9 (by omega) (by rw [zau]; simp only [List.length_cons, List.length_nil]; omega) hfl fun u10 H10 k10 W10 => ?_))
     refine zab (zao ?_)
     rw [hQ']
     exact ⟨_, rfl, hQ u10 H10 (kk.trans (k49.trans k10)) W10⟩
   by_cases e4 : x.kind = 4
   ·(repeat ((refine zaa ?_; first | refine zai rfl ?_ | refine zax rfl rfl (by omega) ?_)))
    exact zab (zah rfl (zan (zah rfl (branch _ rfl rfl rfl _ rfl))))
   ·(repeat ((refine zaa ?_; first | refine zai rfl ?_ | refine zat rfl rfl (by omega) ?_)))
    refine zab (zag rfl (zaw ?_))
    (repeat ((refine zaa ?_; first | refine zai rfl ?_ | refine zax rfl rfl (by omega) ?_)))
    exact zab (zah rfl (branch _ rfl rfl rfl _ rfl))
  rw [if_neg e45] at hQ
  (repeat ((refine zaa ?_; first | refine zai rfl ?_ | refine zat rfl rfl (by omega) ?_)))
  refine zab (zag rfl (zaw ?_))
  (repeat ((refine zaa ?_; first | refine zai rfl ?_ | refine zat rfl rfl (by omega) ?_)))
  refine zab (zag rfl (zac ?_))
  by_cases e1 : x.kind = 1
  ·rw [if_pos e1] at hQ
   (repeat ((refine zaa ?_; first | refine zai rfl ?_ | refine zax rfl rfl (by omega) ?_)))
   refine zab (zah rfl (zaw ?_))
   refine zae rfl ?_
   refine zaa (zaq (k := 7) PlF.h hc7 (by decide) rfl hrc.pts ?_)
   refine zaa (zaj rfl rfl rfl (zos hE4 hK4 W4 (by omega) fun u5 H5 k5 W5 => ?_))
   have := zog x s1
   exact zab (fin _ H5 u5 _ rfl k5 W5 (by omega) hQ)
  rw [if_neg e1] at hQ
  (repeat ((refine zaa ?_; first | refine zai rfl ?_ | refine zat rfl rfl (by omega) ?_)))
  refine zab (zag rfl (zac ?_))
  by_cases e6 : x.kind = 6
  ·rw [if_pos e6] at hQ
   (repeat ((refine zaa ?_; first | refine zai rfl ?_ | refine zax rfl rfl (by omega) ?_)))
   refine zab (zah rfl (zak ?_))
   refine zgj (fun l' H' => ∃ u6, Wk b H4 u H' u6 ∧ Wr b H' u6 (if x.name = [] then s1 else (s1.name x.name).put [[61]]) ∧ Sb [(0, .ptr b 0), (2, .int .i64 (d : Int)), (4, .ptr bx 0)] l') ?_ ?_
   ·refine zac ?_
    refine zae rfl ?_; (repeat ((refine zaa ?_; first | refine zad FpF.h (by decide) rfl ?_ | refine zaf PlF.h rfl hr4 rfl ?_); refine zae rfl ?_))
    by_cases en : x.name = []
    ·rw [if_pos en]
     refine zaa (zf8 (d := false) rfl rfl (by rw [decide_eq_true en]; rfl) ?_)
     exact zab (zag rfl (zan ⟨u, .refl _ _ _, W4, rfl, rfl, rfl, trivial⟩))
    ·rw [if_neg en]
     refine zaa (zf8 (d := true) rfl rfl (by rw [decide_eq_false en]; rfl) ?_)
     refine zab (zah rfl (zac ?_))
     refine zae rfl ?_; (repeat ((refine zaa ?_; first | refine zad FpF.h (by decide) rfl ?_ | refine zaf PlF.h rfl hr4 rfl ?_); refine zae rfl ?_))
     refine zaa (zaj rfl rfl rfl (zen (n := x.name) W4 hK4 (by omega) (by omega) fun u5 H5 k5 W5 => ?_))
     refine zab (zaw ?_)
     refine zae rfl ?_
     refine zaa (zar (n := 1) ElF.h (by decide) rfl rfl fun Hp6 hp6 rp6 => ?_)
     refine zaa (zaj rfl rfl rfl (zb6 (ws := [[61]]) (W5.keep0 hp6) (IsRow.sl (es := 1) (n := 1) rp6 rfl (Nat.le_refl 1)) (by simp only [zau, zbf, zch, zce, List.length_cons, List.length_nil]; omega) fun u6 H6 k6 W6 => ?_))
     replace k6 := (Wk.of hp6).trans k6
     exact zab ⟨u6, k5.trans k6, W6, rfl, rfl, rfl, trivial⟩
   rintro l6 H6 ⟨u6, k6, W6, hs6⟩
   obtain ⟨s2, hs2⟩ : ∃ s2, s2 = if x.name = [] then s1 else (s1.name x.name).put [[61]] := ⟨_, rfl⟩
   rw [← hs2] at W6
   simp only [← hs2] at hQ
   have hl2 : s2.words.length ≤ s1.words.length + 2 := by
    rw [hs2]
    split
    ·omega
    ·rw [zau, zbf]; simp only [List.length_cons, List.length_nil]; omega
   have hr6 := k6.row hoff4 hr4
   have hse := zpf x.e
   refine VA.sub hs6 (zac ?_)
   refine zae rfl ?_; (repeat ((refine zaa ?_; first | refine zad FpF.h (by decide) rfl ?_ | refine zaf PlF.h rfl hr6 rfl ?_); refine zae rfl ?_))
   refine zaa (zaj rfl rfl rfl (zen (n := x.proc) W6 (hK4.keep k6.keep) (by omega) (by omega) fun u7 H7 k7 W7 => ?_))
   have k47 := k6.trans k7
   have hr7 := k47.row hoff4 hr4
   refine zab (zaw ?_)
   refine zae rfl ?_; (repeat ((refine zaa ?_; first | refine zad FpF.h (by decide) rfl ?_ | refine zaf PlF.h rfl hr7 rfl ?_); refine zae rfl ?_))
   refine zaa (za0 (c := ((d + 1 : Nat) : Int)) rfl rfl Ju ?_)
   refine zaa (zaj rfl rfl rfl (list_ok (d := d + 1) ((kk.trans k47).exps hA hLe) (fun a ha => (kk.trans k47).off (hA a ha)) (hK4.keep k47.keep) W7 (by omega) (by rw [zbf]; omega) hll fun u8 H8 k8 W8 => ?_))
   have := zoh x.e (d + 1) (s2.name x.proc)
   rw [zbf] at this
   exact zab (fin _ H8 u8 _ rfl (k47.trans k8) W8 (by omega) hQ)
  rw [if_neg e6] at hQ
  (repeat ((refine zaa ?_; first | refine zai rfl ?_ | refine zat rfl rfl (by omega) ?_)))
  refine zab (zag rfl (zak (zac ?_)))
  by_cases e2 : x.kind = 2
  ·rw [if_pos e2] at hQ
   obtain ⟨a, hxa⟩ := f2 e2
   simp only [hxa] at hQ
   have hsa : sizE a + 1 ≤ sizS x := by
    rw [hxa] at hsz
    simp only [sizEs] at hsz
    omega
   have hsa2 := zkn a
   (repeat ((refine zaa ?_; first | refine zai rfl ?_ | refine zax rfl rfl (by omega) ?_)))
   refine zab (zah rfl (zan (zah rfl (zac ?_))))
   refine zae rfl ?_; (repeat ((refine zaa ?_; first | refine zad FpF.h (by decide) rfl ?_ | refine zaf PlF.h rfl hr4 rfl ?_); refine zae rfl ?_))
   refine zaa (zaj rfl rfl rfl (zen (n := x.name) W4 hK4 (by omega) (by omega) fun u5 H5 k5 W5 => ?_))
   have hr5 := k5.row hoff4 hr4
   refine zab (zak (zac ?_))
   refine zae rfl ?_; (repeat ((refine zaa ?_; first | refine zad FpF.h (by decide) rfl ?_ | refine zaf PlF.h rfl hr5 rfl ?_); refine zae rfl ?_))
   refine zaa (zat rfl rfl (by omega) (zab (zag rfl (zan (zac ?_)))))
   refine zae rfl ?_
   refine zaa (zar (n := 1) ElF.h (by decide) rfl rfl fun Hp6 hp6 rp6 => ?_)
   refine zaa (zaj rfl rfl rfl (zb6 (ws := [[61]]) (W5.keep0 hp6) (IsRow.sl (es := 1) (n := 1) rp6 rfl (Nat.le_refl 1)) (by simp only [zau, zbf, zch, zce, List.length_cons, List.length_nil]; omega) fun u6 H6 k6 W6 => ?_))
   replace k6 := (Wk.of hp6).trans k6
   have k46 := k5.trans k6
   have hr6 := k46.row hoff4 hr4
   obtain ⟨els, hsl, hel⟩ := zbc ((kk.trans k46).exps hA hLe)
   obtain ⟨ca, hca, hEa⟩ := hel 0 a (by rw [hxa]; rfl)
   have hca4 : ca.length = 4 := by obtain ⟨_, h, _⟩ := hEa.out; rw [h]; rfl
   have hlen1 : x.e.length = 1 := by rw [hxa]; rfl
   refine zab (zaw ?_)
   refine zae rfl ?_; (repeat ((refine zaa ?_; first | refine zad FpF.h (by decide) rfl ?_ | refine zaf PlF.h rfl hr6 rfl ?_ | refine za8 rfl rfl rfl UnF.h rfl hsl ?_); refine zae rfl ?_))
   refine zaa (zc8 (c := 0) rfl rfl (by rw [hlen1]; rfl) ?_)
   refine zaa (za3 (j := 0) UnF.h SzF.h rfl hsl rfl rfl (by rw [hxa]; simp) fun q0 hq0 => ?_)
   rw [hca] at hq0
   refine zaa (zaq (k := 4) PlF.h hca4 (by decide) rfl hq0 ?_)
   refine zae rfl ?_
   refine zaa (za0 (c := ((d + 1 : Nat) : Int)) rfl rfl Ju ?_)
   refine zaa (zaj rfl rfl rfl (zfm (szE a + 1) A a ca (d + 1) b H6 u6 _ _ (by omega) hEa (fun a ha => (kk.trans k46).off (hA a ha)) (hK4.keep k46.keep) W6 (by omega) (by rw [zau, zbf]; simp only [List.length_cons, List.length_nil]; omega) fun u7 H7 k7 W7 => ?_))
   have hlen6 := wE_len' a (d + 1) ((s1.name x.name).put [[61]])
   rw [zau, zbf] at hlen6
   simp only [List.length_cons, List.length_nil] at hlen6
   exact zab (fin _ H7 u7 _ rfl (k46.trans k7) W7 (by omega) hQ)
  rw [if_neg e2] at hQ
  by_cases e3 : x.kind = 3
  ·rw [if_pos e3] at hQ
   obtain ⟨a, a2, hxa⟩ := f3 e3
   simp only [hxa] at hQ
   have hsa : sizE a + sizE a2 + 1 ≤ sizS x := by
    rw [hxa] at hsz
    simp only [sizEs] at hsz
    omega
   have hsa2 := zkn a
   have hsa3 := zkn a2
   (repeat ((refine zaa ?_; first | refine zai rfl ?_ | refine zat rfl rfl (by omega) ?_)))
   refine zab (zag rfl (zaw ?_))
   (repeat ((refine zaa ?_; first | refine zai rfl ?_ | refine zax rfl rfl (by omega) ?_)))
   refine zab (zah rfl (zac ?_))
   refine zae rfl ?_; (repeat ((refine zaa ?_; first | refine zad FpF.h (by decide) rfl ?_ | refine zaf PlF.h rfl hr4 rfl ?_); refine zae rfl ?_))
   refine zaa (zaj rfl rfl rfl (zen (n := x.name) W4 hK4 (by omega) (by omega) fun u5 H5 k5 W5 => ?_))
   have hr5 := k5.row hoff4 hr4
   refine zab (zak (zac ?_))
   refine zae rfl ?_; (repeat ((refine zaa ?_; first | refine zad FpF.h (by decide) rfl ?_ | refine zaf PlF.h rfl hr5 rfl ?_); refine zae rfl ?_))
   refine zaa (zax rfl rfl (by omega) (zab (zah rfl (zac ?_))))
   refine zae rfl ?_
   refine zaa (zar (n := 1) ElF.h (by decide) rfl rfl fun Hp6 hp6 rp6 => ?_)
   refine zaa (zaj rfl rfl rfl (zb6 (ws := [[91]]) (W5.keep0 hp6) (IsRow.sl (es := 1) (n := 1) rp6 rfl (Nat.le_refl 1)) (by simp only [zau, zbf, zch, zce, List.length_cons, List.length_nil]; omega) fun u6 H6 k6 W6 => ?_))
   replace k6 := (Wk.of hp6).trans k6
   have k46 := k5.trans k6
   have hr6 := k46.row hoff4 hr4
   obtain ⟨els, hsl, hel⟩ := zbc ((kk.trans k46).exps hA hLe)
   obtain ⟨ca, hca, hEa⟩ := hel 0 a (by rw [hxa]; rfl)
   have hca4 : ca.length = 4 := by obtain ⟨_, h, _⟩ := hEa.out; rw [h]; rfl
   refine zab (zac ?_)
   refine zae rfl ?_; (repeat ((refine zaa ?_; first | refine zad FpF.h (by decide) rfl ?_ | refine zaf PlF.h rfl hr6 rfl ?_); refine zae rfl ?_))
   refine zaa (za3 (j := 0) UnF.h SzF.h rfl hsl rfl rfl (by rw [hxa]; simp) fun q0 hq0 => ?_)
   rw [hca] at hq0
   refine zaa (zaq (k := 4) PlF.h hca4 (by decide) rfl hq0 ?_)
   refine zae rfl ?_
   refine zaa (za0 (c := ((d + 1 : Nat) : Int)) rfl rfl Ju ?_)
   refine zaa (zaj rfl rfl rfl (zfm (szE a + 1) A a ca (d + 1) b H6 u6 _ _ (by omega) hEa (fun a ha => (kk.trans k46).off (hA a ha)) (hK4.keep k46.keep) W6 (by omega) (by rw [zau, zbf]; simp only [List.length_cons, List.length_nil]; omega) fun u7 H7 k7 W7 => ?_))
   have hlen6 := wE_len' a (d + 1) ((s1.name x.name).put [[91]])
   rw [zau, zbf] at hlen6
   simp only [List.length_cons, List.length_nil] at hlen6
   refine zab (zaw ?_)
   refine zae rfl ?_
   refine zaa (zar (n := 1) ElF.h (by decide) rfl rfl fun Hp8 hp8 rp8 => ?_)
   refine zaa (zaj rfl rfl rfl (zb6 (ws := [[93]]) (W7.keep0 hp8) (IsRow.sl (es := 1) (n := 1) rp8 rfl (Nat.le_refl 1)) (by simp only [zau, zbf, zch, zce, List.length_cons, List.length_nil]; omega) fun u8 H8 k8 W8 => ?_))
   replace k8 := (Wk.of hp8).trans k8
   refine zab (zac ?_)
   refine zae rfl ?_
   refine zaa (zar (n := 1) ElF.h (by decide) rfl rfl fun Hp9 hp9 rp9 => ?_)
   refine zaa (zaj rfl rfl rfl (zb6 (ws := [[61]]) (W8.keep0 hp9) (IsRow.sl (es := 1) (n := 1) rp9 rfl (Nat.le_refl 1)) (by simp only [zau, zbf, zch, zce, List.length_cons, List.length_nil]; omega) fun u9 H9 k9 W9 => ?_))
   replace k9 := (Wk.of hp9).trans k9
   have k49 := k46.trans (k7.trans (k8.trans k9))
   have hr9 := k49.row hoff4 hr4
   obtain ⟨els2, hsl2, hel2⟩ := zbc ((kk.trans k49).exps hA hLe)
   obtain ⟨cc, hcc, hEc⟩ := hel2 1 a2 (by rw [hxa]; rfl)
   have hcc4 : cc.length = 4 := by obtain ⟨_, h, _⟩ := hEc.out; rw [h]; rfl
   have hlen2 : x.e.length = 2 := by rw [hxa]; rfl
   refine zab (zaw ?_)
   refine zae rfl ?_; (repeat ((refine zaa ?_; first | refine zad FpF.h (by decide) rfl ?_ | refine zaf PlF.h rfl hr9 rfl ?_ | refine za8 rfl rfl rfl UnF.h rfl hsl2 ?_); refine zae rfl ?_))
   refine zaa (zc8 (c := 1) rfl rfl (by rw [hlen2]; rfl) ?_)
   refine zaa (za3 (j := 1) UnF.h SzF.h rfl hsl2 rfl rfl (by rw [hxa]; simp) fun q0 hq0 => ?_)
   rw [hcc] at hq0
   refine zaa (zaq (k := 4) PlF.h hcc4 (by decide) rfl hq0 ?_)
   refine zae rfl ?_
   refine zaa (za0 (c := ((d + 1 : Nat) : Int)) rfl rfl Ju ?_)
   refine zaa (zaj rfl rfl rfl (zfm (szE a2 + 1) A a2 cc (d + 1) b H9 u9 _ _ (by omega) hEc (fun a ha => (kk.trans k49).off (hA a ha)) (hK4.keep k49.keep) W9 (by omega) (by rw [zau, zau]; simp only [List.length_cons, List.length_nil]; omega) fun u10 H10 k10 W10 => ?_))
   have hlen9 := wE_len' a2 (d + 1) (((wE a (d + 1) ((s1.name x.name).put [[91]])).put [[93]]).put [[61]])
   rw [zau, zau] at hlen9
   simp only [List.length_cons, List.length_nil] at hlen9
   exact zab (fin _ H10 u10 _ rfl (k49.trans k10) W10 (by omega) hQ)
  rw [if_neg e3] at hQ
  (repeat ((refine zaa ?_; first | refine zai rfl ?_ | refine zat rfl rfl (by omega) ?_)))
  refine zab (zag rfl (zaw ?_))
  (repeat ((refine zaa ?_; first | refine zai rfl ?_ | refine zat rfl rfl (by omega) ?_)))
  refine zab (zag rfl (zac ?_))
  by_cases e9 : x.kind = 9
  ·rw [if_pos e9] at hQ
   (repeat ((refine zaa ?_; first | refine zai rfl ?_ | refine zax rfl rfl (by omega) ?_)))
   refine zab (zah rfl (zac ?_))
   refine zae rfl ?_
   refine zaa (zar (n := 1) ElF.h (by decide) rfl rfl fun Hp5 hp5 rp5 => ?_)
   refine zaa (zaj rfl rfl rfl (zb6 (ws := [[114, 101, 97, 100]]) (W4.keep0 hp5) (IsRow.sl (es := 1) (n := 1) rp5 rfl (Nat.le_refl 1)) (by simp only [zau, zbf, zch, zce, List.length_cons, List.length_nil]; omega) fun u5 H5 k5 W5 => ?_))
   replace k5 := (Wk.of hp5).trans k5
   have hr5 := k5.row hoff4 hr4
   refine zab (zaw ?_)
   refine zae rfl ?_; (repeat ((refine zaa ?_; first | refine zad FpF.h (by decide) rfl ?_ | refine zaf PlF.h rfl hr5 rfl ?_); refine zae rfl ?_))
   refine zaa (zaj rfl rfl rfl (zen (n := x.name) W5 (hK4.keep k5.keep) (by omega) (by rw [zau]; simp only [List.length_cons, List.length_nil]; omega) fun u6 H6 k6 W6 => ?_))
   exact zab (fin _ H6 u6 _ rfl (k5.trans k6) W6 (by rw [zbf, zau]; simp only [List.length_cons, List.length_nil]; omega) hQ)
  rw [if_neg e9] at hQ
  (repeat ((refine zaa ?_; first | refine zai rfl ?_ | refine zat rfl rfl (by omega) ?_)))
  refine zab (zag rfl (zac ?_))
  refine zae rfl ?_; (repeat ((refine zaa ?_; first | refine zad FpF.h (by decide) rfl ?_ | refine zaf PlF.h rfl hr4 rfl ?_); refine zae rfl ?_))
  refine zaa (zaj rfl rfl rfl (zvq x.kind ?_))
  refine zae rfl ?_
  refine zaa (zar (n := 1) ElF.h (by decide) rfl rfl fun Hp5 hp5 rp5 => ?_)
  refine zaa (zaj rfl rfl rfl (zb6 (ws := [wordB x.kind]) (W4.keep0 hp5) (IsRow.sl (es := 1) (n := 1) rp5 rfl (Nat.le_refl 1)) (by simp only [zau, zbf, zch, zce, List.length_cons, List.length_nil]; omega) fun u5 H5 k5 W5 => ?_))
  replace k5 := (Wk.of hp5).trans k5
  have hr5 := k5.row hoff4 hr4
  obtain ⟨els, hsl, _⟩ := zbc ((kk.trans k5).exps hA hLe)
  refine zab (zac ?_)
  refine zae rfl ?_; (repeat ((refine zaa ?_; first | refine zad FpF.h (by decide) rfl ?_ | refine zaf PlF.h rfl hr5 rfl ?_ | refine za8 rfl rfl rfl UnF.h rfl hsl ?_); refine zae rfl ?_))
  refine zab (zam ?_)
  refine zbw (fun (i : Nat) => [(0, .ptr b 0), (2, .int .i64 (d : Int)), (34, ve), (35, .int .i64 (x.e.length : Int)), (36, .int .i64 (i : Int))]) (fun i H' => i ≤ x.e.length ∧ ∃ u', Wk b H4 u H' u' ∧ Wr b H' u' (wEs (d + 1) (x.e.take i) (s1.put [wordB x.kind]))) (fun i => x.e.length - i) ?_ 0 _ H5 ⟨rfl, rfl, rfl, rfl, rfl, trivial⟩ ⟨Nat.zero_le _, u5, k5, by simpa [wEs] using W5⟩
  rintro i H6 ⟨hle, u6, k46, W6⟩
  have hlen := zph (d + 1) (x.e.take i) (s1.put [wordB x.kind])
  have htk := zd5 x.e i
  rw [zau] at hlen
  simp only [List.length_singleton] at hlen
  refine zac ?_
  by_cases hi : i < x.e.length
  rotate_left
  ·refine zaa (zcb rfl rfl (decide_eq_false (by omega)) (zab (zak (zag rfl (zbn ?_)))))
   rw [List.take_of_length_le (by omega)] at W6 hlen
   exact fin _ H6 u6 _ rfl k46 W6 (by omega) hQ
  obtain ⟨y, hy⟩ : ∃ y, x.e[i]? = some y := ⟨_, List.getElem?_eq_getElem hi⟩
  refine zaa (zcb rfl rfl (decide_eq_true (by omega)) (zab (zak (zah rfl (zan (zak (zam (zac ?_))))))))
  obtain ⟨els3, hsl3, hel3⟩ := zbc ((kk.trans k46).exps hA hLe)
  obtain ⟨cy, hcy, hEy⟩ := hel3 i y hy
  have hcy4 : cy.length = 4 := by obtain ⟨_, h, _⟩ := hEy.out; rw [h]; rfl
  have hsy : sizEs (x.e.take i) + sizE y ≤ sizEs x.e := by
   have := zd5 x.e (i + 1)
   rw [zbt hy, zev] at this
   exact this
  have hsy2 := zkn y
  refine zae rfl ?_
  refine zaa (za3 UnF.h SzF.h rfl hsl3 rfl rfl hi fun q0 hq0 => ?_)
  rw [hcy] at hq0
  refine zaa (zaq (k := 4) PlF.h hcy4 (by decide) rfl hq0 ?_)
  refine zaa (zci ZeF.h fun H7 hk7 hr7 => ?_)
  refine zae rfl ?_
  obtain ⟨by_, hby⟩ : ∃ b, b = H6.nx := ⟨_, rfl⟩
  have hoff7 : Off b H7 u6 by_ := by
   have := hr7.1
   rw [hby]
   exact W6.fresh this
  rw [← hby] at hr7 ⊢
  refine zaa (zbv (k := 4) SzF.h hcy4 rfl rfl (zp1 hEy) hr7 hcy4 fun H8 hk8 hn8 hr8 => ?_)
  have hk68 : Keep Non H6 H8 := (hk7.trans hk8 fun c hc => .inr (by rw [hc, hby]; exact Nat.le_refl _)).wide fun _ h => h
  have W8 := W6.keep0 hk68
  have k48 : Wk b H4 u H8 u6 := k46.trans (.of hk68)
  have hE8 := hEy.keep hk68
  refine zab (zaw ?_)
  refine zae rfl ?_
  refine zaa (zaq (k := 4) PlF.h hcy4 (by decide) rfl hr8.pts ?_)
  refine zae rfl ?_
  refine zaa (za0 (c := ((d + 1 : Nat) : Int)) rfl rfl Ju ?_)
  refine zaa (zaj rfl rfl rfl (zfm (szE y + 1) A y cy (d + 1) b H8 u6 _ _ (by omega) hE8 (fun a ha => (kk.trans k48).off (hA a ha)) (hK4.keep k48.keep) W8 (by omega) (by omega) fun u9 H9 k9 W9 => ?_))
  refine zab (zaw ?_)
  refine zaa (za0 (c := ((i + 1 : Nat) : Int)) rfl rfl Ju ?_)
  refine zae rfl ?_
  refine zab ⟨i + 1, ?_, ⟨rfl, rfl, rfl, rfl, rfl, trivial⟩, by omega, u9, k48.trans k9, ?_⟩
  ·show x.e.length - (i + 1) < x.e.length - i
   omega
  ·rw [zbt hy, zrb]
   exact W9
end
end Go.Proofs.YtbmedhaopnhggaaGreatDoor
