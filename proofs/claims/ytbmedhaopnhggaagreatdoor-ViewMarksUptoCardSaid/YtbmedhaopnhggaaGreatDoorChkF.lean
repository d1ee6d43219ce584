/-
  Checking a program (parallaxref04.Check), walked: it answers; what is told of a right program. Conditions: how many statements there are.
-/
import Derived.Test.YtbmedhaopnhggaaGreatDoorChkE
namespace Go.Proofs.YtbmedhaopnhggaaGreatDoor
open Go Eng Tryz
instance ize_42 : ZeF prog 42 (.agg [.nils, .nils]) := ⟨by kernel_rfl⟩
instance ize_44 : ZeF prog 44 (.agg [.int .i64 0, .int .i64 0]) := ⟨by kernel_rfl⟩
instance ibs_42 : BsF prog 42 := ⟨by kernel_rfl⟩
instance ibs_44 : BsF prog 44 := ⟨by kernel_rfl⟩
instance isz_42 : SzF prog 42 2 := ⟨by kernel_rfl⟩
instance isz_44 : SzF prog 44 2 := ⟨by kernel_rfl⟩
instance ifp_42_0 : FpF prog 42 0 ⟨0, false, 1⟩ := ⟨by kernel_rfl⟩
instance ipl_39 : PlF prog 39 ⟨0, false, 1⟩ := ⟨by kernel_rfl⟩
instance iel_39 : ElF prog 39 ⟨90, 1, .nils⟩ := ⟨by kernel_rfl⟩
instance iun_39 : UnF prog 39 (.slice 90) := ⟨by kernel_rfl⟩
instance isz_39 : SzF prog 39 1 := ⟨by kernel_rfl⟩
instance ifp_42_1 : FpF prog 42 1 ⟨1, false, 1⟩ := ⟨by kernel_rfl⟩
instance ipl_40 : PlF prog 40 ⟨0, false, 1⟩ := ⟨by kernel_rfl⟩
instance isz_40 : SzF prog 40 1 := ⟨by kernel_rfl⟩
def v11c0 : CV := Jt [Jc 17 (.build 42 #[]), Jc 18 (.build 44 #[]), .op none (.store 42 (Ja 2) (Ja 17)), .op none (.store 44 (Ja 3) (Ja 18)), Ji 4 2] (.ret)
def v11h1 : CV := Jt [Jg 13 24 1 0, Jf 14 22 13, Jj 15 14 22, Jc 16 (.binOp .gtr 3 (Ja 15) (Jb 40) 3)] (.cond (Ja 16) v11c0 (.skip))
def v11l1h0 : CV := Jt [Jd 19 6, Jg 20 24 1 0, Jf 21 22 20, Jj 22 21 22, Jc 23 (.binOp .lss 3 (Ja 19) (Ja 22) 3)] (.cond (Ja 23) (.skip) (.exit 0))
def v11l2h0 : CV := Jt [Jd 48 8, Jd 49 6, Jc 50 (.binOp .lss 3 (Ja 48) (Ja 49) 3)] (.cond (Ja 50) (.skip) (.exit 2))
def v11c3 : CV := Jt [Jc 62 (.build 42 #[]), Jc 63 (.build 44 #[]), .op none (.store 42 (Ja 2) (Ja 62)), .op none (.store 44 (Ja 3) (Ja 63)), Ji 4 40] (.ret)
def v11k1 : CV := Jt [Jg 53 24 1 0, Jf 54 22 53, Jd 55 8, Jk 56 22 54 55, Jg 57 74 56 0, Jf 58 9 57, Jg 59 74 7 0, Jf 60 9 59, Jc 61 (.binOp .eql 9 (Ja 58) (Ja 60) 9)] (.cond (Ja 61) v11c3 (.skip))
def v11l2t1 : CV := .seq (.block 3 v11k1) (.reg [Jd 51 8, Jc 52 (.binOp .add 3 (Ja 51) (Jb 1) 3), Jh 8 52])
def v11l2 : CV := .seq v11l2h0 v11l2t1
def v11k0t2 : CV := Jt [Ji 8 0] (.block 2 (.loop v11l2))
def v11k0t1 : CV := Jt [Jd 31 5, Jd 32 31, Jq 32 false 33 74 7 0, Jr 32 false 34 9 33, Js 32 false 35 (.binOp .eql 9 (Ja 34) (.const (.string ⟨⟨[109, 97, 105, 110]⟩⟩)) 9), Jp 32 false 36 35, Jq 36 true 37 74 7 1, Jr 36 true 38 71 37, Js 36 true 39 (.call ⟨.builtin .len, #[(Ja 38)], #[71]⟩), Js 36 true 40 (.binOp .eql 3 (Ja 39) (Jb 0) 3), Js 32 false 41 (.pick (Ja 36) (Ja 40) (.const (.bool false))), Jp 32 false 42 41, Jq 42 true 43 74 7 2, Jr 42 true 44 3 43, Js 42 true 45 (.binOp .eql 3 (Ja 44) (Jb 0) 3), Js 32 false 46 (.pick (Ja 42) (Ja 45) (.const (.bool false))), Jc 47 (.pick (Ja 32) (.const (.bool true)) (Ja 46)), Jh 5 47] v11k0t2
def v11k0 : CV := Jt [Jg 26 24 1 0, Jf 27 22 26, Jd 28 6, Jk 29 22 27 28, Jf 30 74 29, Jc 7 (.alloc 74), .op none (.store 74 (Ja 7) (Ja 30))] v11k0t1
def v11l1t1 : CV := .seq (.block 1 v11k0) (.reg [Jd 24 6, Jc 25 (.binOp .add 3 (Ja 24) (Jb 1) 3), Jh 6 25])
def v11l1 : CV := .seq v11l1h0 v11l1t1
def v11h3 : CV := Jt [Ji 6 0] (.block 0 (.loop v11l1))
def v11c4 : CV := Jt [Jc 66 (.build 42 #[]), Jc 67 (.build 44 #[]), .op none (.store 42 (Ja 2) (Ja 66)), .op none (.store 44 (Ja 3) (Ja 67)), Ji 4 42] (.ret)
def v11h4 : CV := Jt [Jd 64 5, Jc 65 (.unOp .not 4 (Ja 64))] (.cond (Ja 65) v11c4 (.skip))
def v11l5h0 : CV := Jt [Jd 69 10, Jg 70 24 1 0, Jf 71 22 70, Jj 72 71 22, Jc 73 (.binOp .lss 3 (Ja 69) (Ja 72) 3)] (.cond (Ja 73) (.skip) (.exit 4))
def v11c6 : CV := Jt [Jc 88 (.build 42 #[]), Jd 89 10, Jd 90 11, Jc 91 (.build 44 #[(0, (Ja 89)), (1, (Ja 90))]), Jd 92 12, .op none (.store 42 (Ja 2) (Ja 88)), .op none (.store 44 (Ja 3) (Ja 91)), Jh 4 92] (.ret)
def v11k2h1 : CV := Jt [Jd 86 12, Jc 87 (.binOp .neq 28 (Ja 86) (Jb 0) 28)] (.cond (Ja 87) v11c6 (.skip))
def v11k2t2 : CV := Jt [Jg 93 42 9 0, Jf 94 39 93, Jg 95 24 1 0, Jf 96 22 95, Jd 97 10, Jk 98 22 96 97, Jf 99 74 98, Jn 100 29 99 74, .ck 94 (.load 39 (Ja 93)), Jc 101 (.buildSlice 39 1 #[(0, (Ja 100))]), Jc 102 (.call ⟨.builtin .append, #[(Ja 94), (Ja 101)], #[39, 39]⟩), Jg 103 42 9 0, .op none (.store 39 (Ja 103) (Ja 102))] (.reg [Jg 104 42 9 1, Jf 105 40 104, Jg 106 24 1 0, Jf 107 22 106, Jd 108 10, Jk 109 22 107 108, Jg 110 74 109 3, Jf 111 72 110, Jn 112 30 111 72, .ck 105 (.load 40 (Ja 104)), Jc 113 (.buildSlice 40 1 #[(0, (Ja 112))]), Jc 114 (.call ⟨.builtin .append, #[(Ja 105), (Ja 113)], #[40, 40]⟩), Jg 115 42 9 1, .op none (.store 40 (Ja 115) (Ja 114))])
def v11k2t1 : CV := .seq v11k2h1 v11k2t2
def v11k2 : CV := Jt [Jf 77 24 1, Jg 78 24 1 0, Jf 79 22 78, Jd 80 10, Jk 81 22 79 80, Jf 82 74 81, Jo 83 28 77 82 24 74, Jd 76 83, Jl 84 76 0, Jl 85 76 1, Jh 11 84, Jh 12 85] v11k2t1
def v11l5t1 : CV := .seq (.block 5 v11k2) (.reg [Jd 74 10, Jc 75 (.binOp .add 3 (Ja 74) (Jb 1) 3), Jh 10 75])
def v11l5 : CV := .seq v11l5h0 v11l5t1
def v11h6 : CV := Jt [Ji 10 0] (.block 4 (.loop v11l5))
def v11t7 : CV := Jt [Jf 116 42 9, Jc 117 (.build 44 #[]), .op none (.store 42 (Ja 2) (Ja 116)), .op none (.store 44 (Ja 3) (Ja 117)), Ji 4 0] (.ret)
def v11t6 : CV := .seq v11h6 v11t7
def v11t5 : CV := Jt [Jc 68 (.build 42 #[]), Jc 9 (.alloc 42), .op none (.store 42 (Ja 9) (Ja 68))] v11t6
def v11t4 : CV := .seq v11h4 v11t5
def v11t3 : CV := .seq v11h3 v11t4
def v11t2 : CV := Jt [Jc 5 (.assign (.const (.bool false)))] v11t3
def v11t1 : CV := .seq v11h1 v11t2
def v11 : CV := Jt [Jc 1 (.box 24 (Ja 0)), Jc 2 (.alloc 42), Jc 3 (.alloc 44), Ji 4 0] v11t1
noncomputable def b11 : Code := f11.body.getD .skip
theorem b11_eq : f11.body = some b11 := by kernel_rfl
theorem v11_eq : viewC prog b11 = some v11 := by kernel_rfl
theorem r11_eq : f11.results.toList = [.cell 2 42, .cell 3 44, .tmp 4] := by kernel_rfl
theorem pl_place : plcOf prog 44 0 = some ⟨0, true, 2⟩ := by kernel_rfl
theorem zun : plcOf prog 42 0 = some ⟨0, true, 2⟩ := by kernel_rfl
def mksC (l : List Prc) : List AV := l.map fun x => .int .i64 (cSs x.body : Int)
theorem zuk {H : Heap} {v : AV} {es n : Nat} {cs : List AV} (h : Own H v es n cs) : v.cells = [v] := by
 obtain ⟨_, _, ⟨rfl, _⟩ | ⟨b, row, rfl, _⟩⟩ := h <;> rfl
section
variable {tb : List FuncId} {gl : List (List AV)} {A : Nat → Prop} {H : Heap} {u v w : AV} {b : Nat} {Q : AV → Heap → Prop}
set_option maxHeartbeats 0 in
theorem Check_ok {p : List Prc} (hp : IsPg Non H w p) (hc : ∀ x ∈ p, cSs x.body + x.params.length < 400000)
    (hQ : ∀ ci cp (e : Int) H', Keep Non H H' → ci.length = 2 → cp.length = 2 → scalL ci = true → scalL cp = true → (e = 0 → ∃ iv im, ci = [iv, im] ∧ IsSl H' im 1 p.length (mksC p)) → Q (.tup [.agg ci, .agg cp, .int .i64 e]) H') : WpF prog tb gl 11 [w] H Q := by
  have hrB : rB = 140737488351232 := rfl
  have hlim : limit = 1000000 := rfl
  have hp0 := hp
  obtain ⟨hpl, vp, rfl, hLp⟩ := hp
  refine faM func11 b11_eq v11_eq r11_eq (.inr (by simp)) ?_
  refine zac ?_
  refine zaa (zcd rfl fun H1 hk1 hr1 => ?_)
  obtain ⟨bx, hbx⟩ : ∃ b, b = H.nx := ⟨_, rfl⟩
  rw [← hbx] at hr1 ⊢
  have hr1 : IsRow H1 bx [vp] false false := hr1
  refine zaa (zci ZeF.h fun H2 hk2 hr2 => ?_)
  obtain ⟨b2, hb2⟩ : ∃ b, b = H1.nx := ⟨_, rfl⟩
  rw [← hb2] at hr2 ⊢
  refine zaa (zci ZeF.h fun H3 hk3 hr3 => ?_)
  obtain ⟨b3, hb3⟩ : ∃ b, b = H2.nx := ⟨_, rfl⟩
  rw [← hb3] at hr3 ⊢
  have hk03 := (hk1.trans0 hk2).trans0 hk3
  have hx3 := hr1.keep0 (hk2.trans0 hk3)
  have hi3 : IsRow H3 b2 [.nils, .nils] false false := hr2.keep0 hk3
  have hl3 : IsRow H3 b3 [.int .i64 0, .int .i64 0] false false := hr3
  have n1 := hk1.nx
  have n2 := hk2.nx
  have n3 := hk3.nx
  have lt2 : b2 < b3 := by rw [hb3]; exact hr2.1
  have hLp3 : IsLs Non (IsPc Non) 4 H3 vp p := hLp.keep hk03 fun _ _ _ h => h.keep hk03
  clear hr1 hr2 hr3 hLp
  refine zae rfl ?_
  refine zab ?_
  -- what is left is put
  have put : ∀ (R : Ex → Fm → Heap → Prop), (∀ l H, leftM prog [.cell 2 42, .cell 3 44, .tmp 4] Q .ret l H → R .ret l H) → ∀ (H' : Heap) (l' : Fm) (ci cp : List AV) (e : Int) (x y : Operand) (d : Operand), Keep Non H3 H' → evA x l' = some (.agg ci) → evA y l' = some (.agg cp) → evA d l' = some (.int .i64 e) → lk 2 l' = some (.ptr b2 0) → lk 3 l' = some (.ptr b3 0) → ci.length = 2 → cp.length = 2 → scalL ci = true → scalL cp = true →
      (∀ H'', Keep Non H H'' → Keep (fun c => c = b2 ∨ c = b3) H' H'' → Q (.tup [.agg ci, .agg cp, .int .i64 e]) H'') →
      IA prog tb gl [.op none (.store 42 (.tmp 2) x), .op none (.store 44 (.tmp 3) y), .op (some 4) (.assign d)] l' H' fun l'' H'' => VA prog tb gl .ret l'' H'' R := by
    intro R hR H' l' ci cp e x y d hk hx hy hd g2 g3 h1 h2 s1 s2 hq
    have hi := hi3.keep0 hk
    have hl := hl3.keep0 hk
    refine zaa (zbv (k := 2) SzF.h h1 (show evA (.tmp 2) l' = some (.ptr b2 0) from g2) hx s1 hi (by rw [h1]; rfl) fun H4 hk4 hn4 hr4 => ?_)
    have hl4 := hl.keep hk4 (.inl (by intro h; omega))
    refine zaa (zbv (k := 2) SzF.h h2 (show evA (.tmp 3) _ = some (.ptr b3 0) from g3) hy s2 hl4 (by rw [h2]; rfl) fun H5 hk5 hn5 hr5 => ?_)
    have hr45 := hr4.keep hk5 (.inl (by intro h; omega))
    refine zaa (zai hd ?_)
    have kk : Keep (fun c => c = b2 ∨ c = b3) H' H5 := (hk4.wide fun c hc => Or.inl hc).trans hk5 fun c hc => .inl (.inr hc)
    refine zab (zao (hR _ _ ⟨_, ⟨b2, ci, false, false, .agg ci, _, g2, hr45, .inl ⟨0, by rw [h1]; exact zun, rfl⟩, rfl, b3, cp, false, false, .agg cp, _, g3, hr5, .inl ⟨0, by rw [h2]; exact pl_place, rfl⟩, rfl, _, _, rfl, rfl, rfl⟩, ?_⟩))
    exact hq H5 ((hk03.trans0 hk).trans kk fun c hc => .inr (by rcases hc with h | h <;> omega)) kk
  refine zak (zac ?_)
  refine zae rfl ?_; (repeat ((refine zaa ?_; first | refine zad FpF.h (by decide) rfl ?_ | refine zaf PlF.h rfl hx3 rfl ?_); refine zae rfl ?_))
  refine zaa (za7 rfl rfl rfl UnF.h rfl hLp3 ?_)
  by_cases h40 : 40 < p.length
  · refine zaa (zcu rfl rfl (by omega) (zab (zah rfl (zac ?_))))
    refine zaa (zbz BsF.h ZeF.h (pl := []) rfl rfl ?_)
    refine zaa (zbz BsF.h ZeF.h (pl := []) rfl rfl ?_)
    refine put _ ?_ H3 _ [.nils, .nils] [.int .i64 0, .int .i64 0] 2 _ _ _ (.refl _ _) ?_ ?_ ?_ ?_ ?_ rfl rfl rfl rfl fun H'' hk' _ => hQ _ _ _ _ hk' rfl rfl (by (rfl)) rfl fun h => by cases h
    iterate 6 (first | rfl | exact fun _ _ h => h)
  refine zaa (zb9 rfl rfl (by omega) (zab (zag rfl (zan (zac ?_)))))
  refine zae rfl ?_
  refine zab (zak (zac ?_))
  refine zae rfl ?_
  refine zab (zam ?_)
  refine zbw (fun (i : Nat × Bool) => [(1, .ptr bx 0), (2, .ptr b2 0), (3, .ptr b3 0), (5, .bool i.2), (6, .int .i64 (i.1 : Int))]) (fun i H' => i.1 ≤ p.length ∧ Keep Non H3 H') (fun i => p.length - i.1) ?_ (0, false) _ H3 ⟨rfl, rfl, rfl, rfl, rfl, trivial⟩ ⟨Nat.zero_le _, .refl _ _⟩
  rintro ⟨i, m⟩ H4 ⟨hle, hk4⟩
  simp only at hle hk4
  refine VA.sub (l0 := [(1, .ptr bx 0), (2, .ptr b2 0), (3, .ptr b3 0), (5, .bool m), (6, .int .i64 (i : Int))]) ⟨rfl, rfl, rfl, rfl, rfl, trivial⟩ ?_
  have hx4 := hx3.keep0 hk4
  have hLp4 : IsLs Non (IsPc Non) 4 H4 vp p := hLp3.keep hk4 fun _ _ _ h => h.keep hk4
  refine zak (zac ?_)
  refine zae rfl ?_; (repeat ((refine zaa ?_; first | refine zad FpF.h (by decide) rfl ?_ | refine zaf PlF.h rfl hx4 rfl ?_); refine zae rfl ?_))
  refine zaa (za7 rfl rfl rfl UnF.h rfl hLp4 ?_)
  by_cases hi : i < p.length
  · obtain ⟨q, hq⟩ : ∃ q, p[i]? = some q := ⟨_, List.getElem?_eq_getElem hi⟩
    refine zaa (zbx rfl rfl (by omega) ?_)
    refine zab (zah rfl (zan (zak (zam (zac ?_)))))
    refine zae rfl ?_; (repeat ((refine zaa ?_; first | refine zad FpF.h (by decide) rfl ?_ | refine zaf PlF.h rfl hx4 rfl ?_); refine zae rfl ?_))
    refine zaa (zba UnF.h SzF.h rfl hLp4 rfl rfl hq fun q0 c0 hR0 hcl0 hq0 => ?_)
    have hR00 := hR0
    obtain ⟨vm, vB, rfl, _, _, hml, _, hLm, _⟩ := hR0
    refine zaa (zaq (k := 4) PlF.h rfl (by decide) rfl hq0 ?_)
    refine zaa (zci ZeF.h fun H5 hk5 hr5 => ?_)
    refine zae rfl ?_
    obtain ⟨by_, hby⟩ : ∃ b, b = H4.nx := ⟨_, rfl⟩
    rw [← hby] at hr5 ⊢
    refine zaa (zbv (k := 4) SzF.h rfl rfl rfl (zhg hR00) hr5 rfl fun H6 hk6 hn6 hr6 => ?_)
    have hk46 : Keep Non H4 H6 := (hk5.trans hk6 fun c hc => .inr (by rw [hc, hby]; exact Nat.le_refl _)).wide fun _ h => h
    have hk36 := hk4.trans0 hk46
    have hx6 := hx3.keep0 hk36
    have hLp6 : IsLs Non (IsPc Non) 4 H6 vp p := hLp3.keep hk36 fun _ _ _ h => h.keep hk36
    have hLm6 : IsLs Non IsPm 2 H6 vm q.params := hLm.keep hk46 fun _ _ _ h => h
    refine zab (zak ?_)
    refine zgj (fun l' H' => H' = H6 ∧ ∃ m' : Bool, Sb [(1, .ptr bx 0), (2, .ptr b2 0), (3, .ptr b3 0), (5, .bool m'), (6, .int .i64 (i : Int)), (7, .ptr by_ 0)] l') ?_ ?_
    · cases m <;>
        ((repeat' first | (refine zae rfl ?_; first | refine zbb rfl ?_ | refine zef rfl ?_ | ((first | refine zaa ?_ | refine zav rfl ?_); first | refine zal rfl ?_ | refine zaz rfl rfl rfl ?_ | refine za1 rfl rfl ?_ | refine zad FpF.h (by decide) rfl ?_ | refine zaf PlF.h rfl hr6 rfl ?_ | refine za7 rfl rfl rfl UnF.h rfl hLm6 ?_ | refine zh6 rfl rfl (fun hc => ?_) (fun hc => ?_) | refine zf7 rfl rfl (fun hc => ?_) (fun hc => ?_)) | refine zab ?_) | refine zaw ?_)
         all_goals exact ⟨rfl, _, rfl, rfl, rfl, rfl, rfl, rfl, trivial⟩)
    rintro l7 H7 ⟨rfl, m', hs7⟩
    refine VA.sub hs7 (zac ?_)
    refine zae rfl ?_
    refine zab (zam ?_)
    refine zbw (fun (k : Nat) => [(1, .ptr bx 0), (2, .ptr b2 0), (3, .ptr b3 0), (5, .bool m'), (6, .int .i64 (i : Int)), (7, .ptr by_ 0), (8, .int .i64 (k : Int))]) (fun k H' => H' = H7 ∧ k ≤ i) (fun k => i - k) ?_ 0 _ H7 ⟨rfl, rfl, rfl, rfl, rfl, rfl, rfl, trivial⟩ ⟨rfl, Nat.zero_le _⟩
    rintro k H' ⟨rfl, hke⟩
    by_cases hki : k < i
    · obtain ⟨y, hy⟩ : ∃ y, p[k]? = some y := ⟨_, List.getElem?_eq_getElem (by omega)⟩
      refine zak (zac ?_)
      refine zae rfl ?_
      refine zaa (zbx rfl rfl (by omega) ?_)
      refine zab (zah rfl (zan (zak (zam (zac ?_)))))
      refine zae rfl ?_; (repeat ((refine zaa ?_; first | refine zad FpF.h (by decide) rfl ?_ | refine zaf PlF.h rfl hx6 rfl ?_); refine zae rfl ?_))
      refine zaa (zba UnF.h SzF.h rfl hLp6 rfl rfl hy fun q1 c1 ⟨w1, w2, hc1, _⟩ hcl1 hq1 => ?_)
      subst hc1
      refine zaa (zas FpF.h (by decide) rfl hq1 fun p2 hp2 => ?_)
      refine zaa (zbh PlF.h rfl hp2 rfl ?_)
      refine zae rfl ?_; (repeat ((refine zaa ?_; first | refine zad FpF.h (by decide) rfl ?_ | refine zaf PlF.h rfl hr6 rfl ?_); refine zae rfl ?_))
      by_cases hn : y.name = q.name
      · refine zaa (zi9 rfl rfl hn (zab (zah rfl (zac ?_))))
        refine zaa (zbz BsF.h ZeF.h (pl := []) rfl rfl ?_)
        refine zaa (zbz BsF.h ZeF.h (pl := []) rfl rfl ?_)
        refine put _ ?_ H' _ [.nils, .nils] [.int .i64 0, .int .i64 0] 40 _ _ _ hk36 ?_ ?_ ?_ ?_ ?_ rfl rfl rfl rfl fun H'' hk' _ => hQ _ _ _ _ hk' rfl rfl (by (rfl)) rfl fun h => by cases h
        iterate 6 (first | rfl | exact fun _ _ h => h)
      refine zaa (zi8 rfl rfl hn (zab (zag rfl (zan (zaw ?_)))))
      refine zae rfl ?_
      refine zaa (za0 (c := ((k + 1 : Nat) : Int)) rfl rfl Ju ?_)
      refine zae rfl ?_
      refine zab ⟨k + 1, ?_, ⟨rfl, rfl, rfl, rfl, rfl, rfl, rfl, trivial⟩, rfl, by omega⟩
      show i - (k + 1) < i - k
      omega
    refine zak (zac ?_)
    refine zae rfl ?_
    refine zaa (zbp rfl rfl (by omega) ?_)
    refine zab (zag rfl (zbn (zaw ?_)))
    refine zae rfl ?_
    refine zaa (za0 (c := ((i + 1 : Nat) : Int)) rfl rfl Ju ?_)
    refine zae rfl ?_
    refine zab ⟨(i + 1, m'), ?_, ⟨rfl, rfl, rfl, rfl, rfl, trivial⟩, by show i + 1 ≤ _; omega, hk36⟩
    show p.length - (i + 1) < p.length - i
    omega
  refine zaa (zbp rfl rfl (by omega) ?_)
  refine zab (zag rfl (zbn (zak (zac ?_))))
  refine zae rfl ?_
  cases m with
  | false =>
    refine zab (zah rfl (zac ?_))
    refine zaa (zbz BsF.h ZeF.h (pl := []) rfl rfl ?_)
    refine zaa (zbz BsF.h ZeF.h (pl := []) rfl rfl ?_)
    refine put _ ?_ H4 _ [.nils, .nils] [.int .i64 0, .int .i64 0] 42 _ _ _ hk4 ?_ ?_ ?_ ?_ ?_ rfl rfl rfl rfl fun H'' hk' _ => hQ _ _ _ _ hk' rfl rfl (by (rfl)) rfl fun h => by cases h
    iterate 6 (first | rfl | exact fun _ _ h => h)
  | true =>
  refine zab (zag rfl (zan (zac ?_)))
  refine zaa (zbz BsF.h ZeF.h (pl := []) rfl rfl ?_)
  refine zaa (zci ZeF.h fun H5 hk5 hr5 => ?_)
  obtain ⟨b9, hb9⟩ : ∃ b, b = H4.nx := ⟨_, rfl⟩
  rw [← hb9] at hr5 ⊢
  refine zaa (zbv (k := 2) SzF.h rfl rfl rfl rfl hr5 rfl fun H6 hk6 hn6 hr6 => ?_)
  have hk46 : Keep Non H4 H6 := (hk5.trans hk6 fun c hc => .inr (by rw [hc, hb9]; exact Nat.le_refl _)).wide fun _ h => h
  have hk36 := hk4.trans0 hk46
  have hr6 : IsRow H6 b9 [.nils, .nils] false false := hr6
  refine zab (zak (zac ?_))
  refine zae rfl ?_
  refine zab (zam ?_)
  have n4 := hk4.nx
  refine zbw (fun (i : Nat) => [(1, .ptr bx 0), (2, .ptr b2 0), (3, .ptr b3 0), (9, .ptr b9 0), (10, .int .i64 (i : Int))])
    (fun i H' => i ≤ p.length ∧ Keep Non H3 H' ∧ ∃ uv um cs, IsRow H' b9 [uv, um] false false ∧ Own H' uv 1 i cs ∧ Own H' um 1 i (mksC (p.take i)) ∧ ¬ ownB uv b9 ∧ ¬ ownB um b9 ∧ (∀ c, ownB uv c → H4.nx ≤ c) ∧ (∀ c, ownB um c → H4.nx ≤ c) ∧ ∀ c, ownB uv c → ¬ ownB um c) (fun i => p.length - i) ?_ 0 _ H6 ⟨rfl, rfl, rfl, rfl, rfl, trivial⟩
    ⟨Nat.zero_le _, hk36, .nils, .nils, [], hr6, Own.nil _ _, Own.nil _ _, id, id, fun _ h => h.elim, fun _ h => h.elim, fun _ h => h.elim⟩
  clear hle hi hr6 hk36 hk46 hk6 hk5 hr5 hn6
  rintro i H7 ⟨hle, hk7, uv, um, cs, hr7, hov, hom, nv, nm, fv, fm, dj⟩
  have hx7 := hx3.keep0 hk7
  have hLp7 : IsLs Non (IsPc Non) 4 H7 vp p := hLp3.keep hk7 fun _ _ _ h => h.keep hk7
  refine zak (zac ?_)
  refine zae rfl ?_; (repeat ((refine zaa ?_; first | refine zad FpF.h (by decide) rfl ?_ | refine zaf PlF.h rfl hx7 rfl ?_); refine zae rfl ?_))
  refine zaa (za7 rfl rfl rfl UnF.h rfl hLp7 ?_)
  by_cases hi : i < p.length
  rotate_left
  · obtain rfl : i = p.length := by omega
    rw [List.take_length] at hom
    refine zaa (zbp rfl rfl (by omega) ?_)
    refine zab (zag rfl (zbn (zac ?_)))
    refine zaa (zaq (k := 2) zun rfl (by decide) rfl hr7.pts ?_)
    refine zaa (zbz BsF.h ZeF.h (pl := []) rfl rfl ?_)
    have hsc : scalL [uv, um] = true := zej fun v hv => by
      simp only [List.mem_cons, List.not_mem_nil, or_false] at hv
      rcases hv with rfl | rfl
      · exact zfa hov
      · exact zfa hom
    refine put _ ?_ H7 _ [uv, um] [.int .i64 0, .int .i64 0] 0 _ _ _ hk7 ?_ ?_ ?_ ?_ ?_ rfl rfl hsc rfl fun H'' hk' kk => hQ _ _ _ _ hk' rfl rfl (by (assumption)) rfl fun _ => ⟨uv, um, rfl, ?_⟩
    iterate 6 (first | rfl | exact fun _ _ h => h)
    have := hom.keep kk fun c hc h => by have := fm c hc; have := hk03.nx; have lt3 := hl3.1; rcases h with h | h <;> omega
    exact Own.sl this
  obtain ⟨q, hq⟩ : ∃ q, p[i]? = some q := ⟨_, List.getElem?_eq_getElem hi⟩
  have hcq := hc q (List.mem_of_getElem? hq)
  refine zaa (zbx rfl rfl (by omega) ?_)
  refine zab (zah rfl (zan (zak (zam (zac ?_)))))
  refine zaa (zaq (k := 1) PlF.h rfl (by decide) rfl hx7.pts ?_)
  refine zae rfl ?_; (repeat ((refine zaa ?_; first | refine zad FpF.h (by decide) rfl ?_ | refine zaf PlF.h rfl hx7 rfl ?_); refine zae rfl ?_))
  refine zaa (zba UnF.h SzF.h rfl hLp7 rfl rfl hq fun q0 c0 hR0 hcl0 hq0 => ?_)
  refine zaa (zaq (k := 4) PlF.h hcl0 (by decide) rfl hq0 ?_)
  refine zaa (zaj rfl rfl rfl (cproc_ok (hp0.keep (hk03.trans0 hk7)) hR0 hcq fun mm ee H8 hk8 => ?_))
  have hk38 := hk7.trans0 hk8
  refine zae rfl ?_
  refine zab (zak (zac ?_))
  refine zae rfl ?_
  by_cases hee : ee = 0
  rotate_left
  · refine zaa (zcr rfl rfl hee (zab (zah rfl (zac ?_))))
    refine zaa (zbz BsF.h ZeF.h (pl := []) rfl rfl ?_)
    refine zae rfl ?_
    refine zaa (zbz BsF.h ZeF.h (pl := [(0, 1), (1, 1)]) (by kernel_rfl) rfl ?_)
    refine zae rfl ?_
    refine put _ ?_ H8 _ [.nils, .nils] [.int .i64 (i : Int), .int .i64 mm] ee _ _ _ hk38 ?_ ?_ ?_ ?_ ?_ rfl rfl rfl rfl fun H'' hk' _ => hQ _ _ _ _ hk' rfl rfl (by (rfl)) rfl fun h => absurd h hee
    iterate 6 (first | rfl | exact fun _ _ h => h)
  refine zaa (zcf rfl rfl (by omega) (zab (zag rfl (zan (zac ?_)))))
  have hx8 := hx7.keep0 hk8
  have hr8 := hr7.keep0 hk8
  have hLp8 : IsLs Non (IsPc Non) 4 H8 vp p := hLp3.keep hk38 fun _ _ _ h => h.keep hk38
  refine zae rfl ?_; (repeat ((refine zaa ?_; first | refine zad FpF.h (by decide) rfl ?_ | refine zaf PlF.h rfl hr8 rfl ?_); refine zae rfl ?_))
  refine zae rfl ?_; (repeat (((refine zaa (zaf PlF.h rfl hx8 rfl ?_))); refine zae rfl ?_))
  refine zaa (zba UnF.h SzF.h rfl hLp8 rfl rfl hq fun q1 c1 hR1 hcl1 hq1 => ?_)
  refine zaa (zaq (k := 4) PlF.h hcl1 (by decide) rfl hq1 ?_)
  refine zaa (zaj rfl rfl rfl (zsf hR1 hcq fun u9 H9 hk9 hO9 _ => ?_))
  have hr9 := hr8.keep0 hk9
  refine zik PlF.h rfl hr9 rfl rfl ?_
  refine zaa (zud ElF.h rfl rfl rfl (zuk hO9) fun H10 hk10 hr10 => ?_)
  have hk710 := (hk8.trans0 hk9).trans0 hk10
  have ov10 := hov.keep0 hk710
  have om10 := hom.keep0 hk710
  have hr10' := hr9.keep0 hk10
  have hs10 := IsRow.sl (es := 1) (n := 1) hr10 rfl (Nat.le_refl 1)
  have n710 := hk710.nx
  have n37 := hk7.nx
  have lt9 := hr7.1
  have hlt40 : p.length ≤ 40 := by omega
  refine zaa (zdu rfl rfl rfl ElF.h (.inl UnF.h) rfl ov10 rfl hs10.elems hs10.1 (zej fun v hv => by rw [List.mem_singleton.1 hv]; exact zfa hO9) (by omega) fun u11 H11 ho11 hk11 hb11 => ?_)
  have nv11 : ¬ ownB u11 b9 := fun h => (hb11 b9 h).elim nv fun h => by omega
  have hr11 := hr10'.keep hk11 (.inl nv)
  have om11 := om10.keep hk11 fun c h1 h2 => dj c h2 h1
  refine zae rfl ?_
  refine zaa (zad FpF.h (by decide) rfl ?_)
  refine zaa (zcc SzF.h rfl rfl (zfa ho11) hr11 (by simp) fun H12 hk12 hn12 hr12 => ?_)
  have hr12 : IsRow H12 b9 [u11, um] false false := hr12
  have ho12 := ho11.keep hk12 fun c hc h => nv11 (h ▸ hc)
  have om12 := om11.keep hk12 fun c hc h => nm (h ▸ hc)
  have n11 := hk11.nx
  have n12 := hk12.nx
  have k312 : Keep Non H3 H12 := ((hk7.trans0 hk710).trans hk11 fun c hc => .inr (by have := fv c hc; omega)).trans hk12 fun c hc => .inr (by rw [hc]; omega)
  have hx12 := hx3.keep0 k312
  have hLp12 : IsLs Non (IsPc Non) 4 H12 vp p := hLp3.keep k312 fun _ _ _ h => h.keep k312
  refine zab (zaw ?_)
  refine zae rfl ?_; (repeat ((refine zaa ?_; first | refine zad FpF.h (by decide) rfl ?_ | refine zaf PlF.h rfl hr12 rfl ?_); refine zae rfl ?_))
  refine zae rfl ?_; (repeat (((refine zaa (zaf PlF.h rfl hx12 rfl ?_))); refine zae rfl ?_))
  refine zaa (zba UnF.h SzF.h rfl hLp12 rfl rfl hq fun q2 c2 hR2 hcl2 hq2 => ?_)
  obtain ⟨vm2, vB2, rfl, _, _, _, hbl2, _, hLb2⟩ := hR2
  refine zaa (zas FpF.h (by decide) rfl hq2 fun p4 hp4 => ?_)
  refine zaa (zbh PlF.h rfl hp4 rfl ?_)
  refine zaa (zaj rfl rfl rfl (zjd (szSs q.body + 1) (by omega) hLb2 hbl2 (by omega) ?_))
  refine zik PlF.h rfl hr12 rfl rfl ?_
  refine zaa (zar (n := 1) ElF.h (by decide) rfl rfl fun H13 hk13 hr13 => ?_)
  have hs13 := IsRow.sl (es := 1) (n := 1) hr13 rfl (Nat.le_refl 1)
  have om13 := om12.keep0 hk13
  have ho13 := ho12.keep0 hk13
  have hr13' := hr12.keep0 hk13
  have n13 := hk13.nx
  refine zaa (zdu rfl rfl rfl ElF.h (.inl UnF.h) rfl om13 rfl hs13.elems hs13.1 rfl (by omega) fun u14 H14 ho14 hk14 hb14 => ?_)
  have dj11 : ∀ c, ownB u11 c → ¬ ownB um c := fun c h1 h2 => by
    have := hom.lt h2
    rcases hb11 c h1 with h | h
    · exact dj c h h2
    · omega
  have nm14 : ¬ ownB u14 b9 := fun h => (hb14 b9 h).elim nm fun h => by omega
  have hr14 := hr13'.keep hk14 (.inl nm)
  have ho14v := ho13.keep hk14 dj11
  refine zaa (zad FpF.h (by decide) rfl ?_)
  refine zaa (zcc SzF.h rfl rfl (zfa ho14) hr14 (by simp) fun H15 hk15 hn15 hr15 => ?_)
  have hr15 : IsRow H15 b9 [u11, u14] false false := hr15
  have k315 : Keep Non H3 H15 := ((k312.trans0 hk13).trans hk14 fun c hc => .inr (by have := fm c hc; omega)).trans hk15 fun c hc => .inr (by rw [hc]; omega)
  refine zab (zaw ?_)
  refine zae rfl ?_
  refine zaa (za0 (c := ((i + 1 : Nat) : Int)) rfl rfl Ju ?_)
  refine zae rfl ?_
  refine zab ⟨i + 1, ?_, ⟨rfl, rfl, rfl, rfl, rfl, trivial⟩, by omega, k315, u11, u14, _, hr15, ho14v.keep hk15 (fun c hc h => nv11 (h ▸ hc)), ?_, nv11, nm14, fun c hc => ?_, fun c hc => ?_, fun c h1 h2 => ?_⟩
  · show p.length - (i + 1) < p.length - i
    omega
  · have h1 := ho14.keep hk15 fun c hc h => nm14 (h ▸ hc)
    rw [zbt hq]
    unfold mksC at h1 ⊢
    rw [List.map_append]
    exact h1
  · rcases hb11 c hc with h | h
    · exact fv c h
    · omega
  · rcases hb14 c hc with h | h
    · exact fm c h
    · omega
  · have := ho13.lt h1
    rcases hb14 c h2 with h | h
    · exact dj11 c h1 h
    · omega
end
end Go.Proofs.YtbmedhaopnhggaaGreatDoor
