/-
  A mark's row found (view.Find), walked. Conditions: how many rows there are.
-/
import Derived.Test.YtbmedhaopnhggaaGreatDoorShow
import Derived.Test.YtbmedhaopnhggaaGreatDoorSize
namespace Go.Proofs.YtbmedhaopnhggaaGreatDoor
open Go Eng Tryz
theorem un_27 : prog.underlying 27 = some (.slice 32) := by kernel_rfl
instance iun_27 : UnF prog 27 (.slice 32) := ⟨un_27⟩
theorem el_27 : elemI prog 27 = some ⟨32, 3, .agg [.str 0 0, .int .i64 0, .int .i64 0]⟩ := by kernel_rfl
instance iel_27 : ElF prog 27 ⟨32, 3, .agg [.str 0 0, .int .i64 0, .int .i64 0]⟩ := ⟨el_27⟩
instance isz_32 : SzF prog 32 3 := ⟨by kernel_rfl⟩
instance ipl_32 : PlF prog 32 ⟨0, true, 3⟩ := ⟨by kernel_rfl⟩
theorem ze_32 : zeroOf prog 32 = some (.agg [.str 0 0, .int .i64 0, .int .i64 0]) := by kernel_rfl
instance ize_32 : ZeF prog 32 (.agg [.str 0 0, .int .i64 0, .int .i64 0]) := ⟨ze_32⟩
instance ifp_32_1 : FpF prog 32 1 ⟨1, false, 1⟩ := ⟨by kernel_rfl⟩
theorem pl_3 : plcOf prog 3 0 = some ⟨0, false, 1⟩ := by kernel_rfl
instance ipl_3 : PlF prog 3 ⟨0, false, 1⟩ := ⟨pl_3⟩
instance ifp_32_2 : FpF prog 32 2 ⟨2, false, 1⟩ := ⟨by kernel_rfl⟩
def v12c0 : CV := Jt [Ji 6 (-1)] (.ret)
def v12h1 : CV := Jt [Jd 9 2, Jc 10 (.binOp .lss 3 (Ja 9) (Jb 0) 3)] (.cond (Ja 10) v12c0 (.skip))
def v12c2 : CV := Jt [Jd 28 7, Jh 6 28] (.ret)
def v12k0t1 : CV := Jt [Jg 18 32 8 1, Jf 19 3 18, Jd 20 1, Jc 21 (.binOp .eql 3 (Ja 19) (Ja 20) 3), Jd 22 21, Jq 22 true 23 32 8 2, Jr 22 true 24 3 23, Jp 22 true 25 2, Js 22 true 26 (.binOp .eql 3 (Ja 24) (Ja 25) 3), Jc 27 (.pick (Ja 22) (Ja 26) (.const (.bool false)))] (.cond (Ja 27) v12c2 (.skip))
def v12k0 : CV := Jt [Jd 15 13, Jk 16 27 11 13, Jf 17 32 16, Jc 8 (.alloc 32), Jh 7 15, .op none (.store 32 (Ja 8) (Ja 17))] v12k0t1
def v12l1t2 : CV := .seq (.block 1 v12k0) (.reg [Jc 29 (.binOp .add 3 (Ja 13) (Jb 1) 3), Jd 13 29])
def v12l1t1 : CV := .seq (.cond (Ja 14) (.skip) (.exit 0)) v12l1t2
def v12l1 : CV := Jt [Jc 14 (.binOp .lss 3 (Ja 13) (Ja 12) 3)] v12l1t1
def v12h2 : CV := Jt [Jd 11 0, Jj 12 11 27, Je 13 0] (.block 0 (.loop v12l1))
def v12t3 : CV := Jt [Ji 6 (-1)] (.ret)
def v12t2 : CV := .seq v12h2 v12t3
def v12t1 : CV := .seq v12h1 v12t2
def v12 : CV := Jt [Ji 6 0] v12t1
noncomputable def b12 : Code := f12.body.getD .skip
theorem b12_eq : f12.body = some b12 := by kernel_rfl
theorem v12_eq : viewC prog b12 = some v12 := by kernel_rfl
theorem r12_eq : f12.results.toList = [.tmp 6] := by kernel_rfl
section
variable {tb : List FuncId} {gl : List (List AV)} {H : Heap} {v w : AV} {Q : AV → Heap → Prop}
theorem zri {rs : List Rw} {p m : Int} {i : Nat} {r : Rw} (hr : rs[i]? = some r) : findR p m (rs.drop i) i = if r.proc = p ∧ r.mark = m then (i : Int) else findR p m (rs.drop (i + 1)) (i + 1) := by
 have hlt : i < rs.length := (List.getElem?_eq_some_iff.1 hr).1
 rw [List.drop_eq_getElem_cons hlt]
 have : rs[i] = r := (List.getElem?_eq_some_iff.1 hr).2
 rw [this]
 rfl
set_option maxHeartbeats 0 in
theorem vFind_ok {rs : List Rw} (hn : rs.length < 500000) (hv : IsSl H v 3 rs.length (rs.flatMap rwC)) (p m : Int) (hQ : ∀ H', Keep Non H H' → Q (.int .i64 (foundR rs p m)) H') : WpF prog tb gl 12 [v, .int .i64 p, .int .i64 m] H Q := by
 refine fa func12 b12_eq v12_eq r12_eq (.inr (by simp)) ?_
 refine zac ?_
 (repeat ((refine zaa (zai rfl ?_))))
 refine zab (zak (zac ?_))
 refine zaa (zal rfl ?_)
 by_cases hm : m < 0
 ·refine zaa (zcb rfl rfl (decide_eq_true hm) (zab (zah rfl (zac ?_))))
  refine zaa (zai rfl (zab (zao ⟨_, rfl, ?_⟩)))
  have := hQ H (.refl _ _)
  rw [foundR, if_pos hm] at this
  exact this
 refine zaa (zcb rfl rfl (decide_eq_false hm) (zab (zag rfl (zan (zak (zac ?_))))))
 refine zaa (zal rfl ?_)
 refine zaa (za8 rfl rfl rfl UnF.h rfl hv ?_)
 (repeat ((refine zaa (zal rfl ?_))))
 refine zab (zam ?_)
 refine zbw (fun (i : Nat) => [(1, .int .i64 p), (2, .int .i64 m), (11, v), (12, .int .i64 (rs.length : Int)), (13, .int .i64 (i : Int))]) (fun i H' => Keep Non H H' ∧ i ≤ rs.length ∧ findR p m (rs.drop i) i = foundR rs p m) (fun i => rs.length - i) ?_ 0 _ H ⟨rfl, rfl, rfl, rfl, rfl, trivial⟩ ⟨.refl _ _, Nat.zero_le _, by rw [foundR, if_neg hm]; rfl⟩
 rintro i H1 ⟨hk, hle, hf⟩
 refine zac ?_
 by_cases hi : i = rs.length
 ·refine zaa (zcb rfl rfl (decide_eq_false (by omega)) (zab (zak (zag rfl (zbn (zac ?_))))))
  refine zaa (zai rfl (zab (zao ⟨_, rfl, ?_⟩)))
  have := hQ H1 hk
  rw [← hf, hi, List.drop_length] at this
  exact this
 have hlt : i < rs.length := by omega
 refine zaa (zcb rfl rfl (decide_eq_true (by omega)) (zab (zak (zah rfl (zan ?_)))))
 obtain ⟨r, hr⟩ : ∃ r, rs[i]? = some r := ⟨_, List.getElem?_eq_getElem hlt⟩
 have hchunk := zf3 zuv rs i r hr
 rw [zri hr] at hf
 refine zak (zam (zac ?_))
 refine zaa (zal rfl ?_)
 refine zaa (za3 UnF.h SzF.h rfl (hv.keep0 hk) rfl rfl hlt fun q0 hp => ?_)
 rw [hchunk] at hp
 refine zaa (zaq (k := 3) PlF.h rfl (by decide) rfl hp ?_)
 refine zaa (zci ZeF.h fun H2 hk2 hr2 => ?_)
 refine zaa (zai rfl ?_)
 refine zaa (zbv (k := 3) SzF.h rfl rfl rfl rfl hr2 rfl fun H3 hk3 hn3 hr3 => ?_)
 have hK3 : Keep Non H H3 := hk.trans0 (hk2.trans hk3 fun c hc => .inr (by omega))
 refine zab (zac ?_)
 refine zaa (zad FpF.h (by decide) rfl ?_)
 refine zaa (zaf PlF.h rfl hr3 rfl ?_)
 refine zaa (zal rfl ?_)
 have next : ∀ l2 : Fm, findR p m (rs.drop (i + 1)) (i + 1) = foundR rs p m → Sb [(1, .int .i64 p), (2, .int .i64 m), (11, v), (12, .int .i64 (rs.length : Int)), (13, .int .i64 (i : Int))] l2 → VA prog tb gl (.reg [.op (some 29) (.binOp .add 3 (.tmp 13) (.const (.int .i64 1)) 3), .op (some 13) (.move (.tmp 29))]) l2 H3
   (roundA (fun (i : Nat) => [(1, .int .i64 p), (2, .int .i64 m), (11, v), (12, .int .i64 (rs.length : Int)), (13, .int .i64 (i : Int))]) (fun i H' => Keep Non H H' ∧ i ≤ rs.length ∧ findR p m (rs.drop i) i = foundR rs p m) (fun i => rs.length - i) i
    (exitA 0 (seqA prog tb gl v12t3 (leftA [.tmp 6] Q)))) := by
  intro l2 hf2 h2
  refine VA.sub h2 (zaw ?_)
  refine zaa (za0 (c := ((i + 1 : Nat) : Int)) rfl rfl Ju ?_)
  refine zaa (zal rfl (zab ⟨i + 1, ?_, ⟨rfl, rfl, rfl, rfl, rfl, trivial⟩, hK3, by omega, hf2⟩))
  show rs.length - (i + 1) < rs.length - i
  omega
 by_cases c1 : r.proc = p
 ·refine zaa (zgx rfl rfl (decide_eq_true c1) ?_)
  refine zaa (zal rfl ?_)
  refine zav rfl (zad FpF.h (by decide) rfl ?_)
  refine zav rfl (zaf PlF.h rfl hr3 rfl ?_)
  refine zav rfl (zal rfl ?_)
  by_cases c2 : r.mark = m
  ·refine zav rfl (zgx rfl rfl (decide_eq_true c2) ?_)
   refine zaa (zaz rfl rfl rfl (zab (zah rfl (zac ?_))))
   refine zaa (zal rfl ?_)
   refine zaa (zai rfl (zab (zao ⟨_, rfl, ?_⟩)))
   have := hQ H3 hK3
   rw [← hf, if_pos ⟨c1, c2⟩] at this
   exact this
  ·refine zav rfl (zgx rfl rfl (decide_eq_false c2) ?_)
   rw [if_neg fun h => c2 h.2] at hf
   refine zaa (zaz rfl rfl rfl (zab (zag rfl (zan (next _ hf ⟨rfl, rfl, rfl, rfl, rfl, trivial⟩)))))
 ·refine zaa (zgx rfl rfl (decide_eq_false c1) ?_)
  refine zaa (zal rfl ?_)
  iterate 4 refine zbb rfl ?_
  rw [if_neg fun h => c1 h.1] at hf
  refine zaa (za1 rfl rfl (zab (zag rfl (zan (next _ hf ⟨rfl, rfl, rfl, rfl, rfl, trivial⟩)))))
end
end Go.Proofs.YtbmedhaopnhggaaGreatDoor
