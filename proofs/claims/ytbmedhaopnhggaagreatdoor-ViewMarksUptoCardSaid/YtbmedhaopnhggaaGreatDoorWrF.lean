/-
  The printer's declarations (syntax.writer.declares), whether a statement has its kind's form (syntax.fits), walked.
-/
import Derived.Test.YtbmedhaopnhggaaGreatDoorWrL
namespace Go.Proofs.YtbmedhaopnhggaaGreatDoor
open Go Eng Tryz
def wDecl (x : Stm) (s : WS) : WS :=
 let s2 := if x.num = -1 then (s.put [[118, 97, 114]]).put [[98, 111, 111, 108]] else s.put [[118, 97, 114]]
 if 0 < x.num then (s2.name x.name).put [[91], textZ x.num, [93]] else s2.name x.name
theorem zog (x : Stm) (s : WS) : (wDecl x s).words.length ≤ s.words.length + 6 := by
 unfold wDecl
 split <;> split <;> simp [zau, zbf]
section
variable {tb : List FuncId} {gl : List (List AV)} {A : Nat → Prop} {H : Heap} {u v w : AV} {b : Nat} {s : WS} {Q : AV → Heap → Prop}
set_option maxHeartbeats 0 in
theorem zos {x : Stm} {c : List AV} (hS : IsS A H c x) (hK : KeysIn H) (hW : Wr b H u s) (hl : s.words.length + 6 < 1000000)
  (hQ : ∀ u' H', Wk b H u H' u' → Wr b H' u' (wDecl x s) → Q (.tup []) H') : WpF prog tb gl 225 [.ptr b 0, .agg c] H Q := by
 have hrB : rB = 140737488351232 := rfl
 unfold wDecl at hQ
 obtain ⟨v1, v2, v3, rfl, hkd, hnu, hnl, _⟩ := hS.out
 refine fa func225 b225_eq v225_eq r225_eq (.inr (by simp)) ?_
 refine zac ?_
 refine zaa (zcd rfl fun H1 hk1 hr1 => ?_)
 have hW1 := hW.keep0 hk1
 obtain ⟨bx, hbx⟩ : ∃ b, b = H.nx := ⟨_, rfl⟩
 have hoff : Off b H1 u bx := by
  have := hr1.1
  rw [hbx]
  exact hW.fresh this
 rw [← hbx] at hr1 ⊢
 have hr1 : IsRow H1 bx [.int .i64 x.kind, S x.name, S x.proc, .int .i64 x.num, v1, v2, v3] false false := hr1
 refine zab (zac ?_)
 refine zae rfl ?_
 refine zaa (zar (n := 1) ElF.h (by decide) rfl rfl fun H2 hk2 hr2 => ?_)
 refine zaa (zaj rfl rfl rfl (zb6 (ws := [[118, 97, 114]]) (hW1.keep0 hk2) (IsRow.sl (es := 1) (n := 1) hr2 rfl (Nat.le_refl 1)) (by simp only [List.length_singleton]; omega) fun u3 H3 k3 W3 => ?_))
 have kk3 : Wk b H1 u H3 u3 := (Wk.of hk2).trans k3
 have hoff3 := kk3.off hoff
 have hr3 := kk3.row hoff hr1
 obtain ⟨s1, hs1⟩ : ∃ s1, s1 = s.put [[118, 97, 114]] := ⟨_, rfl⟩
 rw [← hs1] at W3 hQ
 have hl1 : s1.words.length = s.words.length + 1 := by rw [hs1, zau]; rfl
 refine zab (zak ?_)
 refine zgj (fun l' H' => ∃ u6, Wk b H3 u3 H' u6 ∧ Wr b H' u6 (if x.num = -1 then s1.put [[98, 111, 111, 108]] else s1) ∧ Sb [(0, .ptr b 0), (3, .ptr bx 0)] l') ?_ ?_
 ·refine zac ?_
  by_cases h0 : x.num = -1
  ·rw [if_pos h0]
   (repeat ((refine zaa ?_; first | refine zad FpF.h (by decide) rfl ?_ | refine zaf PlF.h rfl hr3 rfl ?_ | refine zax rfl rfl (by omega) ?_)))
   refine zab (zah rfl (zaw ?_))
   refine zae rfl ?_
   refine zaa (zar (n := 1) ElF.h (by decide) rfl rfl fun H6 hk6 hr6 => ?_)
   refine zaa (zaj rfl rfl rfl (zb6 (ws := [[98, 111, 111, 108]]) (W3.keep0 hk6) (IsRow.sl (es := 1) (n := 1) hr6 rfl (Nat.le_refl 1)) (by simp only [List.length_singleton]; omega) fun u7 H7 k7 W7 => ?_))
   exact zab ⟨u7, (Wk.of hk6).trans k7, W7, rfl, rfl, trivial⟩
  ·rw [if_neg h0]
   (repeat ((refine zaa ?_; first | refine zad FpF.h (by decide) rfl ?_ | refine zaf PlF.h rfl hr3 rfl ?_ | refine zat rfl rfl (by omega) ?_)))
   exact zab (zag rfl (zan ⟨u3, .refl _ _ _, W3, rfl, rfl, trivial⟩))
 rintro l6 H6 ⟨u6, k6, W6, hs6⟩
 obtain ⟨s2, hs2⟩ : ∃ s2, s2 = if x.num = -1 then s1.put [[98, 111, 111, 108]] else s1 := ⟨_, rfl⟩
 rw [← hs2] at W6
 simp only [← hs2] at hQ
 have hl2 : s2.words.length ≤ s1.words.length + 1 := by
  rw [hs2]
  split
  ·rw [zau]; simp
  ·omega
 have hoff6 := k6.off hoff3
 have hr6 := k6.row hoff3 hr3
 have kk6 : Wk b H u H6 u6 := (Wk.of hk1).trans (kk3.trans k6)
 refine VA.sub hs6 (zac ?_)
 refine zae rfl ?_; (repeat ((refine zaa ?_; first | refine zad FpF.h (by decide) rfl ?_ | refine zaf PlF.h rfl hr6 rfl ?_); refine zae rfl ?_))
 refine zaa (zaj rfl rfl rfl (zen (n := x.name) W6 (hK.keep kk6.keep) (by omega) (by omega) fun u7 H7 k7 W7 => ?_))
 have hr7 := k7.row hoff6 hr6
 refine zab (zac ?_)
 by_cases h0 : 0 < x.num
 ·rw [if_pos h0] at hQ
  (repeat ((refine zaa ?_; first | refine zad FpF.h (by decide) rfl ?_ | refine zaf PlF.h rfl hr7 rfl ?_ | refine zcu rfl rfl (by omega) ?_)))
  refine zab (zah rfl (zaw ?_))
  refine zae rfl ?_; (repeat ((refine zaa ?_; first | refine zad FpF.h (by decide) rfl ?_ | refine zaf PlF.h rfl hr7 rfl ?_); refine zae rfl ?_))
  refine zaa (zaj rfl rfl rfl (zse x.num hnu.1 hnu.2 H7 fun H8 hk8 => ?_))
  refine zaa (zar (n := 3) ElF.h (by decide) rfl rfl fun H9 hk9 hr9 => ?_)
  refine zaa (zaj rfl rfl rfl (zb6 (ws := [[91], textZ x.num, [93]]) ((W7.keep0 hk8).keep0 hk9) (IsRow.sl (es := 1) (n := 3) hr9 rfl (Nat.le_refl 3)) (by rw [zbf]; simp only [List.length_cons, List.length_nil]; omega) fun u10 H10 k10 W10 => ?_))
  exact zab ⟨_, rfl, hQ u10 H10 (kk6.trans (k7.trans ((Wk.of (hk8.trans0 hk9)).trans k10))) W10⟩
 ·rw [if_neg h0] at hQ
  (repeat ((refine zaa ?_; first | refine zad FpF.h (by decide) rfl ?_ | refine zaf PlF.h rfl hr7 rfl ?_ | refine zb9 rfl rfl (by omega) ?_)))
  exact zab (zag rfl (zan ⟨_, rfl, hQ u7 H7 (kk6.trans k7) W7⟩))
end
end Go.Proofs.YtbmedhaopnhggaaGreatDoor
