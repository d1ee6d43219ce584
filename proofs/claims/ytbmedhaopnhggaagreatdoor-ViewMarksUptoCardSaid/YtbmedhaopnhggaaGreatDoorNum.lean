/-
  num.Text: what it writes of a number. No conditions but the number's range.
-/
import Derived.Test.YtbmedhaopnhggaaGreatDoorProg
import Derived.Test.YtbmedhaopnhggaaGreatDoorCore8
import Derived.KernelRfl
namespace Go.Proofs.YtbmedhaopnhggaaGreatDoor
open Go Eng Tryz
set_option maxHeartbeats 0
instance ize_181 : ZeF prog 181 (.agg [.int .u8 0, .int .u8 0, .int .u8 0, .int .u8 0, .int .u8 0, .int .u8 0, .int .u8 0, .int .u8 0, .int .u8 0, .int .u8 0, .int .u8 0, .int .u8 0, .int .u8 0, .int .u8 0, .int .u8 0, .int .u8 0, .int .u8 0, .int .u8 0, .int .u8 0, .int .u8 0]) := ⟨by kernel_rfl⟩
instance iun_2 : UnF prog 2 (.int .i64) := ⟨by kernel_rfl⟩
instance iun_182 : UnF prog 182 (.int .u64) := ⟨by kernel_rfl⟩
instance iun_5 : UnF prog 5 (.int .u8) := ⟨by kernel_rfl⟩
instance iun_181 : UnF prog 181 (.array 20 5) := ⟨by kernel_rfl⟩
instance isz_5 : SzF prog 5 1 := ⟨by kernel_rfl⟩
instance iun_183 : UnF prog 183 (.slice 5) := ⟨by kernel_rfl⟩
instance iun_9 : UnF prog 9 (.string) := ⟨by kernel_rfl⟩
def v32h4 : CV := Jt [Jd 8 0, Jc 9 (.binOp .lss 2 (Ja 8) (Jb 0) 2)] (.cond (Ja 9) (.reg [Jd 10 5, Jc 11 (.unOp .neg 182 (Ja 10)), Jh 5 11]) (.skip))
def v32k0t3 : CV := Jt [Jd 22 5, Jc 23 (.binOp .eql 182 (Ja 22) (.const (.int .u64 0)) 182)] (.cond (Ja 23) (.exit 0) (.skip))
def v32k0t2 : CV := Jt [Jd 20 5, Jc 21 (.binOp .quo 182 (Ja 20) (.const (.int .u64 10)) 182), Jh 5 21] v32k0t3
def v32k0t1 : CV := Jt [Jd 14 4, Jd 15 5, Jc 16 (.binOp .rem 182 (Ja 15) (.const (.int .u64 10)) 182), Jc 17 (.binOp .add 182 (.const (.int .u64 48)) (Ja 16) 182), Jc 18 (.convert 182 5 (Ja 17)), Jk 19 181 3 14, .op none (.store 5 (Ja 19) (Ja 18))] v32k0t2
def v32k0 : CV := Jt [Jd 12 4, Jc 13 (.binOp .sub 3 (Ja 12) (Jb 1) 3), Jh 4 13] v32k0t1
def v32l0 : CV := .block 1 v32k0
def v32c1 : CV := Jt [Jd 26 4, Jc 27 (.binOp .sub 3 (Ja 26) (Jb 1) 3), Jh 4 27] (.reg [Jd 28 4, Jk 29 181 3 28, .op none (.store 5 (Ja 29) (.const (.int .u8 45)))])
def v32h6 : CV := Jt [Jd 24 0, Jc 25 (.binOp .lss 2 (Ja 24) (Jb 0) 2)] (.cond (Ja 25) v32c1 (.skip))
def v32t7 : CV := Jt [Jd 30 4, Jc 31 (.slice 181 (Ja 3) (some (Ja 30)) none none), Jc 32 (.convert 183 9 (Ja 31)), Jh 2 32] (.ret)
def v32t6 : CV := .seq v32h6 v32t7
def v32t5 : CV := .seq (.block 0 (.loop v32l0)) v32t6
def v32t4 : CV := .seq v32h4 v32t5
def v32t3 : CV := Jt [Jd 6 0, Jc 7 (.convert 2 182 (Ja 6)), Jh 5 7] v32t4
def v32t2 : CV := Jt [Ji 4 20] v32t3
def v32t1 : CV := Jt [Jc 3 (.alloc 181)] v32t2
def v32 : CV := Jt [Jc 2 (.assign (.const (.string ⟨⟨[]⟩⟩)))] v32t1
noncomputable def b32 : Code := f32.body.getD .skip
theorem b32_eq : f32.body = some b32 := by kernel_rfl
theorem v32_eq : viewC prog b32 = some v32 := by kernel_rfl
theorem r32_eq : f32.results.toList = [.tmp 2] := by kernel_rfl
def textN (u : Nat) : List UInt8 := if u < 10 then [UInt8.ofNat (48 + u)] else textN (u / 10) ++ [UInt8.ofNat (48 + u % 10)]
termination_by u
decreasing_by omega
theorem zg1 {u : Nat} (h : u < 10) : textN u = [UInt8.ofNat (48 + u)] := by rw [textN, if_pos h]
theorem zko {u : Nat} (h : ¬ u < 10) : textN u = textN (u / 10) ++ [UInt8.ofNat (48 + u % 10)] := by rw [textN, if_neg h]
theorem zhr : ∀ (k u : Nat), u < 10 ^ k → 0 < k → (textN u).length ≤ k
 | 0, _, _, h => absurd h (by omega)
 | k + 1, u, h, _ => by
  by_cases hu : u < 10
  ·rw [zg1 hu]; simp
  ·rw [zko hu, List.length_append, List.length_singleton]
   have h1 : 0 < k := by
    rcases Nat.eq_zero_or_pos k with h0 | h0
    ·subst h0; simp at h; omega
    ·exact h0
   have : u / 10 < 10 ^ k := by rw [Nat.pow_succ] at h; omega
   have := zhr k (u / 10) this h1
   omega
theorem zob (u : Nat) : 0 < (textN u).length := by
 by_cases hu : u < 10
 ·rw [zg1 hu]; simp
 ·rw [zko hu, List.length_append, List.length_singleton]; omega
def textZ (n : Int) : List UInt8 := if n < 0 then 45 :: textN n.natAbs else textN n.natAbs
theorem zus (k : Nat) (z x : AV) (r : List AV) : (List.replicate (k + 1) z ++ r).set k x = List.replicate k z ++ x :: r := by
 rw [List.replicate_succ', List.append_assoc, List.set_append, List.length_replicate, if_neg (Nat.lt_irrefl k), Nat.sub_self]
 rfl
theorem zsd {tb : List FuncId} {gl : List (List AV)} {n : Int} {b : Nat} {H0 : Heap} (hb0 : H0.nx ≤ b) {w0 : Nat} (hw : w0 < 18446744073709551616) {Q : Ex → Fm → Heap → Prop}
  (hQ : ∀ (l : Fm) H (k : Nat), Sb [(0, .int .i64 n), (3, .ptr b 0), (4, .int .i64 (k : Int))] l → Keep Non H0 H → IsRow H b (List.replicate k (AV.int .u8 0) ++ (textN w0).map u8) false false → k + (textN w0).length = 20 → Q (.exit 0) l H)
  {l : Fm} {H : Heap} (hl : Sb [(0, .int .i64 n), (3, .ptr b 0), (4, .int .i64 20), (5, .int .u64 (w0 : Int))] l) (hk : Keep Non H0 H) (hr : IsRow H b (List.replicate 20 (AV.int .u8 0)) false false) : VA prog tb gl (.loop v32l0) l H Q := by
 refine zbw (fun (a : Nat × Nat × List UInt8) => [(0, .int .i64 n), (3, .ptr b 0), (4, .int .i64 (a.1 : Int)), (5, .int .u64 (a.2.1 : Int))]) (fun a H => Keep Non H0 H ∧ IsRow H b (List.replicate a.1 (AV.int .u8 0) ++ a.2.2.map u8) false false ∧
  textN w0 = textN a.2.1 ++ a.2.2 ∧ a.1 + a.2.2.length = 20 ∧ a.2.1 ≤ w0) (fun a => a.1) ?_ (20, w0, []) l H hl ⟨hk, by simpa using hr, by simp, rfl, Nat.le_refl _⟩
 rintro ⟨k, u, ds⟩ H ⟨hk, hr, ht, hd, hu⟩
 have hp : (10 : Nat) ^ 20 = 100000000000000000000 := by rfl
 have hlen := zhr 20 w0 (by rw [hp]; omega) (by omega)
 clear hp
 have hpos := zob u
 rw [ht, List.length_append] at hlen
 simp only at hk hr ht hd hu hlen hpos
 obtain ⟨k, rfl⟩ : ∃ j, k = j + 1 := ⟨k - 1, by omega⟩
 refine zam (zac ?_)
 refine zaa (zal rfl ?_)
 refine zaa (zc8 (c := (k : Int)) rfl rfl Ju ?_)
 (repeat ((refine zaa (zai rfl ?_))))
 refine zab (zac ?_)
 refine zaa (zal rfl (zaa (zal rfl ?_)))
 refine zaa (oa_remW (c := ((u % 10 : Nat) : Int)) rfl rfl (by decide) rfl ?_)
 refine zaa (za0 (c := ((48 + u % 10 : Nat) : Int)) rfl rfl (zvv (by omega) (by omega) (by omega)) ?_)
 (repeat ((refine zaa (oa_convW UnF.h UnF.h rfl (wrap_u8 (by omega) (by omega)) ?_))))
 refine zaa (zkc (j := k) UnF.h SzF.h rfl rfl rfl (by omega) ?_)
 refine zaa (zcc SzF.h rfl rfl rfl hr (by simp; omega) fun H1 hk1 hn1 hr1 => ?_)
 have h0 : 0 + k * 1 = k := by omega
 rw [h0, zus] at hr1
 have hu8 : AV.int .u8 ((48 + u % 10 : Nat) : Int) = u8 (UInt8.ofNat (48 + u % 10)) := by
  have h1 : (UInt8.ofNat (48 + u % 10)).toNat = 48 + u % 10 := by rw [UInt8.toNat_ofNat']; omega
  simp only [u8, h1]
 rw [hu8] at hr1
 have hK1 : Keep Non H0 H1 := hk.trans hk1 fun c hc => by subst hc; exact .inr hb0
 refine zab (zac ?_)
 refine zaa (zal rfl ?_)
 refine zaa (zh8 (c := ((u / 10 : Nat) : Int)) rfl rfl (by decide) (zrc (z := ((u / 10 : Nat) : Int)) (by omega) (by omega)) ?_)
 (repeat ((refine zaa (zai rfl ?_))))
 refine zab (zac ?_)
 (repeat (refine zaa ?_; first | refine zal rfl ?_ | refine oa_eql rfl rfl ?_))
 refine zab (zks rfl (fun hc => ?_) (fun hc => ?_))
 ·simp only [decide_eq_true_eq] at hc
  have hu0 : u < 10 := by omega
  refine zbn ?_
  have e : textN w0 = UInt8.ofNat (48 + u % 10) :: ds := by rw [ht, zg1 hu0, show u % 10 = u by omega]; rfl
  refine hQ _ _ k ⟨rfl, rfl, rfl, trivial⟩ hK1 ?_ ?_
  ·rw [e]; exact hr1
  ·rw [e]; simp; omega
 ·simp only [decide_eq_false_iff_not] at hc
  have hu0 : ¬ u < 10 := by omega
  refine zan ⟨(k, u / 10, UInt8.ofNat (48 + u % 10) :: ds), Nat.lt_succ_self k, ⟨rfl, rfl, rfl, rfl, trivial⟩, hK1, hr1, ?_, ?_, ?_⟩
  ·rw [ht, zko hu0, List.append_assoc]; rfl
  ·simp; omega
  ·show u / 10 ≤ w0
   omega
theorem zse {tb : List FuncId} {gl : List (List AV)} (n : Int) (h1 : -9223372036854775808 ≤ n) (h2 : n < 9223372036854775808) (H : Heap) {Q : AV → Heap → Prop} (q : ∀ H', Keep Non H H' → Q (S (textZ n)) H') : WpF prog tb gl 32 [.int .i64 n] H Q := by
 refine fa func32 b32_eq v32_eq r32_eq (.inr (by simp)) ?_
 refine zac ?_
 (repeat ((refine zaa (zai rfl ?_))))
 refine zab (zac ?_)
 refine zaa (zci ZeF.h fun H1 hk1 hr1 => ?_)
 refine zab (zac ?_)
 (repeat ((refine zaa (zai rfl ?_))))
 refine zab (zac ?_)
 refine zaa (zal rfl ?_)
 refine zaa (zt4 UnF.h UnF.h rfl ?_)
 (repeat ((refine zaa (zai rfl ?_))))
 refine zab (zak (zac ?_))
 (repeat (refine zaa ?_; first | refine zal rfl ?_ | refine zua rfl rfl ?_))
 refine zab ?_
 have hw : n.natAbs < 18446744073709551616 := by omega
 have fin : ∀ (l : Fm) (H3 : Heap) (k : Nat) (bs : List UInt8), Sb [(3, .ptr H.nx 0), (4, .int .i64 (k : Int))] l → Keep Non H H3 → IsRow H3 H.nx (List.replicate k (AV.int .u8 0) ++ bs.map u8) false false → k + bs.length = 20 → 0 < bs.length → bs = textZ n → VA prog tb gl v32t7 l H3 (leftA [.tmp 2] Q) := by
  intro l H3 k bs hl hk hr hd hp hb
  refine VA.sub hl (zac ?_)
  refine zaa (zal rfl ?_)
  refine zaa (zt5 (a := k) (c := 20) UnF.h SzF.h rfl (zjk rfl rfl) rfl (by omega) (by omega) (by omega) ?_)
  have hs : IsSl H3 (.sl H.nx (0 + k * 1) (20 - k) (20 - k)) 1 (20 - k) (bs.map u8) := by
   refine ⟨by rw [List.length_map]; omega, .inr (.inr ⟨H.nx, 0 + k * 1, _, false, false, .inr ⟨_, rfl, Nat.le_refl _⟩, hr, fun j hj => ?_⟩)⟩
   ·rw [List.getElem?_append_right (by rw [List.length_replicate]; omega), List.length_replicate]
    congr 1
    omega
  refine zaa (oa_toS UnF.h UnF.h UnF.h rfl hs ?_)
  (repeat ((refine zaa (zai rfl ?_))))
  refine zab (zao ⟨_, rfl, ?_⟩)
  rw [hb]
  exact q H3 hk
 have main : ∀ l : Fm, Sb [(0, .int .i64 n), (3, .ptr H.nx 0), (4, .int .i64 20), (5, .int .u64 (n.natAbs : Int))] l → VA prog tb gl v32t5 l H1 (leftA [.tmp 2] Q) := by
  intro l hl
  refine zak (zam (zsd (H0 := H) (Nat.le_refl _) hw (fun l H2 k hl hk2 hr2 hd => ?_) hl hk1 hr1))
  have hp : (10 : Nat) ^ 19 = 10000000000000000000 := by rfl
  have hlen := zhr 19 n.natAbs (by rw [hp]; omega) (by omega)
  clear hp
  have hpos := zob n.natAbs
  refine VA.sub hl (zak (zac ?_))
  (repeat (refine zaa ?_; first | refine zal rfl ?_ | refine zua rfl rfl ?_))
  refine zab (zks rfl (fun hc => ?_) (fun hc => ?_))
  ·have hc : n < 0 := by simpa using hc
   obtain ⟨k, rfl⟩ : ∃ j, k = j + 1 := ⟨k - 1, by omega⟩
   refine zac ?_
   refine zaa (zal rfl ?_)
   refine zaa (zc8 (c := (k : Int)) rfl rfl Ju ?_)
   (repeat ((refine zaa (zai rfl ?_))))
   refine zab (zaw ?_)
   (repeat ((refine zaa (zal rfl ?_))))
   refine zaa (zkc (j := k) UnF.h SzF.h rfl rfl rfl (by omega) ?_)
   refine zaa (zcc SzF.h rfl rfl rfl hr2 (by simp; omega) fun H3 hk3 _ hr3 => ?_)
   have h0 : 0 + k * 1 = k := by omega
   rw [h0, zus] at hr3
   refine zab (fin _ H3 k (45 :: textN n.natAbs) ⟨rfl, rfl, trivial⟩ (hk2.trans hk3 fun c hc => by subst hc; exact .inr (Nat.le_refl _)) hr3 (by simp; omega) (by simp) (by rw [textZ, if_pos hc]))
  ·have hc : ¬ n < 0 := by simpa using hc
   exact zan (fin _ H2 k (textN n.natAbs) ⟨rfl, rfl, trivial⟩ hk2 hr2 hd hpos (by rw [textZ, if_neg hc]))
 refine zks rfl (fun hc => ?_) (fun hc => ?_)
 ·have hc : n < 0 := by simpa using hc
  refine zaw ?_
  refine zaa (zal rfl ?_)
  have e : IntKind.u64.wrap (-(IntKind.u64.wrap n)) = (n.natAbs : Int) := by
   rw [zf2, zf2]; omega
  refine zaa (oa_neg rfl ?_)
  rw [e]
  (repeat ((refine zaa (zai rfl ?_))))
  exact zab (main _ ⟨rfl, rfl, rfl, rfl, trivial⟩)
 ·have hc : ¬ n < 0 := by simpa using hc
  have e : IntKind.u64.wrap n = (n.natAbs : Int) := by
   rw [zf2]; omega
  rw [e]
  exact zan (main _ ⟨rfl, rfl, rfl, rfl, trivial⟩)
end Go.Proofs.YtbmedhaopnhggaaGreatDoor
