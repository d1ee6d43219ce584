/-
  num.Join of a list of words, and the document's text of a number that is not below 0. Conditions: the words' lengths.
-/
import Derived.Test.YtbmedhaopnhggaaGreatDoorNum
namespace Go.Proofs.YtbmedhaopnhggaaGreatDoor
open Go Eng Tryz
instance iun_49 : UnF prog 49 (.slice 9) := ⟨by kernel_rfl⟩
instance iel_49 : ElF prog 49 ⟨9, 1, .str 0 0⟩ := ⟨by kernel_rfl⟩
instance isz_9 : SzF prog 9 1 := ⟨by kernel_rfl⟩
instance ipl_9 : PlF prog 9 ⟨0, false, 1⟩ := ⟨by kernel_rfl⟩
instance iel_183 : ElF prog 183 ⟨5, 1, .int .u8 0⟩ := ⟨by kernel_rfl⟩
def v33k0h1 : CV := Jt [Jd 13 4, Jc 14 (.binOp .gtr 3 (Ja 13) (Jb 0) 3)] (.cond (Ja 14) (.reg [Jd 15 3, Jc 16 (.buildSlice 183 1 #[(0, (.const (.int .u8 32)))]), Jc 17 (.call ⟨.builtin .append, #[(Ja 15), (Ja 16)], #[183, 183]⟩), Jh 3 17]) (.skip))
def v33k0t1 : CV := .seq v33k0h1 (.reg [Jd 18 3, Jd 19 5, Jc 20 (.call ⟨.builtin .append, #[(Ja 18), (Ja 19)], #[183, 9]⟩), Jh 3 20])
def v33k0 : CV := Jt [Jd 10 8, Jk 11 49 6 8, Jf 12 9 11, Jh 4 10, Jh 5 12] v33k0t1
def v33l0t2 : CV := .seq (.block 1 v33k0) (.reg [Jc 21 (.binOp .add 3 (Ja 8) (Jb 1) 3), Jd 8 21])
def v33l0t1 : CV := .seq (.cond (Ja 9) (.skip) (.exit 0)) v33l0t2
def v33l0 : CV := Jt [Jc 9 (.binOp .lss 3 (Ja 8) (Ja 7) 3)] v33l0t1
def v33h2 : CV := Jt [Jd 6 0, Jj 7 6 49, Je 8 0] (.block 0 (.loop v33l0))
def v33t3 : CV := Jt [Jd 22 3, Jc 23 (.convert 183 9 (Ja 22)), Jh 2 23] (.ret)
def v33t2 : CV := .seq v33h2 v33t3
def v33t1 : CV := Jt [Jc 3 (.assign (.const (.slice none 0 0)))] v33t2
def v33 : CV := Jt [Jc 2 (.assign (.const (.string ⟨⟨[]⟩⟩)))] v33t1
noncomputable def b33 : Code := f33.body.getD .skip
theorem b33_eq : f33.body = some b33 := by kernel_rfl
theorem v33_eq : viewC prog b33 = some v33 := by kernel_rfl
theorem r33_eq : f33.results.toList = [.tmp 2] := by kernel_rfl
def joinW (ws : List (List UInt8)) : List UInt8 := (ws.flatMap (32 :: ·)).tail
theorem zld (ws : List (List UInt8)) (w : List UInt8) : joinW (ws ++ [w]) = if ws = [] then w else joinW ws ++ 32 :: w := by
 cases ws with
 | nil => simp [joinW]
 | cons a l => simp [joinW]
def txC (s : List UInt8) : List AV := [S s]
theorem txC_len (s : List UInt8) : (txC s).length = 1 := rfl
theorem zgc : ∀ bs : List UInt8, strCells bs.length (packL bs) = bs.map u8
 | [] => rfl
 | b :: l => by
  have hb : b.toNat < 256 := b.toNat_lt
  have h1 : Nat.mod (packL (b :: l)) 256 = b.toNat := by
   show (b.toNat + 256 * packL l) % 256 = b.toNat
   omega
  have h2 : Nat.div (packL (b :: l)) 256 = packL l := by
   show (b.toNat + 256 * packL l) / 256 = packL l
   omega
  rw [List.length_cons, strCells]
  simp only [zbg, h1, h2, zgc l, List.map_cons]
  rfl
theorem zs2 (H : Heap) (bs : List UInt8) : elemsOf H (S bs) 1 = some (bs.length, bs.map u8) := by
 show (bif Nat.beq 1 1 then some (bs.length, strCells bs.length (packL bs)) else none) = _
 rw [zgc]
 rfl
theorem zmv : ∀ bs : List UInt8, scalL (bs.map u8) = true
 | [] => rfl
 | _ :: l => by
  show scalL (l.map u8) = true
  exact zmv l
theorem zp4 {ws : List (List UInt8)} : (joinW ws).length ≤ (ws.flatMap (32 :: ·)).length := by
 rw [joinW, List.length_tail]; omega
theorem zfo {α β : Type} (f : α → List β) : ∀ (l : List α) (i : Nat), ((l.take i).flatMap f).length ≤ (l.flatMap f).length
 | [], i => by simp
 | a :: l, 0 => by simp
 | a :: l, i + 1 => by
  have := zfo f l i
  simp only [List.take_succ_cons, List.flatMap_cons, List.length_append]
  omega
section
variable {tb : List FuncId} {gl : List (List AV)} {H : Heap} {v : AV} {Q : AV → Heap → Prop}
set_option maxHeartbeats 0 in
theorem Join_ok {ws : List (List UInt8)} (hv : IsSl H v 1 ws.length (ws.flatMap txC)) (hb : (ws.flatMap (32 :: ·)).length < 500000) (hn : ws.length < 500000) (hQ : ∀ H', Keep Non H H' → Q (S (joinW ws)) H') : WpF prog tb gl 33 [v] H Q := by
 have hlim : limit = 1000000 := rfl
 refine fa func33 b33_eq v33_eq r33_eq (.inr (by simp)) ?_
 refine zac ?_
 (repeat ((refine zaa (zai rfl ?_))))
 refine zab (zac ?_)
 (repeat ((refine zaa (zai rfl ?_))))
 refine zab (zak (zac ?_))
 refine zaa (zal rfl ?_)
 refine zaa (za8 rfl rfl rfl UnF.h rfl hv ?_)
 (repeat ((refine zaa (zal rfl ?_))))
 refine zab (zam ?_)
 refine zbw (fun (a : Nat × AV) => [(3, a.2), (6, v), (7, .int .i64 (ws.length : Int)), (8, .int .i64 (a.1 : Int))])
  (fun a H' => Keep Non H H' ∧ a.1 ≤ ws.length ∧ Own H' a.2 1 (joinW (ws.take a.1)).length ((joinW (ws.take a.1)).map u8) ∧ ∀ c, ownB a.2 c → H.nx ≤ c) (fun a => ws.length - a.1) ?_ (0, .nils) _ H ⟨rfl, rfl, rfl, rfl, trivial⟩ ⟨.refl _ _, Nat.zero_le _, .nil _ _, fun _ h => h.elim⟩
 rintro ⟨i, u⟩ H1 ⟨hk, hle, ho, hno⟩
 simp only at hle ho hno
 refine zac ?_
 by_cases hi : i = ws.length
 ·refine zaa (zcb rfl rfl (decide_eq_false (by simp only; omega)) ?_)
  refine zab (zak (zag rfl (zbn ?_)))
  subst hi
  rw [List.take_length] at ho
  refine zac ?_
  refine zaa (zal rfl ?_)
  refine zaa (oa_toS UnF.h UnF.h UnF.h rfl ho.sl ?_)
  refine zaa (zai rfl (zab (zao ⟨_, rfl, hQ _ hk⟩)))
 have hlt : i < ws.length := by omega
 refine zaa (zcb rfl rfl (decide_eq_true (by simp only; omega)) ?_)
 refine zab (zak (zah rfl (zan ?_)))
 obtain ⟨w, hw⟩ : ∃ w, ws[i]? = some w := ⟨_, List.getElem?_eq_getElem hlt⟩
 have htake : ws.take (i + 1) = ws.take i ++ [w] := by rw [List.take_add_one, hw]; rfl
 have hchunk := zf3 txC_len ws i w hw
 have hb1 := zfo (32 :: ·) ws (i + 1)
 have hb2 := zp4 (ws := ws.take i)
 rw [htake, List.flatMap_append, List.length_append] at hb1
 simp only [List.flatMap_cons, List.flatMap_nil, List.append_nil, List.length_cons] at hb1
 refine zak (zam (zac ?_))
 refine zaa (zal rfl ?_)
 refine zaa (za3 UnF.h SzF.h rfl (hv.keep0 hk) rfl rfl hlt fun p hp => ?_)
 rw [hchunk] at hp
 refine zaa (zbh PlF.h rfl hp rfl ?_)
 (repeat ((refine zaa (zai rfl ?_))))
 -- the word is put behind
 have put : ∀ (l2 : Fm) (H2 : Heap) (u2 : AV) (bs : List UInt8), Sb [(3, u2), (5, S w), (6, v), (7, .int .i64 (ws.length : Int)), (8, .int .i64 (i : Int))] l2 → Keep Non H H2 → Own H2 u2 1 bs.length (bs.map u8) → (∀ c, ownB u2 c → H.nx ≤ c) → bs ++ w = joinW (ws.take (i + 1)) → bs.length + w.length < 600000 →
   VA prog tb gl (.reg [.op (some 18) (.move (.tmp 3)), .op (some 19) (.move (.tmp 5)), .op (some 20) (.call ⟨.builtin .append, #[(.tmp 18), (.tmp 19)], #[183, 9]⟩), .op (some 3) (.assign (.tmp 20))]) l2 H2 (exitA 1 (seqA prog tb gl (.reg [.op (some 21) (.binOp .add 3 (.tmp 8) (.const (.int .i64 1)) 3), .op (some 8) (.move (.tmp 21))])
    (roundA (fun (a : Nat × AV) => [(3, a.2), (6, v), (7, .int .i64 (ws.length : Int)), (8, .int .i64 (a.1 : Int))]) (fun a H' => Keep Non H H' ∧ a.1 ≤ ws.length ∧ Own H' a.2 1 (joinW (ws.take a.1)).length ((joinW (ws.take a.1)).map u8) ∧ ∀ c, ownB a.2 c → H.nx ≤ c) (fun a => ws.length - a.1) (i, u)
     (exitA 0 (seqA prog tb gl v33t3 (leftA [.tmp 2] Q)))))) := by
  intro l2 H2 u2 bs h2 hk2 ho2 hno2 hbs hsum
  refine VA.sub h2 (zaw ?_)
  refine zaa (zal rfl (zaa (zal rfl ?_)))
  refine zaa (zdu (e := 0) rfl rfl rfl ElF.h (.inr UnF.h) rfl ho2 rfl (zs2 _ _) (by simp) (zmv w) (by omega) fun u3 H3 ho3 hk3 hb3 => ?_)
  refine zaa (zai rfl (zab (zaw ?_)))
  refine zaa (za0 (c := ((i + 1 : Nat) : Int)) rfl rfl Ju ?_)
  refine zaa (zal rfl (zab ⟨(i + 1, u3), ?_, ⟨rfl, rfl, rfl, rfl, trivial⟩, hk2.trans hk3 fun c hc => .inr (hno2 c hc), by simp only; omega, ?_, fun c hc => (hb3 c hc).elim (hno2 c) fun h => Nat.le_trans hk2.nx h⟩))
  ·show ws.length - (i + 1) < ws.length - i
   omega
  ·simp only
   rw [← hbs, List.length_append, List.map_append]
   exact ho3
 refine zab (zak (zac ?_))
 refine zaa (zal rfl ?_)
 by_cases h0 : i = 0
 ·refine zaa (zh7 rfl rfl (decide_eq_false (by omega)) (zab (zag rfl (zan ?_))))
  refine put _ H1 u [] ⟨rfl, rfl, rfl, rfl, rfl, trivial⟩ hk (by subst h0; exact ho) hno ?_ (by simp only [List.length_nil]; omega)
  subst h0
  rw [htake, zld, List.take_zero, if_pos rfl]
  rfl
 refine zaa (zh7 rfl rfl (decide_eq_true (by omega)) (zab (zah rfl (zaw ?_))))
 refine zaa (zal rfl ?_)
 refine zaa (zar (n := 1) ElF.h (by decide) rfl rfl fun H4 hk4 hr4 => ?_)
 refine zaa (zdu rfl rfl rfl ElF.h (.inl UnF.h) rfl (ho.keep0 hk4) rfl (IsRow.sl (es := 1) (n := 1) hr4 rfl (Nat.le_refl 1)).elems rfl rfl (by omega) fun w' H5 ho5 hk5 hb5 => ?_)
 refine zaa (zai rfl (zab ?_))
 refine put _ H5 w' (joinW (ws.take i) ++ [32]) ⟨rfl, rfl, rfl, rfl, rfl, trivial⟩ ((hk.trans0 hk4).trans hk5 fun c hc => .inr (hno c hc)) ?_ (fun c hc => (hb5 c hc).elim (hno c) fun h => Nat.le_trans (hk.trans0 hk4).nx h) ?_ ?_
 ·rw [List.length_append, List.map_append]; exact ho5
 ·rw [htake, zld, if_neg (fun h => by
   have := congrArg List.length h
   rw [List.length_take, List.length_nil] at this
   omega), List.append_assoc]
  rfl
 ·rw [List.length_append, List.length_singleton]; omega
end
end Go.Proofs.YtbmedhaopnhggaaGreatDoor
