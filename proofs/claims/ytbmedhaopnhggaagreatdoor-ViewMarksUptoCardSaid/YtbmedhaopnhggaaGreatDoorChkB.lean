/-
  Checking a program (parallaxref04: total, Row, Vars), walked. Conditions: how many statements there are.
-/
import Derived.Test.YtbmedhaopnhggaaGreatDoorChkA
import Derived.Test.YtbmedhaopnhggaaGreatDoorLiW
namespace Go.Proofs.YtbmedhaopnhggaaGreatDoor
open Go Eng Tryz
set_option maxHeartbeats 0
instance ize_176 : ZeF prog 176 (.agg [.int .i64 0, .str 0 0, .str 0 0, .int .i64 0, .nils, .nils, .nils, .int .i64 0]) := ⟨by kernel_rfl⟩
instance ibs_176 : BsF prog 176 := ⟨by kernel_rfl⟩
instance ips_176 : PsF prog 176 [(0, 7), (7, 1)] := ⟨by kernel_rfl⟩
instance iel_172 : ElF prog 172 ⟨176, 8, .agg [.int .i64 0, .str 0 0, .str 0 0, .int .i64 0, .nils, .nils, .nils, .int .i64 0]⟩ := ⟨by kernel_rfl⟩
instance iun_172 : UnF prog 172 (.slice 176) := ⟨by kernel_rfl⟩
instance ize_143 : ZeF prog 143 (.agg [.str 0 0, .int .i64 0, .int .i64 0, .int .i64 0, .int .i64 0]) := ⟨by kernel_rfl⟩
instance ibs_143 : BsF prog 143 := ⟨by kernel_rfl⟩
instance ips_143 : PsF prog 143 [(0, 1), (1, 1), (2, 1), (3, 1), (4, 1)] := ⟨by kernel_rfl⟩
instance isz_176 : SzF prog 176 8 := ⟨by kernel_rfl⟩
instance ifp_176_0 : FpF prog 176 0 ⟨0, true, 7⟩ := ⟨by kernel_rfl⟩
instance ifp_176_1 : FpF prog 176 1 ⟨7, false, 1⟩ := ⟨by kernel_rfl⟩
instance ipl_143 : PlF prog 143 ⟨0, true, 5⟩ := ⟨by kernel_rfl⟩
def v73l0h0 : CV := Jt [Jd 15 7, Jd 16 0, Jj 17 16 72, Jc 18 (.binOp .lss 3 (Ja 15) (Ja 17) 3)] (.cond (Ja 18) (.skip) (.exit 0))
def v73k0t3 : CV := Jt [Jd 49 5, Jd 50 8, Jc 51 (.call ⟨.builtin .append, #[(Ja 49), (Ja 50)], #[172, 172]⟩), Jd 52 9, Jc 53 (.call ⟨.builtin .append, #[(Ja 51), (Ja 52)], #[172, 172]⟩), Jh 5 53] (.reg [Jd 54 1, Jc 55 (.binOp .add 3 (Ja 54) (Jb 1) 3), Jd 56 8, Jj 57 56 172, Jc 58 (.binOp .add 3 (Ja 55) (Ja 57) 3), Jd 59 9, Jj 60 59 172, Jc 61 (.binOp .add 3 (Ja 58) (Ja 60) 3), Jh 1 61])
def v73k0t2 : CV := Jt [Jd 38 0, Jd 39 7, Jk 40 72 38 39, Jg 41 157 40 6, Jf 42 72 41, Jd 43 1, Jc 44 (.binOp .add 3 (Ja 43) (Jb 1) 3), Jd 45 8, Jj 46 45 172, Jc 47 (.binOp .add 3 (Ja 44) (Ja 46) 3), Jo 48 73 42 47 72 3, Jh 9 48] v73k0t3
def v73k0t1 : CV := Jt [Jd 30 0, Jd 31 7, Jk 32 72 30 31, Jg 33 157 32 5, Jf 34 72 33, Jd 35 1, Jc 36 (.binOp .add 3 (Ja 35) (Jb 1) 3), Jo 37 73 34 36 72 3, Jh 8 37] v73k0t2
def v73k0 : CV := Jt [Jd 21 5, Jd 22 0, Jd 23 7, Jk 24 72 22 23, Jf 25 157 24, Jd 26 6, Jc 27 (.build 176 #[(0, (Ja 25)), (1, (Ja 26))]), Jc 28 (.buildSlice 172 1 #[(0, (Ja 27))]), Jc 29 (.call ⟨.builtin .append, #[(Ja 21), (Ja 28)], #[172, 172]⟩), Jh 5 29] v73k0t1
def v73l0t1 : CV := .seq (.block 1 v73k0) (.reg [Jd 19 7, Jc 20 (.binOp .add 3 (Ja 19) (Jb 1) 3), Jh 7 20])
def v73l0 : CV := .seq v73l0h0 v73l0t1
def v73h3 : CV := Jt [Ji 7 0] (.block 0 (.loop v73l0))
def v73t4 : CV := Jt [Jd 62 5, Jh 4 62] (.ret)
def v73t3 : CV := .seq v73h3 v73t4
def v73t2 : CV := Jt [Jd 10 1, Jd 11 0, Jn 12 30 11 72, Jc 13 (.binOp .add 3 (Ja 10) (Ja 12) 3), Jc 14 (.binOp .sub 3 (Ja 13) (Jb 1) 3), Jh 6 14] v73t3
def v73t1 : CV := Jt [Jc 5 (.assign (.const (.slice none 0 0)))] v73t2
def v73 : CV := Jt [Jc 4 (.assign (.const (.slice none 0 0)))] v73t1
noncomputable def b73 : Code := f73.body.getD .skip
theorem b73_eq : f73.body = some b73 := by kernel_rfl
theorem v73_eq : viewC prog b73 = some v73 := by kernel_rfl
theorem r73_eq : f73.results.toList = [.tmp 4] := by kernel_rfl
def v29l0h0 : CV := Jt [Jd 12 5, Jg 13 74 1 1, Jf 14 71 13, Jj 15 14 71, Jc 16 (.binOp .lss 3 (Ja 12) (Ja 15) 3)] (.cond (Ja 16) (.skip) (.exit 0))
def v29l0t1 : CV := .seq (.block 1 (.reg [Jd 19 4, Jg 20 74 1 1, Jf 21 71 20, Jd 22 5, Jk 23 71 21 22, Jg 24 87 23 0, Jf 25 9 24, Jg 26 74 1 1, Jf 27 71 26, Jd 28 5, Jk 29 71 27 28, Jg 30 87 29 1, Jf 31 3 30, Jd 32 3, Jj 33 32 172, Jc 34 (.binOp .add 3 (Ja 33) (Jb 1) 3), Jc 35 (.build 143 #[(0, (Ja 25)), (1, (Ja 31)), (4, (Ja 34))]), Jc 36 (.buildSlice 90 1 #[(0, (Ja 35))]), Jc 37 (.call ⟨.builtin .append, #[(Ja 19), (Ja 36)], #[90, 90]⟩), Jh 4 37])) (.reg [Jd 17 5, Jc 18 (.binOp .add 3 (Ja 17) (Jb 1) 3), Jh 5 18])
def v29l0 : CV := .seq v29l0h0 v29l0t1
def v29h3 : CV := Jt [Ji 5 0] (.block 0 (.loop v29l0))
def v29l1h0 : CV := Jt [Jd 38 6, Jd 39 3, Jj 40 39 172, Jc 41 (.binOp .lss 3 (Ja 38) (Ja 40) 3)] (.cond (Ja 41) (.skip) (.exit 2))
def v29k0h1 : CV := Jt [Jg 49 157 7 0, Jf 50 3 49, Jc 51 (.binOp .neq 3 (Ja 50) (Jb 1) 3)] (.cond (Ja 51) (.exit 3) (.skip))
def v29c2 : CV := Jt [Jg 66 157 7 3, Jf 67 2 66, Jc 68 (.binOp .gtr 2 (Ja 67) (Jb 64) 2)] (.cond (Ja 68) (.reg [Jg 69 143 8 2, .op none (.store 3 (Ja 69) (Jb 65))]) (.reg [Jg 70 157 7 3, Jf 71 2 70, Jg 72 143 8 2, .op none (.store 3 (Ja 72) (Ja 71))]))
def v29k0h3 : CV := Jt [Jg 62 157 7 3, Jf 63 2 62, Jc 64 (.binOp .eql 2 (Ja 63) (Jb (-1)) 2)] (.cond (Ja 64) (.reg [Jg 65 143 8 1, .op none (.store 3 (Ja 65) (Jb 2))]) v29c2)
def v29k0t3 : CV := .seq v29k0h3 (.reg [Jd 73 4, Jf 74 143 8, Jc 75 (.buildSlice 90 1 #[(0, (Ja 74))]), Jc 76 (.call ⟨.builtin .append, #[(Ja 73), (Ja 75)], #[90, 90]⟩), Jh 4 76])
def v29k0t2 : CV := Jt [Jg 52 157 7 1, Jf 53 9 52, Jd 54 6, Jc 55 (.binOp .add 3 (Ja 54) (Jb 2) 3), Jd 56 3, Jd 57 6, Jk 58 172 56 57, Jg 59 176 58 1, Jf 60 3 59, Jc 61 (.build 143 #[(0, (Ja 53)), (1, (Jb 1)), (3, (Ja 55)), (4, (Ja 60))]), Jc 8 (.alloc 143), .op none (.store 143 (Ja 8) (Ja 61))] v29k0t3
def v29k0t1 : CV := .seq v29k0h1 v29k0t2
def v29k0 : CV := Jt [Jd 44 3, Jd 45 6, Jk 46 172 44 45, Jg 47 176 46 0, Jf 48 157 47, Jc 7 (.alloc 157), .op none (.store 157 (Ja 7) (Ja 48))] v29k0t1
def v29l1t1 : CV := .seq (.block 3 v29k0) (.reg [Jd 42 6, Jc 43 (.binOp .add 3 (Ja 42) (Jb 1) 3), Jh 6 43])
def v29l1 : CV := .seq v29l1h0 v29l1t1
def v29h4 : CV := Jt [Ji 6 0] (.block 2 (.loop v29l1))
def v29t5 : CV := Jt [Jd 77 4, Jh 2 77] (.ret)
def v29t4 : CV := .seq v29h4 v29t5
def v29t3 : CV := .seq v29h3 v29t4
def v29t2 : CV := Jt [Jc 4 (.assign (.const (.slice none 0 0)))] v29t3
def v29t1 : CV := Jt [Jg 9 74 1 3, Jf 10 72 9, Jc 11 (.call ⟨.value (.func 73), #[(Ja 10), (Jb 1)], #[72, 3]⟩), Jh 3 11] v29t2
def v29 : CV := Jt [Jc 1 (.box 74 (Ja 0)), Jc 2 (.assign (.const (.slice none 0 0)))] v29t1
noncomputable def b29 : Code := f29.body.getD .skip
theorem b29_eq : f29.body = some b29 := by kernel_rfl
theorem v29_eq : viewC prog b29 = some v29 := by kernel_rfl
theorem r29_eq : f29.results.toList = [.tmp 2] := by kernel_rfl
theorem ziu (l : List Stm) : ∀ i, cSs (l.take i) ≤ cSs l := by
 induction l with
 | nil => intro i; simp
 | cons e l ih =>
  intro i
  cases i with
  | zero => simp [cSs]
  | succ i => simp only [List.take_succ_cons, cSs]; have := ih i; omega
def IsIt (H : Heap) (c : List AV) (x : Stm × Int) : Prop := ∃ d, c = d ++ [.int .i64 x.2] ∧ IsS Non H d x.1
def OwnIt (H : Heap) (u : AV) (l : List (Stm × Int)) : Prop := ∃ els : List (List AV), Own H u 8 l.length els.flatten ∧ F2 (IsIt H) els l ∧ ∀ c ∈ els, c.length = 8
theorem IsIt.keepS {S : Nat → Prop} {H H' : Heap} {c : List AV} {x : Stm × Int} (h : IsIt H c x) (k : Keep S H H') : IsIt H' c x := by
 obtain ⟨d, h1, h2⟩ := h
 exact ⟨d, h1, h2.keepS k fun _ h => h.elim⟩
theorem IsIt.scal {H : Heap} {c : List AV} {x : Stm × Int} (h : IsIt H c x) : scalL c = true := by
 obtain ⟨d, rfl, h2⟩ := h
 have h3 := zi3 h2
 refine zej fun v hv => ?_
 rcases List.mem_append.1 hv with hv | hv
 ·exact zn6 h3 v hv
 ·rw [List.mem_singleton.1 hv]; rfl
theorem OwnIt.nil (H : Heap) : OwnIt H .nils [] := ⟨[], Own.nil _ _, .nil, fun _ h => by cases h⟩
theorem OwnIt.keep {S : Nat → Prop} {H H' : Heap} {u : AV} {l : List (Stm × Int)} (h : OwnIt H u l) (k : Keep S H H') (hs : ∀ c, ownB u c → ¬ S c) : OwnIt H' u l := by
 obtain ⟨els, h1, h2, h3⟩ := h
 exact ⟨els, h1.keep k hs, h2.imp fun c a h => h.keepS k, h3⟩
theorem OwnIt.ls {H : Heap} {u : AV} {l : List (Stm × Int)} (h : OwnIt H u l) : IsLs (fun c => ownB u c) IsIt 8 H u l := by
 obtain ⟨els, ⟨h0, hl, h1⟩, h2, h3⟩ := h
 refine ⟨els, ⟨h0, ?_⟩, h2, h3⟩
 rcases h1 with ⟨h, hn⟩ | ⟨b, row, h, hr, hle, hg⟩
 ·exact .inl ⟨.inl h, hn⟩
 ·exact .inr ⟨b, 0, row, true, false, .inl ⟨h, by omega⟩, hr, .inr (by rw [h]; rfl), fun j hj => by rw [Nat.zero_add]; exact hg j hj⟩
theorem OwnIt.lt {H : Heap} {u : AV} {l : List (Stm × Int)} (h : OwnIt H u l) {c : Nat} (hc : ownB u c) : c < H.nx := by
 obtain ⟨_, h1, _⟩ := h
 exact h1.lt hc
theorem zr5 {els : List (List AV)} (h : ∀ c ∈ els, scalL c = true) : scalL els.flatten = true := zej fun v hv => by
 obtain ⟨c, hc, hv⟩ := List.mem_flatten.1 hv
 exact zn6 (h c hc) v hv
theorem f2_app {α β : Type} {R : α → β → Prop} {l l' : List α} {m m' : List β} (h : F2 R l m) (k : F2 R l' m') : F2 R (l ++ l') (m ++ m') := by
 induction h with
 | nil => exact k
 | cons h _ ih => exact .cons h ih
section
variable {tb : List FuncId} {gl : List (List AV)} {A : Nat → Prop} {H : Heap} {u v w : AV} {b : Nat} {Q : AV → Heap → Prop}
theorem zmm {t e t' : TypeId} {x y : Operand} {l : Fm} {c : Call} {E : EI} {l1 l2 : List (Stm × Int)} (hc : c.callee = .builtin .append) (ha : c.args.toList = [x, y]) (ht : c.argTypes.toList = [t, t']) (hE : elemI prog t = some E) (hz : E.z = 8) (hu : prog.underlying t' = some (.slice e) ∨ prog.underlying t' = some .string)
  (hx : evA x l = some u) (ho : OwnIt H u l1) (hy : evA y l = some w) (hw : IsLs A IsIt 8 H w l2) (hn : l1.length + l2.length < 1000000) (q : ∀ v' H', OwnIt H' v' (l1 ++ l2) → Keep (ownB u) H H' → (∀ c, ownB v' c → ownB u c ∨ H.nx ≤ c) → Q v' H') : OA prog tb gl (.call c) l H Q := by
 obtain ⟨els, h1, h2, h3⟩ := ho
 obtain ⟨els2, g1, g2, g3⟩ := hw
 rw [← hz] at h1 g1
 have hsc : scalL els2.flatten = true := zr5 fun c hc => by
  obtain ⟨i, hi⟩ := List.getElem?_of_mem hc
  obtain ⟨b, _, hb⟩ := g2.get i c hi
  exact hb.scal
 refine zdu hc ha ht hE hu hx h1 hy g1.sl.elems g1.1 hsc (show l1.length + l2.length < limit from hn) fun v' H' o k f => q v' H' ⟨els ++ els2, ?_, ?_, ?_⟩ k f
 ·rw [List.flatten_append, List.length_append, ← hz]; exact o
 ·exact f2_app (h2.imp fun c a h => h.keepS k) (g2.imp fun c a h => h.keepS k)
 ·intro c hc
  rcases List.mem_append.1 hc with hc | hc
  ·exact h3 c hc
  ·exact g3 c hc
theorem zjd : ∀ (k : Nat) {l : List Stm} {v : AV} {H : Heap} {Q : AV → Heap → Prop}, szSs l < k → IsLs A (IsS A) 7 H v l → l.length ≤ rB → cSs l < 1000000 → Q (.int .i64 (cSs l : Int)) H → WpF prog tb gl 30 [v] H Q
 | 0, _, _, _, _, h, _, _, _, _ => by omega
 | k + 1, l, v, H, Q, hk, hL, hll, hc, hQ => by
  have hrB : rB = 140737488351232 := rfl
  refine fa func30 b30_eq v30_eq r30_eq (.inr (by simp)) ?_
  (repeat' first | (refine zae rfl ?_; (refine zab ?_)) | refine zac ?_ | refine zak ?_ | refine zam ?_)
  refine zbw (fun (i : Nat) => [(0, v), (3, .int .i64 (cSs (l.take i) : Int)), (4, .int .i64 (i : Int))]) (fun i H' => H' = H ∧ i ≤ l.length) (fun i => l.length - i) ?_ 0 _ H ⟨rfl, rfl, rfl, trivial⟩ ⟨rfl, Nat.zero_le _⟩
  rintro i H' ⟨rfl, hle⟩
  have htk := ziu l i
  by_cases hi : i < l.length
  rotate_left
  ·rw [List.take_of_length_le (by omega)]
   (repeat' first | (refine zae rfl ?_; first | (refine zaa ?_; first | refine za7 rfl rfl rfl UnF.h rfl hL ?_ | refine zbp rfl rfl (by omega) ?_) | refine zab ?_) | refine zag rfl ?_ | refine zac ?_ | refine zak ?_ | refine zbn ?_ | (refine zao ?_; refine zbm rfl ?_))
   exact hQ
  obtain ⟨x, hx⟩ : ∃ x, l[i]? = some x := ⟨_, List.getElem?_eq_getElem hi⟩
  have hsx := zfe (List.mem_of_getElem? hx)
  have hszx : szS x = szSs x.body + szSs x.els + 1 := by cases x; simp only [szS]; rfl
  have hcx := cS_eq x
  have htk1 := ziu l (i + 1)
  have hsn : cSs (l.take (i + 1)) = cSs (l.take i) + cS x := by rw [zbt hx, zit]
  refine zak (zac ?_)
  refine zae rfl ?_
  refine zaa (za7 rfl rfl rfl UnF.h rfl hL ?_)
  refine zaa (zbx rfl rfl (by omega) ?_)
  refine zab (zah rfl (zan (zak (zam (zac ?_)))))
  refine zae rfl ?_
  refine zaa (za0 (c := ((cSs (l.take i) + 1 : Nat) : Int)) rfl rfl Ju ?_)
  refine zae rfl ?_
  refine zab (zac ?_)
  refine zae rfl ?_
  refine zaa (zba UnF.h SzF.h rfl hL rfl rfl hx fun p c hR hcl hpt => ?_)
  obtain ⟨v1, v2, v3, rfl, _, _, _, _, _, hlb, hlf, _, hLb, hLf⟩ := hR.out
  refine zaa (zas FpF.h (by decide) rfl hpt fun p2 hp2 => ?_)
  refine zaa (zbh PlF.h rfl hp2 rfl ?_)
  refine zaa (zaj rfl rfl rfl (zjd k (by omega) hLb hlb (by omega) ?_))
  refine zaa (za0 (c := ((cSs (l.take i) + 1 + cSs x.body : Nat) : Int)) rfl rfl Ju ?_)
  refine zae rfl ?_
  refine zab (zaw ?_)
  refine zae rfl ?_
  refine zaa (zba UnF.h SzF.h rfl hL rfl rfl hx fun p c hR hcl hpt => ?_)
  obtain ⟨v1, v2, v3, rfl, _, _, _, _, _, hlb, hlf, _, hLb, hLf⟩ := hR.out
  refine zaa (zas FpF.h (by decide) rfl hpt fun p2 hp2 => ?_)
  refine zaa (zbh PlF.h rfl hp2 rfl ?_)
  refine zaa (zaj rfl rfl rfl (zjd k (by omega) hLf hlf (by omega) ?_))
  refine zaa (za0 (c := ((cSs (l.take (i + 1)) : Nat) : Int)) rfl rfl Ju ?_)
  refine zae rfl ?_
  refine zab (zaw ?_)
  refine zae rfl ?_
  refine zaa (za0 (c := ((i + 1 : Nat) : Int)) rfl rfl Ju ?_)
  refine zae rfl ?_
  refine zab ⟨i + 1, ?_, ⟨rfl, rfl, rfl, trivial⟩, rfl, by omega⟩
  show l.length - (i + 1) < l.length - i
  omega
theorem zpm : ∀ (k : Nat) {l : List Stm} {v : AV} {next : Nat} {H : Heap} {Q : AV → Heap → Prop}, szSs l < k → IsLs Non (IsS Non) 7 H v l → l.length ≤ rB → next + cSs l < 900000 → (∀ u H', Keep Non H H' → OwnIt H' u (rowT l next) → (∀ c, ownB u c → H.nx ≤ c) → Q u H') → WpF prog tb gl 73 [v, .int .i64 (next : Int)] H Q
 | 0, _, _, _, _, _, h, _, _, _, _ => by omega
 | k + 1, l, v, next, H, Q, hk, hL, hll, hc, hQ => by
  have hrB : rB = 140737488351232 := rfl
  refine fa func73 b73_eq v73_eq r73_eq (.inr (by simp)) ?_
  (repeat' first | (refine zae rfl ?_; first | (refine zaa ?_; first | refine zaj rfl rfl rfl (zjd (szSs l + 1) (by omega) hL hll (by omega) ?_) | refine za0 (c := ((next + cSs l : Nat) : Int)) rfl rfl Ju ?_ | refine zc8 (c := ((next + cSs l : Nat) : Int) - 1) rfl rfl Ju ?_) | refine zab ?_) | refine zac ?_ | refine zak ?_ | refine zam ?_)
  refine zbw (fun (i : Nat × AV) => [(0, v), (1, .int .i64 ((next + cSs (l.take i.1) : Nat) : Int)), (5, i.2), (6, .int .i64 (((next + cSs l : Nat) : Int) - 1)), (7, .int .i64 (i.1 : Int))]) (fun i H' => i.1 ≤ l.length ∧ Keep Non H H' ∧ OwnIt H' i.2 (rowL (l.take i.1) next (((next + cSs l : Nat) : Int) - 1)) ∧ ∀ c, ownB i.2 c → H.nx ≤ c) (fun i => l.length - i.1) ?_ (0, .nils) _ H ⟨rfl, rfl, rfl, rfl, rfl, trivial⟩
   ⟨Nat.zero_le _, .refl _ _, OwnIt.nil _, fun _ h => h.elim⟩
  rintro ⟨i, u⟩ H1 ⟨hle, hk1, hO, hf⟩
  simp only at hle hk1 hO hf
  refine VA.sub (l0 := [(0, v), (1, .int .i64 ((next + cSs (l.take i) : Nat) : Int)), (5, u), (6, .int .i64 (((next + cSs l : Nat) : Int) - 1)), (7, .int .i64 (i : Int))]) ⟨rfl, rfl, rfl, rfl, rfl, trivial⟩ ?_
  have htk := ziu l i
  have hL1 : IsLs Non (IsS Non) 7 H1 v l := hL.keep hk1 fun _ _ _ h => h.keep hk1
  by_cases hi : i < l.length
  rotate_left
  ·rw [List.take_of_length_le (by omega)] at hO
   (repeat' first | (refine zae rfl ?_; first | (refine zaa ?_; first | refine za7 rfl rfl rfl UnF.h rfl hL1 ?_ | refine zbp rfl rfl (by omega) ?_) | refine zab ?_) | refine zag rfl ?_ | refine zac ?_ | refine zak ?_ | refine zbn ?_ | (refine zao ?_; refine zbm rfl ?_))
   exact hQ u H1 hk1 hO hf
  obtain ⟨x, hx⟩ : ∃ x, l[i]? = some x := ⟨_, List.getElem?_eq_getElem hi⟩
  have hsx := zfe (List.mem_of_getElem? hx)
  have hszx : szS x = szSs x.body + szSs x.els + 1 := by cases x; simp only [szS]; rfl
  have hcx := cS_eq x
  have htk1 := ziu l (i + 1)
  have hsn : cSs (l.take (i + 1)) = cSs (l.take i) + cS x := by rw [zbt hx, zit]
  have hlenO := zhn (l.take i) next (((next + cSs l : Nat) : Int) - 1)
  refine zak (zac ?_)
  refine zae rfl ?_
  refine zaa (za7 rfl rfl rfl UnF.h rfl hL1 ?_)
  refine zaa (zbx rfl rfl (by omega) ?_)
  refine zab (zah rfl (zan (zak (zam (zac ?_)))))
  refine zae rfl ?_
  refine zaa (zba UnF.h SzF.h rfl hL1 rfl rfl hx fun p c hR hcl hpt => ?_)
  have hR0 := hR
  obtain ⟨v1, v2, v3, rfl, _, _, _, _, _, hlb, hlf, _, _, _⟩ := hR.out
  refine zaa (zaq (k := 7) PlF.h rfl (by decide) rfl hpt ?_)
  refine zae rfl ?_
  refine zaa (zbz BsF.h ZeF.h PsF.h rfl ?_)
  refine zaa (zar (n := 1) ElF.h (by decide) rfl rfl fun H2 hk2 hr2 => ?_)
  have hO2 := hO.keep hk2 fun _ _ h => h
  have hone : IsLs (fun c => c = H1.nx) IsIt 8 H2 (.sl H1.nx 0 1 1) [(x, ((next + cSs l : Nat) : Int) - 1)] := zi2 hr2 rfl rfl ⟨_, rfl, hR0.keep hk2⟩
  refine zaa (zmm rfl rfl rfl ElF.h rfl (.inl UnF.h) rfl hO2 rfl hone (by simp only [List.length_singleton]; omega) fun u3 H3 hO3 hk3 hb3 => ?_)
  have hf3 : ∀ c, ownB u3 c → H.nx ≤ c := fun c hc => by
   have n1 := hk1.nx
   have n2 := hk2.nx
   rcases hb3 c hc with h | h
   ·exact hf c h
   ·omega
  have hk13 : Keep Non H H3 := (hk1.trans0 hk2).trans hk3 fun c hc => .inr (hf c hc)
  refine zae rfl ?_
  refine zab (zac ?_)
  have hL3 : IsLs Non (IsS Non) 7 H3 v l := hL.keep hk13 fun _ _ _ h => h.keep hk13
  refine zae rfl ?_
  refine zaa (zba UnF.h SzF.h rfl hL3 rfl rfl hx fun p c hR hcl hpt => ?_)
  obtain ⟨v1, v2, v3, rfl, _, _, _, _, _, hlb, hlf, _, hLb, hLf⟩ := hR.out
  refine zaa (zas FpF.h (by decide) rfl hpt fun p2 hp2 => ?_)
  refine zaa (zbh PlF.h rfl hp2 rfl ?_)
  refine zae rfl ?_
  refine zaa (za0 (c := ((next + cSs (l.take i) + 1 : Nat) : Int)) rfl rfl Ju ?_)
  refine zaa (zaj rfl rfl rfl (zpm k (by omega) hLb hlb (by omega) fun u4 H4 hk4 hO4 hf4 => ?_))
  have hO34 := hO3.keep hk4 fun _ _ h => h
  have hk14 := hk13.trans0 hk4
  refine zae rfl ?_
  refine zab (zac ?_)
  have hL4 : IsLs Non (IsS Non) 7 H4 v l := hL.keep hk14 fun _ _ _ h => h.keep hk14
  have hl4 := zho x.body (next + cSs (l.take i) + 1)
  refine zae rfl ?_
  refine zaa (zba UnF.h SzF.h rfl hL4 rfl rfl hx fun p c hR hcl hpt => ?_)
  obtain ⟨v1, v2, v3, rfl, _, _, _, _, _, hlb, hlf, _, hLb, hLf⟩ := hR.out
  refine zaa (zas FpF.h (by decide) rfl hpt fun p2 hp2 => ?_)
  refine zaa (zbh PlF.h rfl hp2 rfl ?_)
  refine zae rfl ?_
  refine zaa (za0 (c := ((next + cSs (l.take i) + 1 : Nat) : Int)) rfl rfl Ju ?_)
  refine zae rfl ?_
  refine zaa (za7 rfl rfl rfl UnF.h rfl hO4.ls ?_)
  refine zaa (za0 (c := ((next + cSs (l.take i) + 1 + cSs x.body : Nat) : Int)) rfl rfl Ju ?_)
  refine zaa (zaj rfl rfl rfl (zpm k (by omega) hLf hlf (by omega) fun u5 H5 hk5 hO5 hf5 => ?_))
  have hO35 := hO34.keep hk5 fun _ _ h => h
  have hO45 := hO4.keep hk5 fun _ _ h => h
  have hk15 := hk14.trans0 hk5
  have hl5 := zho x.els (next + cSs (l.take i) + 1 + cSs x.body)
  refine zae rfl ?_
  refine zab (zac ?_)
  refine zae rfl ?_
  refine zaa (zmm rfl rfl rfl ElF.h rfl (.inl UnF.h) rfl hO35 rfl hO45.ls (by simp only [List.length_append, List.length_singleton]; omega) fun u6 H6 hO6 hk6 hb6 => ?_)
  have n4 := hk4.nx
  have n5 := hk5.nx
  have ne5 : ∀ c, ownB u5 c → ¬ ownB u3 c := fun c h1 h2 => by have := hf5 c h1; have := hO3.lt h2; omega
  have ne4 : ∀ c, ownB u4 c → ¬ ownB u3 c := fun c h1 h2 => by have := hf4 c h1; have := hO3.lt h2; omega
  have hO56 := hO5.keep hk6 ne5
  have hO46 := hO45.keep hk6 ne4
  have hk16 : Keep Non H H6 := hk15.trans hk6 fun c hc => .inr (hf3 c hc)
  have hf6 : ∀ c, ownB u6 c → H.nx ≤ c := fun c hc => by
   have := hk15.nx
   rcases hb6 c hc with h | h
   ·exact hf3 c h
   ·omega
  refine zae rfl ?_
  refine zaa (zmm rfl rfl rfl ElF.h rfl (.inl UnF.h) rfl hO6 rfl hO56.ls (by simp only [List.length_append, List.length_singleton]; omega) fun u7 H7 hO7 hk7 hb7 => ?_)
  have hk17 : Keep Non H H7 := hk16.trans hk7 fun c hc => .inr (hf6 c hc)
  have hO57 := hO56.keep hk7 fun c h1 h2 => (hb6 c h2).elim (ne5 c h1) fun h => by have := hO5.lt h1; omega
  have hO47 := hO46.keep hk7 fun c h1 h2 => (hb6 c h2).elim (ne4 c h1) fun h => by have := hO4.lt h1; omega
  have hf7 : ∀ c, ownB u7 c → H.nx ≤ c := fun c hc => by
   have := hk16.nx
   rcases hb7 c hc with h | h
   ·exact hf6 c h
   ·omega
  refine zae rfl ?_
  refine zab (zaw ?_)
  refine zae rfl ?_
  refine zaa (za0 (c := ((next + cSs (l.take i) + 1 : Nat) : Int)) rfl rfl Ju ?_)
  refine zae rfl ?_
  refine zaa (za7 rfl rfl rfl UnF.h rfl hO47.ls ?_)
  refine zaa (za0 (c := ((next + cSs (l.take i) + 1 + cSs x.body : Nat) : Int)) rfl rfl Ju ?_)
  refine zae rfl ?_
  refine zaa (za7 rfl rfl rfl UnF.h rfl hO57.ls ?_)
  refine zaa (za0 (c := ((next + cSs (l.take (i + 1)) : Nat) : Int)) rfl rfl Ju ?_)
  refine zae rfl ?_
  refine zab (zaw ?_)
  refine zae rfl ?_
  refine zaa (za0 (c := ((i + 1 : Nat) : Int)) rfl rfl Ju ?_)
  refine zae rfl ?_
  refine zab ⟨(i + 1, u7), ?_, ⟨rfl, rfl, rfl, rfl, rfl, trivial⟩, by show i + 1 ≤ _; omega, hk17, ?_, hf7⟩
  ·show l.length - (i + 1) < l.length - i
   omega
  ·show OwnIt H7 u7 (rowL (l.take (i + 1)) next _)
   rw [zbt hx, zn4, rowS_eq, show next + cSs (l.take i) + 1 = next + cSs (l.take i) + 1 from rfl]
   simp only [List.append_assoc, List.singleton_append] at hO7 ⊢
   exact hO7
end
end Go.Proofs.YtbmedhaopnhggaaGreatDoor
