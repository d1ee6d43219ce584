/-
  Names (lex.IsName), tightness (syntax.level), walked. Conditions: the key words lie where they were laid.
-/
import Derived.Test.YtbmedhaopnhggaaGreatDoorTxt
import Derived.Test.YtbmedhaopnhggaaGreatDoorCore9
namespace Go.Proofs.YtbmedhaopnhggaaGreatDoor
open Go Eng Tryz
set_option maxHeartbeats 0
instance ipl_366 : PlF prog 366 ⟨0, true, 13⟩ := ⟨by kernel_rfl⟩
instance iun_366 : UnF prog 366 (.array 13 9) := ⟨by kernel_rfl⟩
def v219t1 : CV := Jt [Jd 3 0, Jc 4 (.binOp .geq 5 (Ja 3) (.const (.int .u8 65)) 5), Jd 5 4, Jp 5 true 6 0, Js 5 true 7 (.binOp .leq 5 (Ja 6) (.const (.int .u8 90)) 5), Jc 8 (.pick (Ja 5) (Ja 7) (.const (.bool false))), Jd 9 8, Jp 9 false 10 0, Js 9 false 11 (.binOp .geq 5 (Ja 10) (.const (.int .u8 97)) 5), Jp 9 false 12 11, Jp 12 true 13 0, Js 12 true 14 (.binOp .leq 5 (Ja 13) (.const (.int .u8 122)) 5), Js 9 false 15 (.pick (Ja 12) (Ja 14) (.const (.bool false))), Jc 16 (.pick (Ja 9) (.const (.bool true)) (Ja 15)), Jh 2 16] (.ret)
def v219 : CV := Jt [Jc 2 (.assign (.const (.bool false)))] v219t1
noncomputable def b219 : Code := f219.body.getD .skip
theorem b219_eq : f219.body = some b219 := by kernel_rfl
theorem v219_eq : viewC prog b219 = some v219 := by kernel_rfl
theorem r219_eq : f219.results.toList = [.tmp 2] := by kernel_rfl
def v267t1 : CV := Jt [Jd 3 0, Jc 4 (.binOp .geq 5 (Ja 3) (.const (.int .u8 48)) 5), Jd 5 4, Jp 5 true 6 0, Js 5 true 7 (.binOp .leq 5 (Ja 6) (.const (.int .u8 57)) 5), Jc 8 (.pick (Ja 5) (Ja 7) (.const (.bool false))), Jh 2 8] (.ret)
def v267 : CV := Jt [Jc 2 (.assign (.const (.bool false)))] v267t1
noncomputable def b267 : Code := f267.body.getD .skip
theorem b267_eq : f267.body = some b267 := by kernel_rfl
theorem v267_eq : viewC prog b267 = some v267 := by kernel_rfl
theorem r267_eq : f267.results.toList = [.tmp 2] := by kernel_rfl
def v221t1 : CV := Jt [Jd 3 0, Jn 4 219 3 5, Jd 5 4, Jp 5 false 6 0, Js 5 false 7 (.call ⟨.value (.func 267), #[(Ja 6)], #[5]⟩), Jc 8 (.pick (Ja 5) (.const (.bool true)) (Ja 7)), Jd 9 8, Jp 9 false 10 0, Js 9 false 11 (.binOp .eql 5 (Ja 10) (.const (.int .u8 95)) 5), Jc 12 (.pick (Ja 9) (.const (.bool true)) (Ja 11)), Jh 2 12] (.ret)
def v221 : CV := Jt [Jc 2 (.assign (.const (.bool false)))] v221t1
noncomputable def b221 : Code := f221.body.getD .skip
theorem b221_eq : f221.body = some b221 := by kernel_rfl
theorem v221_eq : viewC prog b221 = some v221 := by kernel_rfl
theorem r221_eq : f221.results.toList = [.tmp 2] := by kernel_rfl
def v220c1 : CV := Jt [Jc 2 (.assign (.const (.bool true)))] (.ret)
def v220k0t1 : CV := Jt [Jd 9 0, Jd 10 4, Jc 11 (.binOp .eql 9 (Ja 9) (Ja 10) 9)] (.cond (Ja 11) v220c1 (.skip))
def v220k0 : CV := Jt [Jc 8 (.index 366 (Ja 5) (Ja 6)), Jh 4 8] v220k0t1
def v220l0t2 : CV := .seq (.block 1 v220k0) (.reg [Jc 12 (.binOp .add 3 (Ja 6) (Jb 1) 3), Jd 6 12])
def v220l0t1 : CV := .seq (.cond (Ja 7) (.skip) (.exit 0)) v220l0t2
def v220l0 : CV := Jt [Jc 7 (.binOp .lss 3 (Ja 6) (Jb 13) 3)] v220l0t1
def v220h1 : CV := Jt [Jc 5 (.load 366 (.global 0)), Je 6 0] (.block 0 (.loop v220l0))
def v220t2 : CV := Jt [Jc 2 (.assign (.const (.bool false)))] (.ret)
def v220t1 : CV := .seq v220h1 v220t2
def v220 : CV := Jt [Jc 2 (.assign (.const (.bool false)))] v220t1
noncomputable def b220 : Code := f220.body.getD .skip
theorem b220_eq : f220.body = some b220 := by kernel_rfl
theorem v220_eq : viewC prog b220 = some v220 := by kernel_rfl
theorem r220_eq : f220.results.toList = [.tmp 2] := by kernel_rfl
def v168c0 : CV := Jt [Jc 2 (.assign (.const (.bool false)))] (.ret)
def v168h1 : CV := Jt [Jd 4 0, Jc 5 (.binOp .eql 9 (Ja 4) (.const (.string ⟨⟨[]⟩⟩)) 9), Jd 6 5, Jp 6 false 7 0, Js 6 false 8 (.call ⟨.builtin .len, #[(Ja 7)], #[9]⟩), Js 6 false 9 (.binOp .gtr 3 (Ja 8) (Jb 40) 3), Jc 10 (.pick (Ja 6) (.const (.bool true)) (Ja 9)), Jd 11 10, Jp 11 false 12 0, Js 11 false 13 (.index 9 (Ja 12) (Jb 0)), Js 11 false 14 (.call ⟨.value (.func 219), #[(Ja 13)], #[5]⟩), Js 11 false 15 (.unOp .not 4 (Ja 14)), Jc 16 (.pick (Ja 11) (.const (.bool true)) (Ja 15)), Jd 17 16, Jp 17 false 18 0, Js 17 false 19 (.call ⟨.value (.func 220), #[(Ja 18)], #[9]⟩), Jc 20 (.pick (Ja 17) (.const (.bool true)) (Ja 19))] (.cond (Ja 20) v168c0 (.skip))
def v168c2 : CV := Jt [Jc 2 (.assign (.const (.bool false)))] (.ret)
def v168k0t1 : CV := Jt [Jd 26 0, Jd 27 3, Jc 28 (.index 9 (Ja 26) (Ja 27)), Jn 29 221 28 5, Jc 30 (.unOp .not 4 (Ja 29))] (.cond (Ja 30) v168c2 (.skip))
def v168k0 : CV := Jt [Jd 25 23, Jh 3 25] v168k0t1
def v168l1t2 : CV := .seq (.block 1 v168k0) (.reg [Jc 31 (.binOp .add 3 (Ja 23) (Jb 1) 3), Jd 23 31])
def v168l1t1 : CV := .seq (.cond (Ja 24) (.skip) (.exit 0)) v168l1t2
def v168l1 : CV := Jt [Jc 24 (.binOp .lss 3 (Ja 23) (Ja 22) 3)] v168l1t1
def v168h2 : CV := Jt [Jd 21 0, Jj 22 21 9, Je 23 0] (.block 0 (.loop v168l1))
def v168t3 : CV := Jt [Jc 2 (.assign (.const (.bool true)))] (.ret)
def v168t2 : CV := .seq v168h2 v168t3
def v168t1 : CV := .seq v168h1 v168t2
def v168 : CV := Jt [Jc 2 (.assign (.const (.bool false)))] v168t1
noncomputable def b168 : Code := f168.body.getD .skip
theorem b168_eq : f168.body = some b168 := by kernel_rfl
theorem v168_eq : viewC prog b168 = some v168 := by kernel_rfl
theorem r168_eq : f168.results.toList = [.tmp 2] := by kernel_rfl
def v295c0 : CV := Jt [Ji 2 1] (.ret)
def v295c2 : CV := Jt [Ji 2 2] (.ret)
def v295c5 : CV := Jt [Jc 11 (.binOp .eql 9 (Ja 3) (.const (.string ⟨⟨[60]⟩⟩)) 9), Jh 8 11] (.cond (Ja 8) (.skip) (.reg [Jc 12 (.binOp .eql 9 (Ja 3) (.const (.string ⟨⟨[60, 61]⟩⟩)) 9), Jh 8 12]))
def v295c4 : CV := Jt [Jc 10 (.binOp .eql 9 (Ja 3) (.const (.string ⟨⟨[33, 61]⟩⟩)) 9), Jh 8 10] (.cond (Ja 8) (.skip) v295c5)
def v295c3h0 : CV := Jt [Jc 9 (.binOp .eql 9 (Ja 3) (.const (.string ⟨⟨[61, 61]⟩⟩)) 9), Jh 8 9] (.cond (Ja 8) (.skip) v295c4)
def v295c6 : CV := Jt [Ji 2 3] (.ret)
def v295c7h0 : CV := Jt [Jc 14 (.binOp .eql 9 (Ja 3) (.const (.string ⟨⟨[43]⟩⟩)) 9), Jh 13 14] (.cond (Ja 13) (.skip) (.reg [Jc 15 (.binOp .eql 9 (Ja 3) (.const (.string ⟨⟨[45]⟩⟩)) 9), Jh 13 15]))
def v295c8 : CV := Jt [Ji 2 4] (.ret)
def v295c10 : CV := Jt [Jc 18 (.binOp .eql 9 (Ja 3) (.const (.string ⟨⟨[47]⟩⟩)) 9), Jh 16 18] (.cond (Ja 16) (.skip) (.reg [Jc 19 (.binOp .eql 9 (Ja 3) (.const (.string ⟨⟨[37]⟩⟩)) 9), Jh 16 19]))
def v295c9h0 : CV := Jt [Jc 17 (.binOp .eql 9 (Ja 3) (.const (.string ⟨⟨[42]⟩⟩)) 9), Jh 16 17] (.cond (Ja 16) (.skip) v295c10)
def v295c11 : CV := Jt [Ji 2 5] (.ret)
def v295c9 : CV := .seq v295c9h0 (.cond (Ja 16) v295c11 (.skip))
def v295c7 : CV := .seq v295c7h0 (.cond (Ja 13) v295c8 v295c9)
def v295c3 : CV := .seq v295c3h0 (.cond (Ja 8) v295c6 v295c7)
def v295c1 : CV := Jt [Jc 7 (.binOp .eql 9 (Ja 3) (.const (.string ⟨⟨[38, 38]⟩⟩)) 9), Jh 6 7] (.cond (Ja 6) v295c2 v295c3)
def v295k0 : CV := Jt [Jc 5 (.binOp .eql 9 (Ja 3) (.const (.string ⟨⟨[124, 124]⟩⟩)) 9), Jh 4 5] (.cond (Ja 4) v295c0 v295c1)
def v295h1 : CV := Jt [Jd 3 0] (.block 0 v295k0)
def v295t2 : CV := Jt [Ji 2 0] (.ret)
def v295t1 : CV := .seq v295h1 v295t2
def v295 : CV := Jt [Ji 2 0] v295t1
noncomputable def b295 : Code := f295.body.getD .skip
theorem b295_eq : f295.body = some b295 := by kernel_rfl
theorem v295_eq : viewC prog b295 = some v295 := by kernel_rfl
theorem r295_eq : f295.results.toList = [.tmp 2] := by kernel_rfl
def keysL : List (List UInt8) := ["proc", "var", "if", "else", "while", "return", "print", "read", "assert", "int", "bool", "true", "false"].map fun s => s.toUTF8.data.toList
def letB (c : UInt8) : Bool := (65 ≤ c.toNat && c.toNat ≤ 90) || (97 ≤ c.toNat && c.toNat ≤ 122)
def digB (c : UInt8) : Bool := 48 ≤ c.toNat && c.toNat ≤ 57
def innB (c : UInt8) : Bool := letB c || digB c || c.toNat = 95
def nameB (s : List UInt8) : Bool := (match s with | [] => false | c :: _ => letB c) && s.length ≤ 40 && !keysL.contains s && s.all innB
def levB (s : List UInt8) : Int := if s = [124, 124] then 1 else if s = [38, 38] then 2 else if s = [61, 61] ∨ s = [33, 61] ∨ s = [60] ∨ s = [60, 61] then 3 else if s = [43] ∨ s = [45] then 4 else if s = [42] ∨ s = [47] ∨ s = [37] then 5 else 0
def KeysIn (H : Heap) : Prop := IsRow H 0 (keysL.map S) false true
theorem KeysIn.keep {S : Nat → Prop} {H H' : Heap} (h : KeysIn H) (k : Keep S H H') : KeysIn H' := IsRow.keep h k (.inr rfl)
section
variable {tb : List FuncId} {gl : List (List AV)} {H : Heap} {v w : AV} {Q : AV → Heap → Prop}
theorem zt8 {t e : TypeId} {x i : Operand} {l : Fm} {n o j : Nat} {k0 : IntKind} {z0 : Int} {cs : List AV} (hu : prog.underlying t = some (.array n e)) (hp : plcOf prog e 0 = some ⟨o, false, 1⟩) (hx : evA x l = some (.agg cs)) (hi : evA i l = some (.int k0 z0)) (hz0 : z0 = (j : Int)) (hj : j < n) (hv : cs[j]? = some v) (hs : scal v = true)
  (q : Q v H) : OA prog tb gl (.index t x i) l H Q :=
 oa (fun T hT => by
  have hb : Nat.blt j n = true := by rw [zbo]; simpa using hj
  have hi' : ev i T = some (.int k0 (.ofNat j)) := by rw [zbe hT hi, hz0]; rfl
  have hj1 : cs[Nat.mul j 1]? = some v := by rw [show Nat.mul j 1 = j from Nat.mul_one j]; exact hv
  simp only [oper, oIndex, hu, zbe hT hx, hi', idx, hb, cond_true, hp, oPart, partL, cond_false, hj1]
  cases v <;> first | rfl | cases hs) q
theorem znm (c : UInt8) (hQ : Q (.bool (letB c)) H) : WpF prog tb gl 219 [u8 c] H Q := by
  unfold u8
  obtain ⟨n, hn⟩ : ∃ n, n = c.toNat := ⟨_, rfl⟩
  unfold letB at hQ
  rw [← hn] at hQ ⊢
  refine fa func219 b219_eq v219_eq r219_eq (.inr (by simp)) ?_
  refine zac ?_
  refine zae rfl ?_
  refine zab (zac ?_)
  by_cases h1 : 65 ≤ n <;> by_cases h2 : n ≤ 90 <;> by_cases h3 : 97 ≤ n <;> by_cases h4 : n ≤ 122 <;> first
    | omega
    | ((repeat (first | refine zbb rfl ?_ | refine zef rfl ?_ | ((first | refine zaa ?_ | refine zav rfl ?_); first | refine zal rfl ?_ | refine zai rfl ?_ | refine zeo rfl rfl (by omega) ?_ | refine zec rfl rfl (by omega) ?_ | refine zgy rfl rfl (by omega) ?_ | refine ze8 rfl rfl (by omega) ?_ | refine zaz rfl rfl rfl ?_ | refine za1 rfl rfl ?_)))
       refine zab (zao ⟨_, rfl, ?_⟩)
       simpa [h1, h2, h3, h4] using hQ)
theorem digit_ok (c : UInt8) (hQ : Q (.bool (digB c)) H) : WpF prog tb gl 267 [u8 c] H Q := by
  unfold u8
  obtain ⟨n, hn⟩ : ∃ n, n = c.toNat := ⟨_, rfl⟩
  unfold digB at hQ
  rw [← hn] at hQ ⊢
  refine fa func267 b267_eq v267_eq r267_eq (.inr (by simp)) ?_
  refine zac ?_
  refine zae rfl ?_
  refine zab (zac ?_)
  by_cases h1 : 48 ≤ n <;> by_cases h2 : n ≤ 57 <;> first
    | omega
    | ((repeat (first | refine zbb rfl ?_ | ((first | refine zaa ?_ | refine zav rfl ?_); first | refine zal rfl ?_ | refine zai rfl ?_ | refine zeo rfl rfl (by omega) ?_ | refine zec rfl rfl (by omega) ?_ | refine zgy rfl rfl (by omega) ?_ | refine ze8 rfl rfl (by omega) ?_ | refine zaz rfl rfl rfl ?_ | refine za1 rfl rfl ?_)))
       refine zab (zao ⟨_, rfl, ?_⟩)
       simpa [h1, h2] using hQ)
theorem inner_ok (c : UInt8) (hQ : Q (.bool (innB c)) H) : WpF prog tb gl 221 [u8 c] H Q := by
 unfold innB at hQ
 refine fa func221 b221_eq v221_eq r221_eq (.inr (by simp)) ?_
 refine zac ?_
 refine zae rfl ?_
 refine zab (zac ?_)
 refine zae rfl ?_
 refine zaa (zaj rfl rfl rfl (znm c ?_))
 refine zae rfl ?_
 cases h1 : letB c
 ·refine zav rfl (zal rfl (zav rfl (zaj rfl rfl rfl (digit_ok c ?_))))
  refine zaa (za1 rfl rfl ?_)
  refine zae rfl ?_
  cases h2 : digB c
  ·refine zav rfl (zal rfl ?_)
   refine zav rfl (zgx (a := (c.toNat : Int)) rfl rfl (d := decide (c.toNat = 95)) (by by_cases h : c.toNat = 95 <;> simp [h] <;> omega) ?_)
   refine zaa (za1 rfl rfl ?_)
   refine zae rfl ?_
   refine zab (zao ⟨_, rfl, ?_⟩)
   simpa [h1, h2] using hQ
  ·refine zbb rfl (zbb rfl ?_)
   refine zaa (zaz rfl rfl rfl ?_)
   refine zae rfl ?_
   refine zab (zao ⟨_, rfl, ?_⟩)
   simpa [h1, h2] using hQ
 ·refine zbb rfl (zbb rfl ?_)
  refine zaa (zaz rfl rfl rfl ?_)
  refine zae rfl ?_
  refine zbb rfl (zbb rfl ?_)
  refine zaa (zaz rfl rfl rfl ?_)
  refine zae rfl ?_
  refine zab (zao ⟨_, rfl, ?_⟩)
  simpa [h1] using hQ
theorem isKey_ok (s : List UInt8) (hK : KeysIn H) (hQ : Q (.bool (keysL.contains s)) H) : WpF prog tb gl 220 [S s] H Q := by
 refine fa func220 b220_eq v220_eq r220_eq (.inr (by simp)) ?_
 refine zac ?_
 refine zae rfl ?_
 refine zab (zak (zac ?_))
 refine zaa (zqh PlF.h rfl hK (by decide) ?_)
 refine zae rfl ?_
 refine zab (zam ?_)
 refine zbw (fun (i : Nat) => [(0, S s), (5, .agg (keysL.map S)), (6, .int .i64 (i : Int))]) (fun i H' => H' = H ∧ i ≤ 13 ∧ ∀ j, j < i → keysL[j]? ≠ some s) (fun i => 13 - i) ?_ 0 _ H ⟨rfl, rfl, rfl, trivial⟩ ⟨rfl, Nat.zero_le _, fun _ h => by omega⟩
 rintro i H1 ⟨hH, hle, hno⟩
 subst hH
 refine zac ?_
 by_cases hi : i < 13
 rotate_left
 ·refine zaa (zcb rfl rfl (decide_eq_false (by omega)) (zab (zak (zag rfl (zbn (zac ?_))))))
  refine zae rfl ?_
  refine zab (zao ⟨_, rfl, ?_⟩)
  have : keysL.contains s = false := by
   have hl : keysL.length = 13 := by rfl
   cases h : keysL.contains s with
   | false => rfl
   | true =>
    obtain ⟨j, hj⟩ := List.getElem?_of_mem (List.contains_iff_mem.1 h)
    exact absurd hj (hno j (by have := (List.getElem?_eq_some_iff.1 hj).1; omega))
  rw [this] at hQ
  exact hQ
 refine zaa (zcb rfl rfl (decide_eq_true (by omega)) (zab (zak (zah rfl (zan (zak (zam (zac ?_))))))))
 have hl : keysL.length = 13 := by rfl
 obtain ⟨k, hk⟩ : ∃ k, keysL[i]? = some k := ⟨_, List.getElem?_eq_getElem (by omega)⟩
 refine zaa (zt8 (v := S k) UnF.h PlF.h rfl rfl rfl hi (by rw [List.getElem?_map, hk]; rfl) rfl ?_)
 refine zae rfl ?_
 refine zab (zac ?_)
 refine zae rfl ?_
 by_cases he : s = k
 ·refine zaa (zbq rfl rfl (decide_eq_true he) (zab (zah rfl (zac ?_))))
  refine zae rfl ?_
  refine zab (zao ⟨_, rfl, ?_⟩)
  have : keysL.contains s = true := List.contains_iff_mem.2 (by rw [he]; exact List.mem_of_getElem? hk)
  rw [this] at hQ
  exact hQ
 refine zaa (zbq rfl rfl (decide_eq_false he) (zab (zag rfl (zan (zaw ?_)))))
 refine zaa (za0 (c := ((i + 1 : Nat) : Int)) rfl rfl Ju ?_)
 refine zae rfl ?_
 refine zab ⟨i + 1, ?_, ⟨rfl, rfl, rfl, trivial⟩, rfl, by omega, fun j hj => ?_⟩
 ·show 13 - (i + 1) < 13 - i
  omega
 ·by_cases hji : j = i
  ·subst hji
   rw [hk]
   intro h
   injection h with h
   exact he h.symm
  ·exact hno j (by omega)
theorem zsc (s : List UInt8) (hs : s.length < 9223372036854775808) (hK : KeysIn H) (hQ : Q (.bool (nameB s)) H) : WpF prog tb gl 168 [S s] H Q := by
 refine fa func168 b168_eq v168_eq r168_eq (.inr (by simp)) ?_
 refine zac ?_
 refine zae rfl ?_
 refine zab (zak (zac ?_))
 have no : nameB s = false → ∀ l', VA prog tb gl v168c0 l' H (seqA prog tb gl v168t2 (leftA [.tmp 2] Q)) := by
  intro h l'
  refine zac ?_
  refine zae rfl ?_
  refine zab (zao ⟨_, rfl, ?_⟩)
  rw [h] at hQ
  exact hQ
 refine zae rfl ?_
 cases hsc : s with
 | nil =>
  subst hsc
  refine zaa (zbq rfl rfl (decide_eq_true rfl) ?_)
  (repeat (first | refine zbb rfl ?_ | (refine zaa ?_; first | refine zal rfl ?_ | refine zaz rfl rfl rfl ?_)))
  exact zab (zah rfl (no rfl _))
 | cons c r =>
  rw [← hsc]
  have hne : s ≠ [] := by rw [hsc]; simp
  have hc0 : s[0]? = some c := by rw [hsc]; rfl
  refine zaa (zbq (q := []) rfl rfl (decide_eq_false hne) ?_)
  refine zae rfl ?_
  refine zav rfl (zal rfl (zav rfl (zcx rfl rfl rfl UnF.h rfl ?_)))
  by_cases h40 : 40 < s.length
  ·refine zav rfl (zcu rfl rfl (by omega) ?_)
   refine zaa (za1 rfl rfl ?_)
   (repeat (first | refine zbb rfl ?_ | (refine zaa ?_; first | refine zal rfl ?_ | refine zaz rfl rfl rfl ?_)))
   exact zab (zah rfl (no (by simp [nameB]; intros; omega) _))
  refine zav rfl (zb9 rfl rfl (by omega) ?_)
  refine zaa (za1 rfl rfl ?_)
  refine zae rfl ?_
  refine zav rfl (zal rfl (zav rfl (znv UnF.h rfl rfl (j := 0) rfl hc0 ?_)))
  refine zav rfl (zaj rfl rfl rfl (znm c ?_))
  refine zav rfl (znw rfl ?_)
  refine zaa (za1 rfl rfl ?_)
  refine zae rfl ?_
  cases hl : letB c with
  | false =>
   (repeat (first | refine zbb rfl ?_ | (((refine zaa ?_)); (refine zaz rfl rfl rfl ?_))))
   exact zab (zah rfl (no (by simp [nameB, hsc, hl]) _))
  | true =>
   refine zav rfl (zal rfl (zav rfl (zaj rfl rfl rfl (isKey_ok s hK ?_))))
   refine zaa (za1 rfl rfl ?_)
   cases hk : keysL.contains s with
   | true => exact zab (zah rfl (no (by simp only [nameB, hk]; simp) _))
   | false =>
    refine zab (zag rfl (zan (zak (zac ?_))))
    refine zae rfl ?_
    refine zaa (zcx rfl rfl rfl UnF.h rfl ?_)
    refine zae rfl ?_
    refine zab (zam ?_)
    refine zbw (fun (i : Nat) => [(0, S s), (22, .int .i64 (s.length : Int)), (23, .int .i64 (i : Int))]) (fun i H' => H' = H ∧ i ≤ s.length ∧ (s.take i).all innB = true) (fun i => s.length - i) ?_ 0 _ H ⟨rfl, rfl, rfl, trivial⟩ ⟨rfl, Nat.zero_le _, rfl⟩
    rintro i H1 ⟨hH, hle, hin⟩
    subst hH
    refine zac ?_
    by_cases hi : i < s.length
    rotate_left
    ·refine zaa (zcb rfl rfl (decide_eq_false (by omega)) (zab (zak (zag rfl (zbn (zac ?_))))))
     refine zae rfl ?_
     refine zab (zao ⟨_, rfl, ?_⟩)
     rw [List.take_of_length_le (by omega)] at hin
     have : nameB s = true := by
      unfold nameB
      rw [hk, hin]
      rw [hsc] at h40 ⊢
      simp only [hl]
      simp at h40 ⊢
      omega
     rw [this] at hQ
     exact hQ
    obtain ⟨x, hx⟩ : ∃ x, s[i]? = some x := ⟨_, List.getElem?_eq_getElem hi⟩
    refine zaa (zcb rfl rfl (decide_eq_true (by omega)) (zab (zak (zah rfl (zan (zak (zam (zac ?_))))))))
    refine zae rfl ?_
    refine zab (zac ?_)
    refine zae rfl ?_
    refine zaa (znv UnF.h rfl rfl rfl hx ?_)
    refine zaa (zaj rfl rfl rfl (inner_ok x ?_))
    refine zae rfl ?_
    cases hix : innB x with
    | false =>
     refine zab (zah rfl (zac ?_))
     refine zae rfl ?_
     refine zab (zao ⟨_, rfl, ?_⟩)
     have : nameB s = false := by
      have : s.all innB = false := by
       cases h : s.all innB with
       | false => rfl
       | true =>
        have := List.all_eq_true.1 h x (List.mem_of_getElem? hx)
        rw [hix] at this
        cases this
      unfold nameB
      rw [this, Bool.and_false]
     rw [this] at hQ
     exact hQ
    | true =>
     refine zab (zag rfl (zan (zaw ?_)))
     refine zaa (za0 (c := ((i + 1 : Nat) : Int)) rfl rfl Ju ?_)
     refine zae rfl ?_
     refine zab ⟨i + 1, ?_, ⟨rfl, rfl, rfl, trivial⟩, rfl, by omega, ?_⟩
     ·show s.length - (i + 1) < s.length - i
      omega
     ·rw [List.take_add_one, hx, List.all_append, hin]
      simp [hix]
end
end Go.Proofs.YtbmedhaopnhggaaGreatDoor
