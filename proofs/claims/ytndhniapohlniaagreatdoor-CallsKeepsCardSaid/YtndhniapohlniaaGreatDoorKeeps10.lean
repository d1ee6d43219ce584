/-
  CallsKeeps: the law walked: it returns true. Conditions: the listed variables are as the program's text lays them.
-/
import Derived.Test.YtndhniapohlniaaGreatDoorKeeps9
namespace Go.Proofs.YtndhniapohlniaaGreatDoor
open Go Go.Proofs.YtndhniapohlniaaGreatDoor.Eng
/-! facts about types -/
theorem un_26 : Tryz.prog.underlying 26 = some (.int .i64) := by kernel_rfl
instance iun_26 : UnF Tryz.prog 26 (.int .i64) := ⟨un_26⟩
/-! f5: parallax/parallaxlaw16.CallsKeeps, parameters #[22, 22, 23, 3] -/
def v5c0 : CV := .seq (.reg [.op (some 35) (.call ⟨.value (.func 6), #[], #[]⟩),
    .op (some 8) (.assign (.tmp 35))])
  (.ret)
def v5h1 : CV := .seq (.reg [.op (some 22) (.move (.tmp 0)),
    .op (some 23) (.call ⟨.builtin .len, #[(.tmp 22)], #[22]⟩),
    .op (some 24) (.binOp .gtr 3 (.tmp 23) (.const (.int .i64 60)) 3),
    .op (some 25) (.move (.tmp 24)),
    .gd 25 false (some 26) (.move (.tmp 1)),
    .gd 25 false (some 27) (.call ⟨.builtin .len, #[(.tmp 26)], #[22]⟩),
    .gd 25 false (some 28) (.binOp .gtr 3 (.tmp 27) (.const (.int .i64 60)) 3),
    .op (some 29) (.pick (.tmp 25) (.const (.bool true)) (.tmp 28)),
    .op (some 30) (.move (.tmp 29)),
    .gd 30 false (some 31) (.move (.tmp 2)),
    .gd 30 false (some 32) (.call ⟨.builtin .len, #[(.tmp 31)], #[23]⟩),
    .gd 30 false (some 33) (.binOp .gtr 3 (.tmp 32) (.const (.int .i64 20)) 3),
    .op (some 34) (.pick (.tmp 30) (.const (.bool true)) (.tmp 33))])
  (.cond (.tmp 34) v5c0 (.skip))
def v5c1 : CV := .seq (.reg [.op (some 52) (.call ⟨.value (.func 6), #[], #[]⟩),
    .op (some 8) (.assign (.tmp 52))])
  (.ret)
def v5h4 : CV := .seq (.reg [.op (some 46) (.move (.tmp 10)),
    .op (some 47) (.binOp .neq 26 (.tmp 46) (.const (.int .i64 0)) 26),
    .op (some 48) (.move (.tmp 47)),
    .gd 48 false (some 49) (.move (.tmp 12)),
    .gd 48 false (some 50) (.binOp .neq 26 (.tmp 49) (.const (.int .i64 0)) 26),
    .op (some 51) (.pick (.tmp 48) (.const (.bool true)) (.tmp 50))])
  (.cond (.tmp 51) v5c1 (.skip))
def v5l2h0 : CV := .seq (.reg [.op (some 61) (.move (.tmp 15)),
    .op (some 62) (.move (.tmp 13)),
    .op (some 63) (.call ⟨.builtin .len, #[(.tmp 62)], #[29]⟩),
    .op (some 64) (.binOp .lss 3 (.tmp 61) (.tmp 63) 3)])
  (.cond (.tmp 64) (.skip) (.exit 0))
def v5c3 : CV := .seq (.reg [.op (some 8) (.assign (.const (.bool false)))])
  (.ret)
def v5k0h0 : CV := .seq (.reg [.op (some 67) (.move (.tmp 13)),
    .op (some 68) (.move (.tmp 15)),
    .op (some 69) (.indexAddr 29 (.tmp 67) (.tmp 68)),
    .op (some 70) (.fieldAddr 44 (.tmp 69) 0),
    .op (some 71) (.load 3 (.tmp 70)),
    .op (some 72) (.binOp .lss 3 (.tmp 71) (.const (.int .i64 0)) 3),
    .op (some 73) (.move (.tmp 72)),
    .gd 73 false (some 74) (.move (.tmp 13)),
    .gd 73 false (some 75) (.move (.tmp 15)),
    .gd 73 false (some 76) (.indexAddr 29 (.tmp 74) (.tmp 75)),
    .gd 73 false (some 77) (.fieldAddr 44 (.tmp 76) 0),
    .gd 73 false (some 78) (.load 3 (.tmp 77)),
    .gd 73 false (some 79) (.move (.tmp 9)),
    .gd 73 false (some 80) (.call ⟨.builtin .len, #[(.tmp 79)], #[25]⟩),
    .gd 73 false (some 81) (.binOp .geq 3 (.tmp 78) (.tmp 80) 3),
    .op (some 82) (.pick (.tmp 73) (.const (.bool true)) (.tmp 81)),
    .op (some 83) (.move (.tmp 82)),
    .gd 83 false (some 84) (.move (.tmp 13)),
    .gd 83 false (some 85) (.move (.tmp 15)),
    .gd 83 false (some 86) (.indexAddr 29 (.tmp 84) (.tmp 85)),
    .gd 83 false (some 87) (.fieldAddr 44 (.tmp 86) 1),
    .gd 83 false (some 88) (.load 3 (.tmp 87)),
    .gd 83 false (some 89) (.binOp .lss 3 (.tmp 88) (.const (.int .i64 0)) 3),
    .op (some 90) (.pick (.tmp 83) (.const (.bool true)) (.tmp 89)),
    .op (some 91) (.move (.tmp 90)),
    .gd 91 false (some 92) (.move (.tmp 13)),
    .gd 91 false (some 93) (.move (.tmp 15)),
    .gd 91 false (some 94) (.indexAddr 29 (.tmp 92) (.tmp 93)),
    .gd 91 false (some 95) (.fieldAddr 44 (.tmp 94) 1),
    .gd 91 false (some 96) (.load 3 (.tmp 95)),
    .gd 91 false (some 97) (.move (.tmp 11)),
    .gd 91 false (some 98) (.call ⟨.builtin .len, #[(.tmp 97)], #[25]⟩),
    .gd 91 false (some 99) (.binOp .geq 3 (.tmp 96) (.tmp 98) 3),
    .op (some 100) (.pick (.tmp 91) (.const (.bool true)) (.tmp 99)),
    .op (some 101) (.move (.tmp 100)),
    .gd 101 false (some 102) (.move (.tmp 15)),
    .gd 101 false (some 103) (.binOp .gtr 3 (.tmp 102) (.const (.int .i64 0)) 3),
    .gd 101 false (some 104) (.move (.tmp 103)),
    .gd 104 true (some 105) (.move (.tmp 13)),
    .gd 104 true (some 106) (.move (.tmp 15)),
    .gd 104 true (some 107) (.indexAddr 29 (.tmp 105) (.tmp 106)),
    .gd 104 true (some 108) (.fieldAddr 44 (.tmp 107) 0),
    .gd 104 true (some 109) (.load 3 (.tmp 108)),
    .gd 104 true (some 110) (.move (.tmp 13)),
    .gd 104 true (some 111) (.move (.tmp 15)),
    .gd 104 true (some 112) (.binOp .sub 3 (.tmp 111) (.const (.int .i64 1)) 3),
    .gd 104 true (some 113) (.indexAddr 29 (.tmp 110) (.tmp 112)),
    .gd 104 true (some 114) (.fieldAddr 44 (.tmp 113) 0),
    .gd 104 true (some 115) (.load 3 (.tmp 114)),
    .gd 104 true (some 116) (.binOp .leq 3 (.tmp 109) (.tmp 115) 3),
    .gd 104 true (some 117) (.move (.tmp 116)),
    .gd 117 false (some 118) (.move (.tmp 13)),
    .gd 117 false (some 119) (.move (.tmp 15)),
    .gd 117 false (some 120) (.indexAddr 29 (.tmp 118) (.tmp 119)),
    .gd 117 false (some 121) (.fieldAddr 44 (.tmp 120) 1),
    .gd 117 false (some 122) (.load 3 (.tmp 121)),
    .gd 117 false (some 123) (.move (.tmp 13)),
    .gd 117 false (some 124) (.move (.tmp 15)),
    .gd 117 false (some 125) (.binOp .sub 3 (.tmp 124) (.const (.int .i64 1)) 3),
    .gd 117 false (some 126) (.indexAddr 29 (.tmp 123) (.tmp 125)),
    .gd 117 false (some 127) (.fieldAddr 44 (.tmp 126) 1),
    .gd 117 false (some 128) (.load 3 (.tmp 127)),
    .gd 117 false (some 129) (.binOp .leq 3 (.tmp 122) (.tmp 128) 3),
    .gd 104 true (some 130) (.pick (.tmp 117) (.const (.bool true)) (.tmp 129)),
    .gd 101 false (some 131) (.pick (.tmp 104) (.tmp 130) (.const (.bool false))),
    .op (some 132) (.pick (.tmp 101) (.const (.bool true)) (.tmp 131))])
  (.cond (.tmp 132) v5c3 (.skip))
def v5l4h0 : CV := .seq (.reg [.op (some 151) (.move (.tmp 20)),
    .op (some 152) (.move (.tmp 15)),
    .op (some 153) (.binOp .lss 3 (.tmp 151) (.tmp 152) 3)])
  (.cond (.tmp 153) (.skip) (.exit 2))
def v5l4t1 : CV := .seq (.block 3 (.reg [.op (some 156) (.move (.tmp 18)),
    .op (some 157) (.move (.tmp 156)),
    .gd 157 false (some 158) (.move (.tmp 13)),
    .gd 157 false (some 159) (.move (.tmp 20)),
    .gd 157 false (some 160) (.indexAddr 29 (.tmp 158) (.tmp 159)),
    .gd 157 false (some 161) (.fieldAddr 44 (.tmp 160) 0),
    .gd 157 false (some 162) (.load 3 (.tmp 161)),
    .gd 157 false (some 163) (.fieldAddr 41 (.tmp 16) 3),
    .gd 157 false (some 164) (.load 3 (.tmp 163)),
    .gd 157 false (some 165) (.binOp .eql 3 (.tmp 162) (.tmp 164) 3),
    .gd 157 false (some 166) (.move (.tmp 165)),
    .gd 166 true (some 167) (.move (.tmp 13)),
    .gd 166 true (some 168) (.move (.tmp 20)),
    .gd 166 true (some 169) (.indexAddr 29 (.tmp 167) (.tmp 168)),
    .gd 166 true (some 170) (.fieldAddr 44 (.tmp 169) 1),
    .gd 166 true (some 171) (.load 3 (.tmp 170)),
    .gd 166 true (some 172) (.fieldAddr 41 (.tmp 17) 3),
    .gd 166 true (some 173) (.load 3 (.tmp 172)),
    .gd 166 true (some 174) (.binOp .eql 3 (.tmp 171) (.tmp 173) 3),
    .gd 157 false (some 175) (.pick (.tmp 166) (.tmp 174) (.const (.bool false))),
    .op (some 176) (.pick (.tmp 157) (.const (.bool true)) (.tmp 175)),
    .op (some 18) (.assign (.tmp 176))]))
  (.reg [.op (some 154) (.move (.tmp 20)),
    .op (some 155) (.binOp .add 3 (.tmp 154) (.const (.int .i64 1)) 3),
    .op (some 20) (.assign (.tmp 155))])
def v5l4 : CV := .seq v5l4h0 v5l4t1
def v5k0h3 : CV := .seq (.reg [.op (some 20) (.assign (.const (.int .i64 0)))])
  (.block 2 (.loop v5l4))
def v5l5h0 : CV := .seq (.reg [.op (some 177) (.move (.tmp 21)),
    .op (some 178) (.move (.tmp 2)),
    .op (some 179) (.call ⟨.builtin .len, #[(.tmp 178)], #[23]⟩),
    .op (some 180) (.binOp .lss 3 (.tmp 177) (.tmp 179) 3)])
  (.cond (.tmp 180) (.skip) (.exit 4))
def v5l5t1 : CV := .seq (.block 5 (.reg [.op (some 183) (.move (.tmp 19)),
    .op (some 184) (.move (.tmp 183)),
    .gd 184 false (some 185) (.move (.tmp 2)),
    .gd 184 false (some 186) (.move (.tmp 21)),
    .gd 184 false (some 187) (.indexAddr 23 (.tmp 185) (.tmp 186)),
    .gd 184 false (some 188) (.indexAddr 45 (.tmp 187) (.const (.int .i64 0))),
    .gd 184 false (some 189) (.load 3 (.tmp 188)),
    .gd 184 false (some 190) (.fieldAddr 41 (.tmp 16) 0),
    .gd 184 false (some 191) (.load 3 (.tmp 190)),
    .gd 184 false (some 192) (.binOp .eql 3 (.tmp 189) (.tmp 191) 3),
    .gd 184 false (some 193) (.move (.tmp 192)),
    .gd 193 true (some 194) (.move (.tmp 2)),
    .gd 193 true (some 195) (.move (.tmp 21)),
    .gd 193 true (some 196) (.indexAddr 23 (.tmp 194) (.tmp 195)),
    .gd 193 true (some 197) (.indexAddr 45 (.tmp 196) (.const (.int .i64 1))),
    .gd 193 true (some 198) (.load 3 (.tmp 197)),
    .gd 193 true (some 199) (.fieldAddr 41 (.tmp 17) 0),
    .gd 193 true (some 200) (.load 3 (.tmp 199)),
    .gd 193 true (some 201) (.binOp .eql 3 (.tmp 198) (.tmp 200) 3),
    .gd 184 false (some 202) (.pick (.tmp 193) (.tmp 201) (.const (.bool false))),
    .op (some 203) (.pick (.tmp 184) (.const (.bool true)) (.tmp 202)),
    .op (some 19) (.assign (.tmp 203))]))
  (.reg [.op (some 181) (.move (.tmp 21)),
    .op (some 182) (.binOp .add 3 (.tmp 181) (.const (.int .i64 1)) 3),
    .op (some 21) (.assign (.tmp 182))])
def v5l5 : CV := .seq v5l5h0 v5l5t1
def v5k0h4 : CV := .seq (.reg [.op (some 21) (.assign (.const (.int .i64 0)))])
  (.block 4 (.loop v5l5))
def v5c6 : CV := .seq (.reg [.op (some 8) (.assign (.const (.bool false)))])
  (.ret)
def v5k0t5 : CV := .seq (.reg [.op (some 204) (.move (.tmp 18)),
    .op (some 205) (.unOp .not 4 (.tmp 204)),
    .op (some 206) (.move (.tmp 205)),
    .gd 206 false (some 207) (.move (.tmp 19)),
    .gd 206 false (some 208) (.unOp .not 4 (.tmp 207)),
    .op (some 209) (.pick (.tmp 206) (.const (.bool true)) (.tmp 208))])
  (.cond (.tmp 209) v5c6 (.skip))
def v5k0t4 : CV := .seq v5k0h4 v5k0t5
def v5k0t3 : CV := .seq v5k0h3 v5k0t4
def v5k0t2 : CV := .seq (.reg [.op (some 149) (.move (.tmp 15)),
    .op (some 150) (.binOp .eql 3 (.tmp 149) (.const (.int .i64 0)) 3),
    .op (some 18) (.assign (.tmp 150)),
    .op (some 19) (.assign (.const (.bool false)))]) v5k0t3
def v5k0t1 : CV := .seq (.reg [.op (some 133) (.move (.tmp 9)),
    .op (some 134) (.move (.tmp 13)),
    .op (some 135) (.move (.tmp 15)),
    .op (some 136) (.indexAddr 29 (.tmp 134) (.tmp 135)),
    .op (some 137) (.fieldAddr 44 (.tmp 136) 0),
    .op (some 138) (.load 3 (.tmp 137)),
    .op (some 139) (.indexAddr 25 (.tmp 133) (.tmp 138)),
    .op (some 140) (.load 41 (.tmp 139)),
    .op (some 141) (.move (.tmp 11)),
    .op (some 142) (.move (.tmp 13)),
    .op (some 143) (.move (.tmp 15)),
    .op (some 144) (.indexAddr 29 (.tmp 142) (.tmp 143)),
    .op (some 145) (.fieldAddr 44 (.tmp 144) 1),
    .op (some 146) (.load 3 (.tmp 145)),
    .op (some 147) (.indexAddr 25 (.tmp 141) (.tmp 146)),
    .op (some 148) (.load 41 (.tmp 147)),
    .op (some 16) (.alloc 41),
    .op (some 17) (.alloc 41),
    .op none (.store 41 (.tmp 16) (.tmp 140)),
    .ck 146 (.load 3 (.tmp 145)),
    .ck 148 (.load 41 (.tmp 147)),
    .op none (.store 41 (.tmp 17) (.tmp 148))]) v5k0t2
def v5k0 : CV := .seq v5k0h0 v5k0t1
def v5l2t1 : CV := .seq (.block 1 v5k0)
  (.reg [.op (some 65) (.move (.tmp 15)),
    .op (some 66) (.binOp .add 3 (.tmp 65) (.const (.int .i64 1)) 3),
    .op (some 15) (.assign (.tmp 66))])
def v5l2 : CV := .seq v5l2h0 v5l2t1
def v5h6 : CV := .seq (.reg [.op (some 15) (.assign (.const (.int .i64 0)))])
  (.block 0 (.loop v5l2))
def v5t7 : CV := .seq (.reg [.op (some 210) (.call ⟨.value (.func 6), #[], #[]⟩),
    .op (some 8) (.assign (.tmp 210))])
  (.ret)
def v5t6 : CV := .seq v5h6 v5t7
def v5t5 : CV := .seq (.reg [.op (some 54) (.move (.tmp 9)),
    .op (some 55) (.move (.tmp 11)),
    .op (some 56) (.move (.tmp 2)),
    .op (some 57) (.move (.tmp 3)),
    .op (some 58) (.call ⟨.value (.func 8), #[(.tmp 54), (.tmp 55), (.tmp 56), (.tmp 57)], #[25, 25, 23, 3]⟩),
    .op (some 53) (.move (.tmp 58)),
    .op (some 59) (.extract (.tmp 53) 0),
    .op (some 60) (.extract (.tmp 53) 1),
    .op (some 13) (.assign (.tmp 59)),
    .op (some 14) (.assign (.tmp 60))]) v5t6
def v5t4 : CV := .seq v5h4 v5t5
def v5t3 : CV := .seq (.reg [.op (some 42) (.move (.tmp 1)),
    .op (some 43) (.call ⟨.value (.func 7), #[(.tmp 42)], #[22]⟩),
    .op (some 41) (.move (.tmp 43)),
    .op (some 44) (.extract (.tmp 41) 0),
    .op (some 45) (.extract (.tmp 41) 1),
    .op (some 11) (.assign (.tmp 44)),
    .op (some 12) (.assign (.tmp 45))]) v5t4
def v5t2 : CV := .seq (.reg [.op (some 37) (.move (.tmp 0)),
    .op (some 38) (.call ⟨.value (.func 7), #[(.tmp 37)], #[22]⟩),
    .op (some 36) (.move (.tmp 38)),
    .op (some 39) (.extract (.tmp 36) 0),
    .op (some 40) (.extract (.tmp 36) 1),
    .op (some 9) (.assign (.tmp 39)),
    .op (some 10) (.assign (.tmp 40))]) v5t3
def v5t1 : CV := .seq v5h1 v5t2
def v5 : CV := .seq (.reg [.op (some 8) (.assign (.const (.bool false)))]) v5t1
noncomputable def b5 : Code := Tryz.f5.body.getD .skip
theorem b5_eq : Tryz.f5.body = some b5 := by kernel_rfl
theorem v5_eq : viewC Tryz.prog b5 = some v5 := by kernel_rfl
theorem r5_eq : Tryz.f5.results.toList = [.tmp 8] := by kernel_rfl

/-- what the law asks of matched calls -/
def GoodP (A B : List Cl) (ps : List (Int × Int)) (out : List (Nat × Nat)) : Prop := ∀ (i : Nat) p, out[i]? = some p → ∃ c d, A[p.1]? = some c ∧ B[p.2]? = some d ∧ (∀ q, 0 < i → out[i - 1]? = some q → q.1 < p.1 ∧ q.2 < p.2) ∧
  (i = 0 ∨ ∃ y r, y < i ∧ out[y]? = some r ∧ (r.1 : Int) = c.up ∧ (r.2 : Int) = d.up) ∧ ∃ (k : Nat) (pr : Int × Int), ps[k]? = some pr ∧ pr.1 = c.proc ∧ pr.2 = d.proc
theorem good_of {A B : List Cl} {ps : List (Int × Int)} {lim : Int} {nA nB : Nat} {op op' : List Nat} (I : TInv nA A op) (J : TInv nB B op') (hA0 : 0 < A.length) (hB0 : 0 < B.length) (hF : FirstP A B (numT 0 ps [] []).1 (numT 0 ps [] []).2) {out : List (Nat × Nat)} {c : Bool}
    (hV : VisW A B (numT 0 ps [] []).1 (numT 0 ps [] []).2 lim [(0, 0)] out c) : GoodP A B ps out := by
  intro i p hp
  obtain ⟨hi1, hi2⟩ := hV.inside (by simp [hA0, hB0]) p (List.mem_of_getElem? hp)
  have hr := (hV.rises I J (by simp)).2
  have h0 : out[0]? = some (0, 0) := by cases hV; rfl
  have hlt : ∀ (j k : Nat) q r, j < k → out[j]? = some q → out[k]? = some r → q.1 < r.1 ∧ q.2 < r.2 := fun j k q r hjk hj hk => by
    obtain ⟨a, ha⟩ := List.getElem?_eq_some_iff.1 hj
    obtain ⟨b, hb⟩ := List.getElem?_eq_some_iff.1 hk
    rw [← ha, ← hb]
    exact List.pairwise_iff_getElem.1 hr j k a b hjk
  refine ⟨A[p.1], B[p.2], List.getElem?_eq_getElem hi1, List.getElem?_eq_getElem hi2, fun q hq0 hq => hlt (i - 1) i q p (by omega) hq hp, ?_⟩
  rcases Nat.eq_zero_or_pos i with hi | hi
  · subst hi
    rw [h0] at hp
    injection hp with hp
    subst hp
    obtain ⟨c', d', x, h1, h2, h3, h4⟩ := hF
    obtain ⟨hL, hR⟩ := numT_look ps ps 0 [] [] rfl (fun x v h => (by cases h)) (fun x v h => (by cases h))
    obtain ⟨k, pr, e1, e2, e3⟩ := hL _ _ h3
    obtain ⟨k', pr', e4, e5, e6⟩ := hR _ _ h4
    obtain rfl : k = k' := by omega
    rw [e2] at e5
    injection e5 with e5
    subst e5
    rw [List.getElem?_eq_getElem hA0] at h1
    rw [List.getElem?_eq_getElem hB0] at h2
    injection h1 with h1
    injection h2 with h2
    exact ⟨.inl rfl, k, pr, e2, (by rw [h1]; exact e3), (by rw [h2]; exact e6)⟩
  · rcases hV.there i p hp with h | ⟨y, r, hy, hr2, ⟨d1, g1, g2⟩, ⟨d2, g3, g4⟩, g5⟩
    · rw [List.mem_singleton] at h
      subst h
      have := (hlt 0 i _ _ hi h0 hp).1
      omega
    · rw [List.getElem?_eq_getElem hi1] at g1
      rw [List.getElem?_eq_getElem hi2] at g3
      injection g1 with g1
      injection g3 with g3
      refine ⟨.inr ⟨y, r, hy, hr2, (by rw [g1, g2]), (by rw [g3, g4])⟩, ?_⟩
      obtain ⟨pr, hpr, e1, e2⟩ := evE_pair (List.getElem?_eq_getElem hi1) (List.getElem?_eq_getElem hi2) g5
      obtain ⟨k, hk⟩ := List.getElem?_of_mem hpr
      exact ⟨k, pr, hk, e1, e2⟩
section
variable {tb : List FuncId} {gl : List (List AV)} {H : Heap} {v w vp : AV}
theorem ia_ckPN {t : TypeId} {x : Operand} {l : Fm} {cs : List AV} {k : Tmp} {its : List It} {Q : Fm → Heap → Prop} {o z : Nat} {p : AV} (hp : plcOf Tryz.prog t 0 = some ⟨o, true, z⟩) (hz : cs.length = z) (hne : 0 < z) (hx : evA x l = some p) (hr : PtsTo H p cs) (ht : lk k l = some (.agg cs)) (h : IA Tryz.prog tb gl its l H Q) : IA Tryz.prog tb gl (.ck k (.load t x) :: its) l H Q := by
  subst hz
  obtain ⟨b, i, row, tl, ro, rfl, ⟨_, tr, hB, hT'⟩, h3, h4⟩ := hr.row (List.length_pos_iff.1 hne)
  have htk : takeC tr i cs.length = some cs := by
    rw [← h4]
    refine takeC_some _ _ _ (by rw [h4]) fun j hj => ?_
    rw [h4] at hj
    rw [hT' _ (by omega), List.getElem?_take, if_pos hj, List.getElem?_drop]
  exact ia_ck (v := .agg cs) (fun T hT => ⟨H, by simp only [oper, oLoad, evA_ok hT hx, hp, loadR, hB, cond_true, htk]⟩) ht (AV.eq_self _) h
theorem treeR_form {l : List Tk} {H H' : Heap} {r : AV} (h : TreeR l H H' r) : ∃ u e, r = .tup [u, .int .i64 e] := by
  unfold TreeR at h
  split at h
  · obtain ⟨u, rfl, _⟩ := h; exact ⟨u, 0, rfl⟩
  · exact ⟨.nils, 32, h⟩
set_option maxHeartbeats 0 in
theorem keeps_ok (hlaid : Laid gl H) {ls ms : List Tk} {ps : List (Int × Int)} {lim : Int} (hl0 : -9223372036854775808 ≤ lim ∧ lim < 9223372036854775808) (hv : IsSlR H v 4 ls.length (ls.flatMap tkC)) (hw : IsSlR H w 4 ms.length (ms.flatMap tkC)) (hvp : IsSlR H vp 2 ps.length (ps.flatMap prC)) :
    WpF Tryz.prog [6] gl 5 [v, w, vp, .int .i64 lim] H fun r _ => r = .bool true := by
  refine fa Tryz.func5 b5_eq v5_eq r5_eq (.inr (by simp)) ?_
  refine va_seqr ?_
  (repeat (refine ia_op ?_; first | refine oa_move rfl ?_ | refine oa_assign rfl ?_ | refine oa_nilCheck rfl ?_ | refine oa_fieldAddr FpF.h (by decide) rfl ?_ | refine oa_extract rfl rfl ?_ | refine oa_not rfl ?_))
  refine ia_nil (va_seq (va_seqr ?_))
  by_cases b1 : 60 < ls.length
  · (repeat (first | (refine ia_op ?_; (first | refine oa_move rfl ?_ | refine oa_assign rfl ?_ | refine oa_nilCheck rfl ?_ | refine oa_fieldAddr FpF.h (by decide) rfl ?_ | refine oa_lenSl rfl rfl rfl UnF.h rfl hv.sl ?_ | refine oa_lenSl rfl rfl rfl UnF.h rfl hw.sl ?_ | refine oa_lenSl rfl rfl rfl UnF.h rfl hvp.sl ?_ | refine oa_lssW rfl rfl (decide_eq_false (by omega)) ?_ | refine oa_lssW rfl rfl (decide_eq_true (by omega)) ?_ | refine oa_leqW rfl rfl (decide_eq_false (by omega)) ?_ | refine oa_leqW rfl rfl (decide_eq_true (by omega)) ?_ | refine oa_gtrW rfl rfl (decide_eq_false (by omega)) ?_ | refine oa_gtrW rfl rfl (decide_eq_true (by omega)) ?_ | refine oa_geqW rfl rfl (decide_eq_false (by omega)) ?_ | refine oa_geqW rfl rfl (decide_eq_true (by omega)) ?_ | refine oa_eqlW rfl rfl (decide_eq_false (by omega)) ?_ | refine oa_eqlW rfl rfl (decide_eq_true (by omega)) ?_ | refine oa_neqW rfl rfl (decide_eq_false (by omega)) ?_ | refine oa_neqW rfl rfl (decide_eq_true (by omega)) ?_ | refine oa_pickT rfl rfl rfl ?_ | refine oa_pickF rfl rfl ?_ | refine oa_not rfl ?_ | refine oa_extract rfl rfl ?_)) | (refine ia_gdY rfl ?_; (first | refine oa_move rfl ?_ | refine oa_assign rfl ?_ | refine oa_nilCheck rfl ?_ | refine oa_fieldAddr FpF.h (by decide) rfl ?_ | refine oa_lenSl rfl rfl rfl UnF.h rfl hv.sl ?_ | refine oa_lenSl rfl rfl rfl UnF.h rfl hw.sl ?_ | refine oa_lenSl rfl rfl rfl UnF.h rfl hvp.sl ?_ | refine oa_lssW rfl rfl (decide_eq_false (by omega)) ?_ | refine oa_lssW rfl rfl (decide_eq_true (by omega)) ?_ | refine oa_leqW rfl rfl (decide_eq_false (by omega)) ?_ | refine oa_leqW rfl rfl (decide_eq_true (by omega)) ?_ | refine oa_gtrW rfl rfl (decide_eq_false (by omega)) ?_ | refine oa_gtrW rfl rfl (decide_eq_true (by omega)) ?_ | refine oa_geqW rfl rfl (decide_eq_false (by omega)) ?_ | refine oa_geqW rfl rfl (decide_eq_true (by omega)) ?_ | refine oa_eqlW rfl rfl (decide_eq_false (by omega)) ?_ | refine oa_eqlW rfl rfl (decide_eq_true (by omega)) ?_ | refine oa_neqW rfl rfl (decide_eq_false (by omega)) ?_ | refine oa_neqW rfl rfl (decide_eq_true (by omega)) ?_ | refine oa_pickT rfl rfl rfl ?_ | refine oa_pickF rfl rfl ?_ | refine oa_not rfl ?_ | refine oa_extract rfl rfl ?_)) | refine ia_gdN rfl ?_ | refine ia_gdU rfl ?_))
    refine ia_nil (va_condT rfl (va_seqr ?_))
    refine ia_op (oa_known rfl hlaid ?_)
    exact ia_op (oa_assign rfl (ia_nil (va_ret ⟨_, rfl, rfl⟩)))
  by_cases b2 : 60 < ms.length
  · (repeat (first | (refine ia_op ?_; (first | refine oa_move rfl ?_ | refine oa_assign rfl ?_ | refine oa_nilCheck rfl ?_ | refine oa_fieldAddr FpF.h (by decide) rfl ?_ | refine oa_lenSl rfl rfl rfl UnF.h rfl hv.sl ?_ | refine oa_lenSl rfl rfl rfl UnF.h rfl hw.sl ?_ | refine oa_lenSl rfl rfl rfl UnF.h rfl hvp.sl ?_ | refine oa_lssW rfl rfl (decide_eq_false (by omega)) ?_ | refine oa_lssW rfl rfl (decide_eq_true (by omega)) ?_ | refine oa_leqW rfl rfl (decide_eq_false (by omega)) ?_ | refine oa_leqW rfl rfl (decide_eq_true (by omega)) ?_ | refine oa_gtrW rfl rfl (decide_eq_false (by omega)) ?_ | refine oa_gtrW rfl rfl (decide_eq_true (by omega)) ?_ | refine oa_geqW rfl rfl (decide_eq_false (by omega)) ?_ | refine oa_geqW rfl rfl (decide_eq_true (by omega)) ?_ | refine oa_eqlW rfl rfl (decide_eq_false (by omega)) ?_ | refine oa_eqlW rfl rfl (decide_eq_true (by omega)) ?_ | refine oa_neqW rfl rfl (decide_eq_false (by omega)) ?_ | refine oa_neqW rfl rfl (decide_eq_true (by omega)) ?_ | refine oa_pickT rfl rfl rfl ?_ | refine oa_pickF rfl rfl ?_ | refine oa_not rfl ?_ | refine oa_extract rfl rfl ?_)) | (refine ia_gdY rfl ?_; (first | refine oa_move rfl ?_ | refine oa_assign rfl ?_ | refine oa_nilCheck rfl ?_ | refine oa_fieldAddr FpF.h (by decide) rfl ?_ | refine oa_lenSl rfl rfl rfl UnF.h rfl hv.sl ?_ | refine oa_lenSl rfl rfl rfl UnF.h rfl hw.sl ?_ | refine oa_lenSl rfl rfl rfl UnF.h rfl hvp.sl ?_ | refine oa_lssW rfl rfl (decide_eq_false (by omega)) ?_ | refine oa_lssW rfl rfl (decide_eq_true (by omega)) ?_ | refine oa_leqW rfl rfl (decide_eq_false (by omega)) ?_ | refine oa_leqW rfl rfl (decide_eq_true (by omega)) ?_ | refine oa_gtrW rfl rfl (decide_eq_false (by omega)) ?_ | refine oa_gtrW rfl rfl (decide_eq_true (by omega)) ?_ | refine oa_geqW rfl rfl (decide_eq_false (by omega)) ?_ | refine oa_geqW rfl rfl (decide_eq_true (by omega)) ?_ | refine oa_eqlW rfl rfl (decide_eq_false (by omega)) ?_ | refine oa_eqlW rfl rfl (decide_eq_true (by omega)) ?_ | refine oa_neqW rfl rfl (decide_eq_false (by omega)) ?_ | refine oa_neqW rfl rfl (decide_eq_true (by omega)) ?_ | refine oa_pickT rfl rfl rfl ?_ | refine oa_pickF rfl rfl ?_ | refine oa_not rfl ?_ | refine oa_extract rfl rfl ?_)) | refine ia_gdN rfl ?_ | refine ia_gdU rfl ?_))
    refine ia_nil (va_condT rfl (va_seqr ?_))
    refine ia_op (oa_known rfl hlaid ?_)
    exact ia_op (oa_assign rfl (ia_nil (va_ret ⟨_, rfl, rfl⟩)))
  by_cases b3 : 20 < ps.length
  · (repeat (first | (refine ia_op ?_; (first | refine oa_move rfl ?_ | refine oa_assign rfl ?_ | refine oa_nilCheck rfl ?_ | refine oa_fieldAddr FpF.h (by decide) rfl ?_ | refine oa_lenSl rfl rfl rfl UnF.h rfl hv.sl ?_ | refine oa_lenSl rfl rfl rfl UnF.h rfl hw.sl ?_ | refine oa_lenSl rfl rfl rfl UnF.h rfl hvp.sl ?_ | refine oa_lssW rfl rfl (decide_eq_false (by omega)) ?_ | refine oa_lssW rfl rfl (decide_eq_true (by omega)) ?_ | refine oa_leqW rfl rfl (decide_eq_false (by omega)) ?_ | refine oa_leqW rfl rfl (decide_eq_true (by omega)) ?_ | refine oa_gtrW rfl rfl (decide_eq_false (by omega)) ?_ | refine oa_gtrW rfl rfl (decide_eq_true (by omega)) ?_ | refine oa_geqW rfl rfl (decide_eq_false (by omega)) ?_ | refine oa_geqW rfl rfl (decide_eq_true (by omega)) ?_ | refine oa_eqlW rfl rfl (decide_eq_false (by omega)) ?_ | refine oa_eqlW rfl rfl (decide_eq_true (by omega)) ?_ | refine oa_neqW rfl rfl (decide_eq_false (by omega)) ?_ | refine oa_neqW rfl rfl (decide_eq_true (by omega)) ?_ | refine oa_pickT rfl rfl rfl ?_ | refine oa_pickF rfl rfl ?_ | refine oa_not rfl ?_ | refine oa_extract rfl rfl ?_)) | (refine ia_gdY rfl ?_; (first | refine oa_move rfl ?_ | refine oa_assign rfl ?_ | refine oa_nilCheck rfl ?_ | refine oa_fieldAddr FpF.h (by decide) rfl ?_ | refine oa_lenSl rfl rfl rfl UnF.h rfl hv.sl ?_ | refine oa_lenSl rfl rfl rfl UnF.h rfl hw.sl ?_ | refine oa_lenSl rfl rfl rfl UnF.h rfl hvp.sl ?_ | refine oa_lssW rfl rfl (decide_eq_false (by omega)) ?_ | refine oa_lssW rfl rfl (decide_eq_true (by omega)) ?_ | refine oa_leqW rfl rfl (decide_eq_false (by omega)) ?_ | refine oa_leqW rfl rfl (decide_eq_true (by omega)) ?_ | refine oa_gtrW rfl rfl (decide_eq_false (by omega)) ?_ | refine oa_gtrW rfl rfl (decide_eq_true (by omega)) ?_ | refine oa_geqW rfl rfl (decide_eq_false (by omega)) ?_ | refine oa_geqW rfl rfl (decide_eq_true (by omega)) ?_ | refine oa_eqlW rfl rfl (decide_eq_false (by omega)) ?_ | refine oa_eqlW rfl rfl (decide_eq_true (by omega)) ?_ | refine oa_neqW rfl rfl (decide_eq_false (by omega)) ?_ | refine oa_neqW rfl rfl (decide_eq_true (by omega)) ?_ | refine oa_pickT rfl rfl rfl ?_ | refine oa_pickF rfl rfl ?_ | refine oa_not rfl ?_ | refine oa_extract rfl rfl ?_)) | refine ia_gdN rfl ?_ | refine ia_gdU rfl ?_))
    refine ia_nil (va_condT rfl (va_seqr ?_))
    refine ia_op (oa_known rfl hlaid ?_)
    exact ia_op (oa_assign rfl (ia_nil (va_ret ⟨_, rfl, rfl⟩)))
  (repeat (first | (refine ia_op ?_; (first | refine oa_move rfl ?_ | refine oa_assign rfl ?_ | refine oa_nilCheck rfl ?_ | refine oa_fieldAddr FpF.h (by decide) rfl ?_ | refine oa_lenSl rfl rfl rfl UnF.h rfl hv.sl ?_ | refine oa_lenSl rfl rfl rfl UnF.h rfl hw.sl ?_ | refine oa_lenSl rfl rfl rfl UnF.h rfl hvp.sl ?_ | refine oa_lssW rfl rfl (decide_eq_false (by omega)) ?_ | refine oa_lssW rfl rfl (decide_eq_true (by omega)) ?_ | refine oa_leqW rfl rfl (decide_eq_false (by omega)) ?_ | refine oa_leqW rfl rfl (decide_eq_true (by omega)) ?_ | refine oa_gtrW rfl rfl (decide_eq_false (by omega)) ?_ | refine oa_gtrW rfl rfl (decide_eq_true (by omega)) ?_ | refine oa_geqW rfl rfl (decide_eq_false (by omega)) ?_ | refine oa_geqW rfl rfl (decide_eq_true (by omega)) ?_ | refine oa_eqlW rfl rfl (decide_eq_false (by omega)) ?_ | refine oa_eqlW rfl rfl (decide_eq_true (by omega)) ?_ | refine oa_neqW rfl rfl (decide_eq_false (by omega)) ?_ | refine oa_neqW rfl rfl (decide_eq_true (by omega)) ?_ | refine oa_pickT rfl rfl rfl ?_ | refine oa_pickF rfl rfl ?_ | refine oa_not rfl ?_ | refine oa_extract rfl rfl ?_)) | (refine ia_gdY rfl ?_; (first | refine oa_move rfl ?_ | refine oa_assign rfl ?_ | refine oa_nilCheck rfl ?_ | refine oa_fieldAddr FpF.h (by decide) rfl ?_ | refine oa_lenSl rfl rfl rfl UnF.h rfl hv.sl ?_ | refine oa_lenSl rfl rfl rfl UnF.h rfl hw.sl ?_ | refine oa_lenSl rfl rfl rfl UnF.h rfl hvp.sl ?_ | refine oa_lssW rfl rfl (decide_eq_false (by omega)) ?_ | refine oa_lssW rfl rfl (decide_eq_true (by omega)) ?_ | refine oa_leqW rfl rfl (decide_eq_false (by omega)) ?_ | refine oa_leqW rfl rfl (decide_eq_true (by omega)) ?_ | refine oa_gtrW rfl rfl (decide_eq_false (by omega)) ?_ | refine oa_gtrW rfl rfl (decide_eq_true (by omega)) ?_ | refine oa_geqW rfl rfl (decide_eq_false (by omega)) ?_ | refine oa_geqW rfl rfl (decide_eq_true (by omega)) ?_ | refine oa_eqlW rfl rfl (decide_eq_false (by omega)) ?_ | refine oa_eqlW rfl rfl (decide_eq_true (by omega)) ?_ | refine oa_neqW rfl rfl (decide_eq_false (by omega)) ?_ | refine oa_neqW rfl rfl (decide_eq_true (by omega)) ?_ | refine oa_pickT rfl rfl rfl ?_ | refine oa_pickF rfl rfl ?_ | refine oa_not rfl ?_ | refine oa_extract rfl rfl ?_)) | refine ia_gdN rfl ?_ | refine ia_gdU rfl ?_))
  refine ia_nil (va_condF rfl (va_skip (va_seqr ?_)))
  (repeat (refine ia_op ?_; first | refine oa_move rfl ?_ | refine oa_assign rfl ?_ | refine oa_nilCheck rfl ?_ | refine oa_fieldAddr FpF.h (by decide) rfl ?_ | refine oa_extract rfl rfl ?_ | refine oa_not rfl ?_))
  refine ia_op (oa_call rfl rfl rfl (Tree_ok (by omega) hv fun r1 H1 hk1 hR1 => ?_))
  unfold TreeR at hR1
  have hw1 := hw.keep hk1
  have hlaid1 := hlaid.keep hk1
  rcases ht1 : treeT ls with _ | A
  · rw [ht1] at hR1
    subst hR1
    (repeat (refine ia_op ?_; first | refine oa_move rfl ?_ | refine oa_assign rfl ?_ | refine oa_nilCheck rfl ?_ | refine oa_fieldAddr FpF.h (by decide) rfl ?_ | refine oa_extract rfl rfl ?_ | refine oa_not rfl ?_))
    refine ia_nil (va_seqr ?_)
    (repeat (refine ia_op ?_; first | refine oa_move rfl ?_ | refine oa_assign rfl ?_ | refine oa_nilCheck rfl ?_ | refine oa_fieldAddr FpF.h (by decide) rfl ?_ | refine oa_extract rfl rfl ?_ | refine oa_not rfl ?_))
    refine ia_op (oa_call rfl rfl rfl (Tree_ok (by omega) hw1 fun r2 H2 hk2 hR2 => ?_))
    obtain ⟨u2, e2, rfl⟩ := treeR_form hR2
    (repeat (refine ia_op ?_; first | refine oa_move rfl ?_ | refine oa_assign rfl ?_ | refine oa_nilCheck rfl ?_ | refine oa_fieldAddr FpF.h (by decide) rfl ?_ | refine oa_extract rfl rfl ?_ | refine oa_not rfl ?_))
    refine ia_nil (va_seq (va_seqr ?_))
    (repeat (refine ia_op ?_; first | refine oa_move rfl ?_ | refine oa_assign rfl ?_ | refine oa_nilCheck rfl ?_ | refine oa_fieldAddr FpF.h (by decide) rfl ?_ | refine oa_extract rfl rfl ?_ | refine oa_not rfl ?_))
    refine ia_op (oa_neqW rfl rfl (decide_eq_true (by decide)) ?_)
    (repeat (first | (refine ia_op ?_; (first | refine oa_move rfl ?_ | refine oa_assign rfl ?_ | refine oa_nilCheck rfl ?_ | refine oa_fieldAddr FpF.h (by decide) rfl ?_ | refine oa_lssW rfl rfl (decide_eq_false (by omega)) ?_ | refine oa_lssW rfl rfl (decide_eq_true (by omega)) ?_ | refine oa_leqW rfl rfl (decide_eq_false (by omega)) ?_ | refine oa_leqW rfl rfl (decide_eq_true (by omega)) ?_ | refine oa_gtrW rfl rfl (decide_eq_false (by omega)) ?_ | refine oa_gtrW rfl rfl (decide_eq_true (by omega)) ?_ | refine oa_geqW rfl rfl (decide_eq_false (by omega)) ?_ | refine oa_geqW rfl rfl (decide_eq_true (by omega)) ?_ | refine oa_eqlW rfl rfl (decide_eq_false (by omega)) ?_ | refine oa_eqlW rfl rfl (decide_eq_true (by omega)) ?_ | refine oa_neqW rfl rfl (decide_eq_false (by omega)) ?_ | refine oa_neqW rfl rfl (decide_eq_true (by omega)) ?_ | refine oa_pickT rfl rfl rfl ?_ | refine oa_pickF rfl rfl ?_ | refine oa_not rfl ?_ | refine oa_extract rfl rfl ?_)) | (refine ia_gdY rfl ?_; (first | refine oa_move rfl ?_ | refine oa_assign rfl ?_ | refine oa_nilCheck rfl ?_ | refine oa_fieldAddr FpF.h (by decide) rfl ?_ | refine oa_lssW rfl rfl (decide_eq_false (by omega)) ?_ | refine oa_lssW rfl rfl (decide_eq_true (by omega)) ?_ | refine oa_leqW rfl rfl (decide_eq_false (by omega)) ?_ | refine oa_leqW rfl rfl (decide_eq_true (by omega)) ?_ | refine oa_gtrW rfl rfl (decide_eq_false (by omega)) ?_ | refine oa_gtrW rfl rfl (decide_eq_true (by omega)) ?_ | refine oa_geqW rfl rfl (decide_eq_false (by omega)) ?_ | refine oa_geqW rfl rfl (decide_eq_true (by omega)) ?_ | refine oa_eqlW rfl rfl (decide_eq_false (by omega)) ?_ | refine oa_eqlW rfl rfl (decide_eq_true (by omega)) ?_ | refine oa_neqW rfl rfl (decide_eq_false (by omega)) ?_ | refine oa_neqW rfl rfl (decide_eq_true (by omega)) ?_ | refine oa_pickT rfl rfl rfl ?_ | refine oa_pickF rfl rfl ?_ | refine oa_not rfl ?_ | refine oa_extract rfl rfl ?_)) | refine ia_gdN rfl ?_ | refine ia_gdU rfl ?_))
    refine ia_nil (va_condT rfl (va_seqr ?_))
    refine ia_op (oa_known rfl (hlaid1.keep hk2) ?_)
    exact ia_op (oa_assign rfl (ia_nil (va_ret ⟨_, rfl, rfl⟩)))
  rw [ht1] at hR1
  obtain ⟨u1, rfl, hown1, hnew1⟩ := hR1
  (repeat (refine ia_op ?_; first | refine oa_move rfl ?_ | refine oa_assign rfl ?_ | refine oa_nilCheck rfl ?_ | refine oa_fieldAddr FpF.h (by decide) rfl ?_ | refine oa_extract rfl rfl ?_ | refine oa_not rfl ?_))
  refine ia_nil (va_seqr ?_)
  (repeat (refine ia_op ?_; first | refine oa_move rfl ?_ | refine oa_assign rfl ?_ | refine oa_nilCheck rfl ?_ | refine oa_fieldAddr FpF.h (by decide) rfl ?_ | refine oa_extract rfl rfl ?_ | refine oa_not rfl ?_))
  refine ia_op (oa_call rfl rfl rfl (Tree_ok (by omega) hw1 fun r2 H2 hk2 hR2 => ?_))
  unfold TreeR at hR2
  have hlaid2 := hlaid1.keep hk2
  rcases ht2 : treeT ms with _ | B
  · rw [ht2] at hR2
    subst hR2
    (repeat (refine ia_op ?_; first | refine oa_move rfl ?_ | refine oa_assign rfl ?_ | refine oa_nilCheck rfl ?_ | refine oa_fieldAddr FpF.h (by decide) rfl ?_ | refine oa_extract rfl rfl ?_ | refine oa_not rfl ?_))
    refine ia_nil (va_seq (va_seqr ?_))
    (repeat (refine ia_op ?_; first | refine oa_move rfl ?_ | refine oa_assign rfl ?_ | refine oa_nilCheck rfl ?_ | refine oa_fieldAddr FpF.h (by decide) rfl ?_ | refine oa_extract rfl rfl ?_ | refine oa_not rfl ?_))
    refine ia_op (oa_neqW rfl rfl (decide_eq_false (by decide)) ?_)
    (repeat (refine ia_op ?_; first | refine oa_move rfl ?_ | refine oa_assign rfl ?_ | refine oa_nilCheck rfl ?_ | refine oa_fieldAddr FpF.h (by decide) rfl ?_ | refine oa_extract rfl rfl ?_ | refine oa_not rfl ?_))
    refine ia_gdY rfl (oa_move rfl ?_)
    refine ia_gdY rfl (oa_neqW rfl rfl (decide_eq_true (by decide)) ?_)
    refine ia_op (oa_pickF rfl rfl (ia_nil (va_condT rfl (va_seqr ?_))))
    refine ia_op (oa_known rfl hlaid2 ?_)
    exact ia_op (oa_assign rfl (ia_nil (va_ret ⟨_, rfl, rfl⟩)))
  rw [ht2] at hR2
  obtain ⟨u2, rfl, hown2, hnew2⟩ := hR2
  (repeat (refine ia_op ?_; first | refine oa_move rfl ?_ | refine oa_assign rfl ?_ | refine oa_nilCheck rfl ?_ | refine oa_fieldAddr FpF.h (by decide) rfl ?_ | refine oa_extract rfl rfl ?_ | refine oa_not rfl ?_))
  refine ia_nil (va_seq (va_seqr ?_))
  (repeat (refine ia_op ?_; first | refine oa_move rfl ?_ | refine oa_assign rfl ?_ | refine oa_nilCheck rfl ?_ | refine oa_fieldAddr FpF.h (by decide) rfl ?_ | refine oa_extract rfl rfl ?_ | refine oa_not rfl ?_))
  refine ia_op (oa_neqW rfl rfl (decide_eq_false (by decide)) ?_)
  (repeat (refine ia_op ?_; first | refine oa_move rfl ?_ | refine oa_assign rfl ?_ | refine oa_nilCheck rfl ?_ | refine oa_fieldAddr FpF.h (by decide) rfl ?_ | refine oa_extract rfl rfl ?_ | refine oa_not rfl ?_))
  refine ia_gdY rfl (oa_move rfl ?_)
  refine ia_gdY rfl (oa_neqW rfl rfl (decide_eq_false (by decide)) ?_)
  refine ia_op (oa_pickF rfl rfl (ia_nil (va_condF rfl (va_skip (va_seqr ?_)))))
  obtain ⟨hneA, opA, I⟩ := treeT_inv ht1
  obtain ⟨hneB, opB, J⟩ := treeT_inv ht2
  have hlenA := I.len
  have hlenB := J.len
  have hA0 : 0 < A.length := List.length_pos_iff.2 hneA
  have hB0 : 0 < B.length := List.length_pos_iff.2 hneB
  have hsA := (hown1.keep0 hk2).sl
  have hsB := hown2.sl
  have rest : ∀ (out : List (Nat × Nat)) (cc : Bool) (u : AV) (H3 : Heap), GoodP A B ps out → out.length ≤ 60 → Keep Non H2 H3 → Own H3 u 2 out.length (out.flatMap prN) → ∀ l', Sb [(2, vp), (9, u1), (11, u2), (13, u)] l' → VA Tryz.prog [6] gl v5t6 l' H3 (leftA [.tmp 8] fun r _ => r = .bool true) := by
    intro out cc u H3 hG hol hk3 hown l' hs
    have hlaid3 := hlaid2.keep hk3
    refine VA.sub hs (va_seq (va_seqr ?_))
    (repeat (refine ia_op ?_; first | refine oa_move rfl ?_ | refine oa_assign rfl ?_ | refine oa_nilCheck rfl ?_ | refine oa_fieldAddr FpF.h (by decide) rfl ?_ | refine oa_extract rfl rfl ?_ | refine oa_not rfl ?_))
    refine ia_nil (va_block ?_)
    refine va_loop (fun (i : Nat) => [(2, vp), (9, u1), (11, u2), (13, u), (15, .int .i64 (i : Int))]) (fun i H' => Keep Non H3 H' ∧ i ≤ out.length) (fun i => out.length - i) ?_ 0 _ H3 ⟨rfl, rfl, rfl, rfl, rfl, trivial⟩ ⟨.refl _ _, Nat.zero_le _⟩
    rintro i H4 ⟨hk4, hil⟩
    have hown4 := hown.keep0 hk4
    have hsA4 := (hsA.keep0 hk3).keep0 hk4
    have hsB4 := (hsB.keep0 hk3).keep0 hk4
    refine va_seq (va_seqr ?_)
    (repeat (refine ia_op ?_; first | refine oa_move rfl ?_ | refine oa_assign rfl ?_ | refine oa_nilCheck rfl ?_ | refine oa_fieldAddr FpF.h (by decide) rfl ?_ | refine oa_lenSl rfl rfl rfl UnF.h rfl hown4.sl ?_ | refine oa_extract rfl rfl ?_ | refine oa_not rfl ?_))
    by_cases hi : i = out.length
    · refine ia_op (oa_lssW rfl rfl (decide_eq_false (by omega)) (ia_nil (va_condF rfl (va_exit (va_seqr ?_)))))
      refine ia_op (oa_known rfl (hlaid3.keep hk4) ?_)
      exact ia_op (oa_assign rfl (ia_nil (va_ret ⟨_, rfl, rfl⟩)))
    obtain ⟨p, hp⟩ : ∃ p, out[i]? = some p := ⟨_, List.getElem?_eq_getElem (by omega)⟩
    obtain ⟨c, d, hc, hd, hup, hthere, k0, pr0, hpr0, hpr1, hpr2⟩ := hG i p hp
    have hcl := (List.getElem?_eq_some_iff.1 hc).1
    have hdl := (List.getElem?_eq_some_iff.1 hd).1
    have hcc := flat_chunk clC_len A p.1 c hc
    have hcd := flat_chunk clC_len B p.2 d hd
    refine ia_op (oa_lssW rfl rfl (decide_eq_true (by omega)) (ia_nil (va_condT rfl (va_skip (va_seq (va_block (va_seq ?_)))))))
    have hfl : (out.flatMap prN).length = out.length * 2 := flat_length prN_len out
    obtain ⟨_, hlim4, ⟨_, h0⟩ | ⟨bo, row, rfl, hrow, hrl, hget⟩⟩ := hown4
    · omega
    have hat : ∀ (j : Nat) q, out[j]? = some q → row[j * 2 + 0]? = some (.int .i64 (q.1 : Int)) ∧ row[j * 2 + 1]? = some (.int .i64 (q.2 : Int)) := fun j q hq => by
      have hj := (List.getElem?_eq_some_iff.1 hq).1
      exact ⟨(hget _ (by omega)).trans (flat_get prN_len hq (by decide)), (hget _ (by omega)).trans (flat_get prN_len hq (by decide))⟩
    obtain ⟨hi0, hi1⟩ := hat i p hp
    refine va_cut (fun l' H' => H' = H4 ∧ Sb [(2, vp), (9, u1), (11, u2), (13, .so bo 0 out.length 2), (15, .int .i64 (i : Int))] l') ?_ ?_
    · refine va_seqr ?_
      by_cases hz : 0 < i
      · obtain ⟨q, hq⟩ : ∃ q, out[i - 1]? = some q := ⟨_, List.getElem?_eq_getElem (by omega)⟩
        obtain ⟨hj0, hj1⟩ := hat (i - 1) q hq
        obtain ⟨hq1, hq2⟩ := hup q hz hq
        (repeat (first | (refine ia_op ?_; (first | refine oa_move rfl ?_ | refine oa_assign rfl ?_ | refine oa_nilCheck rfl ?_ | refine oa_fieldAddr FpF.h (by decide) rfl ?_ | refine oa_indexOwn UnF.h SzF.h rfl rfl rfl (by omega) ?_ | refine oa_load1 PlF.h rfl hrow hi0 ?_ | refine oa_load1 PlF.h rfl hrow hi1 ?_ | refine oa_load1 PlF.h rfl hrow hj0 ?_ | refine oa_load1 PlF.h rfl hrow hj1 ?_ | refine oa_lenSl rfl rfl rfl UnF.h rfl hsA4 ?_ | refine oa_lenSl rfl rfl rfl UnF.h rfl hsB4 ?_ | refine oa_subW (c := ((i - 1 : Nat) : Int)) rfl rfl (wrapE_i64 (by omega) (by omega) (by omega)) ?_ | refine oa_lssW rfl rfl (decide_eq_false (by omega)) ?_ | refine oa_lssW rfl rfl (decide_eq_true (by omega)) ?_ | refine oa_leqW rfl rfl (decide_eq_false (by omega)) ?_ | refine oa_leqW rfl rfl (decide_eq_true (by omega)) ?_ | refine oa_gtrW rfl rfl (decide_eq_false (by omega)) ?_ | refine oa_gtrW rfl rfl (decide_eq_true (by omega)) ?_ | refine oa_geqW rfl rfl (decide_eq_false (by omega)) ?_ | refine oa_geqW rfl rfl (decide_eq_true (by omega)) ?_ | refine oa_eqlW rfl rfl (decide_eq_false (by omega)) ?_ | refine oa_eqlW rfl rfl (decide_eq_true (by omega)) ?_ | refine oa_neqW rfl rfl (decide_eq_false (by omega)) ?_ | refine oa_neqW rfl rfl (decide_eq_true (by omega)) ?_ | refine oa_pickT rfl rfl rfl ?_ | refine oa_pickF rfl rfl ?_ | refine oa_not rfl ?_ | refine oa_extract rfl rfl ?_)) | (refine ia_gdY rfl ?_; (first | refine oa_move rfl ?_ | refine oa_assign rfl ?_ | refine oa_nilCheck rfl ?_ | refine oa_fieldAddr FpF.h (by decide) rfl ?_ | refine oa_indexOwn UnF.h SzF.h rfl rfl rfl (by omega) ?_ | refine oa_load1 PlF.h rfl hrow hi0 ?_ | refine oa_load1 PlF.h rfl hrow hi1 ?_ | refine oa_load1 PlF.h rfl hrow hj0 ?_ | refine oa_load1 PlF.h rfl hrow hj1 ?_ | refine oa_lenSl rfl rfl rfl UnF.h rfl hsA4 ?_ | refine oa_lenSl rfl rfl rfl UnF.h rfl hsB4 ?_ | refine oa_subW (c := ((i - 1 : Nat) : Int)) rfl rfl (wrapE_i64 (by omega) (by omega) (by omega)) ?_ | refine oa_lssW rfl rfl (decide_eq_false (by omega)) ?_ | refine oa_lssW rfl rfl (decide_eq_true (by omega)) ?_ | refine oa_leqW rfl rfl (decide_eq_false (by omega)) ?_ | refine oa_leqW rfl rfl (decide_eq_true (by omega)) ?_ | refine oa_gtrW rfl rfl (decide_eq_false (by omega)) ?_ | refine oa_gtrW rfl rfl (decide_eq_true (by omega)) ?_ | refine oa_geqW rfl rfl (decide_eq_false (by omega)) ?_ | refine oa_geqW rfl rfl (decide_eq_true (by omega)) ?_ | refine oa_eqlW rfl rfl (decide_eq_false (by omega)) ?_ | refine oa_eqlW rfl rfl (decide_eq_true (by omega)) ?_ | refine oa_neqW rfl rfl (decide_eq_false (by omega)) ?_ | refine oa_neqW rfl rfl (decide_eq_true (by omega)) ?_ | refine oa_pickT rfl rfl rfl ?_ | refine oa_pickF rfl rfl ?_ | refine oa_not rfl ?_ | refine oa_extract rfl rfl ?_)) | refine ia_gdN rfl ?_ | refine ia_gdU rfl ?_))
        exact ia_nil (va_condF rfl (va_skip ⟨rfl, rfl, rfl, rfl, rfl, rfl, trivial⟩))
      · (repeat (first | (refine ia_op ?_; (first | refine oa_move rfl ?_ | refine oa_assign rfl ?_ | refine oa_nilCheck rfl ?_ | refine oa_fieldAddr FpF.h (by decide) rfl ?_ | refine oa_indexOwn UnF.h SzF.h rfl rfl rfl (by omega) ?_ | refine oa_load1 PlF.h rfl hrow hi0 ?_ | refine oa_load1 PlF.h rfl hrow hi1 ?_ | refine oa_lenSl rfl rfl rfl UnF.h rfl hsA4 ?_ | refine oa_lenSl rfl rfl rfl UnF.h rfl hsB4 ?_ | refine oa_lssW rfl rfl (decide_eq_false (by omega)) ?_ | refine oa_lssW rfl rfl (decide_eq_true (by omega)) ?_ | refine oa_leqW rfl rfl (decide_eq_false (by omega)) ?_ | refine oa_leqW rfl rfl (decide_eq_true (by omega)) ?_ | refine oa_gtrW rfl rfl (decide_eq_false (by omega)) ?_ | refine oa_gtrW rfl rfl (decide_eq_true (by omega)) ?_ | refine oa_geqW rfl rfl (decide_eq_false (by omega)) ?_ | refine oa_geqW rfl rfl (decide_eq_true (by omega)) ?_ | refine oa_eqlW rfl rfl (decide_eq_false (by omega)) ?_ | refine oa_eqlW rfl rfl (decide_eq_true (by omega)) ?_ | refine oa_neqW rfl rfl (decide_eq_false (by omega)) ?_ | refine oa_neqW rfl rfl (decide_eq_true (by omega)) ?_ | refine oa_pickT rfl rfl rfl ?_ | refine oa_pickF rfl rfl ?_ | refine oa_not rfl ?_ | refine oa_extract rfl rfl ?_)) | (refine ia_gdY rfl ?_; (first | refine oa_move rfl ?_ | refine oa_assign rfl ?_ | refine oa_nilCheck rfl ?_ | refine oa_fieldAddr FpF.h (by decide) rfl ?_ | refine oa_indexOwn UnF.h SzF.h rfl rfl rfl (by omega) ?_ | refine oa_load1 PlF.h rfl hrow hi0 ?_ | refine oa_load1 PlF.h rfl hrow hi1 ?_ | refine oa_lenSl rfl rfl rfl UnF.h rfl hsA4 ?_ | refine oa_lenSl rfl rfl rfl UnF.h rfl hsB4 ?_ | refine oa_lssW rfl rfl (decide_eq_false (by omega)) ?_ | refine oa_lssW rfl rfl (decide_eq_true (by omega)) ?_ | refine oa_leqW rfl rfl (decide_eq_false (by omega)) ?_ | refine oa_leqW rfl rfl (decide_eq_true (by omega)) ?_ | refine oa_gtrW rfl rfl (decide_eq_false (by omega)) ?_ | refine oa_gtrW rfl rfl (decide_eq_true (by omega)) ?_ | refine oa_geqW rfl rfl (decide_eq_false (by omega)) ?_ | refine oa_geqW rfl rfl (decide_eq_true (by omega)) ?_ | refine oa_eqlW rfl rfl (decide_eq_false (by omega)) ?_ | refine oa_eqlW rfl rfl (decide_eq_true (by omega)) ?_ | refine oa_neqW rfl rfl (decide_eq_false (by omega)) ?_ | refine oa_neqW rfl rfl (decide_eq_true (by omega)) ?_ | refine oa_pickT rfl rfl rfl ?_ | refine oa_pickF rfl rfl ?_ | refine oa_not rfl ?_ | refine oa_extract rfl rfl ?_)) | refine ia_gdN rfl ?_ | refine ia_gdU rfl ?_))
        exact ia_nil (va_condF rfl (va_skip ⟨rfl, rfl, rfl, rfl, rfl, rfl, trivial⟩))
    rintro l4 H5 ⟨hH, hs4⟩
    subst hH
    refine VA.sub hs4 (va_seqr ?_)
    (repeat (refine ia_op ?_; first | refine oa_move rfl ?_ | refine oa_assign rfl ?_ | refine oa_nilCheck rfl ?_ | refine oa_fieldAddr FpF.h (by decide) rfl ?_ | refine oa_extract rfl rfl ?_ | refine oa_not rfl ?_))
    refine ia_op (oa_indexOwn UnF.h SzF.h rfl rfl rfl (by omega) ?_)
    refine ia_op (oa_fieldAddr FpF.h (by decide) rfl ?_)
    refine ia_op (oa_load1 PlF.h rfl hrow hi0 ?_)
    refine ia_op (oa_indexSl UnF.h SzF.h rfl hsA4 rfl rfl hcl fun q0 hq0 => ?_)
    rw [hcc] at hq0
    refine ia_op (oa_ploadN (k := 4) PlF.h rfl (by decide) rfl hq0 ?_)
    (repeat (refine ia_op ?_; first | refine oa_move rfl ?_ | refine oa_assign rfl ?_ | refine oa_nilCheck rfl ?_ | refine oa_fieldAddr FpF.h (by decide) rfl ?_ | refine oa_extract rfl rfl ?_ | refine oa_not rfl ?_))
    refine ia_op (oa_indexOwn UnF.h SzF.h rfl rfl rfl (by omega) ?_)
    refine ia_op (oa_fieldAddr FpF.h (by decide) rfl ?_)
    refine ia_op (oa_load1 PlF.h rfl hrow hi1 ?_)
    refine ia_op (oa_indexSl UnF.h SzF.h rfl hsB4 rfl rfl hdl fun q1 hq1 => ?_)
    rw [hcd] at hq1
    refine ia_op (oa_ploadN (k := 4) PlF.h rfl (by decide) rfl hq1 ?_)
    refine ia_op (oa_alloc ZeF.h fun H6 hk6 hr6 => ?_)
    refine ia_op (oa_alloc ZeF.h fun H7 hk7 hr7 => ?_)
    obtain ⟨b16, hb16⟩ : ∃ b, b = H5.nx := ⟨_, rfl⟩
    obtain ⟨b17, hb17⟩ : ∃ b, b = H6.nx := ⟨_, rfl⟩
    rw [← hb16] at hr6 ⊢
    rw [← hb17] at hr7 ⊢
    have hx6 := hr6.1
    have hx66 := hk6.nx
    have hx7 := hr7.1
    refine ia_op (oa_storeAll (k := 4) SzF.h rfl rfl rfl rfl (hr6.keep0 hk7) rfl fun H8 hk8 hn8 hr8 => ?_)
    have hK8 : Keep Non H5 H8 := (hk6.trans0 hk7).trans hk8 fun k h => .inr (by omega)
    refine ia_ckL PlF.h rfl (hrow.keep0 hK8) hi1 rfl ?_
    refine ia_ckPN (z := 4) PlF.h rfl (by decide) rfl (hq1.keep hK8 fun _ h => h) rfl ?_
    refine ia_op (oa_storeAll (k := 4) SzF.h rfl rfl rfl rfl (hr7.keep hk8 (.inl (by omega))) rfl fun H9 hk9 hn9 hr9 => ?_)
    have hK9 : Keep Non H5 H9 := hK8.trans hk9 fun k h => .inr (by omega)
    have hrow9 := hrow.keep0 hK9
    have r16 : IsRow H9 b16 (clC c) false false := hr8.keep hk9 (.inl (by omega))
    have r17 : IsRow H9 b17 (clC d) false false := hr9
    refine ia_nil (va_seqr ?_)
    (repeat (refine ia_op ?_; first | refine oa_move rfl ?_ | refine oa_assign rfl ?_ | refine oa_nilCheck rfl ?_ | refine oa_fieldAddr FpF.h (by decide) rfl ?_ | refine oa_extract rfl rfl ?_ | refine oa_not rfl ?_))
    refine ia_op (oa_eqlW (d := decide (i = 0)) rfl rfl (by rw [decide_eq_decide]; omega) ?_)
    (repeat (refine ia_op ?_; first | refine oa_move rfl ?_ | refine oa_assign rfl ?_ | refine oa_nilCheck rfl ?_ | refine oa_fieldAddr FpF.h (by decide) rfl ?_ | refine oa_extract rfl rfl ?_ | refine oa_not rfl ?_))
    refine ia_nil (va_seq (va_seqr ?_))
    (repeat (refine ia_op ?_; first | refine oa_move rfl ?_ | refine oa_assign rfl ?_ | refine oa_nilCheck rfl ?_ | refine oa_fieldAddr FpF.h (by decide) rfl ?_ | refine oa_extract rfl rfl ?_ | refine oa_not rfl ?_))
    refine ia_nil (va_block ?_)
    refine va_loop (fun (a : Nat × Bool) => [(2, vp), (9, u1), (11, u2), (13, .so bo 0 out.length 2), (15, .int .i64 (i : Int)), (16, .ptr b16 0), (17, .ptr b17 0), (18, .bool a.2), (19, .bool false), (20, .int .i64 (a.1 : Int))])
      (fun a H' => H' = H9 ∧ a.1 ≤ i ∧ (a.2 = true ↔ (i = 0 ∨ ∃ y r, y < a.1 ∧ out[y]? = some r ∧ (r.1 : Int) = c.up ∧ (r.2 : Int) = d.up))) (fun a => i - a.1) ?_ (0, decide (i = 0)) _ H9 ⟨rfl, rfl, rfl, rfl, rfl, rfl, rfl, rfl, rfl, rfl, trivial⟩ ⟨rfl, Nat.zero_le _, by
        rw [decide_eq_true_eq]
        exact ⟨.inl, fun h => h.elim id fun ⟨y, r, h, _⟩ => absurd h (Nat.not_lt_zero _)⟩⟩
    rintro ⟨y, th⟩ H10 ⟨hH, hyi, hth⟩
    subst hH
    simp only at hyi hth
    refine va_seq (va_seqr ?_)
    (repeat (refine ia_op ?_; first | refine oa_move rfl ?_ | refine oa_assign rfl ?_ | refine oa_nilCheck rfl ?_ | refine oa_fieldAddr FpF.h (by decide) rfl ?_ | refine oa_extract rfl rfl ?_ | refine oa_not rfl ?_))
    by_cases hy : y < i
    · refine ia_op (oa_lssW rfl rfl (decide_eq_true (by simp only; omega)) (ia_nil (va_condT rfl (va_skip (va_seq ?_)))))
      obtain ⟨r, hr⟩ : ∃ r, out[y]? = some r := ⟨_, List.getElem?_eq_getElem (by omega)⟩
      obtain ⟨hy0, hy1⟩ := hat y r hr
      refine va_cut (fun l' H' => H' = H10 ∧ ∃ th', (th' = true ↔ th = true ∨ ((r.1 : Int) = c.up ∧ (r.2 : Int) = d.up)) ∧ Sb [(2, vp), (9, u1), (11, u2), (13, .so bo 0 out.length 2), (15, .int .i64 (i : Int)), (16, .ptr b16 0), (17, .ptr b17 0), (18, .bool th'), (19, .bool false), (20, .int .i64 (y : Int))] l') ?_ ?_
      · refine va_block (va_reg ?_)
        cases th with
        | true =>
          (repeat (first | (refine ia_op ?_; (first | refine oa_move rfl ?_ | refine oa_assign rfl ?_ | refine oa_nilCheck rfl ?_ | refine oa_fieldAddr FpF.h (by decide) rfl ?_ | refine oa_lssW rfl rfl (decide_eq_false (by omega)) ?_ | refine oa_lssW rfl rfl (decide_eq_true (by omega)) ?_ | refine oa_leqW rfl rfl (decide_eq_false (by omega)) ?_ | refine oa_leqW rfl rfl (decide_eq_true (by omega)) ?_ | refine oa_gtrW rfl rfl (decide_eq_false (by omega)) ?_ | refine oa_gtrW rfl rfl (decide_eq_true (by omega)) ?_ | refine oa_geqW rfl rfl (decide_eq_false (by omega)) ?_ | refine oa_geqW rfl rfl (decide_eq_true (by omega)) ?_ | refine oa_eqlW rfl rfl (decide_eq_false (by omega)) ?_ | refine oa_eqlW rfl rfl (decide_eq_true (by omega)) ?_ | refine oa_neqW rfl rfl (decide_eq_false (by omega)) ?_ | refine oa_neqW rfl rfl (decide_eq_true (by omega)) ?_ | refine oa_pickT rfl rfl rfl ?_ | refine oa_pickF rfl rfl ?_ | refine oa_not rfl ?_ | refine oa_extract rfl rfl ?_)) | (refine ia_gdY rfl ?_; (first | refine oa_move rfl ?_ | refine oa_assign rfl ?_ | refine oa_nilCheck rfl ?_ | refine oa_fieldAddr FpF.h (by decide) rfl ?_ | refine oa_lssW rfl rfl (decide_eq_false (by omega)) ?_ | refine oa_lssW rfl rfl (decide_eq_true (by omega)) ?_ | refine oa_leqW rfl rfl (decide_eq_false (by omega)) ?_ | refine oa_leqW rfl rfl (decide_eq_true (by omega)) ?_ | refine oa_gtrW rfl rfl (decide_eq_false (by omega)) ?_ | refine oa_gtrW rfl rfl (decide_eq_true (by omega)) ?_ | refine oa_geqW rfl rfl (decide_eq_false (by omega)) ?_ | refine oa_geqW rfl rfl (decide_eq_true (by omega)) ?_ | refine oa_eqlW rfl rfl (decide_eq_false (by omega)) ?_ | refine oa_eqlW rfl rfl (decide_eq_true (by omega)) ?_ | refine oa_neqW rfl rfl (decide_eq_false (by omega)) ?_ | refine oa_neqW rfl rfl (decide_eq_true (by omega)) ?_ | refine oa_pickT rfl rfl rfl ?_ | refine oa_pickF rfl rfl ?_ | refine oa_not rfl ?_ | refine oa_extract rfl rfl ?_)) | refine ia_gdN rfl ?_ | refine ia_gdU rfl ?_))
          exact ia_nil ⟨rfl, true, by simp, rfl, rfl, rfl, rfl, rfl, rfl, rfl, rfl, rfl, rfl, trivial⟩
        | false =>
          by_cases e1 : (r.1 : Int) = c.up <;> by_cases e2 : (r.2 : Int) = d.up
          · (repeat (first | (refine ia_op ?_; (first | refine oa_move rfl ?_ | refine oa_assign rfl ?_ | refine oa_nilCheck rfl ?_ | refine oa_fieldAddr FpF.h (by decide) rfl ?_ | refine oa_indexOwn UnF.h SzF.h rfl rfl rfl (by omega) ?_ | refine oa_load1 PlF.h rfl hrow9 hy0 ?_ | refine oa_load1 PlF.h rfl hrow9 hy1 ?_ | refine oa_load1 PlF.h rfl r16 rfl ?_ | refine oa_load1 PlF.h rfl r17 rfl ?_ | refine oa_lssW rfl rfl (decide_eq_false (by omega)) ?_ | refine oa_lssW rfl rfl (decide_eq_true (by omega)) ?_ | refine oa_leqW rfl rfl (decide_eq_false (by omega)) ?_ | refine oa_leqW rfl rfl (decide_eq_true (by omega)) ?_ | refine oa_gtrW rfl rfl (decide_eq_false (by omega)) ?_ | refine oa_gtrW rfl rfl (decide_eq_true (by omega)) ?_ | refine oa_geqW rfl rfl (decide_eq_false (by omega)) ?_ | refine oa_geqW rfl rfl (decide_eq_true (by omega)) ?_ | refine oa_eqlW rfl rfl (decide_eq_false (by omega)) ?_ | refine oa_eqlW rfl rfl (decide_eq_true (by omega)) ?_ | refine oa_neqW rfl rfl (decide_eq_false (by omega)) ?_ | refine oa_neqW rfl rfl (decide_eq_true (by omega)) ?_ | refine oa_pickT rfl rfl rfl ?_ | refine oa_pickF rfl rfl ?_ | refine oa_not rfl ?_ | refine oa_extract rfl rfl ?_)) | (refine ia_gdY rfl ?_; (first | refine oa_move rfl ?_ | refine oa_assign rfl ?_ | refine oa_nilCheck rfl ?_ | refine oa_fieldAddr FpF.h (by decide) rfl ?_ | refine oa_indexOwn UnF.h SzF.h rfl rfl rfl (by omega) ?_ | refine oa_load1 PlF.h rfl hrow9 hy0 ?_ | refine oa_load1 PlF.h rfl hrow9 hy1 ?_ | refine oa_load1 PlF.h rfl r16 rfl ?_ | refine oa_load1 PlF.h rfl r17 rfl ?_ | refine oa_lssW rfl rfl (decide_eq_false (by omega)) ?_ | refine oa_lssW rfl rfl (decide_eq_true (by omega)) ?_ | refine oa_leqW rfl rfl (decide_eq_false (by omega)) ?_ | refine oa_leqW rfl rfl (decide_eq_true (by omega)) ?_ | refine oa_gtrW rfl rfl (decide_eq_false (by omega)) ?_ | refine oa_gtrW rfl rfl (decide_eq_true (by omega)) ?_ | refine oa_geqW rfl rfl (decide_eq_false (by omega)) ?_ | refine oa_geqW rfl rfl (decide_eq_true (by omega)) ?_ | refine oa_eqlW rfl rfl (decide_eq_false (by omega)) ?_ | refine oa_eqlW rfl rfl (decide_eq_true (by omega)) ?_ | refine oa_neqW rfl rfl (decide_eq_false (by omega)) ?_ | refine oa_neqW rfl rfl (decide_eq_true (by omega)) ?_ | refine oa_pickT rfl rfl rfl ?_ | refine oa_pickF rfl rfl ?_ | refine oa_not rfl ?_ | refine oa_extract rfl rfl ?_)) | refine ia_gdN rfl ?_ | refine ia_gdU rfl ?_))
            exact ia_nil ⟨rfl, true, by simp [e1, e2], rfl, rfl, rfl, rfl, rfl, rfl, rfl, rfl, rfl, rfl, trivial⟩
          · (repeat (first | (refine ia_op ?_; (first | refine oa_move rfl ?_ | refine oa_assign rfl ?_ | refine oa_nilCheck rfl ?_ | refine oa_fieldAddr FpF.h (by decide) rfl ?_ | refine oa_indexOwn UnF.h SzF.h rfl rfl rfl (by omega) ?_ | refine oa_load1 PlF.h rfl hrow9 hy0 ?_ | refine oa_load1 PlF.h rfl hrow9 hy1 ?_ | refine oa_load1 PlF.h rfl r16 rfl ?_ | refine oa_load1 PlF.h rfl r17 rfl ?_ | refine oa_lssW rfl rfl (decide_eq_false (by omega)) ?_ | refine oa_lssW rfl rfl (decide_eq_true (by omega)) ?_ | refine oa_leqW rfl rfl (decide_eq_false (by omega)) ?_ | refine oa_leqW rfl rfl (decide_eq_true (by omega)) ?_ | refine oa_gtrW rfl rfl (decide_eq_false (by omega)) ?_ | refine oa_gtrW rfl rfl (decide_eq_true (by omega)) ?_ | refine oa_geqW rfl rfl (decide_eq_false (by omega)) ?_ | refine oa_geqW rfl rfl (decide_eq_true (by omega)) ?_ | refine oa_eqlW rfl rfl (decide_eq_false (by omega)) ?_ | refine oa_eqlW rfl rfl (decide_eq_true (by omega)) ?_ | refine oa_neqW rfl rfl (decide_eq_false (by omega)) ?_ | refine oa_neqW rfl rfl (decide_eq_true (by omega)) ?_ | refine oa_pickT rfl rfl rfl ?_ | refine oa_pickF rfl rfl ?_ | refine oa_not rfl ?_ | refine oa_extract rfl rfl ?_)) | (refine ia_gdY rfl ?_; (first | refine oa_move rfl ?_ | refine oa_assign rfl ?_ | refine oa_nilCheck rfl ?_ | refine oa_fieldAddr FpF.h (by decide) rfl ?_ | refine oa_indexOwn UnF.h SzF.h rfl rfl rfl (by omega) ?_ | refine oa_load1 PlF.h rfl hrow9 hy0 ?_ | refine oa_load1 PlF.h rfl hrow9 hy1 ?_ | refine oa_load1 PlF.h rfl r16 rfl ?_ | refine oa_load1 PlF.h rfl r17 rfl ?_ | refine oa_lssW rfl rfl (decide_eq_false (by omega)) ?_ | refine oa_lssW rfl rfl (decide_eq_true (by omega)) ?_ | refine oa_leqW rfl rfl (decide_eq_false (by omega)) ?_ | refine oa_leqW rfl rfl (decide_eq_true (by omega)) ?_ | refine oa_gtrW rfl rfl (decide_eq_false (by omega)) ?_ | refine oa_gtrW rfl rfl (decide_eq_true (by omega)) ?_ | refine oa_geqW rfl rfl (decide_eq_false (by omega)) ?_ | refine oa_geqW rfl rfl (decide_eq_true (by omega)) ?_ | refine oa_eqlW rfl rfl (decide_eq_false (by omega)) ?_ | refine oa_eqlW rfl rfl (decide_eq_true (by omega)) ?_ | refine oa_neqW rfl rfl (decide_eq_false (by omega)) ?_ | refine oa_neqW rfl rfl (decide_eq_true (by omega)) ?_ | refine oa_pickT rfl rfl rfl ?_ | refine oa_pickF rfl rfl ?_ | refine oa_not rfl ?_ | refine oa_extract rfl rfl ?_)) | refine ia_gdN rfl ?_ | refine ia_gdU rfl ?_))
            exact ia_nil ⟨rfl, false, by simp [e2], rfl, rfl, rfl, rfl, rfl, rfl, rfl, rfl, rfl, rfl, trivial⟩
          · (repeat (first | (refine ia_op ?_; (first | refine oa_move rfl ?_ | refine oa_assign rfl ?_ | refine oa_nilCheck rfl ?_ | refine oa_fieldAddr FpF.h (by decide) rfl ?_ | refine oa_indexOwn UnF.h SzF.h rfl rfl rfl (by omega) ?_ | refine oa_load1 PlF.h rfl hrow9 hy0 ?_ | refine oa_load1 PlF.h rfl hrow9 hy1 ?_ | refine oa_load1 PlF.h rfl r16 rfl ?_ | refine oa_load1 PlF.h rfl r17 rfl ?_ | refine oa_lssW rfl rfl (decide_eq_false (by omega)) ?_ | refine oa_lssW rfl rfl (decide_eq_true (by omega)) ?_ | refine oa_leqW rfl rfl (decide_eq_false (by omega)) ?_ | refine oa_leqW rfl rfl (decide_eq_true (by omega)) ?_ | refine oa_gtrW rfl rfl (decide_eq_false (by omega)) ?_ | refine oa_gtrW rfl rfl (decide_eq_true (by omega)) ?_ | refine oa_geqW rfl rfl (decide_eq_false (by omega)) ?_ | refine oa_geqW rfl rfl (decide_eq_true (by omega)) ?_ | refine oa_eqlW rfl rfl (decide_eq_false (by omega)) ?_ | refine oa_eqlW rfl rfl (decide_eq_true (by omega)) ?_ | refine oa_neqW rfl rfl (decide_eq_false (by omega)) ?_ | refine oa_neqW rfl rfl (decide_eq_true (by omega)) ?_ | refine oa_pickT rfl rfl rfl ?_ | refine oa_pickF rfl rfl ?_ | refine oa_not rfl ?_ | refine oa_extract rfl rfl ?_)) | (refine ia_gdY rfl ?_; (first | refine oa_move rfl ?_ | refine oa_assign rfl ?_ | refine oa_nilCheck rfl ?_ | refine oa_fieldAddr FpF.h (by decide) rfl ?_ | refine oa_indexOwn UnF.h SzF.h rfl rfl rfl (by omega) ?_ | refine oa_load1 PlF.h rfl hrow9 hy0 ?_ | refine oa_load1 PlF.h rfl hrow9 hy1 ?_ | refine oa_load1 PlF.h rfl r16 rfl ?_ | refine oa_load1 PlF.h rfl r17 rfl ?_ | refine oa_lssW rfl rfl (decide_eq_false (by omega)) ?_ | refine oa_lssW rfl rfl (decide_eq_true (by omega)) ?_ | refine oa_leqW rfl rfl (decide_eq_false (by omega)) ?_ | refine oa_leqW rfl rfl (decide_eq_true (by omega)) ?_ | refine oa_gtrW rfl rfl (decide_eq_false (by omega)) ?_ | refine oa_gtrW rfl rfl (decide_eq_true (by omega)) ?_ | refine oa_geqW rfl rfl (decide_eq_false (by omega)) ?_ | refine oa_geqW rfl rfl (decide_eq_true (by omega)) ?_ | refine oa_eqlW rfl rfl (decide_eq_false (by omega)) ?_ | refine oa_eqlW rfl rfl (decide_eq_true (by omega)) ?_ | refine oa_neqW rfl rfl (decide_eq_false (by omega)) ?_ | refine oa_neqW rfl rfl (decide_eq_true (by omega)) ?_ | refine oa_pickT rfl rfl rfl ?_ | refine oa_pickF rfl rfl ?_ | refine oa_not rfl ?_ | refine oa_extract rfl rfl ?_)) | refine ia_gdN rfl ?_ | refine ia_gdU rfl ?_))
            exact ia_nil ⟨rfl, false, by simp [e1], rfl, rfl, rfl, rfl, rfl, rfl, rfl, rfl, rfl, rfl, trivial⟩
          · (repeat (first | (refine ia_op ?_; (first | refine oa_move rfl ?_ | refine oa_assign rfl ?_ | refine oa_nilCheck rfl ?_ | refine oa_fieldAddr FpF.h (by decide) rfl ?_ | refine oa_indexOwn UnF.h SzF.h rfl rfl rfl (by omega) ?_ | refine oa_load1 PlF.h rfl hrow9 hy0 ?_ | refine oa_load1 PlF.h rfl hrow9 hy1 ?_ | refine oa_load1 PlF.h rfl r16 rfl ?_ | refine oa_load1 PlF.h rfl r17 rfl ?_ | refine oa_lssW rfl rfl (decide_eq_false (by omega)) ?_ | refine oa_lssW rfl rfl (decide_eq_true (by omega)) ?_ | refine oa_leqW rfl rfl (decide_eq_false (by omega)) ?_ | refine oa_leqW rfl rfl (decide_eq_true (by omega)) ?_ | refine oa_gtrW rfl rfl (decide_eq_false (by omega)) ?_ | refine oa_gtrW rfl rfl (decide_eq_true (by omega)) ?_ | refine oa_geqW rfl rfl (decide_eq_false (by omega)) ?_ | refine oa_geqW rfl rfl (decide_eq_true (by omega)) ?_ | refine oa_eqlW rfl rfl (decide_eq_false (by omega)) ?_ | refine oa_eqlW rfl rfl (decide_eq_true (by omega)) ?_ | refine oa_neqW rfl rfl (decide_eq_false (by omega)) ?_ | refine oa_neqW rfl rfl (decide_eq_true (by omega)) ?_ | refine oa_pickT rfl rfl rfl ?_ | refine oa_pickF rfl rfl ?_ | refine oa_not rfl ?_ | refine oa_extract rfl rfl ?_)) | (refine ia_gdY rfl ?_; (first | refine oa_move rfl ?_ | refine oa_assign rfl ?_ | refine oa_nilCheck rfl ?_ | refine oa_fieldAddr FpF.h (by decide) rfl ?_ | refine oa_indexOwn UnF.h SzF.h rfl rfl rfl (by omega) ?_ | refine oa_load1 PlF.h rfl hrow9 hy0 ?_ | refine oa_load1 PlF.h rfl hrow9 hy1 ?_ | refine oa_load1 PlF.h rfl r16 rfl ?_ | refine oa_load1 PlF.h rfl r17 rfl ?_ | refine oa_lssW rfl rfl (decide_eq_false (by omega)) ?_ | refine oa_lssW rfl rfl (decide_eq_true (by omega)) ?_ | refine oa_leqW rfl rfl (decide_eq_false (by omega)) ?_ | refine oa_leqW rfl rfl (decide_eq_true (by omega)) ?_ | refine oa_gtrW rfl rfl (decide_eq_false (by omega)) ?_ | refine oa_gtrW rfl rfl (decide_eq_true (by omega)) ?_ | refine oa_geqW rfl rfl (decide_eq_false (by omega)) ?_ | refine oa_geqW rfl rfl (decide_eq_true (by omega)) ?_ | refine oa_eqlW rfl rfl (decide_eq_false (by omega)) ?_ | refine oa_eqlW rfl rfl (decide_eq_true (by omega)) ?_ | refine oa_neqW rfl rfl (decide_eq_false (by omega)) ?_ | refine oa_neqW rfl rfl (decide_eq_true (by omega)) ?_ | refine oa_pickT rfl rfl rfl ?_ | refine oa_pickF rfl rfl ?_ | refine oa_not rfl ?_ | refine oa_extract rfl rfl ?_)) | refine ia_gdN rfl ?_ | refine ia_gdU rfl ?_))
            exact ia_nil ⟨rfl, false, by simp [e1], rfl, rfl, rfl, rfl, rfl, rfl, rfl, rfl, rfl, rfl, trivial⟩
      rintro l5 H11 ⟨hH, th', hth', hs5⟩
      subst hH
      refine VA.sub hs5 (va_reg ?_)
      (repeat (refine ia_op ?_; first | refine oa_move rfl ?_ | refine oa_assign rfl ?_ | refine oa_nilCheck rfl ?_ | refine oa_fieldAddr FpF.h (by decide) rfl ?_ | refine oa_extract rfl rfl ?_ | refine oa_not rfl ?_))
      refine ia_op (oa_addW (c := ((y + 1 : Nat) : Int)) rfl rfl (wrapE_i64 (by omega) (by omega) (by omega)) ?_)
      (repeat (refine ia_op ?_; first | refine oa_move rfl ?_ | refine oa_assign rfl ?_ | refine oa_nilCheck rfl ?_ | refine oa_fieldAddr FpF.h (by decide) rfl ?_ | refine oa_extract rfl rfl ?_ | refine oa_not rfl ?_))
      refine ia_nil ⟨(y + 1, th'), ?_, ⟨rfl, rfl, rfl, rfl, rfl, rfl, rfl, rfl, rfl, rfl, trivial⟩, rfl, by simp only; omega, ?_⟩
      · show i - (y + 1) < i - y
        omega
      · simp only
        rw [hth', hth]
        constructor
        · rintro ((h | ⟨y', r', a1, a2, a3⟩) | ⟨a1, a2⟩)
          · exact .inl h
          · exact .inr ⟨y', r', by omega, a2, a3⟩
          · exact .inr ⟨y, r, by omega, hr, a1, a2⟩
        · rintro (h | ⟨y', r', a1, a2, a3⟩)
          · exact .inl (.inl h)
          · by_cases hyy : y' = y
            · rw [hyy, hr] at a2
              injection a2 with a2
              rw [← a2] at a3
              exact .inr a3
            · exact .inl (.inr ⟨y', r', by omega, a2, a3⟩)
    have hyi' : y = i := by omega
    have htrue : th = true := hth.2 (hthere.imp id fun ⟨y', r', a1, a2, a3, a4⟩ => ⟨y', r', by omega, a2, a3, a4⟩)
    refine ia_op (oa_lssW rfl rfl (decide_eq_false (by simp only; omega)) (ia_nil (va_condF rfl (va_exit (va_seq (va_seqr ?_))))))
    (repeat (refine ia_op ?_; first | refine oa_move rfl ?_ | refine oa_assign rfl ?_ | refine oa_nilCheck rfl ?_ | refine oa_fieldAddr FpF.h (by decide) rfl ?_ | refine oa_extract rfl rfl ?_ | refine oa_not rfl ?_))
    refine ia_nil (va_block ?_)
    refine va_loop (fun (a : Nat × Bool) => [(2, vp), (9, u1), (11, u2), (13, .so bo 0 out.length 2), (15, .int .i64 (i : Int)), (16, .ptr b16 0), (17, .ptr b17 0), (18, .bool th), (19, .bool a.2), (21, .int .i64 (a.1 : Int))])
      (fun a H' => H' = H10 ∧ a.1 ≤ ps.length ∧ (a.2 = true ↔ ∃ (y' : Nat) (pr : Int × Int), y' < a.1 ∧ ps[y']? = some pr ∧ pr.1 = c.proc ∧ pr.2 = d.proc)) (fun a => ps.length - a.1) ?_ (0, false) _ H10 ⟨rfl, rfl, rfl, rfl, rfl, rfl, rfl, rfl, rfl, rfl, trivial⟩ ⟨rfl, Nat.zero_le _, ⟨fun h => (by cases h), fun ⟨y', r, h, _⟩ => absurd h (Nat.not_lt_zero _)⟩⟩
    rintro ⟨k, pd⟩ H11 ⟨hH, hkp, hpd⟩
    subst hH
    simp only at hkp hpd
    have hvp9 := ((((hvp.keep hk1).keep hk2).keep hk3).keep hk4).keep hK9
    refine va_seq (va_seqr ?_)
    (repeat (refine ia_op ?_; first | refine oa_move rfl ?_ | refine oa_assign rfl ?_ | refine oa_nilCheck rfl ?_ | refine oa_fieldAddr FpF.h (by decide) rfl ?_ | refine oa_lenSl rfl rfl rfl UnF.h rfl hvp9.sl ?_ | refine oa_extract rfl rfl ?_ | refine oa_not rfl ?_))
    by_cases hk : k < ps.length
    · refine ia_op (oa_lssW rfl rfl (decide_eq_true (by simp only; omega)) (ia_nil (va_condT rfl (va_skip (va_seq ?_)))))
      obtain ⟨pr, hpr⟩ : ∃ pr, ps[k]? = some pr := ⟨_, List.getElem?_eq_getElem hk⟩
      have hfp : (ps.flatMap prC).length = ps.length * 2 := flat_length prC_len ps
      refine va_cut (fun l' H' => H' = H11 ∧ ∃ pd', (pd' = true ↔ pd = true ∨ (pr.1 = c.proc ∧ pr.2 = d.proc)) ∧ Sb [(2, vp), (9, u1), (11, u2), (13, .so bo 0 out.length 2), (15, .int .i64 (i : Int)), (16, .ptr b16 0), (17, .ptr b17 0), (18, .bool th), (19, .bool pd'), (21, .int .i64 (k : Int))] l') ?_ ?_
      · obtain ⟨_, ⟨_, h0⟩ | ⟨bp, op, rowp, tlp, ⟨cap, hvpe, hcap⟩, hrowp, hgetp⟩⟩ := hvp9
        · omega
        subst hvpe
        have hp0 : rowp[op + k * 2 + 0 * 1]? = some (.int .i64 pr.1) := by
          rw [show op + k * 2 + 0 * 1 = op + (k * 2 + 0) by omega]
          exact (hgetp _ (by omega)).trans (flat_get prC_len hpr (by decide))
        have hp1 : rowp[op + k * 2 + 1 * 1]? = some (.int .i64 pr.2) := by
          rw [show op + k * 2 + 1 * 1 = op + (k * 2 + 1) by omega]
          exact (hgetp _ (by omega)).trans (flat_get prC_len hpr (by decide))
        refine va_block (va_reg ?_)
        cases pd with
        | true =>
          (repeat (first | (refine ia_op ?_; (first | refine oa_move rfl ?_ | refine oa_assign rfl ?_ | refine oa_nilCheck rfl ?_ | refine oa_fieldAddr FpF.h (by decide) rfl ?_ | refine oa_lssW rfl rfl (decide_eq_false (by omega)) ?_ | refine oa_lssW rfl rfl (decide_eq_true (by omega)) ?_ | refine oa_leqW rfl rfl (decide_eq_false (by omega)) ?_ | refine oa_leqW rfl rfl (decide_eq_true (by omega)) ?_ | refine oa_gtrW rfl rfl (decide_eq_false (by omega)) ?_ | refine oa_gtrW rfl rfl (decide_eq_true (by omega)) ?_ | refine oa_geqW rfl rfl (decide_eq_false (by omega)) ?_ | refine oa_geqW rfl rfl (decide_eq_true (by omega)) ?_ | refine oa_eqlW rfl rfl (decide_eq_false (by omega)) ?_ | refine oa_eqlW rfl rfl (decide_eq_true (by omega)) ?_ | refine oa_neqW rfl rfl (decide_eq_false (by omega)) ?_ | refine oa_neqW rfl rfl (decide_eq_true (by omega)) ?_ | refine oa_pickT rfl rfl rfl ?_ | refine oa_pickF rfl rfl ?_ | refine oa_not rfl ?_ | refine oa_extract rfl rfl ?_)) | (refine ia_gdY rfl ?_; (first | refine oa_move rfl ?_ | refine oa_assign rfl ?_ | refine oa_nilCheck rfl ?_ | refine oa_fieldAddr FpF.h (by decide) rfl ?_ | refine oa_lssW rfl rfl (decide_eq_false (by omega)) ?_ | refine oa_lssW rfl rfl (decide_eq_true (by omega)) ?_ | refine oa_leqW rfl rfl (decide_eq_false (by omega)) ?_ | refine oa_leqW rfl rfl (decide_eq_true (by omega)) ?_ | refine oa_gtrW rfl rfl (decide_eq_false (by omega)) ?_ | refine oa_gtrW rfl rfl (decide_eq_true (by omega)) ?_ | refine oa_geqW rfl rfl (decide_eq_false (by omega)) ?_ | refine oa_geqW rfl rfl (decide_eq_true (by omega)) ?_ | refine oa_eqlW rfl rfl (decide_eq_false (by omega)) ?_ | refine oa_eqlW rfl rfl (decide_eq_true (by omega)) ?_ | refine oa_neqW rfl rfl (decide_eq_false (by omega)) ?_ | refine oa_neqW rfl rfl (decide_eq_true (by omega)) ?_ | refine oa_pickT rfl rfl rfl ?_ | refine oa_pickF rfl rfl ?_ | refine oa_not rfl ?_ | refine oa_extract rfl rfl ?_)) | refine ia_gdN rfl ?_ | refine ia_gdU rfl ?_))
          exact ia_nil ⟨rfl, true, by simp, rfl, rfl, rfl, rfl, rfl, rfl, rfl, rfl, rfl, rfl, trivial⟩
        | false =>
          by_cases e1 : pr.1 = c.proc <;> by_cases e2 : pr.2 = d.proc
          · (repeat (first | (refine ia_op ?_; (first | refine oa_move rfl ?_ | refine oa_assign rfl ?_ | refine oa_nilCheck rfl ?_ | refine oa_fieldAddr FpF.h (by decide) rfl ?_ | refine oa_indexRowO UnF.h SzF.h rfl rfl rfl (by omega) ?_ | refine oa_indexArr (j := 0) UnF.h SzF.h rfl rfl rfl (by decide) ?_ | refine oa_indexArr (j := 1) UnF.h SzF.h rfl rfl rfl (by decide) ?_ | refine oa_load1 PlF.h rfl hrowp hp0 ?_ | refine oa_load1 PlF.h rfl hrowp hp1 ?_ | refine oa_load1 PlF.h rfl r16 rfl ?_ | refine oa_load1 PlF.h rfl r17 rfl ?_ | refine oa_lssW rfl rfl (decide_eq_false (by omega)) ?_ | refine oa_lssW rfl rfl (decide_eq_true (by omega)) ?_ | refine oa_leqW rfl rfl (decide_eq_false (by omega)) ?_ | refine oa_leqW rfl rfl (decide_eq_true (by omega)) ?_ | refine oa_gtrW rfl rfl (decide_eq_false (by omega)) ?_ | refine oa_gtrW rfl rfl (decide_eq_true (by omega)) ?_ | refine oa_geqW rfl rfl (decide_eq_false (by omega)) ?_ | refine oa_geqW rfl rfl (decide_eq_true (by omega)) ?_ | refine oa_eqlW rfl rfl (decide_eq_false (by omega)) ?_ | refine oa_eqlW rfl rfl (decide_eq_true (by omega)) ?_ | refine oa_neqW rfl rfl (decide_eq_false (by omega)) ?_ | refine oa_neqW rfl rfl (decide_eq_true (by omega)) ?_ | refine oa_pickT rfl rfl rfl ?_ | refine oa_pickF rfl rfl ?_ | refine oa_not rfl ?_ | refine oa_extract rfl rfl ?_)) | (refine ia_gdY rfl ?_; (first | refine oa_move rfl ?_ | refine oa_assign rfl ?_ | refine oa_nilCheck rfl ?_ | refine oa_fieldAddr FpF.h (by decide) rfl ?_ | refine oa_indexRowO UnF.h SzF.h rfl rfl rfl (by omega) ?_ | refine oa_indexArr (j := 0) UnF.h SzF.h rfl rfl rfl (by decide) ?_ | refine oa_indexArr (j := 1) UnF.h SzF.h rfl rfl rfl (by decide) ?_ | refine oa_load1 PlF.h rfl hrowp hp0 ?_ | refine oa_load1 PlF.h rfl hrowp hp1 ?_ | refine oa_load1 PlF.h rfl r16 rfl ?_ | refine oa_load1 PlF.h rfl r17 rfl ?_ | refine oa_lssW rfl rfl (decide_eq_false (by omega)) ?_ | refine oa_lssW rfl rfl (decide_eq_true (by omega)) ?_ | refine oa_leqW rfl rfl (decide_eq_false (by omega)) ?_ | refine oa_leqW rfl rfl (decide_eq_true (by omega)) ?_ | refine oa_gtrW rfl rfl (decide_eq_false (by omega)) ?_ | refine oa_gtrW rfl rfl (decide_eq_true (by omega)) ?_ | refine oa_geqW rfl rfl (decide_eq_false (by omega)) ?_ | refine oa_geqW rfl rfl (decide_eq_true (by omega)) ?_ | refine oa_eqlW rfl rfl (decide_eq_false (by omega)) ?_ | refine oa_eqlW rfl rfl (decide_eq_true (by omega)) ?_ | refine oa_neqW rfl rfl (decide_eq_false (by omega)) ?_ | refine oa_neqW rfl rfl (decide_eq_true (by omega)) ?_ | refine oa_pickT rfl rfl rfl ?_ | refine oa_pickF rfl rfl ?_ | refine oa_not rfl ?_ | refine oa_extract rfl rfl ?_)) | refine ia_gdN rfl ?_ | refine ia_gdU rfl ?_))
            exact ia_nil ⟨rfl, true, by simp [e1, e2], rfl, rfl, rfl, rfl, rfl, rfl, rfl, rfl, rfl, rfl, trivial⟩
          · (repeat (first | (refine ia_op ?_; (first | refine oa_move rfl ?_ | refine oa_assign rfl ?_ | refine oa_nilCheck rfl ?_ | refine oa_fieldAddr FpF.h (by decide) rfl ?_ | refine oa_indexRowO UnF.h SzF.h rfl rfl rfl (by omega) ?_ | refine oa_indexArr (j := 0) UnF.h SzF.h rfl rfl rfl (by decide) ?_ | refine oa_indexArr (j := 1) UnF.h SzF.h rfl rfl rfl (by decide) ?_ | refine oa_load1 PlF.h rfl hrowp hp0 ?_ | refine oa_load1 PlF.h rfl hrowp hp1 ?_ | refine oa_load1 PlF.h rfl r16 rfl ?_ | refine oa_load1 PlF.h rfl r17 rfl ?_ | refine oa_lssW rfl rfl (decide_eq_false (by omega)) ?_ | refine oa_lssW rfl rfl (decide_eq_true (by omega)) ?_ | refine oa_leqW rfl rfl (decide_eq_false (by omega)) ?_ | refine oa_leqW rfl rfl (decide_eq_true (by omega)) ?_ | refine oa_gtrW rfl rfl (decide_eq_false (by omega)) ?_ | refine oa_gtrW rfl rfl (decide_eq_true (by omega)) ?_ | refine oa_geqW rfl rfl (decide_eq_false (by omega)) ?_ | refine oa_geqW rfl rfl (decide_eq_true (by omega)) ?_ | refine oa_eqlW rfl rfl (decide_eq_false (by omega)) ?_ | refine oa_eqlW rfl rfl (decide_eq_true (by omega)) ?_ | refine oa_neqW rfl rfl (decide_eq_false (by omega)) ?_ | refine oa_neqW rfl rfl (decide_eq_true (by omega)) ?_ | refine oa_pickT rfl rfl rfl ?_ | refine oa_pickF rfl rfl ?_ | refine oa_not rfl ?_ | refine oa_extract rfl rfl ?_)) | (refine ia_gdY rfl ?_; (first | refine oa_move rfl ?_ | refine oa_assign rfl ?_ | refine oa_nilCheck rfl ?_ | refine oa_fieldAddr FpF.h (by decide) rfl ?_ | refine oa_indexRowO UnF.h SzF.h rfl rfl rfl (by omega) ?_ | refine oa_indexArr (j := 0) UnF.h SzF.h rfl rfl rfl (by decide) ?_ | refine oa_indexArr (j := 1) UnF.h SzF.h rfl rfl rfl (by decide) ?_ | refine oa_load1 PlF.h rfl hrowp hp0 ?_ | refine oa_load1 PlF.h rfl hrowp hp1 ?_ | refine oa_load1 PlF.h rfl r16 rfl ?_ | refine oa_load1 PlF.h rfl r17 rfl ?_ | refine oa_lssW rfl rfl (decide_eq_false (by omega)) ?_ | refine oa_lssW rfl rfl (decide_eq_true (by omega)) ?_ | refine oa_leqW rfl rfl (decide_eq_false (by omega)) ?_ | refine oa_leqW rfl rfl (decide_eq_true (by omega)) ?_ | refine oa_gtrW rfl rfl (decide_eq_false (by omega)) ?_ | refine oa_gtrW rfl rfl (decide_eq_true (by omega)) ?_ | refine oa_geqW rfl rfl (decide_eq_false (by omega)) ?_ | refine oa_geqW rfl rfl (decide_eq_true (by omega)) ?_ | refine oa_eqlW rfl rfl (decide_eq_false (by omega)) ?_ | refine oa_eqlW rfl rfl (decide_eq_true (by omega)) ?_ | refine oa_neqW rfl rfl (decide_eq_false (by omega)) ?_ | refine oa_neqW rfl rfl (decide_eq_true (by omega)) ?_ | refine oa_pickT rfl rfl rfl ?_ | refine oa_pickF rfl rfl ?_ | refine oa_not rfl ?_ | refine oa_extract rfl rfl ?_)) | refine ia_gdN rfl ?_ | refine ia_gdU rfl ?_))
            exact ia_nil ⟨rfl, false, by simp [e2], rfl, rfl, rfl, rfl, rfl, rfl, rfl, rfl, rfl, rfl, trivial⟩
          · (repeat (first | (refine ia_op ?_; (first | refine oa_move rfl ?_ | refine oa_assign rfl ?_ | refine oa_nilCheck rfl ?_ | refine oa_fieldAddr FpF.h (by decide) rfl ?_ | refine oa_indexRowO UnF.h SzF.h rfl rfl rfl (by omega) ?_ | refine oa_indexArr (j := 0) UnF.h SzF.h rfl rfl rfl (by decide) ?_ | refine oa_indexArr (j := 1) UnF.h SzF.h rfl rfl rfl (by decide) ?_ | refine oa_load1 PlF.h rfl hrowp hp0 ?_ | refine oa_load1 PlF.h rfl hrowp hp1 ?_ | refine oa_load1 PlF.h rfl r16 rfl ?_ | refine oa_load1 PlF.h rfl r17 rfl ?_ | refine oa_lssW rfl rfl (decide_eq_false (by omega)) ?_ | refine oa_lssW rfl rfl (decide_eq_true (by omega)) ?_ | refine oa_leqW rfl rfl (decide_eq_false (by omega)) ?_ | refine oa_leqW rfl rfl (decide_eq_true (by omega)) ?_ | refine oa_gtrW rfl rfl (decide_eq_false (by omega)) ?_ | refine oa_gtrW rfl rfl (decide_eq_true (by omega)) ?_ | refine oa_geqW rfl rfl (decide_eq_false (by omega)) ?_ | refine oa_geqW rfl rfl (decide_eq_true (by omega)) ?_ | refine oa_eqlW rfl rfl (decide_eq_false (by omega)) ?_ | refine oa_eqlW rfl rfl (decide_eq_true (by omega)) ?_ | refine oa_neqW rfl rfl (decide_eq_false (by omega)) ?_ | refine oa_neqW rfl rfl (decide_eq_true (by omega)) ?_ | refine oa_pickT rfl rfl rfl ?_ | refine oa_pickF rfl rfl ?_ | refine oa_not rfl ?_ | refine oa_extract rfl rfl ?_)) | (refine ia_gdY rfl ?_; (first | refine oa_move rfl ?_ | refine oa_assign rfl ?_ | refine oa_nilCheck rfl ?_ | refine oa_fieldAddr FpF.h (by decide) rfl ?_ | refine oa_indexRowO UnF.h SzF.h rfl rfl rfl (by omega) ?_ | refine oa_indexArr (j := 0) UnF.h SzF.h rfl rfl rfl (by decide) ?_ | refine oa_indexArr (j := 1) UnF.h SzF.h rfl rfl rfl (by decide) ?_ | refine oa_load1 PlF.h rfl hrowp hp0 ?_ | refine oa_load1 PlF.h rfl hrowp hp1 ?_ | refine oa_load1 PlF.h rfl r16 rfl ?_ | refine oa_load1 PlF.h rfl r17 rfl ?_ | refine oa_lssW rfl rfl (decide_eq_false (by omega)) ?_ | refine oa_lssW rfl rfl (decide_eq_true (by omega)) ?_ | refine oa_leqW rfl rfl (decide_eq_false (by omega)) ?_ | refine oa_leqW rfl rfl (decide_eq_true (by omega)) ?_ | refine oa_gtrW rfl rfl (decide_eq_false (by omega)) ?_ | refine oa_gtrW rfl rfl (decide_eq_true (by omega)) ?_ | refine oa_geqW rfl rfl (decide_eq_false (by omega)) ?_ | refine oa_geqW rfl rfl (decide_eq_true (by omega)) ?_ | refine oa_eqlW rfl rfl (decide_eq_false (by omega)) ?_ | refine oa_eqlW rfl rfl (decide_eq_true (by omega)) ?_ | refine oa_neqW rfl rfl (decide_eq_false (by omega)) ?_ | refine oa_neqW rfl rfl (decide_eq_true (by omega)) ?_ | refine oa_pickT rfl rfl rfl ?_ | refine oa_pickF rfl rfl ?_ | refine oa_not rfl ?_ | refine oa_extract rfl rfl ?_)) | refine ia_gdN rfl ?_ | refine ia_gdU rfl ?_))
            exact ia_nil ⟨rfl, false, by simp [e1], rfl, rfl, rfl, rfl, rfl, rfl, rfl, rfl, rfl, rfl, trivial⟩
          · (repeat (first | (refine ia_op ?_; (first | refine oa_move rfl ?_ | refine oa_assign rfl ?_ | refine oa_nilCheck rfl ?_ | refine oa_fieldAddr FpF.h (by decide) rfl ?_ | refine oa_indexRowO UnF.h SzF.h rfl rfl rfl (by omega) ?_ | refine oa_indexArr (j := 0) UnF.h SzF.h rfl rfl rfl (by decide) ?_ | refine oa_indexArr (j := 1) UnF.h SzF.h rfl rfl rfl (by decide) ?_ | refine oa_load1 PlF.h rfl hrowp hp0 ?_ | refine oa_load1 PlF.h rfl hrowp hp1 ?_ | refine oa_load1 PlF.h rfl r16 rfl ?_ | refine oa_load1 PlF.h rfl r17 rfl ?_ | refine oa_lssW rfl rfl (decide_eq_false (by omega)) ?_ | refine oa_lssW rfl rfl (decide_eq_true (by omega)) ?_ | refine oa_leqW rfl rfl (decide_eq_false (by omega)) ?_ | refine oa_leqW rfl rfl (decide_eq_true (by omega)) ?_ | refine oa_gtrW rfl rfl (decide_eq_false (by omega)) ?_ | refine oa_gtrW rfl rfl (decide_eq_true (by omega)) ?_ | refine oa_geqW rfl rfl (decide_eq_false (by omega)) ?_ | refine oa_geqW rfl rfl (decide_eq_true (by omega)) ?_ | refine oa_eqlW rfl rfl (decide_eq_false (by omega)) ?_ | refine oa_eqlW rfl rfl (decide_eq_true (by omega)) ?_ | refine oa_neqW rfl rfl (decide_eq_false (by omega)) ?_ | refine oa_neqW rfl rfl (decide_eq_true (by omega)) ?_ | refine oa_pickT rfl rfl rfl ?_ | refine oa_pickF rfl rfl ?_ | refine oa_not rfl ?_ | refine oa_extract rfl rfl ?_)) | (refine ia_gdY rfl ?_; (first | refine oa_move rfl ?_ | refine oa_assign rfl ?_ | refine oa_nilCheck rfl ?_ | refine oa_fieldAddr FpF.h (by decide) rfl ?_ | refine oa_indexRowO UnF.h SzF.h rfl rfl rfl (by omega) ?_ | refine oa_indexArr (j := 0) UnF.h SzF.h rfl rfl rfl (by decide) ?_ | refine oa_indexArr (j := 1) UnF.h SzF.h rfl rfl rfl (by decide) ?_ | refine oa_load1 PlF.h rfl hrowp hp0 ?_ | refine oa_load1 PlF.h rfl hrowp hp1 ?_ | refine oa_load1 PlF.h rfl r16 rfl ?_ | refine oa_load1 PlF.h rfl r17 rfl ?_ | refine oa_lssW rfl rfl (decide_eq_false (by omega)) ?_ | refine oa_lssW rfl rfl (decide_eq_true (by omega)) ?_ | refine oa_leqW rfl rfl (decide_eq_false (by omega)) ?_ | refine oa_leqW rfl rfl (decide_eq_true (by omega)) ?_ | refine oa_gtrW rfl rfl (decide_eq_false (by omega)) ?_ | refine oa_gtrW rfl rfl (decide_eq_true (by omega)) ?_ | refine oa_geqW rfl rfl (decide_eq_false (by omega)) ?_ | refine oa_geqW rfl rfl (decide_eq_true (by omega)) ?_ | refine oa_eqlW rfl rfl (decide_eq_false (by omega)) ?_ | refine oa_eqlW rfl rfl (decide_eq_true (by omega)) ?_ | refine oa_neqW rfl rfl (decide_eq_false (by omega)) ?_ | refine oa_neqW rfl rfl (decide_eq_true (by omega)) ?_ | refine oa_pickT rfl rfl rfl ?_ | refine oa_pickF rfl rfl ?_ | refine oa_not rfl ?_ | refine oa_extract rfl rfl ?_)) | refine ia_gdN rfl ?_ | refine ia_gdU rfl ?_))
            exact ia_nil ⟨rfl, false, by simp [e1], rfl, rfl, rfl, rfl, rfl, rfl, rfl, rfl, rfl, rfl, trivial⟩
      rintro l5 H12 ⟨hH, pd', hpd', hs5⟩
      subst hH
      refine VA.sub hs5 (va_reg ?_)
      (repeat (refine ia_op ?_; first | refine oa_move rfl ?_ | refine oa_assign rfl ?_ | refine oa_nilCheck rfl ?_ | refine oa_fieldAddr FpF.h (by decide) rfl ?_ | refine oa_extract rfl rfl ?_ | refine oa_not rfl ?_))
      refine ia_op (oa_addW (c := ((k + 1 : Nat) : Int)) rfl rfl (wrapE_i64 (by omega) (by omega) (by omega)) ?_)
      (repeat (refine ia_op ?_; first | refine oa_move rfl ?_ | refine oa_assign rfl ?_ | refine oa_nilCheck rfl ?_ | refine oa_fieldAddr FpF.h (by decide) rfl ?_ | refine oa_extract rfl rfl ?_ | refine oa_not rfl ?_))
      refine ia_nil ⟨(k + 1, pd'), ?_, ⟨rfl, rfl, rfl, rfl, rfl, rfl, rfl, rfl, rfl, rfl, trivial⟩, rfl, by simp only; omega, ?_⟩
      · show ps.length - (k + 1) < ps.length - k
        omega
      · simp only
        rw [hpd', hpd]
        constructor
        · rintro (⟨y', r', a1, a2, a3⟩ | ⟨a1, a2⟩)
          · exact ⟨y', r', by omega, a2, a3⟩
          · exact ⟨k, pr, by omega, hpr, a1, a2⟩
        · rintro ⟨y', r', a1, a2, a3⟩
          by_cases hyy : y' = k
          · rw [hyy, hpr] at a2
            injection a2 with a2
            rw [← a2] at a3
            exact .inr a3
          · exact .inl ⟨y', r', by omega, a2, a3⟩
    have hk0 := (List.getElem?_eq_some_iff.1 hpr0).1
    have hptrue : pd = true := hpd.2 ⟨k0, pr0, by omega, hpr0, hpr1, hpr2⟩
    subst htrue hptrue
    clear hth hpd hthere hup hpr1 hpr2
    refine ia_op (oa_lssW rfl rfl (decide_eq_false (by simp only; omega)) (ia_nil (va_condF rfl (va_exit (va_seqr ?_)))))
    (repeat (first | (refine ia_op ?_; (first | refine oa_move rfl ?_ | refine oa_assign rfl ?_ | refine oa_nilCheck rfl ?_ | refine oa_fieldAddr FpF.h (by decide) rfl ?_ | refine oa_lssW rfl rfl (decide_eq_false (by omega)) ?_ | refine oa_lssW rfl rfl (decide_eq_true (by omega)) ?_ | refine oa_leqW rfl rfl (decide_eq_false (by omega)) ?_ | refine oa_leqW rfl rfl (decide_eq_true (by omega)) ?_ | refine oa_gtrW rfl rfl (decide_eq_false (by omega)) ?_ | refine oa_gtrW rfl rfl (decide_eq_true (by omega)) ?_ | refine oa_geqW rfl rfl (decide_eq_false (by omega)) ?_ | refine oa_geqW rfl rfl (decide_eq_true (by omega)) ?_ | refine oa_eqlW rfl rfl (decide_eq_false (by omega)) ?_ | refine oa_eqlW rfl rfl (decide_eq_true (by omega)) ?_ | refine oa_neqW rfl rfl (decide_eq_false (by omega)) ?_ | refine oa_neqW rfl rfl (decide_eq_true (by omega)) ?_ | refine oa_pickT rfl rfl rfl ?_ | refine oa_pickF rfl rfl ?_ | refine oa_not rfl ?_ | refine oa_extract rfl rfl ?_)) | (refine ia_gdY rfl ?_; (first | refine oa_move rfl ?_ | refine oa_assign rfl ?_ | refine oa_nilCheck rfl ?_ | refine oa_fieldAddr FpF.h (by decide) rfl ?_ | refine oa_lssW rfl rfl (decide_eq_false (by omega)) ?_ | refine oa_lssW rfl rfl (decide_eq_true (by omega)) ?_ | refine oa_leqW rfl rfl (decide_eq_false (by omega)) ?_ | refine oa_leqW rfl rfl (decide_eq_true (by omega)) ?_ | refine oa_gtrW rfl rfl (decide_eq_false (by omega)) ?_ | refine oa_gtrW rfl rfl (decide_eq_true (by omega)) ?_ | refine oa_geqW rfl rfl (decide_eq_false (by omega)) ?_ | refine oa_geqW rfl rfl (decide_eq_true (by omega)) ?_ | refine oa_eqlW rfl rfl (decide_eq_false (by omega)) ?_ | refine oa_eqlW rfl rfl (decide_eq_true (by omega)) ?_ | refine oa_neqW rfl rfl (decide_eq_false (by omega)) ?_ | refine oa_neqW rfl rfl (decide_eq_true (by omega)) ?_ | refine oa_pickT rfl rfl rfl ?_ | refine oa_pickF rfl rfl ?_ | refine oa_not rfl ?_ | refine oa_extract rfl rfl ?_)) | refine ia_gdN rfl ?_ | refine ia_gdU rfl ?_))
    refine ia_nil (va_condF rfl (va_skip (va_reg ?_)))
    (repeat (refine ia_op ?_; first | refine oa_move rfl ?_ | refine oa_assign rfl ?_ | refine oa_nilCheck rfl ?_ | refine oa_fieldAddr FpF.h (by decide) rfl ?_ | refine oa_extract rfl rfl ?_ | refine oa_not rfl ?_))
    refine ia_op (oa_addW (c := ((i + 1 : Nat) : Int)) rfl rfl (wrapE_i64 (by omega) (by omega) (by omega)) ?_)
    (repeat (refine ia_op ?_; first | refine oa_move rfl ?_ | refine oa_assign rfl ?_ | refine oa_nilCheck rfl ?_ | refine oa_fieldAddr FpF.h (by decide) rfl ?_ | refine oa_extract rfl rfl ?_ | refine oa_not rfl ?_))
    refine ia_nil ⟨i + 1, ?_, ⟨rfl, rfl, rfl, rfl, rfl, trivial⟩, hk4.trans0 hK9, by omega⟩
    show out.length - (i + 1) < out.length - i
    omega
  (repeat (refine ia_op ?_; first | refine oa_move rfl ?_ | refine oa_assign rfl ?_ | refine oa_nilCheck rfl ?_ | refine oa_fieldAddr FpF.h (by decide) rfl ?_ | refine oa_extract rfl rfl ?_ | refine oa_not rfl ?_))
  refine ia_op (oa_call rfl rfl rfl (Match_ok I J (by omega) (by omega) hA0 hB0 (by omega) hl0 hsA hsB ((hvp.keep hk1).keep hk2) (fun out cc u H3 hF hV hk3 ho3 hn3 => ?_) fun H3 hF hk3 => ?_))
  · (repeat (refine ia_op ?_; first | refine oa_move rfl ?_ | refine oa_assign rfl ?_ | refine oa_nilCheck rfl ?_ | refine oa_fieldAddr FpF.h (by decide) rfl ?_ | refine oa_extract rfl rfl ?_ | refine oa_not rfl ?_))
    have hlo := hV.len I J hA0 hB0
    exact ia_nil (rest out cc u H3 (good_of I J hA0 hB0 hF hV) (by omega) hk3 ho3 _ ⟨rfl, rfl, rfl, rfl, trivial⟩)
  · (repeat (refine ia_op ?_; first | refine oa_move rfl ?_ | refine oa_assign rfl ?_ | refine oa_nilCheck rfl ?_ | refine oa_fieldAddr FpF.h (by decide) rfl ?_ | refine oa_extract rfl rfl ?_ | refine oa_not rfl ?_))
    exact ia_nil (rest [] false .nils H3 (fun i p h => by simp at h) (by simp) hk3 (.nil _ _) _ ⟨rfl, rfl, rfl, rfl, trivial⟩)
end
end Go.Proofs.YtndhniapohlniaaGreatDoor
