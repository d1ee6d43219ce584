/-
  The printer's words (syntax.writer): put, need, name, walked. Conditions: the number of words.
-/
import Derived.Test.YtbmedhaopnhggaaGreatDoorNames
import Derived.Test.YtbmedhaopnhggaaGreatDoorSize
namespace Go.Proofs.YtbmedhaopnhggaaGreatDoor
open Go Eng Tryz
set_option maxHeartbeats 0
instance ifp_150_0 : FpF prog 150 0 ⟨0, false, 1⟩ := ⟨by kernel_rfl⟩
instance ipl_49 : PlF prog 49 ⟨0, false, 1⟩ := ⟨by kernel_rfl⟩
instance isz_49 : SzF prog 49 1 := ⟨by kernel_rfl⟩
instance ifp_150_1 : FpF prog 150 1 ⟨1, false, 1⟩ := ⟨by kernel_rfl⟩
instance ipl_4 : PlF prog 4 ⟨0, false, 1⟩ := ⟨by kernel_rfl⟩
instance isz_4 : SzF prog 4 1 := ⟨by kernel_rfl⟩
instance iun_4 : UnF prog 4 (.bool) := ⟨by kernel_rfl⟩
instance ifp_180_0 : FpF prog 180 0 ⟨0, false, 1⟩ := ⟨by kernel_rfl⟩
theorem pl_3 : plcOf prog 3 0 = some ⟨0, false, 1⟩ := by kernel_rfl
instance ipl_3 : PlF prog 3 ⟨0, false, 1⟩ := ⟨pl_3⟩
instance ifp_180_2 : FpF prog 180 2 ⟨2, false, 1⟩ := ⟨by kernel_rfl⟩
instance ipl_2 : PlF prog 2 ⟨0, false, 1⟩ := ⟨by kernel_rfl⟩
def v104 : CV := .reg [Jd 4 0, Jd 5 0, Jm 6 5, Jg 7 150 6 0, Jf 8 49 7, Jd 9 1, Jc 10 (.call ⟨.builtin .append, #[(Ja 8), (Ja 9)], #[49, 49]⟩), Jm 11 4, Jg 12 150 11 0, .op none (.store 49 (Ja 12) (Ja 10))]
noncomputable def b104 : Code := f104.body.getD .skip
theorem b104_eq : f104.body = some b104 := by kernel_rfl
theorem v104_eq : viewC prog b104 = some v104 := by kernel_rfl
theorem r104_eq : f104.results.toList = [] := by kernel_rfl
def v167 : CV := .reg [Jd 4 0, Jd 5 0, Jm 6 5, Jg 7 150 6 1, Jf 8 4 7, Jd 9 8, Jp 9 false 10 1, Js 9 false 11 (.unOp .not 4 (Ja 10)), Jc 12 (.pick (Ja 9) (.const (.bool true)) (Ja 11)), Jm 13 4, Jg 14 150 13 1, .op none (.store 4 (Ja 14) (Ja 12))]
noncomputable def b167 : Code := f167.body.getD .skip
theorem b167_eq : f167.body = some b167 := by kernel_rfl
theorem v167_eq : viewC prog b167 = some v167 := by kernel_rfl
theorem r167_eq : f167.results.toList = [] := by kernel_rfl
def v105 : CV := Jt [Jd 4 0, Jd 5 1, Jn 6 168 5 9, Jo 7 167 4 6 148 4] (.reg [Jd 8 0, Jd 9 1, Jc 10 (.buildSlice 49 1 #[(0, (Ja 9))]), Jo 11 104 8 10 148 49])
noncomputable def b105 : Code := f105.body.getD .skip
theorem b105_eq : f105.body = some b105 := by kernel_rfl
theorem v105_eq : viewC prog b105 = some v105 := by kernel_rfl
theorem r105_eq : f105.results.toList = [] := by kernel_rfl
def v268c0 : CV := Jt [Jc 2 (.assign (.const (.bool false)))] (.ret)
def v268h1 : CV := Jt [Jg 3 180 1 1, Jf 4 9 3, Jc 5 (.binOp .neq 9 (Ja 4) (.const (.string ⟨⟨[]⟩⟩)) 9), Jg 6 180 1 0, Jf 7 3 6, Jc 8 (.binOp .neq 3 (Ja 7) (Jb 1) 3), Jd 9 8, Jq 9 true 10 180 1 0, Jr 9 true 11 3 10, Js 9 true 12 (.binOp .neq 3 (Ja 11) (Jb 2) 3), Jc 13 (.pick (Ja 9) (Ja 12) (.const (.bool false))), Jc 14 (.binOp .neq 4 (Ja 5) (Ja 13) 4), Jd 15 14, Jq 15 false 16 180 1 2, Jr 15 false 17 2 16, Js 15 false 18 (.binOp .neq 2 (Ja 17) (Jb 0) 2), Jp 15 false 19 18, Jq 19 true 20 180 1 0, Jr 19 true 21 3 20, Js 19 true 22 (.binOp .neq 3 (Ja 21) (Jb 1) 3), Js 15 false 23 (.pick (Ja 19) (Ja 22) (.const (.bool false))), Jp 15 false 24 23, Jq 24 true 25 180 1 0, Jr 24 true 26 3 25, Js 24 true 27 (.binOp .neq 3 (Ja 26) (Jb 2) 3), Js 15 false 28 (.pick (Ja 24) (Ja 27) (.const (.bool false))), Jc 29 (.pick (Ja 15) (.const (.bool true)) (Ja 28))] (.cond (Ja 29) v268c0 (.skip))
def v268c1 : CV := Jt [Jg 34 180 1 2, Jf 35 2 34, Jc 36 (.binOp .geq 2 (Ja 35) (Jb 0) 2), Jd 37 36, Jq 37 true 38 180 1 3, Jr 37 true 39 155 38, Js 37 true 40 (.call ⟨.builtin .len, #[(Ja 39)], #[155]⟩), Js 37 true 41 (.binOp .eql 3 (Ja 40) (Jb 0) 3), Jc 42 (.pick (Ja 37) (Ja 41) (.const (.bool false))), Jh 2 42] (.ret)
def v268c3 : CV := Jt [Jg 45 180 1 2, Jf 46 2 45, Jc 47 (.binOp .eql 2 (Ja 46) (Jb 0) 2), Jd 48 47, Jq 48 false 49 180 1 2, Jr 48 false 50 2 49, Js 48 false 51 (.binOp .eql 2 (Ja 50) (Jb 1) 2), Jc 52 (.pick (Ja 48) (.const (.bool true)) (Ja 51)), Jd 53 52, Jq 53 true 54 180 1 3, Jr 53 true 55 155 54, Js 53 true 56 (.call ⟨.builtin .len, #[(Ja 55)], #[155]⟩), Js 53 true 57 (.binOp .eql 3 (Ja 56) (Jb 0) 3), Jc 58 (.pick (Ja 53) (Ja 57) (.const (.bool false))), Jh 2 58] (.ret)
def v268c5 : CV := Jt [Jg 61 180 1 3, Jf 62 155 61, Jj 63 62 155, Jc 64 (.binOp .eql 3 (Ja 63) (Jb 0) 3), Jh 2 64] (.ret)
def v268c7 : CV := Jt [Jg 67 180 1 3, Jf 68 155 67, Jj 69 68 155, Jc 70 (.binOp .eql 3 (Ja 69) (Jb 1) 3), Jh 2 70] (.ret)
def v268c9 : CV := Jt [Jg 73 180 1 1, Jf 74 9 73, Jc 75 (.binOp .eql 9 (Ja 74) (.const (.string ⟨⟨[45]⟩⟩)) 9), Jd 76 75, Jq 76 false 77 180 1 1, Jr 76 false 78 9 77, Js 76 false 79 (.binOp .eql 9 (Ja 78) (.const (.string ⟨⟨[33]⟩⟩)) 9), Jc 80 (.pick (Ja 76) (.const (.bool true)) (Ja 79)), Jd 81 80, Jq 81 true 82 180 1 3, Jr 81 true 83 155 82, Js 81 true 84 (.call ⟨.builtin .len, #[(Ja 83)], #[155]⟩), Js 81 true 85 (.binOp .eql 3 (Ja 84) (Jb 1) 3), Jc 86 (.pick (Ja 81) (Ja 85) (.const (.bool false))), Jh 2 86] (.ret)
def v268c11 : CV := Jt [Jg 89 180 1 1, Jf 90 9 89, Jn 91 295 90 9, Jc 92 (.binOp .gtr 3 (Ja 91) (Jb 0) 3), Jd 93 92, Jq 93 true 94 180 1 3, Jr 93 true 95 155 94, Js 93 true 96 (.call ⟨.builtin .len, #[(Ja 95)], #[155]⟩), Js 93 true 97 (.binOp .eql 3 (Ja 96) (Jb 2) 3), Jc 98 (.pick (Ja 93) (Ja 97) (.const (.bool false))), Jh 2 98] (.ret)
def v268c10 : CV := Jt [Jc 88 (.binOp .eql 3 (Ja 31) (Jb 6) 3), Jh 87 88] (.cond (Ja 87) v268c11 (.skip))
def v268c8 : CV := Jt [Jc 72 (.binOp .eql 3 (Ja 31) (Jb 5) 3), Jh 71 72] (.cond (Ja 71) v268c9 v268c10)
def v268c6 : CV := Jt [Jc 66 (.binOp .eql 3 (Ja 31) (Jb 4) 3), Jh 65 66] (.cond (Ja 65) v268c7 v268c8)
def v268c4 : CV := Jt [Jc 60 (.binOp .eql 3 (Ja 31) (Jb 3) 3), Jh 59 60] (.cond (Ja 59) v268c5 v268c6)
def v268c2 : CV := Jt [Jc 44 (.binOp .eql 3 (Ja 31) (Jb 2) 3), Jh 43 44] (.cond (Ja 43) v268c3 v268c4)
def v268k0 : CV := Jt [Jc 33 (.binOp .eql 3 (Ja 31) (Jb 1) 3), Jh 32 33] (.cond (Ja 32) v268c1 v268c2)
def v268h2 : CV := Jt [Jg 30 180 1 0, Jf 31 3 30] (.block 0 v268k0)
def v268t3 : CV := Jt [Jc 2 (.assign (.const (.bool false)))] (.ret)
def v268t2 : CV := .seq v268h2 v268t3
def v268t1 : CV := .seq v268h1 v268t2
def v268 : CV := Jt [Jc 1 (.box 180 (Ja 0)), Jc 2 (.assign (.const (.bool false)))] v268t1
noncomputable def b268 : Code := f268.body.getD .skip
theorem b268_eq : f268.body = some b268 := by kernel_rfl
theorem v268_eq : viewC prog b268 = some v268 := by kernel_rfl
theorem r268_eq : f268.results.toList = [.tmp 2] := by kernel_rfl
structure WS where
 words : List (List UInt8)
 bad : Bool
 most : Nat
def WS.put (s : WS) (ws : List (List UInt8)) : WS := { s with words := s.words ++ ws }
def WS.need (s : WS) (ok : Bool) : WS := { s with bad := s.bad || !ok }
def WS.deep (s : WS) (d : Nat) : WS := { s with most := max s.most d }
def WS.name (s : WS) (n : List UInt8) : WS := (s.need (nameB n)).put [n]
theorem zfa {H : Heap} {v : AV} {es n : Nat} {cs : List AV} (h : Own H v es n cs) : Eng.scal v = true := by
 obtain ⟨_, _, ⟨rfl, _⟩ | ⟨b, row, rfl, _⟩⟩ := h <;> rfl
structure Wr (b : Nat) (H : Heap) (u : AV) (s : WS) : Prop where
 row : IsRow H b [u, .bool s.bad, .int .i64 (s.most : Int)] false false
 own : Own H u 1 s.words.length (s.words.flatMap txC)
 ne : ¬ ownB u b
structure Wk (b : Nat) (H : Heap) (u : AV) (H' : Heap) (u' : AV) : Prop where
 keep : Keep (fun c => c = b ∨ ownB u c) H H'
 new : ∀ c, ownB u' c → ownB u c ∨ H.nx ≤ c
theorem Wk.refl (b : Nat) (H : Heap) (u : AV) : Wk b H u H u := ⟨.refl _ _, fun _ h => .inl h⟩
theorem Wk.trans {b : Nat} {H H1 H2 : Heap} {u u1 u2 : AV} (h : Wk b H u H1 u1) (k : Wk b H1 u1 H2 u2) : Wk b H u H2 u2 :=
 ⟨h.keep.trans k.keep fun c hc => by
  rcases hc with hc | hc
  ·exact .inl (.inl hc)
  ·exact (h.new c hc).imp .inr id, fun c hc => by
  rcases k.new c hc with hc | hc
  ·exact h.new c hc
  ·exact .inr (Nat.le_trans h.keep.nx hc)⟩
theorem Wk.of {b : Nat} {H H' : Heap} {u : AV} (k : Keep Non H H') : Wk b H u H' u := ⟨k.wide fun _ h => h.elim, fun _ h => .inl h⟩
def Off (b : Nat) (H : Heap) (u : AV) (c : Nat) : Prop := c < H.nx ∧ c ≠ b ∧ ¬ ownB u c
theorem Wk.off {b : Nat} {H H' : Heap} {u u' : AV} (k : Wk b H u H' u') {c : Nat} (h : Off b H u c) : Off b H' u' c :=
 ⟨Nat.lt_of_lt_of_le h.1 k.keep.nx, h.2.1, fun hc => (k.new c hc).elim h.2.2 fun hn => by have := h.1; omega⟩
theorem Wk.row {b : Nat} {H H' : Heap} {u u' : AV} (k : Wk b H u H' u') {c : Nat} (h : Off b H u c) {cs : List AV} {tl ro : Bool} (hr : IsRow H c cs tl ro) : IsRow H' c cs tl ro :=
 hr.keep k.keep (.inl fun hc => hc.elim h.2.1 h.2.2)
theorem Wk.exp {A : Nat → Prop} {b : Nat} {H H' : Heap} {u u' : AV} (k : Wk b H u H' u') (h : ∀ c, A c → Off b H u c) {c : List AV} {e : Exp} (he : IsE A H c e) : IsE A H' c e :=
 he.keepS k.keep fun c hc hs => hs.elim (h c hc).2.1 (h c hc).2.2
theorem Wk.stm {A : Nat → Prop} {b : Nat} {H H' : Heap} {u u' : AV} (k : Wk b H u H' u') (h : ∀ c, A c → Off b H u c) {c : List AV} {e : Stm} (he : IsS A H c e) : IsS A H' c e :=
 he.keepS k.keep fun c hc hs => hs.elim (h c hc).2.1 (h c hc).2.2
theorem Wk.exps {A : Nat → Prop} {b : Nat} {H H' : Heap} {u u' : AV} (k : Wk b H u H' u') (h : ∀ c, A c → Off b H u c) {v : AV} {l : List Exp} (he : IsLs A (IsE A) 4 H v l) : IsLs A (IsE A) 4 H' v l :=
 he.keepS k.keep (fun c hc hs => hs.elim (h c hc).2.1 (h c hc).2.2) fun _ _ _ he => k.exp h he
theorem Wk.stms {A : Nat → Prop} {b : Nat} {H H' : Heap} {u u' : AV} (k : Wk b H u H' u') (h : ∀ c, A c → Off b H u c) {v : AV} {l : List Stm} (he : IsLs A (IsS A) 7 H v l) : IsLs A (IsS A) 7 H' v l :=
 he.keepS k.keep (fun c hc hs => hs.elim (h c hc).2.1 (h c hc).2.2) fun _ _ _ he => k.stm h he
theorem Wr.keep0 {b : Nat} {H H' : Heap} {u : AV} {s : WS} (h : Wr b H u s) (k : Keep Non H H') : Wr b H' u s := ⟨h.row.keep0 k, h.own.keep0 k, h.ne⟩
theorem Wr.lt {b : Nat} {H : Heap} {u : AV} {s : WS} (h : Wr b H u s) : b < H.nx := h.row.1
theorem Wr.fresh {b : Nat} {H H' : Heap} {u : AV} {s : WS} (h : Wr b H u s) (k : H.nx < H'.nx) : Off b H' u H.nx :=
 ⟨k, by have := h.lt; omega, fun hc => by have := h.own.lt hc; omega⟩
section
variable {tb : List FuncId} {gl : List (List AV)} {A : Nat → Prop} {H : Heap} {u v w : AV} {b : Nat} {s : WS} {Q : AV → Heap → Prop}
theorem zb6 {ws : List (List UInt8)} (hW : Wr b H u s) (hv : IsSl H v 1 ws.length (ws.flatMap txC)) (hl : s.words.length + ws.length < 1000000)
  (hQ : ∀ u' H', Wk b H u H' u' → Wr b H' u' (s.put ws) → Q (.tup []) H') : WpF prog tb gl 104 [.ptr b 0, v] H Q := by
 have hlim : limit = 1000000 := rfl
 refine fa func104 b104_eq v104_eq r104_eq (.inr (by simp)) ?_
 refine zaw ?_
 refine zae rfl ?_; (repeat ((refine zaa ?_; first | refine za5 rfl ?_ | refine zad FpF.h (by decide) rfl ?_ | refine zaf PlF.h rfl hW.row rfl ?_); refine zae rfl ?_))
 have hsc : scalL (ws.flatMap txC) = true := zej fun v hv => by
  obtain ⟨x, _, hx⟩ := List.mem_flatMap.1 hv
  rw [List.mem_singleton.1 hx]
  rfl
 refine zaa (zdu rfl rfl rfl ElF.h (.inl UnF.h) rfl hW.own rfl hv.elems hv.1 hsc (by omega) fun u' H1 ho hk hb => ?_)
 have hr1 := hW.row.keep hk (.inl hW.ne)
 refine zae rfl ?_; (repeat ((refine zaa ?_; first | refine za5 rfl ?_ | refine zad FpF.h (by decide) rfl ?_); refine zae rfl ?_))
 refine zaa (zcc SzF.h rfl rfl (zfa ho) hr1 (by simp) fun H2 hk2 hn2 hr2 => ?_)
 have hne : ¬ ownB u' b := fun h => (hb b h).elim hW.ne fun h => by have := hW.lt; omega
 refine zab ⟨_, rfl, hQ u' H2 ⟨(hk.wide fun c hc => Or.inr hc).trans hk2 fun c hc => .inl (.inl hc), hb⟩ ⟨hr2, ?_, hne⟩⟩
 have ho2 := ho.keep hk2 fun c hc h => hne (h ▸ hc)
 simp only [WS.put, List.length_append, List.flatMap_append]
 exact ho2
theorem zgw {ok : Bool} (hW : Wr b H u s) (hQ : ∀ H', Wk b H u H' u → Wr b H' u (s.need ok) → Q (.tup []) H') : WpF prog tb gl 167 [.ptr b 0, .bool ok] H Q := by
 have hlt := hW.lt
 refine fa func167 b167_eq v167_eq r167_eq (.inr (by simp)) ?_
 refine zaw ?_
 refine zae rfl ?_; (repeat ((refine zaa ?_; first | refine za5 rfl ?_ | refine zad FpF.h (by decide) rfl ?_ | refine zaf PlF.h rfl hW.row rfl ?_); refine zae rfl ?_))
 have fin : ∀ (l' : Fm), lk 12 l' = some (.bool (s.need ok).bad) → lk 4 l' = some (.ptr b 0) → IA prog tb gl [.op (some 13) (.nilCheck (.tmp 4)), .op (some 14) (.fieldAddr 150 (.tmp 13) 1), .op none (.store 4 (.tmp 14) (.tmp 12))] l' H (fun l' H' => leftA [] Q .normal l' H') := by
  intro l' h12 h4
  refine zaa (za5 (show evA (.tmp 4) l' = some (.ptr b 0) from h4) ?_)
  refine zaa (zad FpF.h (by decide) rfl ?_)
  refine zaa (zcc SzF.h rfl (show evA (.tmp 12) (stI (some 14) _ (stI (some 13) _ l')) = some (.bool (s.need ok).bad) from h12) rfl hW.row (by simp) fun H2 hk2 hn2 hr2 => ?_)
  refine zab ⟨_, rfl, hQ H2 ⟨hk2.wide fun c hc => Or.inl hc, fun c hc => .inl hc⟩ ⟨hr2, hW.own.keep hk2 fun c hc h => hW.ne (h ▸ hc), hW.ne⟩⟩
 cases hbad : s.bad with
 | true =>
  refine zbb rfl (zbb rfl ?_)
  refine zaa (zaz rfl rfl rfl ?_)
  exact fin _ (by simp only [WS.need, hbad]; rfl) rfl
 | false =>
  refine zav rfl (zal rfl (zav rfl (znw rfl ?_)))
  refine zaa (za1 rfl rfl ?_)
  exact fin _ (by simp only [WS.need, hbad]; rfl) rfl
theorem zen {n : List UInt8} (hW : Wr b H u s) (hK : KeysIn H) (hn : n.length < 9223372036854775808) (hl : s.words.length + 1 < 1000000)
  (hQ : ∀ u' H', Wk b H u H' u' → Wr b H' u' (s.name n) → Q (.tup []) H') : WpF prog tb gl 105 [.ptr b 0, S n] H Q := by
 refine fa func105 b105_eq v105_eq r105_eq (.inr (by simp)) ?_
 refine zac ?_
 refine zae rfl ?_
 refine zaa (zaj rfl rfl rfl (zsc n hn hK ?_))
 refine zaa (zaj rfl rfl rfl (zgw hW fun H1 k1 W1 => ?_))
 refine zab (zaw ?_)
 refine zae rfl ?_
 refine zaa (zar (n := 1) ElF.h (by decide) rfl rfl fun H2 hk2 hr2 => ?_)
 refine zaa (zaj rfl rfl rfl (zb6 (ws := [n]) (W1.keep0 hk2) (IsRow.sl (es := 1) (n := 1) hr2 rfl (Nat.le_refl 1)) hl fun u' H3 k3 W3 => ?_))
 exact zab ⟨_, rfl, hQ u' H3 ((k1.trans (.of hk2)).trans k3) W3⟩
theorem lev0 : callFO prog tb gl 9 295 [S [124, 124]] H = .ret (.int .i64 1) H := by kernel_rfl
theorem lev1 : callFO prog tb gl 9 295 [S [38, 38]] H = .ret (.int .i64 2) H := by kernel_rfl
theorem lev2 : callFO prog tb gl 9 295 [S [61, 61]] H = .ret (.int .i64 3) H := by kernel_rfl
theorem lev3 : callFO prog tb gl 9 295 [S [33, 61]] H = .ret (.int .i64 3) H := by kernel_rfl
theorem lev4 : callFO prog tb gl 9 295 [S [60]] H = .ret (.int .i64 3) H := by kernel_rfl
theorem lev5 : callFO prog tb gl 9 295 [S [60, 61]] H = .ret (.int .i64 3) H := by kernel_rfl
theorem lev6 : callFO prog tb gl 9 295 [S [43]] H = .ret (.int .i64 4) H := by kernel_rfl
theorem lev7 : callFO prog tb gl 9 295 [S [45]] H = .ret (.int .i64 4) H := by kernel_rfl
theorem lev8 : callFO prog tb gl 9 295 [S [42]] H = .ret (.int .i64 5) H := by kernel_rfl
theorem lev9 : callFO prog tb gl 9 295 [S [47]] H = .ret (.int .i64 5) H := by kernel_rfl
theorem lev10 : callFO prog tb gl 9 295 [S [37]] H = .ret (.int .i64 5) H := by kernel_rfl
theorem zmg (n : List UInt8) (hQ : Q (.int .i64 (levB n)) H) : WpF prog tb gl 295 [S n] H Q := by
 by_cases h0 : n = [124, 124]
 ·subst h0; exact ⟨9, _, _, lev0, hQ⟩
 by_cases h1 : n = [38, 38]
 ·subst h1; exact ⟨9, _, _, lev1, hQ⟩
 by_cases h2 : n = [61, 61]
 ·subst h2; exact ⟨9, _, _, lev2, hQ⟩
 by_cases h3 : n = [33, 61]
 ·subst h3; exact ⟨9, _, _, lev3, hQ⟩
 by_cases h4 : n = [60]
 ·subst h4; exact ⟨9, _, _, lev4, hQ⟩
 by_cases h5 : n = [60, 61]
 ·subst h5; exact ⟨9, _, _, lev5, hQ⟩
 by_cases h6 : n = [43]
 ·subst h6; exact ⟨9, _, _, lev6, hQ⟩
 by_cases h7 : n = [45]
 ·subst h7; exact ⟨9, _, _, lev7, hQ⟩
 by_cases h8 : n = [42]
 ·subst h8; exact ⟨9, _, _, lev8, hQ⟩
 by_cases h9 : n = [47]
 ·subst h9; exact ⟨9, _, _, lev9, hQ⟩
 by_cases h10 : n = [37]
 ·subst h10; exact ⟨9, _, _, lev10, hQ⟩
 have hl : levB n = 0 := by simp [levB, h0, h1, h2, h3, h4, h5, h6, h7, h8, h9, h10]
 rw [hl] at hQ
 refine fa func295 b295_eq v295_eq r295_eq (.inr (by simp)) ?_
 refine zac ?_
 refine zae rfl ?_
 refine zab (zak (zac ?_))
 refine zae rfl ?_
 refine zab (zam (zac ?_))
 refine zaa (zbq rfl rfl (decide_eq_false h0) ?_)
 refine zae rfl ?_
 refine zab (zag rfl (zac ?_))
 refine zaa (zbq rfl rfl (decide_eq_false h1) ?_)
 refine zae rfl ?_
 refine zab (zag rfl (zak (zac ?_)))
 refine zaa (zbq rfl rfl (decide_eq_false h2) ?_)
 refine zae rfl ?_
 refine zab (zag rfl (zac ?_))
 refine zaa (zbq rfl rfl (decide_eq_false h3) ?_)
 refine zae rfl ?_
 refine zab (zag rfl (zac ?_))
 refine zaa (zbq rfl rfl (decide_eq_false h4) ?_)
 refine zae rfl ?_
 refine zab (zag rfl (zaw ?_))
 refine zaa (zbq rfl rfl (decide_eq_false h5) ?_)
 refine zae rfl ?_
 refine zab (zag rfl (zak (zac ?_)))
 refine zaa (zbq rfl rfl (decide_eq_false h6) ?_)
 refine zae rfl ?_
 refine zab (zag rfl (zaw ?_))
 refine zaa (zbq rfl rfl (decide_eq_false h7) ?_)
 refine zae rfl ?_
 refine zab (zag rfl (zak (zac ?_)))
 refine zaa (zbq rfl rfl (decide_eq_false h8) ?_)
 refine zae rfl ?_
 refine zab (zag rfl (zac ?_))
 refine zaa (zbq rfl rfl (decide_eq_false h9) ?_)
 refine zae rfl ?_
 refine zab (zag rfl (zaw ?_))
 refine zaa (zbq rfl rfl (decide_eq_false h10) ?_)
 refine zae rfl ?_
 refine zab (zag rfl (zan (zac ?_)))
 refine zae rfl ?_
 exact zab (zao ⟨_, rfl, hQ⟩)
end
end Go.Proofs.YtbmedhaopnhggaaGreatDoor
