/-
  THE ENGINE, part P: what an operation looks at; the heap's next number never falls; reads of a larger heap.
-/
import Derived.Test.YtlajkdbpmkodpaaGreatDoorCore3
import Derived.Scope
namespace Go.Proofs.YtlajkdbpmkodpaaGreatDoor
namespace Eng
open Go
section
variable {P : Program}

/-! ### what an operation looks at -/
def looksT (x : Operand) (t : Tmp) : Prop := x = .tmp t
theorem ev_congr {T T' : Tm} {x : Operand} (h : ∀ t, x = .tmp t → T.get (bits t) = T'.get (bits t)) : ev x T = ev x T' := by
  cases x <;> simp only [ev]
  exact h _ rfl
theorem evL_congr {T T' : Tm} : ∀ {xs : List Operand}, (∀ t, .tmp t ∈ xs → T.get (bits t) = T'.get (bits t)) → evL xs T = evL xs T'
  | [], _ => rfl
  | x :: l, h => by
    simp only [evL]
    rw [ev_congr (x := x) fun t e => h t (by simp [e]), evL_congr (xs := l) fun t ht => h t (by simp [ht])]
theorem fillL_congr {T T' : Tm} {plc : Nat → Option (Nat × Nat)} : ∀ {ps : List (Nat × Operand)} {cells : List AV}, (∀ t, .tmp t ∈ ps.map (·.2) → T.get (bits t) = T'.get (bits t)) → fillL cells plc T ps = fillL cells plc T' ps
  | [], _, _ => rfl
  | (i, x) :: l, cells, h => by
    simp only [fillL]
    rw [ev_congr (x := x) fun t e => h t (by simp [e])]
    split
    · split
      · congr 1
        exact fillL_congr fun t ht => h t (by simp only [List.map_cons, List.mem_cons]; exact .inr ht)
      · rfl
    all_goals rfl
theorem boundOf_congr {T T' : Tm} {x : Option Operand} {d : Nat} (h : ∀ t, x = some (.tmp t) → T.get (bits t) = T'.get (bits t)) : boundOf x T d = boundOf x T' d := by
  cases x with
  | none => rfl
  | some x => simp only [boundOf]; rw [ev_congr fun t e => h t (by rw [e])]
theorem bnd3_congr {T T' : Tm} {lo hi mx : Option Operand} (h1 : ∀ t, lo = some (.tmp t) → T.get (bits t) = T'.get (bits t)) (h2 : ∀ t, hi = some (.tmp t) → T.get (bits t) = T'.get (bits t))
    (h3 : ∀ t, mx = some (.tmp t) → T.get (bits t) = T'.get (bits t)) (n c : Nat) : bnd3 lo hi mx T n c = bnd3 lo hi mx T' n c := by
  unfold bnd3
  rw [boundOf_congr h1, boundOf_congr h3]
  cases hi with
  | none => cases mx <;> rfl
  | some hi => simp only; rw [boundOf_congr h2]
theorem oper_congr {call : CallF} {o : Op} {T T' : Tm} (h : ∀ t, .tmp t ∈ o.operands → T.get (bits t) = T'.get (bits t)) : oper P call o T = oper P call o T' := by
  funext H
  cases o <;> simp only [oper] <;> simp only [Op.operands] at h
  case move x => simp only [oMove]; rw [ev_congr fun t e => h t (by simp [e])]
  case assign x => simp only [oMove]; rw [ev_congr fun t e => h t (by simp [e])]
  case pick c x y => simp only [oPick]; rw [ev_congr (x := c) fun t e => h t (by simp [e]), ev_congr (x := x) fun t e => h t (by simp [e]), ev_congr (x := y) fun t e => h t (by simp [e])]
  case box t x => simp only [oBox]; rw [ev_congr (x := x) fun t e => h t (by simp [e])]
  case build t ps =>
    simp only [oBuild]
    have : ∀ cells plc, fillL cells plc T ps.toList = fillL cells plc T' ps.toList := fun cells plc => fillL_congr fun t ht => h t (by simpa using ht)
    simp only [this]
  case buildSlice t n ps =>
    simp only [oBuildSlice]
    have : ∀ cells plc, fillL cells plc T ps.toList = fillL cells plc T' ps.toList := fun cells plc => fillL_congr fun t ht => h t (by simpa using ht)
    simp only [this]
  case load t x => simp only [oLoad]; rw [ev_congr (x := x) fun t e => h t (by simp [e])]
  case store t x y => simp only [oStore]; rw [ev_congr (x := x) fun t e => h t (by simp [e]), ev_congr (x := y) fun t e => h t (by simp [e])]
  case nilCheck x => simp only [oNilCheck]; rw [ev_congr (x := x) fun t e => h t (by simp [e])]
  case binOp op t x y yt => simp only [oBin]; rw [ev_congr (x := x) fun t e => h t (by simp [e]), ev_congr (x := y) fun t e => h t (by simp [e])]
  case unOp op t x => simp only [oUn]; rw [ev_congr (x := x) fun t e => h t (by simp [e])]
  case convert s d x => simp only [oConvert]; rw [ev_congr (x := x) fun t e => h t (by simp [e])]
  case makeInterface t x => simp only [oMakeIface]; rw [ev_congr (x := x) fun t e => h t (by simp [e])]
  case makeFunc fn f c => simp only [oMakeFunc]; rw [evL_congr fun t e => h t (by simp at e ⊢; exact .inr e)]
  case makeSlice t l c => simp only [oMakeSlice]; rw [ev_congr (x := l) fun t e => h t (by simp [e]), ev_congr (x := c) fun t e => h t (by simp [e])]
  case slice t x lo hi mx =>
    simp only [oSlice]
    rw [ev_congr (x := x) fun t e => h t (by simp [e])]
    have hlo : ∀ t, lo = some (.tmp t) → T.get (bits t) = T'.get (bits t) := fun t e => h t (by simp [e])
    have hhi : ∀ t, hi = some (.tmp t) → T.get (bits t) = T'.get (bits t) := fun t e => h t (by simp [e])
    have hmx : ∀ t, mx = some (.tmp t) → T.get (bits t) = T'.get (bits t) := fun t e => h t (by simp [e])
    have hb : ∀ n c, bnd3 lo hi mx T n c = bnd3 lo hi mx T' n c := bnd3_congr hlo hhi hmx
    have hb0 : ∀ n c, bnd3 lo hi none T n c = bnd3 lo hi none T' n c := bnd3_congr hlo hhi (fun t e => by cases e)
    have hb1 : ∀ m n c, mx = some m → bnd3 lo hi (some m) T n c = bnd3 lo hi (some m) T' n c := fun m n c e => e ▸ hb n c
    cases mx with
    | none => simp only [oSliceS, hb]
    | some m => simp only [oSliceS, hb]
  case fieldAddr t x f => simp only [oFieldAddr]; rw [ev_congr (x := x) fun t e => h t (by simp [e])]
  case field t x f => simp only [oField]; rw [ev_congr (x := x) fun t e => h t (by simp [e])]
  case indexAddr t x i => simp only [oIndexAddr]; rw [ev_congr (x := x) fun t e => h t (by simp [e]), ev_congr (x := i) fun t e => h t (by simp [e])]
  case index t x i => simp only [oIndex]; rw [ev_congr (x := x) fun t e => h t (by simp [e]), ev_congr (x := i) fun t e => h t (by simp [e])]
  case lookup t x i ok => simp only [oLookup]; rw [ev_congr (x := x) fun t e => h t (by simp [e]), ev_congr (x := i) fun t e => h t (by simp [e])]
  case mapUpdate t m k x => simp only [oMapUpdate]; rw [ev_congr (x := m) fun t e => h t (by simp [e]), ev_congr (x := k) fun t e => h t (by simp [e]), ev_congr (x := x) fun t e => h t (by simp [e])]
  case typeAssert x xt t ok => simp only [oAssert]; rw [ev_congr (x := x) fun t e => h t (by simp [e])]
  case extract x i => simp only [oExtract]; rw [ev_congr (x := x) fun t e => h t (by simp [e])]
  case panic x => simp only [oPanic]; rw [ev_congr (x := x) fun t e => h t (by simp [e])]
  case call c =>
    simp only [oCall]
    rw [evL_congr fun t e => h t (by have e' := Array.mem_toList_iff.1 e; simp [Call.operands, e'])]
    split
    · cases hc : c.callee <;> simp only
      · rename_i f; rw [ev_congr (x := f) fun t e => h t (by simp [Call.operands, hc, e])]
    · rfl
  case defer c =>
    simp only [oDefer]
    rw [evL_congr fun t e => h t (by have e' := Array.mem_toList_iff.1 e; simp [Call.operands, e'])]
    split
    · cases hc : c.callee <;> simp only
      · rename_i f; rw [ev_congr (x := f) fun t e => h t (by simp [Call.operands, hc, e])]
    · rfl

/-! ### the next number never falls -/
def MR (H : Heap) : OR → Prop
  | .val _ H' => H.nx ≤ H'.nx
  | .pan _ _ => False
  | .dfr _ _ => False
  | .rcv => False
  | .bad => True
theorem MR.bad {H : Heap} : MR H .bad := trivial
theorem MR.val {H : Heap} {v : AV} : MR H (.val v H) := Nat.le_refl _
theorem putC_MR {H : Heap} {t : Tr AV} {i : Nat} {vs : List AV} {k : Tr AV → OR} (h : ∀ t, MR H (k t)) : MR H (putC t i vs .bad k) := by
  rcases putC_eq vs t i OR.bad k with ⟨e, _⟩ | e <;> rw [e]
  · exact h _
  · exact .bad
theorem newOpen_MR {H : Heap} {n es : Nat} {l : List AV} : MR H (newOpen H n es l) := by
  unfold newOpen
  simp only [layC_eq, fN_eq, newB_eq]
  cases (!Nat.blt n limit) <;> simp [MR]
theorem MR.le {H H1 : Heap} {r : OR} (h : H.nx ≤ H1.nx) (k : MR H1 r) : MR H r := by
  cases r <;> simp only [MR] at * <;> omega
theorem okV_MR {v : Option AV} {H : Heap} : MR H (okV v H) := by cases v <;> simp [okV, MR]
theorem oPart_MR {l : List AV} {p : Plc} {H : Heap} : MR H (oPart l p H) := by unfold oPart; simp only [fL_eq]; split <;> simp [MR]
theorem loadR_MR {H : Heap} {b i n : Nat} {g : Bool} : MR H (loadR H b i g n) := by
  unfold loadR; split
  · cases g <;> simp only [cond_true, cond_false] <;> split <;> simp [MR]
  · trivial
theorem cond_MR {H : Heap} {c : Bool} {x y : OR} (h : MR H x) (k : MR H y) : MR H (bif c then x else y) := by cases c <;> assumption
theorem eqOp_MR {op : BinOp} {c : Bool} {H : Heap} : MR H (eqOp op c H) := by unfold eqOp; simp only [fB_eq]; split <;> simp [MR]
theorem strOp_MR {op : BinOp} {l x m y : Nat} {H : Heap} : MR H (strOp op l x m y H) := by
  unfold strOp; simp only [fB_eq, fN_eq]; split <;> first | (apply cond_MR <;> simp [MR]; done) | simp [MR]
theorem shiftOp_MR {op : BinOp} {k : IntKind} {x y : Int} {H : Heap} : MR H (shiftOp op k x y H) := by unfold shiftOp; simp only [fI_eq, fN_eq]; split <;> simp [MR]
theorem intOp_MR {op : BinOp} {k : IntKind} {x y : Int} {H : Heap} : MR H (intOp op k x y H) := by
  unfold intOp; simp only [fI_eq, fN_eq, fB_eq]
  split <;> first | (apply cond_MR <;> simp [MR]; done) | (simp [MR]; done) | (split <;> first | (apply cond_MR <;> simp [MR]; done) | (simp [MR]; done))
theorem oSliceR_MR {b o z : Nat} {B : Option (Nat × Nat × Nat)} {H : Heap} : MR H (oSliceR b o z B H) := by unfold oSliceR; simp only [fN_eq]; split <;> simp [MR]
theorem oSliceO_MR {b o z n : Nat} {B : Option (Nat × Nat × Nat)} {H : Heap} : MR H (oSliceO b o z n B H) := by
  unfold oSliceO; simp only [fN_eq]; split
  · apply cond_MR <;> simp [MR]
  · trivial
theorem oSliceS_MR {lo hi mx : Option Operand} {n s : Nat} {T : Tm} {H : Heap} : MR H (oSliceS lo hi mx n s T H) := by
  unfold oSliceS; simp only [fN_eq]; split
  · trivial
  · split <;> simp [MR]
theorem copyR_MR {H : Heap} {b o n es m : Nat} {l : List AV} : MR H (copyR H b o n es m l) := by
  unfold copyR; simp only [fN_eq, setB_eq]; split
  · exact putC_MR fun _ => by simp [MR]
  · trivial
theorem clearR_MR {H : Heap} {b o n : Nat} {l : List AV} : MR H (clearR H b o n l) := by
  unfold clearR; simp only [setB_eq]; split
  · exact putC_MR fun _ => by simp [MR]
  · trivial
theorem storeR_MR {H : Heap} {b i : Nat} {l : List AV} : MR H (storeR H b i l) := by
  unfold storeR; simp only [setB_eq]; split
  · exact putC_MR fun _ => by simp [MR]
  · trivial
theorem appendR_MR {H : Heap} {s : AV} {es m : Nat} {l : List AV} : MR H (appendR H s es m l) := by
  unfold appendR
  simp only [fN_eq, setB_eq, layC_eq, newB_eq]
  split
  · exact cond_MR .val newOpen_MR
  · apply cond_MR
    · split
      · exact putC_MR fun _ => by simp [MR]
      · trivial
    · split
      · split
        · exact newOpen_MR
        · trivial
      · trivial
  · apply cond_MR
    · split
      · apply cond_MR
        · exact putC_MR fun _ => by simp [MR]
        · apply cond_MR
          · apply cond_MR
            · simp [MR]
            · split
              · exact MR.le (Nat.le_refl _) newOpen_MR
              · trivial
          · trivial
      · trivial
    · trivial
  · apply cond_MR
    · split
      · exact MR.le (Nat.le_refl _) newOpen_MR
      · trivial
    · trivial
  · trivial
theorem oBuiltin_MR {b : Builtin} (hb : b ≠ .panic) (hr : b ≠ .recover) {ts : List TypeId} {xs : List AV} {H : Heap} : MR H (oBuiltin P b ts xs H) := by
  unfold oBuiltin
  split
  · unfold oAppend appS
    split
    · split
      · split
        · exact cond_MR appendR_MR .bad
        · trivial
      · split
        · exact cond_MR appendR_MR .bad
        · trivial
      · trivial
    · trivial
  · unfold oCopy
    split
    · split
      · split
        · exact copyR_MR
        · exact cond_MR copyR_MR .bad
        · exact .val
        · trivial
      · trivial
    · trivial
  · unfold oClear
    split
    · split
      · split
        · exact .val
        · exact clearR_MR
        · exact cond_MR clearR_MR .bad
        · trivial
      · trivial
    · trivial
  · unfold oLen
    split
    · split <;> first | exact .val | trivial | (split <;> first | exact .val | trivial)
    · trivial
  · unfold oCap
    split
    · split <;> first | exact .val | trivial
    · trivial
  · unfold oMinMax; simp only [fI_eq]; split <;> simp [MR]
  · unfold oMinMax; simp only [fI_eq]; split <;> simp [MR]
  · exact absurd rfl hb
  · exact absurd rfl hr
  · trivial
def MC (call : CallF) : Prop := ∀ f xs H, match call f xs H with | .ret _ H' => H.nx ≤ H'.nx | .pan _ H' => H.nx ≤ H'.nx | .bad => True
theorem newR_MR {H : Heap} {vs : List AV} : MR H (newR H vs) := by unfold newR; simp [layC_eq, fN_eq, newB_eq, MR]
theorem oper_MR {call : CallF} {o : Op} (h1 : ∀ c, o ≠ .call c) (h2 : ∀ c, o ≠ .defer c) (h3 : ∀ x, o ≠ .panic x) {T : Tm} {H : Heap} : MR H (oper P call o T H) := by
  cases o <;> simp only [oper]
  case move => exact okV_MR
  case assign => exact okV_MR
  case pick => unfold oPick; split <;> first | exact okV_MR | trivial
  case alloc => unfold oAlloc; split <;> first | exact newR_MR | trivial
  case box => unfold oBox; split <;> first | exact newR_MR | trivial
  case build =>
    unfold oBuild
    split
    · apply cond_MR
      · split <;> first | exact .val | trivial
      · trivial
    · split
      · split <;> first | exact .val | trivial
      · trivial
    · trivial
  case buildSlice =>
    unfold oBuildSlice; simp only [layC_eq, fN_eq, newB_eq]
    split
    · apply cond_MR
      · split <;> simp [MR]
      · trivial
    · trivial
  case load => unfold oLoad; split <;> first | exact loadR_MR | trivial
  case store => unfold oStore; split <;> first | exact cond_MR storeR_MR .bad | trivial
  case nilCheck => unfold oNilCheck; split <;> first | exact .val | trivial
  case binOp =>
    unfold oBin
    split <;> first
      | trivial
      | exact strOp_MR
      | (split <;> first | exact shiftOp_MR | exact eqOp_MR | trivial | exact cond_MR intOp_MR .bad | (split <;> first | exact eqOp_MR | trivial) | (apply cond_MR .bad; split <;> first | exact eqOp_MR | trivial))
  case unOp => unfold oUn; simp only [fB_eq, fI_eq]; split <;> first | exact .val | trivial
  case convert =>
    unfold oConvert; simp only [fI_eq, fN_eq]
    split
    · exact .val
    · exact .val
    · split
      · exact cond_MR newOpen_MR .bad
      · trivial
    · split
      · apply cond_MR .bad
        split
        · split <;> first | exact .val | trivial
        · trivial
      · trivial
    · trivial
  case makeInterface => unfold oMakeIface; split <;> first | exact .val | trivial
  case makeFunc => unfold oMakeFunc; split <;> first | exact .val | trivial
  case makeMap => unfold oMakeMap; simp only [newB_eq]; split <;> simp [MR]
  case makeSlice =>
    unfold oMakeSlice; simp only [layC_eq, fN_eq, newB_eq]
    split
    · apply cond_MR <;> simp [MR]
    · trivial
  case slice =>
    unfold oSlice
    split
    · exact oSliceS_MR
    · split <;> first | exact .val | trivial
    · split <;> first | exact oSliceR_MR | trivial
    · split
      · apply cond_MR
        · split <;> first | exact oSliceO_MR | exact oSliceR_MR
        · trivial
      · trivial
    · split <;> first | exact oSliceR_MR | trivial
    · trivial
  case fieldAddr => unfold oFieldAddr; simp only [fN_eq]; split <;> first | exact cond_MR .bad .val | trivial
  case field => unfold oField; split <;> first | exact oPart_MR | trivial
  case indexAddr => unfold oIndexAddr; simp only [fN_eq]; split <;> first | trivial | (split <;> first | exact .val | trivial)
  case index => unfold oIndex; simp only [fN_eq]; split <;> first | trivial | (split <;> first | exact .val | exact oPart_MR | trivial)
  case lookup =>
    unfold oLookup
    split
    · split
      · apply cond_MR
        · split
          · exact cond_MR .val .val
          · exact cond_MR .val .val
          · trivial
        · unfold lookS
          split
          · split
            · exact cond_MR .val .val
            · exact cond_MR .val .val
            · trivial
          · trivial
      · trivial
    · trivial
  case mapUpdate =>
    unfold oMapUpdate; simp only [setB_eq]
    split
    · split
      · apply cond_MR
        · split <;> simp [MR]
        · split <;> simp [MR]
      · trivial
    · trivial
  case typeAssert =>
    unfold oAssert
    split
    · trivial
    · apply cond_MR
      · exact cond_MR .val .val
      · apply cond_MR
        · split <;> first | exact .val | trivial
        · trivial
    · trivial
  case extract => unfold oExtract; split <;> first | exact okV_MR | trivial
  case call => exact absurd rfl (h1 _)
  case defer => exact absurd rfl (h2 _)
  case panic => exact absurd rfl (h3 _)
  all_goals trivial
/-- what a call of a builtin gives -/
theorem oCall_cases {call : CallF} {c : Call} {T : Tm} {H : Heap} : MR H (oCall P call c T H) ∨
    (∃ xs t v, evL c.args.toList T = some xs ∧ c.callee = .builtin .panic ∧ xs = [.ifc t v] ∧ oCall P call c T H = .pan (.ifc t v) H) ∨
    (∃ xs f g l, evL c.args.toList T = some xs ∧ c.callee = .value f ∧ ev f T = some (.fn g l) ∧ oCall P call c T H = ofCall (call g (xs ++ l) H)) ∨ (c.callee = .builtin .recover ∧ oCall P call c T H = .rcv) := by
  unfold oCall
  split
  · rename_i xs hxs
    split
    · rename_i b hb
      by_cases hp : b = .panic
      · subst hp
        simp only [oBuiltin]
        split
        · rename_i t v; exact .inr (.inl ⟨_, t, v, hxs, hb, rfl, rfl⟩)
        · exact .inl trivial
      · by_cases hr : b = .recover
        · subst hr; exact .inr (.inr (.inr ⟨hb, rfl⟩))
        · exact .inl (oBuiltin_MR hp hr)
    · rename_i f hf
      split
      · rename_i g l hg; exact .inr (.inr (.inl ⟨xs, f, g, l, hxs, hf, hg, rfl⟩))
      · exact .inl trivial
    · exact .inl trivial
  · exact .inl trivial
theorem oPanic_cases {x : Operand} {T : Tm} {H : Heap} : oPanic x T H = .bad ∨ ∃ t v, ev x T = some (.ifc t v) ∧ oPanic x T H = .pan (.ifc t v) H := by
  unfold oPanic
  split
  · rename_i t v h; exact .inr ⟨t, v, h, rfl⟩
  · exact .inl rfl
theorem oDefer_cases {c : Call} {T : Tm} : oDefer c T = .bad ∨ ∃ xs f g l, evL c.args.toList T = some xs ∧ c.callee = .value f ∧ ev f T = some (.fn g l) ∧ oDefer c T = .dfr g (xs ++ l) := by
  unfold oDefer
  split
  · rename_i xs hxs
    split
    · rename_i f hf
      split
      · rename_i g l hg; exact .inr ⟨xs, f, g, l, hxs, hf, hg, rfl⟩
      · exact .inl rfl
    · exact .inl rfl
  · exact .inl rfl
theorem oper_bad {call : CallF} {o : Op} {T : Tm} {H H' : Heap} {v : AV} (hcl : cls P o = .bad) (h : oper P call o T H = .val v H') : False := by
  cases o <;> simp only [cls] at hcl <;> simp only [oper] at h
  case convert =>
    unfold oConvert at h
    split at h
    · rename_i hs hd _; rw [hs, hd] at hcl; cases hcl
    · rename_i hs hd _; rw [hs, hd] at hcl; cases hcl
    · rename_i hs hd _; rw [hs, hd] at hcl; cases hcl
    · rename_i hs hd _; rw [hs, hd] at hcl; cases hcl
    · cases h
  case slice => split at hcl <;> cases hcl
  case call c =>
    obtain ⟨ca, cb, cc⟩ := c
    cases ca <;> simp only [] at hcl
    · cases hcl
    · cases hcl
    · rename_i b
      cases b <;> simp only at hcl <;> (try cases hcl)
      all_goals first
        | (split at hcl <;> cases hcl; done)
        | (simp only [oCall, oBuiltin] at h; split at h <;> cases h)
  all_goals first | (cases h; done) | (cases hcl; done)
/-- the next number never falls -/
theorem oper_mono {call : CallF} (hc : MC call) {o : Op} {T : Tm} {H H' : Heap} {v : AV} (h : oper P call o T H = .val v H' ∨ oper P call o T H = .pan v H') : H.nx ≤ H'.nx := by
  have fin : MR H (oper P call o T H) → H.nx ≤ H'.nx := fun k => by
    rcases h with h | h <;> rw [h] at k
    · exact k
    · exact k.elim
  by_cases h1 : ∃ c, o = .call c
  · obtain ⟨c, rfl⟩ := h1
    simp only [oper] at h fin
    rcases oCall_cases (P := P) (call := call) (c := c) (T := T) (H := H) with k | ⟨xs, t, u, _, _, _, e⟩ | ⟨xs, f, g, l, _, _, _, e⟩ | ⟨_, e⟩
    · exact fin k
    · rw [e] at h
      rcases h with h | h
      · cases h
      · injection h with _ h2; exact Nat.le_of_eq (by rw [h2])
    · rw [e] at h
      have := hc g (xs ++ l) H
      revert this h
      cases call g (xs ++ l) H <;> simp only [ofCall]
      · rintro (h | h) <;> cases h
      · rintro (h | h) <;> first | (injection h with _ h2; rw [h2]; exact id) | cases h
      · rintro (h | h) <;> first | (injection h with _ h2; rw [h2]; exact id) | cases h
    · rw [e] at h; rcases h with h | h <;> cases h
  · by_cases h2 : ∃ c, o = .defer c
    · obtain ⟨c, rfl⟩ := h2
      simp only [oper] at h
      rcases oDefer_cases (c := c) (T := T) with e | ⟨xs, f, g, l, _, _, _, e⟩ <;> rw [e] at h <;> rcases h with h | h <;> cases h
    · by_cases h3 : ∃ x, o = .panic x
      · obtain ⟨x, rfl⟩ := h3
        simp only [oper] at h
        rcases oPanic_cases (x := x) (T := T) (H := H) with e | ⟨t, u, _, e⟩ <;> rw [e] at h <;> rcases h with h | h <;> first | (cases h; done) | (injection h with _ h2; exact Nat.le_of_eq (by rw [h2]))
      · exact fin (oper_MR (fun c e => h1 ⟨c, e⟩) (fun c e => h2 ⟨c, e⟩) fun x e => h3 ⟨x, e⟩)
theorem cond_none {β : Type} {c : Bool} {x y : β} {z : β} (h : (bif c then x else y) = z) (hx : x ≠ z) : c = false ∧ y = z := by
  cases c with
  | false => exact ⟨rfl, h⟩
  | true => exact absurd h hx
/-! ### reads of a larger heap -/
def Big (H H2 : Heap) : Prop := ∀ b B, getB H b = some B → getB H2 b = some B
theorem elemsOf_ext {H H2 : Heap} (hb : Big H H2) {v : AV} {es : Nat} {r : Nat × List AV} (h : elemsOf H v es = some r) : elemsOf H2 v es = some r := by
  unfold elemsOf at h ⊢
  split at h
  · exact h
  · exact h
  · exact h
  · exact h
  · split at h
    · rename_i hB; rw [hb _ _ hB]; exact h
    · cases h
  · obtain ⟨hc, h⟩ := cond_some h (by simp)
    rw [hc, cond_true]
    split at h
    · rename_i hB; rw [hb _ _ hB]; exact h
    · cases h
  · cases h
theorem loadR_ext {H H2 H' : Heap} (hb : Big H H2) {b i n : Nat} {g : Bool} {v : AV} (h : loadR H b i g n = .val v H') : loadR H2 b i g n = .val v H2 := by
  unfold loadR at h ⊢
  split at h
  · rename_i t _ _ _ hB
    rw [hb _ _ hB]
    cases g
    · simp only [cond_false] at h ⊢
      split at h
      · injection h with h1 h2; subst h1; rfl
      · cases h
    · simp only [cond_true] at h ⊢
      split at h
      · injection h with h1 h2; subst h1; rfl
      · cases h
  · cases h
theorem knownC_ext {H H2 : Heap} (hb : Big H H2) {b o es n : Nat} (h : knownC H b o es = some n) : knownC H2 b o es = some n := by
  unfold knownC at h ⊢
  split at h
  · rename_i hB; rw [hb _ _ hB]; exact h
  · cases h
theorem oSliceR_ext {H H2 H' : Heap} {b o z : Nat} {B : Option (Nat × Nat × Nat)} {v : AV} (h : oSliceR b o z B H = .val v H') : oSliceR b o z B H2 = .val v H2 := by
  unfold oSliceR at h ⊢
  simp only [fN_eq] at h ⊢
  split at h
  · injection h with h1 h2; subst h1; rfl
  · cases h
theorem oSliceO_ext {H H2 H' : Heap} {b o z n : Nat} {B : Option (Nat × Nat × Nat)} {v : AV} (h : oSliceO b o z n B H = .val v H') : oSliceO b o z n B H2 = .val v H2 := by
  unfold oSliceO at h ⊢
  simp only [fN_eq] at h ⊢
  split at h
  · rename_i l hh m
    cases hc : Nat.blt l n <;> rw [hc] at h <;> simp only [cond_true, cond_false] at h ⊢ <;> (injection h with h1 h2; subst h1; rfl)
  · cases h
theorem oper_ext {call : CallF} {o : Op} {T : Tm} {H H2 H' : Heap} {v : AV} (hcl : cls P o = .read) (hb : Big H H2) (h : oper P call o T H = .val v H') : oper P call o T H2 = .val v H2 := by
  cases o <;> simp only [cls] at hcl <;> simp only [oper] at h ⊢
  case load t x =>
    unfold oLoad at h ⊢
    split at h
    · exact loadR_ext hb h
    · cases h
  case lookup t m x ok =>
    unfold oLookup at h ⊢
    split at h
    · split at h
      · rename_i hd hB hz
        rw [hd, hb _ _ hB, hz]
        simp only at h ⊢
        rename_i d es z
        cases hc : plainK d with
        | true =>
          rw [hc, cond_true] at h
          rw [cond_true]
          split at h
          · cases ok <;> simp only [cond_true, cond_false] at h ⊢ <;> (injection h with h1 h2; subst h1; rfl)
          · cases ok <;> simp only [cond_true, cond_false] at h ⊢ <;> (injection h with h1 h2; subst h1; rfl)
          · cases h
        | false =>
          rw [hc, cond_false] at h
          rw [cond_false]
          unfold lookS at h ⊢
          split at h
          · split at h
            · cases ok <;> simp only [cond_true, cond_false] at h ⊢ <;> (injection h with h1 h2; subst h1; rfl)
            · cases ok <;> simp only [cond_true, cond_false] at h ⊢ <;> (injection h with h1 h2; subst h1; rfl)
            · cases h
          · cases h
      · cases h
    · cases h
  case convert s d x =>
    unfold oConvert at h ⊢
    split at h
    · rename_i hs hd _; rw [hs, hd] at hcl; cases hcl
    · rename_i hs hd _; rw [hs, hd] at hcl; cases hcl
    · rename_i hs hd _; rw [hs, hd] at hcl; cases hcl
    · split at h
      · obtain ⟨hc, h⟩ := cond_none h (by simp)
        rw [hc, cond_false]
        split at h
        · rename_i n l hel
          rw [elemsOf_ext hb hel]
          simp only [fN_eq] at h ⊢
          split at h
          · injection h with h1 h2; subst h1; rfl
          · cases h
        · cases h
      · cases h
    · cases h
  case slice t x lo hi mx =>
    unfold oSlice at h ⊢
    split at h
    · rename_i hu _; rw [hu] at hcl; cases hcl
    · split at h
      · injection h with h1 h2; subst h1; rfl
      · cases h
    · split at h
      · exact oSliceR_ext h
      · cases h
    · split at h
      · rename_i hz hk
        rw [hz, knownC_ext hb hk]
        obtain ⟨hc, h⟩ := cond_some h (by simp)
        simp only at h ⊢
        rw [hc, cond_true]
        split at h
        · exact oSliceO_ext h
        · exact oSliceR_ext h
      · cases h
    · rename_i hu _; rw [hu] at hcl; cases hcl
    · cases h
  case call c =>
    simp only [oCall] at h ⊢
    split at h
    · split at h
      · rename_i b hb'
        obtain ⟨ca, cb, cc⟩ := c
        simp only at hb'
        subst hb'
        cases b <;> simp only [] at hcl <;> (try cases hcl) <;> simp only [oBuiltin] at h ⊢
        · unfold oCap at h ⊢
          split at h
          · split at h <;> first | (injection h with h1 h2; subst h1; rfl) | cases h
          · cases h
        · unfold oLen at h ⊢
          split at h
          · split at h <;> first
              | (injection h with h1 h2; subst h1; rfl)
              | (split at h
                 · rename_i hB; rw [hb _ _ hB]; injection h with h1 h2; subst h1; rfl
                 · cases h)
              | cases h
          · cases h
      · rename_i f hf
        obtain ⟨ca, cb, cc⟩ := c
        simp only at hf; subst hf; simp only [] at hcl; cases hcl
      · cases h
    · cases h
  all_goals first | cases hcl | (simp at hcl; done)
end
end Eng
end Go.Proofs.YtlajkdbpmkodpaaGreatDoor
namespace Go.Proofs.YtlajkdbpmkodpaaGreatDoor
namespace Eng
open Go

/-! ### what waits for what -/
theorem fold_bits (f : Nat → Nat) (b : Nat) : ∀ (ns : List Nat) (m : Nat), (ns.foldl (fun m n => m ||| 2 ^ n ||| f n) m).testBit b = (m.testBit b || ns.any fun n => decide (n = b) || (f n).testBit b)
  | [], m => by simp
  | n :: ns, m => by
    rw [List.foldl_cons, fold_bits f b ns]
    simp only [Nat.testBit_or, Nat.testBit_two_pow, List.any_cons, Bool.or_assoc]
theorem reach_pre : ∀ (ds : List ON) (acc : List Nat), (reach ds acc).take acc.length = acc ∧ (reach ds acc).length = acc.length + ds.length
  | [], acc => by simp [reach]
  | d :: ds, acc => by
    obtain ⟨h1, h2⟩ := reach_pre ds (acc ++ [d.ns.foldl (fun m n => m ||| 2 ^ n ||| acc.getD n 0) 0])
    rw [reach]
    refine ⟨?_, by rw [h2]; simp; omega⟩
    have := congrArg (List.take acc.length) h1
    rw [List.take_take] at this
    simpa using this
theorem reach_get : ∀ (ds : List ON) (acc : List Nat) (i : Nat) (d : ON), ds[i]? = some d →
    (reach ds acc)[acc.length + i]? = some (d.ns.foldl (fun m n => m ||| 2 ^ n ||| ((reach ds acc).take (acc.length + i)).getD n 0) 0)
  | [], acc, i, d, h => by simp at h
  | e :: ds, acc, 0, d, h => by
    simp at h; subst h
    rw [reach]
    obtain ⟨h1, h2⟩ := reach_pre ds (acc ++ [e.ns.foldl (fun m n => m ||| 2 ^ n ||| acc.getD n 0) 0])
    have h3 : ((reach ds (acc ++ [e.ns.foldl (fun m n => m ||| 2 ^ n ||| acc.getD n 0) 0])).take acc.length) = acc := by
      have := congrArg (List.take acc.length) h1
      rw [List.take_take] at this
      simpa using this
    rw [Nat.add_zero, h3]
    have h4 : ((reach ds (acc ++ [e.ns.foldl (fun m n => m ||| 2 ^ n ||| acc.getD n 0) 0])).take (acc ++ [e.ns.foldl (fun m n => m ||| 2 ^ n ||| acc.getD n 0) 0]).length)[acc.length]? = some (e.ns.foldl (fun m n => m ||| 2 ^ n ||| acc.getD n 0) 0) := by
      rw [h1]; simp
    rw [List.getElem?_take, if_pos (by simp)] at h4
    exact h4
  | e :: ds, acc, i + 1, d, h => by
    rw [reach]
    have := reach_get ds (acc ++ [e.ns.foldl (fun m n => m ||| 2 ^ n ||| acc.getD n 0) 0]) i d (by simpa using h)
    have e1 : (acc ++ [e.ns.foldl (fun m n => m ||| 2 ^ n ||| acc.getD n 0) 0]).length + i = acc.length + (i + 1) := by simp; omega
    rw [e1] at this
    exact this
theorem bef_iff {ds : List ON} (he : edgesOk ds = true) {i j : Nat} {d : ON} (hj : ds[j]? = some d) : bef (reach ds []) i j = true ↔ ∃ k ∈ d.ns, k = i ∨ bef (reach ds []) i k = true := by
  have h := reach_get ds [] j d hj
  simp only [List.length_nil, Nat.zero_add] at h
  unfold bef
  rw [List.getD_eq_getElem?_getD, h, Option.getD_some, fold_bits]
  simp only [Nat.zero_testBit, Bool.false_or, List.any_eq_true, Bool.or_eq_true, decide_eq_true_iff]
  have hlt : ∀ k ∈ d.ns, k < j := by
    unfold edgesOk at he
    rw [List.all_eq_true] at he
    have hjl : j < ds.length := (List.getElem?_eq_some_iff.1 hj).1
    have := he j (List.mem_range.2 hjl)
    rw [hj] at this
    simp only [List.all_eq_true, blt_iff, decide_eq_true_iff] at this
    exact this
  have hg : ∀ k ∈ d.ns, ((reach ds []).take j).getD k 0 = (reach ds []).getD k 0 := fun k hk => by
    rw [List.getD_eq_getElem?_getD, List.getElem?_take, if_pos (hlt k hk), ← List.getD_eq_getElem?_getD]
  constructor
  · rintro ⟨k, hk, h⟩
    exact ⟨k, hk, by rcases h with h | h; exact .inl h; rw [hg k hk] at h; exact .inr h⟩
  · rintro ⟨k, hk, h⟩
    exact ⟨k, hk, by rcases h with h | h; exact .inl h; rw [hg k hk]; exact .inr h⟩
theorem edge_lt {ds : List ON} (he : edgesOk ds = true) {j k : Nat} {d : ON} (hj : ds[j]? = some d) (hk : k ∈ d.ns) : k < j := by
  unfold edgesOk at he
  rw [List.all_eq_true] at he
  have := he j (List.mem_range.2 (List.getElem?_eq_some_iff.1 hj).1)
  rw [hj] at this
  simp only [List.all_eq_true, blt_iff, decide_eq_true_iff] at this
  exact this k hk
/-- what is closed under the edges is closed under what they reach -/
theorem bef_closed {ds : List ON} (he : edgesOk ds = true) {L : Nat → Prop} (hc : ∀ j d k, L j → ds[j]? = some d → k ∈ d.ns → L k) :
    ∀ j i, bef (reach ds []) i j = true → L j → L i := by
  intro j
  induction j using Nat.strongRecOn with
  | _ j ih =>
    intro i hb hj
    have hjl : j < ds.length := by
      rcases Nat.lt_or_ge j ds.length with h | h
      · exact h
      · have h2 := (reach_pre ds []).2
        simp at h2
        unfold bef at hb
        rw [List.getD_eq_getElem?_getD, List.getElem?_eq_none (by omega)] at hb
        simp at hb
    obtain ⟨k, hk, h⟩ := (bef_iff he (List.getElem?_eq_getElem hjl)).1 hb
    have hkL := hc j _ k hj (List.getElem?_eq_getElem hjl) hk
    rcases h with h | h
    · exact h ▸ hkL
    · exact ih k (edge_lt he (List.getElem?_eq_getElem hjl) hk) i h hkL

/-! ### the plan's walk -/
def Dn (done : List Nat) (l : List Mv) (p j : Nat) : Prop := j ∈ done ∨ ∃ p', p' < p ∧ ∃ f, l[p']? = some (.ex j f)
theorem Dn.cons_ck {done : List Nat} {l : List Mv} {p j i : Nat} : Dn done (.ck i :: l) (p + 1) j ↔ Dn done l p j := by
  unfold Dn
  constructor
  · rintro (h | ⟨p', hp, f, hf⟩)
    · exact .inl h
    · cases p' with
      | zero => simp at hf
      | succ p' => exact .inr ⟨p', by omega, f, by simpa using hf⟩
  · rintro (h | ⟨p', hp, f, hf⟩)
    · exact .inl h
    · exact .inr ⟨p' + 1, by omega, f, by simpa using hf⟩
theorem Dn.cons_ex {done : List Nat} {l : List Mv} {p j i : Nat} {f : Bool} : Dn done (.ex i f :: l) (p + 1) j ↔ Dn (i :: done) l p j := by
  unfold Dn
  constructor
  · rintro (h | ⟨p', hp, f, hf⟩)
    · exact .inl (List.mem_cons_of_mem _ h)
    · cases p' with
      | zero => simp at hf; exact .inl (by simp [hf])
      | succ p' => exact .inr ⟨p', by omega, f, by simpa using hf⟩
  · rintro (h | ⟨p', hp, f, hf⟩)
    · rcases List.mem_cons.1 h with h | h
      · exact .inr ⟨0, by omega, f, by simp [h]⟩
      · exact .inl h
    · exact .inr ⟨p' + 1, by omega, f, by simpa using hf⟩
theorem Dn.zero {done : List Nat} {l : List Mv} {j : Nat} : Dn done l 0 j ↔ j ∈ done := by simp [Dn]
theorem clOf_eq {ds : List ON} {i : Nat} {d : ON} (h : ds[i]? = some d) : clOf ds i = d.cl := by simp [clOf, h]
theorem walk_at {ds : List ON} {rs : List Nat} : ∀ (l : List Mv) (done : List Nat) (p i : Nat) (fin : Bool), walk ds rs l done = true → l[p]? = some (.ex i fin) →
    ∃ d, ds[i]? = some d ∧ ¬ Dn done l p i ∧ (∀ k ∈ d.ns, Dn done l p k) ∧ d.cl ≠ .bad ∧
      (d.cl = .loud → ∀ j, j < ds.length → j ≠ i → (Dn done l p j → bef rs j i = true ∨ clOf ds j = .pure ∨ (clOf ds j = .read ∧ j ∈ cksOf (l.drop (p + 1)))) ∧
        (¬ Dn done l p j → bef rs i j = true ∨ clOf ds j = .pure ∨ clOf ds j = .make)) ∧
      (fin = true → ∀ j, j < ds.length → j ≠ i → Dn done l p j ∨ bef rs i j = true ∨ ezOf ds j = true)
  | [], done, p, i, fin, _, h => by simp at h
  | .ck k :: l, done, 0, i, fin, _, h => by simp at h
  | .ck k :: l, done, p + 1, i, fin, hw, h => by
    simp only [walk, Bool.and_eq_true] at hw
    obtain ⟨d, h1, h2, h3, h4, h5, h6⟩ := walk_at l done p i fin hw.2 (by simpa using h)
    simp only [Dn.cons_ck, List.drop_succ_cons]
    exact ⟨d, h1, h2, h3, h4, h5, h6⟩
  | .ex k f :: l, done, p + 1, i, fin, hw, h => by
    simp only [walk] at hw
    split at hw
    · simp only [Bool.and_eq_true] at hw
      obtain ⟨d, h1, h2, h3, h4, h5, h6⟩ := walk_at l (k :: done) p i fin hw.2 (by simpa using h)
      simp only [Dn.cons_ex, List.drop_succ_cons]
      exact ⟨d, h1, h2, h3, h4, h5, h6⟩
    · cases hw
  | .ex k f :: l, done, 0, i, fin, hw, h => by
    simp only [List.getElem?_cons_zero, Option.some.injEq, Mv.ex.injEq] at h
    obtain ⟨rfl, rfl⟩ := h
    simp only [walk] at hw
    split at hw
    · rename_i d hd
      simp only [Bool.and_eq_true, Bool.not_eq_true', Bool.or_eq_true, List.all_eq_true, List.mem_range, decide_eq_true_iff, List.contains_eq_mem, decide_eq_false_iff_not, isN, beq_true] at hw
      obtain ⟨⟨⟨⟨⟨h1, h2⟩, h3⟩, h4⟩, h5⟩, _⟩ := hw
      refine ⟨d, hd, by rwa [Dn.zero], fun k hk => by rw [Dn.zero]; exact h2 k hk, h3, fun hl j hj hne => ?_, fun hf j hj hne => ?_⟩
      · rcases h4 with h4 | h4
        · exact absurd hl h4
        · have h4 := (h4 j hj).resolve_left hne
          rw [Dn.zero]
          by_cases hm : j ∈ done
          · simp only [hm, decide_true, cond_true, Bool.or_eq_true, Bool.and_eq_true, decide_eq_true_iff] at h4
            refine ⟨fun _ => ?_, fun hn => absurd hm hn⟩
            rcases h4 with (h | h) | h
            · exact .inl h
            · exact .inr (.inl h)
            · exact .inr (.inr (by simpa using h))
          · simp only [hm, decide_false, cond_false, Bool.or_eq_true, decide_eq_true_iff] at h4
            refine ⟨fun hn => absurd hn hm, fun _ => ?_⟩
            rcases h4 with (h | h) | h
            · exact .inl h
            · exact .inr (.inl h)
            · exact .inr (.inr h)
      · rcases h5 with h5 | h5
        · rw [hf] at h5; cases h5
        · rw [Dn.zero]
          rcases h5 j hj with ((h | h) | h) | h
          · exact absurd h hne
          · exact .inl h
          · exact .inr (.inl h)
          · exact .inr (.inr h)
    · cases hw
theorem walk_ck {ds : List ON} {rs : List Nat} : ∀ (l : List Mv) (done : List Nat) (p i : Nat), walk ds rs l done = true → l[p]? = some (.ck i) →
    ∃ d, ds[i]? = some d ∧ Dn done l p i ∧ ∀ j e t, Dn done l p j → ds[j]? = some e → e.dst = some t → t ∈ d.looks → bef rs j i = true
  | [], done, p, i, _, h => by simp at h
  | .ex k f :: l, done, 0, i, _, h => by simp at h
  | .ck k :: l, done, p + 1, i, hw, h => by
    simp only [walk, Bool.and_eq_true] at hw
    obtain ⟨d, h1, h2, h3⟩ := walk_ck l done p i hw.2 (by simpa using h)
    simp only [Dn.cons_ck]
    exact ⟨d, h1, h2, h3⟩
  | .ex k f :: l, done, p + 1, i, hw, h => by
    simp only [walk] at hw
    split at hw
    · simp only [Bool.and_eq_true] at hw
      obtain ⟨d, h1, h2, h3⟩ := walk_ck l (k :: done) p i hw.2 (by simpa using h)
      simp only [Dn.cons_ex]
      exact ⟨d, h1, h2, h3⟩
    · cases hw
  | .ck k :: l, done, 0, i, hw, h => by
    simp only [List.getElem?_cons_zero, Option.some.injEq, Mv.ck.injEq] at h
    subst h
    simp only [walk, Bool.and_eq_true] at hw
    obtain ⟨hw, _⟩ := hw
    split at hw
    · rename_i d hd
      simp only [Bool.and_eq_true, Bool.not_eq_true', Bool.or_eq_true, List.all_eq_true, List.mem_range, decide_eq_true_iff, List.contains_eq_mem, decide_eq_false_iff_not] at hw
      obtain ⟨h1, h2⟩ := hw
      refine ⟨d, hd, by rwa [Dn.zero], fun j e t hj he ht hl => ?_⟩
      rw [Dn.zero] at hj
      have h3 := h2 j (List.getElem?_eq_some_iff.1 he).1
      rw [he] at h3
      simp only [Option.bind_some, ht, Bool.not_eq_true', decide_eq_false_iff_not] at h3
      rcases h3 with (h3 | h3) | h3
      · exact absurd hj h3
      · exact h3
      · exact absurd hl h3
    · cases hw
theorem walk_all {ds : List ON} {rs : List Nat} : ∀ (l : List Mv) (done : List Nat), walk ds rs l done = true → ∀ i, i < ds.length → Dn done l l.length i
  | [], done, hw, i, hi => by
    simp only [walk, List.all_eq_true, List.mem_range, List.contains_eq_mem, decide_eq_true_iff] at hw
    exact .inl (hw i hi)
  | .ck k :: l, done, hw, i, hi => by
    simp only [walk, Bool.and_eq_true] at hw
    rw [List.length_cons, Dn.cons_ck]
    exact walk_all l done hw.2 i hi
  | .ex k f :: l, done, hw, i, hi => by
    simp only [walk] at hw
    split at hw
    · simp only [Bool.and_eq_true] at hw
      rw [List.length_cons, Dn.cons_ex]
      exact walk_all l (k :: done) hw.2 i hi
    · cases hw
theorem cks_at {j : Nat} : ∀ (l : List Mv), j ∈ cksOf l → ∃ r : Nat, l[r]? = some (Mv.ck j) ∧ ∀ r' : Nat, r' < r → ∃ k, l[r']? = some (Mv.ck k)
  | [], h => by simp [cksOf] at h
  | .ex _ _ :: _, h => by simp [cksOf] at h
  | .ck k :: l, h => by
    simp only [cksOf, List.mem_cons] at h
    rcases h with h | h
    · exact ⟨0, by simp [h], fun r' hr => by omega⟩
    · obtain ⟨r, h1, h2⟩ := cks_at l h
      refine ⟨r + 1, by simpa using h1, fun r' hr => ?_⟩
      cases r' with
      | zero => exact ⟨k, by simp⟩
      | succ r' => obtain ⟨k', hk⟩ := h2 r' (by omega); exact ⟨k', by simpa using hk⟩
/-- two operations: ordered, or apart; never the same slot -/
theorem pair_at {ds : List ON} {rs : List Nat} (h : pairsOk ds rs = true) {i j : Nat} {a b : ON} (hij : i < j) (hi : ds[i]? = some a) (hj : ds[j]? = some b) :
    (∀ t, a.dst = some t → b.dst ≠ some t) ∧ (bef rs i j = true ∨ ((∀ t, a.dst = some t → t ∉ b.looks) ∧ ∀ t, b.dst = some t → t ∉ a.looks)) := by
  unfold pairsOk at h
  rw [List.all_eq_true] at h
  have h := h j (List.mem_range.2 (List.getElem?_eq_some_iff.1 hj).1)
  rw [List.all_eq_true] at h
  have h := h i (List.mem_range.2 hij)
  rw [hi, hj] at h
  simp only [pairOk] at h
  split at h
  · rename_i t u ha hb
    simp only [Bool.and_eq_true, Bool.not_eq_true', Bool.or_eq_true, List.contains_eq_mem, decide_eq_false_iff_not] at h
    have hne : t ≠ u := fun e => by subst e; simp at h
    rw [ha, hb]
    refine ⟨fun x hx hy => hne ((Option.some.inj hx).trans (Option.some.inj hy).symm), ?_⟩
    rcases h.2 with h | h
    · exact .inl h
    · exact .inr ⟨fun x hx => Option.some.inj hx ▸ h.1, fun x hx => Option.some.inj hx ▸ h.2⟩
  · rename_i t ha hb
    simp only [Bool.not_eq_true', Bool.or_eq_true, List.contains_eq_mem, decide_eq_false_iff_not] at h
    rw [ha, hb]
    refine ⟨fun x _ hy => (by cases hy), ?_⟩
    rcases h with h | h
    · exact .inl h
    · exact .inr ⟨fun x hx => Option.some.inj hx ▸ h, fun x hx => by cases hx⟩
  · rename_i t ha hb
    simp only [Bool.not_eq_true', Bool.or_eq_true, List.contains_eq_mem, decide_eq_false_iff_not] at h
    rw [ha, hb]
    refine ⟨fun x hx => (by cases hx), ?_⟩
    rcases h with h | h
    · exact .inl h
    · exact .inr ⟨fun x hx => (by cases hx), fun x hx => (by cases hx; exact h)⟩
  · rename_i ha hb
    rw [ha, hb]
    exact ⟨fun x hx => (by cases hx), .inr ⟨fun x hx => (by cases hx), fun x hx => (by cases hx)⟩⟩
end Eng
end Go.Proofs.YtlajkdbpmkodpaaGreatDoor
namespace Go.Proofs.YtlajkdbpmkodpaaGreatDoor
namespace Eng
open Go
section
variable {P : Program}
theorem okV_any {v : Option AV} {H H2 H' : Heap} {u : AV} (h : okV v H = .val u H') : okV v H2 = .val u H2 := by
  cases v with
  | none => cases h
  | some v => injection h with h1 h2; subst h1; rfl
theorem oPart_any {l : List AV} {p : Plc} {H H2 H' : Heap} {u : AV} (h : oPart l p H = .val u H') : oPart l p H2 = .val u H2 := by
  unfold oPart at h ⊢
  simp only [fL_eq] at h ⊢
  split at h
  · injection h with h1 h2; subst h1; rfl
  · injection h with h1 h2; subst h1; rfl
  · cases h
theorem eqOp_any {op : BinOp} {c : Bool} {H H2 H' : Heap} {u : AV} (h : eqOp op c H = .val u H') : eqOp op c H2 = .val u H2 := by
  unfold eqOp at h ⊢
  simp only [fB_eq] at h ⊢
  split at h <;> first | (injection h with h1 h2; subst h1; rfl) | cases h
theorem cond_any {c : Bool} {H' H2 : Heap} {u : AV} {x y x2 y2 : OR} (h : (bif c then x else y) = .val u H') (h1 : x = .val u H' → x2 = .val u H2) (h2 : y = .val u H' → y2 = .val u H2) : (bif c then x2 else y2) = .val u H2 := by
  cases c
  · exact h2 h
  · exact h1 h
theorem strOp_any {op : BinOp} {l x m y : Nat} {H H2 H' : Heap} {u : AV} (h : strOp op l x m y H = .val u H') : strOp op l x m y H2 = .val u H2 := by
  unfold strOp at h ⊢
  simp only [fB_eq, fN_eq] at h ⊢
  split at h <;> first | (injection h with h1 h2; subst h1; rfl) | (cases h; done) | (refine cond_any h (fun h => ?_) (fun h => ?_) <;> first | (injection h with h1 h2; subst h1; rfl) | cases h)
theorem shiftOp_any {op : BinOp} {k : IntKind} {x y : Int} {H H2 H' : Heap} {u : AV} (h : shiftOp op k x y H = .val u H') : shiftOp op k x y H2 = .val u H2 := by
  unfold shiftOp at h ⊢
  simp only [fI_eq, fN_eq] at h ⊢
  split at h <;> first | (injection h with h1 h2; subst h1; rfl) | cases h
theorem intOp_any {op : BinOp} {k : IntKind} {x y : Int} {H H2 H' : Heap} {u : AV} (h : intOp op k x y H = .val u H') : intOp op k x y H2 = .val u H2 := by
  unfold intOp at h ⊢
  simp only [fI_eq, fN_eq, fB_eq] at h ⊢
  split at h <;> first
    | (injection h with h1 h2; subst h1; rfl)
    | (cases h; done)
    | (refine cond_any h (fun h => ?_) (fun h => ?_) <;> first | (injection h with h1 h2; subst h1; rfl) | cases h)
    | (split at h <;> first | (cases h; done) | (refine cond_any h (fun h => ?_) (fun h => ?_) <;> first | (injection h with h1 h2; subst h1; rfl) | cases h))
theorem oper_any {call : CallF} {o : Op} {T : Tm} {H H2 H' : Heap} {v : AV} (hcl : cls P o = .pure) (h : oper P call o T H = .val v H') : oper P call o T H2 = .val v H2 := by
  cases o <;> simp only [cls] at hcl <;> simp only [oper] at h ⊢
  case move => exact okV_any h
  case assign => exact okV_any h
  case pick => unfold oPick at h ⊢; split at h <;> (first | (injection h with h1 h2; subst h1; rfl) | (cases h; done) | exact okV_any h | exact oPart_any h | exact eqOp_any h | exact strOp_any h | exact shiftOp_any h | exact intOp_any h | exact oSliceR_ext h)
  case build =>
    unfold oBuild at h ⊢
    split at h
    · refine cond_any h (fun h => ?_) (fun h => by cases h)
      split at h <;> (first | (injection h with h1 h2; subst h1; rfl) | (cases h; done) | exact okV_any h | exact oPart_any h | exact eqOp_any h | exact strOp_any h | exact shiftOp_any h | exact intOp_any h | exact oSliceR_ext h)
    · split at h
      · split at h <;> (first | (injection h with h1 h2; subst h1; rfl) | (cases h; done) | exact okV_any h | exact oPart_any h | exact eqOp_any h | exact strOp_any h | exact shiftOp_any h | exact intOp_any h | exact oSliceR_ext h)
      · cases h
    · cases h
  case nilCheck => unfold oNilCheck at h ⊢; split at h <;> (first | (injection h with h1 h2; subst h1; rfl) | (cases h; done) | exact okV_any h | exact oPart_any h | exact eqOp_any h | exact strOp_any h | exact shiftOp_any h | exact intOp_any h | exact oSliceR_ext h)
  case binOp =>
    unfold oBin at h ⊢
    split at h <;> first
      | ((first | (injection h with h1 h2; subst h1; rfl) | (cases h; done) | exact okV_any h | exact oPart_any h | exact eqOp_any h | exact strOp_any h | exact shiftOp_any h | exact intOp_any h | exact oSliceR_ext h); done)
      | (split at h <;> first
          | ((first | (injection h with h1 h2; subst h1; rfl) | (cases h; done) | exact okV_any h | exact oPart_any h | exact eqOp_any h | exact strOp_any h | exact shiftOp_any h | exact intOp_any h | exact oSliceR_ext h); done)
          | (refine cond_any h (fun h => ?_) (fun h => ?_) <;> (first | (injection h with h1 h2; subst h1; rfl) | (cases h; done) | exact okV_any h | exact oPart_any h | exact eqOp_any h | exact strOp_any h | exact shiftOp_any h | exact intOp_any h | exact oSliceR_ext h); done)
          | (split at h <;> first | ((first | (injection h with h1 h2; subst h1; rfl) | (cases h; done) | exact okV_any h | exact oPart_any h | exact eqOp_any h | exact strOp_any h | exact shiftOp_any h | exact intOp_any h | exact oSliceR_ext h); done))
          | (refine cond_any h (fun h => ?_) (fun h => ?_) <;> first | ((first | (injection h with h1 h2; subst h1; rfl) | (cases h; done) | exact okV_any h | exact oPart_any h | exact eqOp_any h | exact strOp_any h | exact shiftOp_any h | exact intOp_any h | exact oSliceR_ext h); done) | (split at h <;> (first | (injection h with h1 h2; subst h1; rfl) | (cases h; done) | exact okV_any h | exact oPart_any h | exact eqOp_any h | exact strOp_any h | exact shiftOp_any h | exact intOp_any h | exact oSliceR_ext h))))
  case unOp => unfold oUn at h ⊢; simp only [fB_eq, fI_eq] at h ⊢; split at h <;> (first | (injection h with h1 h2; subst h1; rfl) | (cases h; done) | exact okV_any h | exact oPart_any h | exact eqOp_any h | exact strOp_any h | exact shiftOp_any h | exact intOp_any h | exact oSliceR_ext h)
  case convert =>
    unfold oConvert at h ⊢
    simp only [fI_eq, fN_eq] at h ⊢
    split at h
    · (first | (injection h with h1 h2; subst h1; rfl) | (cases h; done) | exact okV_any h | exact oPart_any h | exact eqOp_any h | exact strOp_any h | exact shiftOp_any h | exact intOp_any h | exact oSliceR_ext h)
    · (first | (injection h with h1 h2; subst h1; rfl) | (cases h; done) | exact okV_any h | exact oPart_any h | exact eqOp_any h | exact strOp_any h | exact shiftOp_any h | exact intOp_any h | exact oSliceR_ext h)
    · rename_i hs hd _; rw [hs, hd] at hcl; cases hcl
    · rename_i hs hd _; rw [hs, hd] at hcl; cases hcl
    · cases h
  case makeInterface => unfold oMakeIface at h ⊢; split at h <;> (first | (injection h with h1 h2; subst h1; rfl) | (cases h; done) | exact okV_any h | exact oPart_any h | exact eqOp_any h | exact strOp_any h | exact shiftOp_any h | exact intOp_any h | exact oSliceR_ext h)
  case makeFunc => unfold oMakeFunc at h ⊢; split at h <;> (first | (injection h with h1 h2; subst h1; rfl) | (cases h; done) | exact okV_any h | exact oPart_any h | exact eqOp_any h | exact strOp_any h | exact shiftOp_any h | exact intOp_any h | exact oSliceR_ext h)
  case slice =>
    unfold oSlice at h ⊢
    split at h
    · unfold oSliceS at h ⊢
      simp only [fN_eq] at h ⊢
      split at h
      · cases h
      · split at h <;> (first | (injection h with h1 h2; subst h1; rfl) | (cases h; done) | exact okV_any h | exact oPart_any h | exact eqOp_any h | exact strOp_any h | exact shiftOp_any h | exact intOp_any h | exact oSliceR_ext h)
    · rename_i hu _; rw [hu] at hcl; cases hcl
    · rename_i hu _; rw [hu] at hcl; cases hcl
    · rename_i hu _; rw [hu] at hcl; cases hcl
    · split at h <;> (first | (injection h with h1 h2; subst h1; rfl) | (cases h; done) | exact okV_any h | exact oPart_any h | exact eqOp_any h | exact strOp_any h | exact shiftOp_any h | exact intOp_any h | exact oSliceR_ext h)
    · cases h
  case fieldAddr => unfold oFieldAddr at h ⊢; simp only [fN_eq] at h ⊢; split at h <;> first | ((first | (injection h with h1 h2; subst h1; rfl) | (cases h; done) | exact okV_any h | exact oPart_any h | exact eqOp_any h | exact strOp_any h | exact shiftOp_any h | exact intOp_any h | exact oSliceR_ext h); done) | (refine cond_any h (fun h => ?_) (fun h => ?_) <;> (first | (injection h with h1 h2; subst h1; rfl) | (cases h; done) | exact okV_any h | exact oPart_any h | exact eqOp_any h | exact strOp_any h | exact shiftOp_any h | exact intOp_any h | exact oSliceR_ext h))
  case field => unfold oField at h ⊢; split at h <;> (first | (injection h with h1 h2; subst h1; rfl) | (cases h; done) | exact okV_any h | exact oPart_any h | exact eqOp_any h | exact strOp_any h | exact shiftOp_any h | exact intOp_any h | exact oSliceR_ext h)
  case indexAddr => unfold oIndexAddr at h ⊢; simp only [fN_eq] at h ⊢; split at h <;> first | ((first | (injection h with h1 h2; subst h1; rfl) | (cases h; done) | exact okV_any h | exact oPart_any h | exact eqOp_any h | exact strOp_any h | exact shiftOp_any h | exact intOp_any h | exact oSliceR_ext h); done) | (split at h <;> (first | (injection h with h1 h2; subst h1; rfl) | (cases h; done) | exact okV_any h | exact oPart_any h | exact eqOp_any h | exact strOp_any h | exact shiftOp_any h | exact intOp_any h | exact oSliceR_ext h))
  case index => unfold oIndex at h ⊢; simp only [fN_eq] at h ⊢; split at h <;> first | ((first | (injection h with h1 h2; subst h1; rfl) | (cases h; done) | exact okV_any h | exact oPart_any h | exact eqOp_any h | exact strOp_any h | exact shiftOp_any h | exact intOp_any h | exact oSliceR_ext h); done) | (split at h <;> (first | (injection h with h1 h2; subst h1; rfl) | (cases h; done) | exact okV_any h | exact oPart_any h | exact eqOp_any h | exact strOp_any h | exact shiftOp_any h | exact intOp_any h | exact oSliceR_ext h))
  case typeAssert =>
    unfold oAssert at h ⊢
    split at h
    · cases h
    · refine cond_any h (fun h => ?_) (fun h => ?_)
      · refine cond_any h (fun h => ?_) (fun h => ?_) <;> (first | (injection h with h1 h2; subst h1; rfl) | (cases h; done) | exact okV_any h | exact oPart_any h | exact eqOp_any h | exact strOp_any h | exact shiftOp_any h | exact intOp_any h | exact oSliceR_ext h)
      · refine cond_any h (fun h => ?_) (fun h => ?_)
        · split at h <;> (first | (injection h with h1 h2; subst h1; rfl) | (cases h; done) | exact okV_any h | exact oPart_any h | exact eqOp_any h | exact strOp_any h | exact shiftOp_any h | exact intOp_any h | exact oSliceR_ext h)
        · cases h
    · cases h
  case extract => unfold oExtract at h ⊢; split at h <;> (first | (injection h with h1 h2; subst h1; rfl) | (cases h; done) | exact okV_any h | exact oPart_any h | exact eqOp_any h | exact strOp_any h | exact shiftOp_any h | exact intOp_any h | exact oSliceR_ext h)
  case call c =>
    simp only [oCall] at h ⊢
    split at h
    · split at h
      · rename_i b hb'
        obtain ⟨ca, cb, cc⟩ := c
        simp only at hb'
        subst hb'
        cases b <;> simp only [] at hcl <;> (try cases hcl) <;> simp only [oBuiltin] at h ⊢
        · unfold oCap at h ⊢
          split at h
          · split at h <;> first | (injection h with h1 h2; subst h1; rfl) | cases h
          · cases h
        · unfold oLen at h ⊢
          split at h
          · rename_i hts _
            have hts := list1 hts
            subst hts
            split at h <;> first
              | (injection h with h1 h2; subst h1; rfl)
              | (exfalso; simp_all; done)
              | cases h
          · cases h
        · unfold oMinMax at h ⊢; simp only [fI_eq] at h ⊢; split at h <;> (first | (injection h with h1 h2; subst h1; rfl) | (cases h; done) | exact okV_any h | exact oPart_any h | exact eqOp_any h | exact strOp_any h | exact shiftOp_any h | exact intOp_any h | exact oSliceR_ext h)
        · unfold oMinMax at h ⊢; simp only [fI_eq] at h ⊢; split at h <;> (first | (injection h with h1 h2; subst h1; rfl) | (cases h; done) | exact okV_any h | exact oPart_any h | exact eqOp_any h | exact strOp_any h | exact shiftOp_any h | exact intOp_any h | exact oSliceR_ext h)
      · rename_i f hf
        obtain ⟨ca, cb, cc⟩ := c
        simp only at hf; subst hf; simp only [] at hcl; cases hcl
      · cases h
    · cases h
  all_goals first | cases hcl | (simp at hcl; done)
/-- what makes memory pushes one block -/
theorem oper_push {call : CallF} {o : Op} {T : Tm} {H H' : Heap} {v : AV} (hcl : cls P o = .make) (h : oper P call o T H = .val v H') :
    ∃ B, wr B ∧ H' = ⟨H.bl.set (bits H.nx) (some B), H.nx + 1⟩ := by
  have new : ∀ {vs : List AV}, newR H vs = .val v H' → ∃ B, wr B ∧ H' = ⟨H.bl.set (bits H.nx) (some B), H.nx + 1⟩ := fun h => by
    unfold newR at h
    simp only [layC_eq, fN_eq, newB_eq] at h
    injection h with h1 h2
    refine ⟨_, ?_, h2.symm⟩; rfl
  cases o <;> simp only [cls] at hcl <;> simp only [oper] at h
  case alloc => unfold oAlloc at h; split at h <;> first | exact new h | cases h
  case box => unfold oBox at h; split at h <;> first | exact new h | cases h
  case buildSlice =>
    unfold oBuildSlice at h; simp only [layC_eq, fN_eq, newB_eq] at h
    split at h
    · obtain ⟨_, h⟩ := cond_some h (by simp)
      split at h
      · injection h with h1 h2; refine ⟨_, ?_, h2.symm⟩; rfl
      · cases h
    · cases h
  case makeMap => unfold oMakeMap at h; simp only [newB_eq] at h; split at h <;> first | (injection h with h1 h2; refine ⟨_, ?_, h2.symm⟩; trivial) | cases h
  case makeSlice =>
    unfold oMakeSlice at h; simp only [layC_eq, fN_eq, newB_eq] at h
    split at h
    · obtain ⟨_, h⟩ := cond_some h (by simp)
      injection h with h1 h2; refine ⟨_, ?_, h2.symm⟩; rfl
    · cases h
  case convert =>
    unfold oConvert at h
    split at h
    · rename_i hs hd _; rw [hs, hd] at hcl; cases hcl
    · rename_i hs hd _; rw [hs, hd] at hcl; cases hcl
    · split at h
      · obtain ⟨_, h⟩ := cond_some h (by simp)
        obtain ⟨_, _, h2⟩ := newOpen_eq h
        refine ⟨_, ?_, h2⟩; rfl
      · cases h
    · rename_i hs hd _; rw [hs, hd] at hcl; cases hcl
    · cases h
  case slice => split at hcl <;> cases hcl
  case call c =>
    obtain ⟨ca, cb, cc⟩ := c
    cases ca <;> simp only [] at hcl
    · cases hcl
    · cases hcl
    · split at hcl <;> first | cases hcl | (split at hcl <;> cases hcl)
  all_goals first | cases hcl | (simp at hcl; done)

/-! ### the trace -/
def setT (d : Option Tmp) (v : AV) (T : Tm) : Tm := match d with | some t => T.set (bits t) (some v) | none => T
theorem putT_eq' {β : Type} (d : Option Tmp) (v : AV) (T : Tm) (k : Tm → β) : putT d v T k = k (setT d v T) := by cases d <;> simp [putT, setT, Tr.setK_eq]
inductive Step (P : Program) (call : CallF) (ops : Array Oper) : Mv → St → St → Prop
  | ck {i : Nat} {o : Oper} {S : St} : ops[i]? = some o → ckOp P ops o S = true → Step P call ops (.ck i) S S
  | skip {i : Nat} {f : Bool} {o : Oper} {S : St} : ops[i]? = some o → want ops o.guard S.T = some false → Step P call ops (.ex i f) S ⟨setT o.dst undefA S.T, S.H, S.D⟩
  | val {i : Nat} {f : Bool} {o : Oper} {S : St} {v : AV} {H' : Heap} : ops[i]? = some o → want ops o.guard S.T = some true → oper P call o.op S.T S.H = .val v H' → Step P call ops (.ex i f) S ⟨setT o.dst v S.T, H', S.D⟩
  | dfr {i : Nat} {f : Bool} {o : Oper} {S : St} {g : FuncId} {xs : List AV} : ops[i]? = some o → want ops o.guard S.T = some true → oper P call o.op S.T S.H = .dfr g xs → Step P call ops (.ex i f) S ⟨setT o.dst undefA S.T, S.H, (g, xs) :: S.D⟩
def cons' (S : St) (σ : Nat → St) : Nat → St
  | 0 => S
  | r + 1 => σ r
theorem drawR_trace {call : CallF} {ops : Array Oper} : ∀ (l : List Mv) (S : St) (e : Ex) (S' : St), drawR P call ops l S = .ok e S' →
    ∃ (σ : Nat → St) (m : Nat), σ 0 = S ∧ m ≤ l.length ∧ (∀ r mv, r < m → l[r]? = some mv → Step P call ops mv (σ r) (σ (r + 1))) ∧
      ((m = l.length ∧ e = .normal ∧ S' = σ m) ∨
       (∃ i o v H', l[m]? = some (.ex i true) ∧ ops[i]? = some o ∧ want ops o.guard (σ m).T = some true ∧ oper P call o.op (σ m).T (σ m).H = .pan v H' ∧ e = .panic v ∧ S' = ⟨clearD ops.toList (σ m).T, H', (σ m).D⟩))
  | [], S, e, S', h => by
    simp only [drawR] at h
    injection h with h1 h2
    exact ⟨fun _ => S, 0, rfl, Nat.le_refl _, fun r mv hr => by omega, .inl ⟨rfl, h1.symm, h2.symm⟩⟩
  | mv :: l, S, e, S', h => by
    have go : ∀ S1, Step P call ops mv S S1 → drawR P call ops l S1 = .ok e S' → ∃ (σ : Nat → St) (m : Nat), σ 0 = S ∧ m ≤ (mv :: l).length ∧ (∀ r mv', r < m → (mv :: l)[r]? = some mv' → Step P call ops mv' (σ r) (σ (r + 1))) ∧
      ((m = (mv :: l).length ∧ e = .normal ∧ S' = σ m) ∨
       (∃ i o v H', (mv :: l)[m]? = some (.ex i true) ∧ ops[i]? = some o ∧ want ops o.guard (σ m).T = some true ∧ oper P call o.op (σ m).T (σ m).H = .pan v H' ∧ e = .panic v ∧ S' = ⟨clearD ops.toList (σ m).T, H', (σ m).D⟩)) := by
      intro S1 hs hd
      obtain ⟨σ, m, h1, h2, h3, h4⟩ := drawR_trace l S1 e S' hd
      refine ⟨cons' S σ, m + 1, rfl, by simpa using h2, fun r mv' hr hl => ?_, ?_⟩
      · cases r with
        | zero => simp at hl; subst hl; simp only [cons', h1]; exact hs
        | succ r => exact h3 r mv' (by omega) (by simpa using hl)
      · rcases h4 with ⟨a, b, c⟩ | h4
        · exact .inl ⟨by simp [a], b, c⟩
        · exact .inr (by simpa [cons'] using h4)
    cases mv with
    | ck i =>
      simp only [drawR] at h
      split at h
      · rename_i o ho
        obtain ⟨hc, h⟩ := cond_some h (by simp)
        exact go S (.ck ho hc) h
      · cases h
    | ex i f =>
      simp only [drawR, putT_eq'] at h
      split at h
      · rename_i o ho
        split at h
        · rename_i hw
          split at h
          · rename_i v H' hv; exact go _ (.val ho hw hv) h
          · rename_i g xs hv; exact go _ (.dfr ho hw hv) h
          · rename_i v H' hv
            obtain ⟨hf, h⟩ := cond_some h (by simp)
            injection h with h1 h2
            subst hf
            exact ⟨fun _ => S, 0, rfl, by simp, fun r mv hr => by omega, .inr ⟨i, o, v, H', by simp, ho, hw, hv, h1.symm, h2.symm⟩⟩
          · cases h
          · cases h
        · rename_i hw; exact go _ (.skip ho hw) h
        · cases h
      · cases h
end
end Eng
end Go.Proofs.YtlajkdbpmkodpaaGreatDoor
namespace Go.Proofs.YtlajkdbpmkodpaaGreatDoor
namespace Eng
open Go
section
variable {P : Program} {ρ : Rho} {T : Tm} {a : Act}

/-- ids that come to be are free -/
def ChainR (ρ : Rho) (v : AV) (chain : List PanicEntry) : Prop := ∃ x older, den ρ v = some x ∧ chain = { v := x, recovered := false, goexit := false } :: older ∧ ∀ e ∈ older, e.goexit = false
def CPost (ρ : Rho) (H : Heap) (w : World) (r : CR) : Ending → World → Prop
  | .returned x, w' => ∃ v H' ρ', r = .ret v H' ∧ den ρ' v = some x ∧ HR ρ' H' w' ∧ Ext ρ H w ρ' H' w'
  | .panicked chain, w' => ∃ v H' ρ', r = .pan v H' ∧ ChainR ρ' v chain ∧ HR ρ' H' w' ∧ Ext ρ H w ρ' H' w'
  | .outgrown, _ => False
def FreshR (ρ : Rho) (H : Heap) (r : CR) : Prop := ∀ v H', r = .ret v H' ∨ r = .pan v H' → Fresh ρ H H'
/-- what a call of the engine says of the model's -/
def CallOK (P : Program) (call : CallF) : Prop := ∀ f xs H, call f xs H ≠ .bad →
  (∀ args w, (callFunc f args).run P w = .ok (.enter f args) w) ∧
  ∀ ρ w args, DL ρ xs args.toList → HR ρ H w → GOK P ρ → FreshR ρ H (call f xs H) → Calls P f args w (CPost ρ H w (call f xs H))
def DOK (ρ : Rho) (d : FuncId × List AV) (x : Deferred) : Prop := ∃ cap, x.target = .fn (.func d.1) cap ∧ DL ρ d.2 (x.args ++ cap).toList
def DR (ρ : Rho) : List (FuncId × List AV) → List Deferred → Prop
  | [], [] => True
  | d :: D, x :: X => DOK ρ d x ∧ DR ρ D X
  | _, _ => False
theorem DOK.mono {ρ ρ' : Rho} (s : Sub ρ ρ') {d : FuncId × List AV} {x : Deferred} (h : DOK ρ d x) : DOK ρ' d x := by
  obtain ⟨cap, h1, h2⟩ := h; exact ⟨cap, h1, h2.mono s⟩
theorem DR.mono {ρ ρ' : Rho} (s : Sub ρ ρ') : ∀ {D : List (FuncId × List AV)} {X : List Deferred}, DR ρ D X → DR ρ' D X
  | [], [], _ => trivial
  | _ :: _, _ :: _, h => ⟨h.1.mono s, DR.mono s h.2⟩
  | [], _ :: _, h => h.elim
  | _ :: _, [], h => h.elim

theorem exec_call {o : Oper} {c : Call} {f : Operand} (ho : o.op = .call c) (hc : c.callee = .value f) {g : FuncId} {m : List Value} (hf : a.eval f = .func (.func g) #[] m.toArray) {w : World} {r : Result Go.Next}
    (h : (callFunc g ((c.args.map a.eval) ++ m.toArray)).run P w = r) : (execOp a.eval o).run P w = r := by
  simp only [execOp, ho, resolve, hc, Deferred.ofValue, hf, Sem.run_bind, Sem.run_pure, Result.andThen_ok, invoke]
  simpa using h
theorem exec_defer {o : Oper} {c : Call} {f : Operand} (ho : o.op = .defer c) (hc : c.callee = .value f) {g : FuncId} {m : List Value} (hf : a.eval f = .func (.func g) #[] m.toArray) (w : World) :
    (execOp a.eval o).run P w = .ok (.defer { target := .fn (.func g) m.toArray, args := c.args.map a.eval }) w := by
  simp [execOp, ho, resolve, hc, Deferred.ofValue, hf]
theorem DL.append' {l l' : List AV} {m m' : List Value} (h : DL ρ l m) (h' : DL ρ l' m') : DL ρ (l ++ l') (m ++ m') := h.append h'

/-- A step of one operation, in the very memory that the engine has. -/
theorem oper_wp {call : CallF} (hC : CallOK P call) {o : Oper} (hg : opG P o.op = true) (hT : TR ρ T a.tmps) (hG : GOK P ρ) {H : Heap} {w : World} (hH : HR ρ H w) {K : Act → World → Prop} {Q : Exit → Act → World → Prop} :
    (∀ v H', oper P call o.op T H = .val v H' → Fresh ρ H H' → (∀ ρ' x w', den ρ' v = some x → HR ρ' H' w' → Ext ρ H w ρ' H' w' → K (a.put o.dst x) w') → o.wp P a w K Q) ∧
    (∀ f xs, oper P call o.op T H = .dfr f xs → (∀ d, DOK ρ (f, xs) d → K ({ a with defers := d :: a.defers }.put o.dst undef) w) → o.wp P a w K Q) ∧
    (∀ v H', oper P call o.op T H = .pan v H' → Fresh ρ H H' → (∀ ρ' chain w', ChainR ρ' v chain → HR ρ' H' w' → Ext ρ H w ρ' H' w' → Q (.panic chain) a w') → o.wp P a w K Q) := by
  -- a value, however it comes
  have value : ∀ {v H'}, Wr P o a ρ H w v H' → (∀ ρ' x w', den ρ' v = some x → HR ρ' H' w' → Ext ρ H w ρ' H' w' → K (a.put o.dst x) w') → o.wp P a w K Q := by
    rintro v H' ⟨x, w', ρ', hrun | ⟨rfl, hrun⟩, h1, h2, h3⟩ hK
    · unfold Oper.wp; rw [hrun]; exact hK ρ' x w' h1 h2 h3
    · unfold Oper.wp; rw [hrun]; exact hK ρ' undef w' h1 h2 h3
  -- a call of a function
  have calls : ∀ {c f g l xs}, o.op = .call c → c.callee = .value f → ev f T = some (.fn g l) → evL c.args.toList T = some xs →
      (∀ v H', call g (xs ++ l) H = .ret v H' → Fresh ρ H H' → (∀ ρ' x w', den ρ' v = some x → HR ρ' H' w' → Ext ρ H w ρ' H' w' → K (a.put o.dst x) w') → o.wp P a w K Q) ∧
      (∀ v H', call g (xs ++ l) H = .pan v H' → Fresh ρ H H' → (∀ ρ' chain w', ChainR ρ' v chain → HR ρ' H' w' → Ext ρ H w ρ' H' w' → Q (.panic chain) a w') → o.wp P a w K Q) := by
    intro c f g l xs hoc hcf hf hxs
    have hgo : c.operands.toList.all (gl P) = true := by have := hg; rw [hoc] at this; exact this
    obtain ⟨m, hm, hfe⟩ := den_fn (ev_den hT hG (callFn hcf hgo) hf)
    have hargs := evL_den hT hG (callArgs hgo) hxs
    have hall : DL ρ (xs ++ l) ((c.args.map a.eval) ++ m.toArray).toList := by
      rw [Array.toList_append, args_eq]; exact hargs.append hm
    have go : ∀ r, call g (xs ++ l) H = r → r ≠ .bad → FreshR ρ H r → (∀ e w', CPost ρ H w r e w' → match e with | .returned x => K (a.put o.dst x) w' | .panicked ch => Q (.panic ch) a w' | .outgrown => False) → o.wp P a w K Q := by
      intro r hr hbad hfr hk
      obtain ⟨h1, h2⟩ := hC g (xs ++ l) H (hr ▸ hbad)
      have h2 := h2 ρ w _ hall hH hG (hr ▸ hfr)
      rw [hr] at h2
      unfold Oper.wp
      rw [exec_call hoc hcf hfe (h1 _ w), Oper.upon_enter]
      refine Calls.mono h2 fun e w' he => ?_
      have := hk e w' he
      cases e <;> first | exact this | exact this.elim
    refine ⟨fun v H' hr hfr hK => go _ hr (by simp) (fun v' H'' e => ?_) fun e w' he => ?_, fun v H' hr hfr hK => go _ hr (by simp) (fun v' H'' e => ?_) fun e w' he => ?_⟩
    · rcases e with e | e
      · injection e with e1 e2; exact e2 ▸ hfr
      · cases e
    · cases e with
      | returned x =>
        obtain ⟨v', H'', ρ', e1, e2, e3, e4⟩ := he
        injection e1 with e5 e6; subst e5; subst e6
        exact hK ρ' x w' e2 e3 e4
      | panicked ch => obtain ⟨v', H'', ρ', e1, _⟩ := he; cases e1
      | outgrown => exact he
    · rcases e with e | e
      · cases e
      · injection e with e1 e2; exact e2 ▸ hfr
    · cases e with
      | returned x => obtain ⟨v', H'', ρ', e1, _⟩ := he; cases e1
      | panicked ch =>
        obtain ⟨v', H'', ρ', e1, e2, e3, e4⟩ := he
        injection e1 with e5 e6; subst e5; subst e6
        exact hK ρ' ch w' e2 e3 e4
      | outgrown => exact he
  refine ⟨fun v H' h hfr hK => ?_, fun f xs h hK => ?_, fun v H' h hfr hK => ?_⟩
  · cases hcl : cls P o.op with
    | pure =>
      obtain ⟨rfl, x, h1, h2⟩ := oper_pure hcl hg hT hG H v H' h
      exact value ⟨x, w, ρ, .inl (h2 w), h1, hH, .refl _ _ _⟩ hK
    | read =>
      obtain ⟨rfl, x, h1, h2⟩ := oper_read hcl hg hT hG hH.vr h
      exact value ⟨x, w, ρ, .inl h2, h1, hH, .refl _ _ _⟩ hK
    | make =>
      obtain ⟨B, _, e⟩ := oper_push hcl h
      exact value ((oper_make hcl hg hT hG h).wr hH (hfr _ (Nat.le_refl _) (by rw [e]; show H.nx < H.nx + 1; omega))) hK
    | loud =>
      by_cases hno : ∀ c f, o.op = .call c → c.callee ≠ .value f
      · exact value (oper_loud hcl hno hg hT hG hH (fun e => hfr _ (Nat.le_refl _) (by omega)) h) hK
      · simp only [Classical.not_forall, Classical.not_not] at hno
        obtain ⟨c, f, hoc, hcf⟩ := hno
        rw [hoc] at h
        simp only [oper, oCall] at h
        split at h
        · rename_i xs hxs
          rw [hcf] at h
          simp only at h
          split at h
          · rename_i g l hf
            refine (calls hoc hcf hf hxs).1 v H' ?_ hfr hK
            unfold ofCall at h
            split at h
            · cases h
            · rename_i hr; injection h with h1 h2; rw [hr, h1, h2]
            · cases h
          · cases h
        · cases h
    | bad => exact (oper_bad hcl h).elim
  · by_cases h1 : ∃ c, o.op = .defer c
    · obtain ⟨c, hoc⟩ := h1
      rw [hoc] at h
      simp only [oper] at h
      have hgo : c.operands.toList.all (gl P) = true := by have := hg; rw [hoc] at this; exact this
      rcases oDefer_cases (c := c) (T := T) with e | ⟨ys, f', g, l, hxs, hcf, hf, e⟩
      · rw [e] at h; cases h
      · rw [e] at h
        injection h with e1 e2; subst e1; subst e2
        obtain ⟨m, hm, hfe⟩ := den_fn (ev_den hT hG (callFn hcf hgo) hf)
        have hargs := evL_den hT hG (callArgs hgo) hxs
        unfold Oper.wp
        rw [exec_defer hoc hcf hfe w]
        refine hK _ ⟨m.toArray, rfl, ?_⟩
        show DL ρ (ys ++ l) ((c.args.map a.eval) ++ m.toArray).toList
        rw [Array.toList_append, args_eq]; exact hargs.append hm
    · exfalso
      by_cases h2 : ∃ c, o.op = .call c
      · obtain ⟨c, hoc⟩ := h2
        rw [hoc] at h
        simp only [oper] at h
        rcases oCall_cases (P := P) (call := call) (c := c) (T := T) (H := H) with k | ⟨_, t, u, _, _, _, e⟩ | ⟨ys, f', g, l, _, _, _, e⟩ | ⟨_, e⟩
        · rw [h] at k; exact k
        · rw [e] at h; cases h
        · rw [e] at h; unfold ofCall at h; split at h <;> cases h
        · rw [e] at h; cases h
      · by_cases h3 : ∃ x, o.op = .panic x
        · obtain ⟨x, hox⟩ := h3
          rw [hox] at h
          simp only [oper] at h
          rcases oPanic_cases (x := x) (T := T) (H := H) with e | ⟨t, u, _, e⟩ <;> rw [e] at h <;> cases h
        · have k := oper_MR (P := P) (call := call) (o := o.op) (fun c e => h2 ⟨c, e⟩) (fun c e => h1 ⟨c, e⟩) (fun x e => h3 ⟨x, e⟩) (T := T) (H := H)
          rw [h] at k; exact k
  · have boom : ∀ {t u y} , den ρ (.ifc t u) = some (.iface t y) → v = .ifc t u → H' = H → (execOp a.eval o).run P w = .halt (.panic (.iface t y)) w → o.wp P a w K Q := by
      intro t u y h1 h2 h3 h4
      subst h2; subst h3
      unfold Oper.wp
      rw [h4]
      exact hK ρ _ w ⟨_, [], h1, rfl, by simp⟩ hH (.refl _ _ _)
    by_cases h2 : ∃ c, o.op = .call c
    · obtain ⟨c, hoc⟩ := h2
      have hgo : c.operands.toList.all (gl P) = true := by have := hg; rw [hoc] at this; exact this
      rw [hoc] at h
      simp only [oper] at h
      rcases oCall_cases (P := P) (call := call) (c := c) (T := T) (H := H) with k | ⟨_, t, u, hxs, hb, hl, e⟩ | ⟨ys, f', g, l, hxs, hcf, hf, e⟩ | ⟨_, e⟩
      · rw [h] at k; exact k.elim
      · rw [e] at h
        injection h with h1 h2
        have hargs := evL_den hT hG (callArgs hgo) hxs
        subst hl
        obtain ⟨z, hz, hz2⟩ := one_of_DL hargs
        obtain ⟨y, hy, rfl⟩ := den_ifc hz2
        refine boom hz2 h1.symm h2.symm ?_
        obtain ⟨cs, hcs⟩ := exec_builtin (P := P) (a := a) hoc hb
        rw [hcs w, args_eq, hz]
        simp [builtin, Instr.panic, goPanic]
      · rw [e] at h
        refine (calls hoc hcf hf hxs).2 v H' ?_ hfr hK
        unfold ofCall at h
        split at h
        · cases h
        · cases h
        · rename_i hr; injection h with h1 h2; rw [hr, h1, h2]
      · rw [e] at h; cases h
    · by_cases h1 : ∃ c, o.op = .defer c
      · obtain ⟨c, hoc⟩ := h1
        rw [hoc] at h
        simp only [oper] at h
        rcases oDefer_cases (c := c) (T := T) with e | ⟨ys, f', g, l, _, _, _, e⟩ <;> rw [e] at h <;> cases h
      · by_cases h3 : ∃ x, o.op = .panic x
        · obtain ⟨x, hox⟩ := h3
          have hgx : gl P x = true := by have := hg; rw [hox] at this; simpa [opG, Op.operands] using this
          rw [hox] at h
          simp only [oper] at h
          rcases oPanic_cases (x := x) (T := T) (H := H) with e | ⟨t, u, hx, e⟩
          · rw [e] at h; cases h
          · rw [e] at h
            injection h with h1 h2
            have hd := ev_den hT hG hgx hx
            obtain ⟨y, hy, hxe⟩ := den_ifc hd
            rw [hxe] at hd
            refine boom hd h1.symm h2.symm ?_
            simp [execOp, hox, hxe, Instr.panic, goPanic]
        · have k := oper_MR (P := P) (call := call) (o := o.op) (fun c e => h2 ⟨c, e⟩) (fun c e => h1 ⟨c, e⟩) (fun x e => h3 ⟨x, e⟩) (T := T) (H := H)
          rw [h] at k; exact k.elim

/-- recover -/
theorem oper_rcv {call : CallF} {o : Oper} {H : Heap} (h : oper P call o.op T H = .rcv) (w : World) : (execOp a.eval o).run P w = .ok .recover w := by
  by_cases h2 : ∃ c, o.op = .call c
  · obtain ⟨c, hoc⟩ := h2
    rw [hoc] at h
    simp only [oper] at h
    rcases oCall_cases (P := P) (call := call) (c := c) (T := T) (H := H) with k | ⟨_, t, u, _, _, _, e⟩ | ⟨ys, f', g, l, _, _, _, e⟩ | ⟨hb, _⟩
    · rw [h] at k; exact k.elim
    · rw [e] at h; cases h
    · rw [e] at h; unfold ofCall at h; split at h <;> cases h
    · obtain ⟨cs, hcs⟩ := exec_builtin (P := P) (a := a) hoc hb
      rw [hcs w]; rfl
  · exfalso
    by_cases h1 : ∃ c, o.op = .defer c
    · obtain ⟨c, hoc⟩ := h1
      rw [hoc] at h
      simp only [oper] at h
      rcases oDefer_cases (c := c) (T := T) with e | ⟨ys, f', g, l, _, _, _, e⟩ <;> rw [e] at h <;> cases h
    · by_cases h3 : ∃ x, o.op = .panic x
      · obtain ⟨x, hox⟩ := h3
        rw [hox] at h
        simp only [oper] at h
        rcases oPanic_cases (x := x) (T := T) (H := H) with e | ⟨t, u, _, e⟩ <;> rw [e] at h <;> cases h
      · have k := oper_MR (P := P) (call := call) (o := o.op) (fun c e => h2 ⟨c, e⟩) (fun c e => h1 ⟨c, e⟩) (fun x e => h3 ⟨x, e⟩) (T := T) (H := H)
        rw [h] at k; exact k
end
end Eng
end Go.Proofs.YtlajkdbpmkodpaaGreatDoor
namespace Go.Proofs.YtlajkdbpmkodpaaGreatDoor
namespace Eng
open Go
section
variable {P : Program}

def ExR (ρ : Rho) : Ex → Exit → Prop
  | .normal, .normal => True
  | .exit i, .exit j => j = i
  | .ret, .ret => True
  | .panic v, .panic chain => ChainR ρ v chain
  | _, _ => False
theorem ChainR.mono {ρ ρ' : Rho} (s : Sub ρ ρ') {v : AV} {c : List PanicEntry} (h : ChainR ρ v c) : ChainR ρ' v c := by
  obtain ⟨x, o, h1, h2, h3⟩ := h; exact ⟨x, o, den_mono s v x h1, h2, h3⟩
theorem ExR.mono {ρ ρ' : Rho} (s : Sub ρ ρ') {e : Ex} {x : Exit} (h : ExR ρ e x) : ExR ρ' e x := by
  cases e <;> cases x <;> first | exact ChainR.mono s h | exact h | exact h.elim
/-- the state of the engine and the model's, related -/
structure Rel (P : Program) (nt : Nat) (ρ : Rho) (S : St) (a : Act) (w : World) : Prop where
  hr : HR ρ S.H w
  tr : TR ρ S.T a.tmps
  dr : DR ρ S.D a.defers
  sz : nt ≤ a.tmps.size
  gk : GOK P ρ
def Post (P : Program) (nt : Nat) (ρ : Rho) (H : Heap) (w : World) (e : Ex) (S' : St) : Exit → Act → World → Prop := fun x a' w' =>
  ∃ ρ', ExR ρ' e x ∧ Rel P nt ρ' S' a' w' ∧ Ext ρ H w ρ' S'.H w'
def opOK (P : Program) (nt : Nat) (o : Oper) : Bool := opG P o.op && (match o.dst with | some t => Nat.blt t nt | none => true)
theorem opOK.g {nt : Nat} {o : Oper} (h : opOK P nt o = true) : opG P o.op = true := by simp only [opOK, Bool.and_eq_true] at h; exact h.1
theorem opOK.d {nt : Nat} {o : Oper} (h : opOK P nt o = true) {t : Tmp} (ht : o.dst = some t) : t < nt := by
  simp only [opOK, Bool.and_eq_true, ht] at h; simpa [blt_iff] using h.2

theorem Act.tmps_put (a : Act) (d : Option Tmp) (x : Value) (i : Nat) : (a.put d x).tmps[i]? = if d = some i ∧ i < a.tmps.size then some x else a.tmps[i]? := by
  cases d with
  | none => simp [Act.put]
  | some t =>
    simp only [Act.put, Array.getElem?_setIfInBounds, Option.some.injEq]
    by_cases h : t = i
    · subst h
      by_cases h2 : t < a.tmps.size
      · simp [h2]
      · simp [h2]
    · simp [h]
theorem Act.size_put (a : Act) (d : Option Tmp) (x : Value) : (a.put d x).tmps.size = a.tmps.size := by cases d <;> simp [Act.put]
theorem Act.defers_put (a : Act) (d : Option Tmp) (x : Value) : (a.put d x).defers = a.defers := by cases d <;> rfl
theorem put_defs (a : Act) (ds : List Deferred) (d : Option Tmp) (x : Value) : ({ a with defers := ds }.put d x).tmps = (a.put d x).tmps := by cases d <;> rfl
theorem get_setT (d : Option Tmp) (v : AV) (T : Tm) (i : Nat) : (setT d v T).get (bits i) = if d = some i then some v else T.get (bits i) := by
  cases d with
  | none => simp [setT]
  | some t => simp only [setT, Tr.get_set_bits, Option.some.injEq]
theorem TR.put {ρ : Rho} {T : Tm} {a : Act} (h : TR ρ T a.tmps) {d : Option Tmp} (hd : ∀ t, d = some t → t < a.tmps.size) {v : AV} {x : Value} (hv : den ρ v = some x) : TR ρ (setT d v T) (a.put d x).tmps := by
  intro i u hu
  rw [get_setT] at hu
  rw [Act.tmps_put]
  by_cases e : d = some i
  · rw [if_pos e] at hu
    injection hu with hu; subst hu
    rw [if_pos ⟨e, hd i e⟩]
    exact ⟨x, hv, rfl⟩
  · rw [if_neg e] at hu
    rw [if_neg (fun h => e h.1)]
    exact h i u hu
theorem den_undef (ρ : Rho) : den ρ undefA = some undef := by simp [undefA, den, denL, undef]
theorem Rel.put {nt : Nat} {ρ : Rho} {S : St} {a : Act} {w : World} (h : Rel P nt ρ S a w) {d : Option Tmp} (hd : ∀ t, d = some t → t < nt) {v : AV} {x : Value} (hv : den ρ v = some x) : Rel P nt ρ ⟨setT d v S.T, S.H, S.D⟩ (a.put d x) w :=
  ⟨h.hr, h.tr.put (fun t ht => Nat.lt_of_lt_of_le (hd t ht) h.sz) hv, by rw [Act.defers_put]; exact h.dr, by rw [Act.size_put]; exact h.sz, h.gk⟩
theorem Rel.to {nt : Nat} {ρ ρ' : Rho} {S : St} {a : Act} {w w' : World} {H' : Heap} (h : Rel P nt ρ S a w) (s : Sub ρ ρ') (hr : HR ρ' H' w') : Rel P nt ρ' ⟨S.T, H', S.D⟩ a w' :=
  ⟨hr, h.tr.mono s, h.dr.mono s, h.sz, h.gk.mono s⟩

/-! ### guards -/
theorem want_wanted {ops : Array Oper} {o : Oper} {T : Tm} {ρ : Rho} {tmps : Array Value} {b : Bool}
    (hT : ∀ j w t v, o.guard = some (j, w) → (ops[j]?).bind (·.dst) = some t → T.get (bits t) = some v → ∃ x, den ρ v = some x ∧ tmps[t]? = some x) (h : want ops o.guard T = some b) :
    Region.wanted o (yielded ops tmps) = b := by
  unfold want at h
  unfold Region.wanted
  cases hg : o.guard with
  | none => rw [hg] at h; injection h
  | some jw =>
    obtain ⟨j, wv⟩ := jw
    rw [hg] at h
    simp only at h ⊢
    unfold yielded
    cases hd : (ops[j]?).bind (·.dst) with
    | none => rw [hd] at h; simp only at h; injection h with h
    | some t =>
      rw [hd] at h
      simp only at h
      cases hv : T.get (bits t) with
      | none => rw [hv] at h; cases h
      | some v =>
        rw [hv] at h
        obtain ⟨x, h1, h2⟩ := hT j wv t v hg hd hv
        simp only [Option.bind_some, h2]
        cases v
        case bool c =>
          simp only at h
          injection h with h; subst h
          have hx : x = .bool c := den_bool h1
          subst hx
          simp
        all_goals
          simp only at h
          injection h with h; subst h
          have : ∀ c, x ≠ .bool c := fun c hc => by
            subst hc
            simp only [den] at h1
            first
              | (simp at h1; done)
              | (split at h1 <;> first | (injection h1 with h1; simp at h1; done) | cases h1)
          cases x <;> first | rfl | exact absurd rfl (this _)

/-! ### regions that do not draw -/
theorem Fresh.left {ρ : Rho} {H H1 H2 : Heap} (h : Fresh ρ H H2) (k : H1.nx ≤ H2.nx) : Fresh ρ H H1 := fun b h1 h2 => h b h1 (Nat.lt_of_lt_of_le h2 k)
theorem Fresh.right {ρ ρ' : Rho} {H H1 H2 : Heap} {w w' : World} (h : Fresh ρ H H2) (x : Ext ρ H w ρ' H1 w') : Fresh ρ' H1 H2 := fun b h1 h2 => by
  rw [x.new b (.inr h1)]; exact h b (Nat.le_trans x.nx h1) h2
theorem Post.trans {nt : Nat} {ρ ρ' : Rho} {H H1 : Heap} {w w1 : World} {e : Ex} {S' : St} {x : Exit} {a' : Act} {w' : World} (hx : Ext ρ H w ρ' H1 w1) (h : Post P nt ρ' H1 w1 e S' x a' w') : Post P nt ρ H w e S' x a' w' := by
  obtain ⟨ρ2, h1, h2, h3⟩ := h
  exact ⟨ρ2, h1, h2, hx.trans h3⟩
theorem oneOp_mono {call : CallF} (hM : MC call) {ops : Array Oper} {o : Oper} {k : Next} (hk : ∀ S e S', k S = .ok e S' → S.H.nx ≤ S'.H.nx) {S S' : St} {e : Ex} (h : oneOp P call ops o k S = .ok e S') : S.H.nx ≤ S'.H.nx := by
  unfold oneOp at h
  simp only [after, putT_eq'] at h
  split at h
  · split at h
    · rename_i v H' hv
      have := oper_mono hM (.inl hv)
      exact Nat.le_trans this (hk _ _ _ h)
    · have := hk _ _ _ h; exact this
    · rename_i v H' hv
      injection h with h1 h2; subst h2
      exact oper_mono hM (.inr hv)
    · cases h
    · cases h
  · have := hk _ _ _ h; exact this
  · cases h
theorem opsR_mono {call : CallF} (hM : MC call) {ops : Array Oper} : ∀ (l : List Oper) (S : St) (e : Ex) (S' : St), opsR P call ops l S = .ok e S' → S.H.nx ≤ S'.H.nx
  | [], S, e, S', h => by simp only [opsR] at h; injection h with h1 h2; rw [h2]; exact Nat.le_refl _
  | o :: l, S, e, S', h => oneOp_mono hM (opsR_mono hM l) (by simpa only [opsR] using h)
theorem opsR_wp {call : CallF} (hC : CallOK P call) (hM : MC call) {nt : Nat} {ops : Array Oper} (hops : ∀ o ∈ ops.toList, opOK P nt o = true) : ∀ (l : List Oper) (k : Nat) (S : St) (e : Ex) (S' : St) (ρ : Rho) (a : Act) (w : World) (Q : Exit → Act → World → Prop),
    ops.toList.drop k = l → opsR P call ops l S = .ok e S' → Rel P nt ρ S a w → Fresh ρ S.H S'.H → (∀ x a' w', Post P nt ρ S.H w e S' x a' w' → Q x a' w') → wpOps P ops Q (List.range' k l.length) a w
  | [], k, S, e, S', ρ, a, w, Q, hd, h, hR, hF, hQ => by
    simp only [opsR] at h
    injection h with h1 h2; subst h1; subst h2
    exact hQ _ _ _ ⟨ρ, trivial, hR, .refl _ _ _⟩
  | o :: l, k, S, e, S', ρ, a, w, Q, hd, h, hR, hF, hQ => by
    have hk : ops[k]? = some o := by
      have : (ops.toList.drop k)[0]? = some o := by rw [hd]; rfl
      rw [List.getElem?_drop] at this
      simpa using this
    have hmem : o ∈ ops.toList := by have := List.mem_of_mem_drop (i := k) (l := ops.toList) (a := o) (by rw [hd]; simp); exact this
    have hok := hops o hmem
    have hd' : ops.toList.drop (k + 1) = l := by
      have := congrArg (List.drop 1) hd
      rw [List.drop_drop] at this
      simpa [Nat.add_comm] using this
    rw [List.length_cons, List.range'_succ]
    simp only [wpOps, hk]
    simp only [opsR, oneOp, after, putT_eq'] at h
    have hwant : ∀ b, want ops o.guard S.T = some b → Region.wanted o (yielded ops a.tmps) = b := fun b hb =>
      want_wanted (ρ := ρ) (fun j w' t v _ _ hv => hR.tr t v hv) hb
    have hdst : ∀ t, o.dst = some t → t < nt := fun t ht => opOK.d hok ht
    split at h
    · rename_i hw
      rw [hwant true hw, if_pos rfl]
      left
      obtain ⟨p1, p2, p3⟩ := oper_wp (K := wpOps P ops Q (List.range' (k + 1) l.length)) (Q := Q) hC (opOK.g hok) hR.tr hR.gk hR.hr
      split at h
      · rename_i v H' hv
        have hm := opsR_mono hM l _ _ _ h
        have hm0 := oper_mono hM (.inl hv)
        refine p1 v H' hv (hF.left hm) fun ρ' x w' e1 e2 e3 => ?_
        refine opsR_wp hC hM hops l (k + 1) _ e S' ρ' _ w' Q hd' h ?_ (hF.right e3) fun x a' w'' hp => hQ _ _ _ (hp.trans e3)
        exact (hR.to e3.sub e2).put hdst e1
      · rename_i f xs hv
        refine p2 f xs hv fun d hdd => ?_
        refine opsR_wp hC hM hops l (k + 1) _ e S' ρ _ w Q hd' h ?_ hF hQ
        have := hR.put hdst (den_undef ρ)
        exact ⟨this.hr, by rw [put_defs]; exact this.tr, by rw [Act.defers_put]; exact ⟨hdd, hR.dr⟩, by rw [Act.size_put]; exact hR.sz, hR.gk⟩
      · rename_i v H' hv
        injection h with h1 h2; subst h1; subst h2
        refine p3 v H' hv hF fun ρ' chain w' e1 e2 e3 => hQ _ _ _ ⟨ρ', e1, ?_, e3⟩
        exact hR.to e3.sub e2
      · cases h
      · cases h
    · rename_i hw
      rw [hwant false hw, if_neg (by simp)]
      exact opsR_wp hC hM hops l (k + 1) _ e S' ρ _ w Q hd' h (hR.put hdst (den_undef ρ)) hF hQ
    · cases h
end
end Eng
end Go.Proofs.YtlajkdbpmkodpaaGreatDoor
namespace Go.Proofs.YtlajkdbpmkodpaaGreatDoor
namespace Eng
open Go
section
variable {P : Program}

/-- what is asked of the regions that draw -/
def DrawOK (P : Program) (call : CallF) : Prop := ∀ (nt : Nat) (ops : Array Oper) (l : List Mv) (S : St) (e : Ex) (S' : St) (ρ : Rho) (a : Act) (w : World),
  (∀ o ∈ ops.toList, opOK P nt o = true) → planOf P ops = some l → drawR P call ops l S = .ok e S' → Rel P nt ρ S a w → Fresh ρ S.H S'.H →
  ∀ Q : Exit → Act → World → Prop, (∀ x a' w', Post P nt ρ S.H w e S' x a' w' → Q x a' w') → wpAny P .any ops Q ops.size (Array.replicate ops.size false) a w
def codeOK (P : Program) (nt : Nat) : Code → Bool
  | .region _ ops _ => ops.toList.all (opOK P nt)
  | .seq a b => codeOK P nt a && codeOK P nt b
  | .cond x a b => gl P x && codeOK P nt a && codeOK P nt b
  | .block _ b => codeOK P nt b
  | .loop b => codeOK P nt b
  | .scope b => codeOK P nt b
  | _ => true

/-- from a loop's body on -/
def LoopFrom (P : Program) (c : Code) (Q : Exit → Act → World → Prop) (a : Act) (w : World) : Prop :=
  ∀ (b : Frame) (k : List Item) (cs : List Frame), ∃ e a' w', Q e a' w' ∧ Arrives P (lone (b.at a (.code c :: .inLoop c :: k)) cs w) b k cs e a' w'
def wpX (P : Program) (c : Code) (Q : Exit → Act → World → Prop) (a : Act) (w : World) : Prop := match c with
  | .loop b => LoopFrom P b Q a w
  | c => c.wp P Q a w
theorem wpX_wp {c : Code} {Q : Exit → Act → World → Prop} {a : Act} {w : World} (h : wpX P c Q a w) : c.wp P Q a w := by
  cases c with
  | loop b => exact fun bf k cs => let ⟨e, a', w', q, r⟩ := h bf k cs; ⟨e, a', w', q, .of_steps (.one step_loop) r⟩
  | _ => exact h
theorem loop_from {c : Code} {Q : Exit → Act → World → Prop} {a : Act} {w : World} (h : c.wp P (Exit.then (LoopFrom P c Q) Q) a w) : LoopFrom P c Q a w := by
  intro b k cs
  obtain ⟨e, a₁, w₁, hq, harr⟩ := h b (.inLoop c :: k) cs
  cases e with
  | normal =>
    obtain ⟨e₂, a₂, w₂, hq₂, harr₂⟩ := hq b k cs
    exact ⟨e₂, a₂, w₂, hq₂, .of_steps (Steps.trans harr (.one step_inLoop)) harr₂⟩
  | exit id => exact ⟨_, a₁, w₁, hq, .pass (x := .inLoop c) rfl (fun _ _ => .inl (by simp)) harr⟩
  | goto l => exact ⟨_, a₁, w₁, hq, .pass (x := .inLoop c) rfl (fun _ _ => .inl (by simp)) harr⟩
  | ret => exact ⟨_, a₁, w₁, hq, .pass (x := .inLoop c) rfl (fun _ _ => .inl (by simp)) harr⟩
  | panic ch => exact ⟨_, a₁, w₁, hq, .pass (x := .inLoop c) rfl (fun _ _ => .inl (by simp)) harr⟩
  | outgrown => exact ⟨_, a₁, w₁, hq, .pass (x := .inLoop c) rfl (fun _ _ => .inl (by simp)) harr⟩

def SoundC (P : Program) (nt : Nat) (ex : ExF) (c : Code) : Prop := ∀ (S : St) (e : Ex) (S' : St) (ρ : Rho) (a : Act) (w : World) (Q : Exit → Act → World → Prop),
  ex c S = .ok e S' → Rel P nt ρ S a w → Fresh ρ S.H S'.H → (∀ x a' w', Post P nt ρ S.H w e S' x a' w' → Q x a' w') → wpX P c Q a w
def MX (ex : ExF) : Prop := ∀ c S e S', ex c S = .ok e S' → S.H.nx ≤ S'.H.nx

theorem drawR_mono {call : CallF} (hM : MC call) {ops : Array Oper} : ∀ (l : List Mv) (S : St) (e : Ex) (S' : St), drawR P call ops l S = .ok e S' → S.H.nx ≤ S'.H.nx
  | [], S, e, S', h => by simp only [drawR] at h; injection h with h1 h2; rw [h2]; exact Nat.le_refl _
  | .ck i :: l, S, e, S', h => by
    simp only [drawR] at h
    split at h
    · obtain ⟨_, h⟩ := cond_some h (by simp)
      exact drawR_mono hM l S e S' h
    · cases h
  | .ex i f :: l, S, e, S', h => by
    simp only [drawR, putT_eq'] at h
    split at h
    · split at h
      · split at h
        · rename_i v H' hv
          have h1 := oper_mono hM (.inl hv)
          have h2 := drawR_mono hM l _ e S' h
          exact Nat.le_trans h1 h2
        · have h2 := drawR_mono hM l _ e S' h; exact h2
        · rename_i v H' hv
          obtain ⟨_, h⟩ := cond_some h (by simp)
          injection h with h1 h2; subst h2
          exact oper_mono hM (.inr hv)
        · cases h
        · cases h
      · have h2 := drawR_mono hM l _ e S' h; exact h2
      · cases h
    · cases h
theorem seqK_mono {b : St → Res} (hb : ∀ S e S', b S = .ok e S' → S.H.nx ≤ S'.H.nx) {r : Res} {n : Nat} (hr : ∀ e S', r = .ok e S' → n ≤ S'.H.nx) {e : Ex} {S' : St} (h : seqK b r = .ok e S') : n ≤ S'.H.nx := by
  unfold seqK at h
  split at h
  · rename_i S1; exact Nat.le_trans (hr _ _ rfl) (hb _ _ _ h)
  · exact hr _ _ h
theorem stepC_mono {call : CallF} (hM : MC call) {ih : ExF} (hX : MX ih) : MX (stepC P call ih) := by
  intro c
  have refl : ∀ {S : St} {e' e : Ex} {S' : St}, (Res.ok e' S) = .ok e S' → S.H.nx ≤ S'.H.nx := fun h => by injection h with h1 h2; rw [h2]; exact Nat.le_refl _
  induction c <;> intro S e S' h <;> simp only [stepC] at h
  case skip => exact refl h
  case label => exact refl h
  case exit => exact refl h
  case ret => exact refl h
  case region id ops draw =>
    unfold regionR at h
    cases draw with
    | false => exact opsR_mono hM _ _ _ _ h
    | true =>
      cases hp : planOf P ops with
      | none => rw [hp] at h; cases h
      | some l => rw [hp] at h; exact drawR_mono hM _ _ _ _ h
  case seq x y ihx ihy => exact seqK_mono ihy (fun e S' h => ihx _ _ _ h) h
  case loop b ihb => exact seqK_mono (hX _) (fun e S' h => ihb _ _ _ h) h
  case scope b ihb => exact ihb _ _ _ h
  case block id b ihb =>
    unfold blockK at h
    split at h
    · rename_i i S1 hi
      cases hb : Nat.beq i id <;> rw [hb] at h <;> simp only [cond_true, cond_false] at h <;> (injection h with h1 h2; subst h2; exact ihb _ _ _ hi)
    · exact ihb _ _ _ h
  case cond x p q ihp ihq =>
    unfold condK at h
    split at h
    · exact ihp _ _ _ h
    · exact ihq _ _ _ h
    · cases h
  all_goals cases h

/-- what follows a part, when it ends as it should -/
theorem seq_wp {nt : Nat} {ih ih' : ExF} (hX : MX ih) {b : Code} (hb : SoundC P nt ih b) {x : Code} {ρ : Rho} {S : St} {a : Act} {w : World} (hx : SoundC P nt ih' x) (hR : Rel P nt ρ S a w) {e : Ex} {S' : St} (h : seqK (ih b) (ih' x S) = .ok e S') (hF : Fresh ρ S.H S'.H)
    {Q : Exit → Act → World → Prop} (hQ : ∀ x a' w', Post P nt ρ S.H w e S' x a' w' → Q x a' w') : x.wp P (Exit.then (wpX P b Q) Q) a w := by
  unfold seqK at h
  split at h
  · rename_i S1 h1
    have hm := hX _ _ _ _ h
    refine wpX_wp (hx S .normal S1 ρ a w _ h1 hR (hF.left hm) fun y a' w' hp => ?_)
    obtain ⟨ρ', e1, e2, e3⟩ := hp
    cases y <;> first | exact e1.elim | skip
    exact hb S1 e S' ρ' a' w' Q h e2 (hF.right e3) fun x a'' w'' hp => hQ _ _ _ (hp.trans e3)
  · rename_i hne
    refine wpX_wp (hx S e S' ρ a w _ h hR hF fun y a' w' hp => ?_)
    cases y
    case normal =>
      obtain ⟨ρ', e1, _⟩ := hp
      cases e <;> first | exact (hne _ h).elim | exact e1.elim
    all_goals exact hQ _ _ _ hp
theorem stepC_wp {call : CallF} (hC : CallOK P call) (hM : MC call) (hD : DrawOK P call) (hfol : P.follows .mixedOrders = true) {nt : Nat} {ih : ExF} (hX : MX ih) (hI : ∀ c, codeOK P nt c = true → SoundC P nt ih c) : ∀ c, codeOK P nt c = true → SoundC P nt (stepC P call ih) c := by
  intro c
  have hX' := stepC_mono (P := P) hM hX
  have refl : ∀ {S : St} {e' e : Ex} {S' : St}, (Res.ok e' S) = .ok e S' → e' = e ∧ S = S' := fun h => by injection h with h1 h2; exact ⟨h1, h2⟩
  induction c <;> intro hc S e S' ρ a w Q h hR hF hQ <;> simp only [stepC] at h <;> simp only [codeOK, Bool.and_eq_true] at hc
  case skip => obtain ⟨rfl, rfl⟩ := refl h; exact wp_skip (hQ _ _ _ ⟨ρ, trivial, hR, .refl _ _ _⟩)
  case label => obtain ⟨rfl, rfl⟩ := refl h; exact wp_label (hQ _ _ _ ⟨ρ, trivial, hR, .refl _ _ _⟩)
  case exit => obtain ⟨rfl, rfl⟩ := refl h; exact wp_exit (hQ _ _ _ ⟨ρ, rfl, hR, .refl _ _ _⟩)
  case ret => obtain ⟨rfl, rfl⟩ := refl h; exact wp_ret (hQ _ _ _ ⟨ρ, trivial, hR, .refl _ _ _⟩)
  case region id ops draw =>
    have hops : ∀ o ∈ ops.toList, opOK P nt o = true := List.all_eq_true.1 hc
    unfold regionR at h
    cases draw with
    | false =>
      refine wp_region ?_
      rw [List.range_eq_range']
      have := opsR_wp hC hM hops ops.toList 0 S e S' ρ a w Q rfl h hR hF hQ
      simpa using this
    | true =>
      cases hp : planOf P ops with
      | none => rw [hp] at h; cases h
      | some l =>
        rw [hp] at h
        refine wp_region_any hfol ?_
        have hR' : Rel P nt ρ S a { w with drawn := w.drawn + 1 } := ⟨hR.hr.drew, hR.tr, hR.dr, hR.sz, hR.gk⟩
        have hx : Ext ρ S.H w ρ S.H { w with drawn := w.drawn + 1 } := .drew S.H w
        exact hD nt ops l S e S' ρ a _ hops hp h hR' hF Q fun x a' w' hp => hQ _ _ _ (hp.trans hx)
  case seq x y ihx ihy => exact wp_seq (wp_mono (seq_wp hX' (ihy hc.2) (ihx hc.1) hR h hF hQ) fun z a' w' hz => by cases z <;> first | exact hz | exact wpX_wp hz)
  case loop b ihb => exact loop_from (seq_wp hX (hI (.loop b) (by simpa [codeOK] using hc)) (ihb hc) hR h hF hQ)
  case scope b ihb =>
    refine wp_scope_straight (wpX_wp (ihb hc S e S' ρ a w _ h hR hF fun x a' w' hp => ?_))
    cases x <;> first | exact hQ _ _ _ hp | skip
    obtain ⟨ρ', e1, _⟩ := hp
    cases e <;> exact e1.elim
  case block id b ihb =>
    refine wp_block ?_
    unfold blockK at h
    split at h
    · rename_i i S1 hi
      cases hb : Nat.beq i id <;> rw [hb] at h <;> simp only [cond_true, cond_false] at h <;> injection h with h1 h2 <;> subst h1 <;> subst h2
      · refine wpX_wp (ihb hc S _ _ ρ a w _ hi hR hF fun x a' w' hp => ?_)
        cases x <;> first | exact hQ _ _ _ hp | skip
        obtain ⟨ρ', e1, e2, e3⟩ := hp
        have e1 : _ = i := e1
        subst e1
        simp only [Exit.inBlock]
        rw [if_neg (fun e => by rw [e, Nat.beq_refl] at hb; cases hb)]
        exact hQ _ _ _ ⟨ρ', rfl, e2, e3⟩
      · refine wpX_wp (ihb hc S _ _ ρ a w _ hi hR hF fun x a' w' hp => ?_)
        obtain ⟨ρ', e1, e2, e3⟩ := hp
        cases x <;> first | exact e1.elim | skip
        have e1 : _ = i := e1
        subst e1
        simp only [Exit.inBlock]
        rw [if_pos (beq_true.1 hb)]
        exact hQ _ _ _ ⟨ρ', trivial, e2, e3⟩
    · rename_i hne
      refine wpX_wp (ihb hc S _ _ ρ a w _ h hR hF fun x a' w' hp => ?_)
      cases x <;> first | exact hQ _ _ _ hp | skip
      obtain ⟨ρ', e1, e2, e3⟩ := hp
      cases e <;> first | exact (hne _ _ h).elim | exact e1.elim
  case cond x p q ihp ihq =>
    unfold condK at h
    split at h
    · rename_i hb
      have := den_bool (ev_den hR.tr hR.gk hc.1.1 hb)
      exact wp_cond_true this (wpX_wp (ihp hc.1.2 S e S' ρ a w Q h hR hF hQ))
    · rename_i hb
      have := den_bool (ev_den hR.tr hR.gk hc.1.1 hb)
      exact wp_cond_false this (wpX_wp (ihq hc.2 S e S' ρ a w Q h hR hF hQ))
    · cases h
  all_goals cases h
end
end Eng
end Go.Proofs.YtlajkdbpmkodpaaGreatDoor
