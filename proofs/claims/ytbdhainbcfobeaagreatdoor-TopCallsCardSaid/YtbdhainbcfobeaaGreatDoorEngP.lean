/-
  THE ENGINE, part P: what an operation looks at; the heap's next number never falls; reads of a larger heap.
-/
import Derived.Test.YtbdhainbcfobeaaGreatDoorEngO
namespace Go.Proofs.YtbdhainbcfobeaaGreatDoor
namespace Eng
open Go
section
variable {P : Program}

/-! ### what an operation looks at -/
def looksT (x : Operand) (t : Tmp) : Prop := x = .tmp t
theorem ev_congr {T T' : Tm} {x : Operand} (h : ∀ t, x = .tmp t → T.get (bits t) = T'.get (bits t)) : ev x T = ev x T' := by
  cases x <;> simp only [ev]
  exact h _ rfl
theorem evL_congr {T T' : Tm} : ∀ {xs : List Operand}, (∀ t, .tmp t ∈ xs → T.get (bits t) = T'.get (bits t)) → evL xs T = evL xs T'
  | [], _ => rfl
  | x :: l, h => by
    simp only [evL]
    rw [ev_congr (x := x) fun t e => h t (by simp [e]), evL_congr (xs := l) fun t ht => h t (by simp [ht])]
theorem fillL_congr {T T' : Tm} {plc : Nat → Option (Nat × Nat)} : ∀ {ps : List (Nat × Operand)} {cells : List AV}, (∀ t, .tmp t ∈ ps.map (·.2) → T.get (bits t) = T'.get (bits t)) → fillL cells plc T ps = fillL cells plc T' ps
  | [], _, _ => rfl
  | (i, x) :: l, cells, h => by
    simp only [fillL]
    rw [ev_congr (x := x) fun t e => h t (by simp [e])]
    split
    · split
      · congr 1
        exact fillL_congr fun t ht => h t (by simp only [List.map_cons, List.mem_cons]; exact .inr ht)
      · rfl
    all_goals rfl
theorem boundOf_congr {T T' : Tm} {x : Option Operand} {d : Nat} (h : ∀ t, x = some (.tmp t) → T.get (bits t) = T'.get (bits t)) : boundOf x T d = boundOf x T' d := by
  cases x with
  | none => rfl
  | some x => simp only [boundOf]; rw [ev_congr fun t e => h t (by rw [e])]
theorem bnd3_congr {T T' : Tm} {lo hi mx : Option Operand} (h1 : ∀ t, lo = some (.tmp t) → T.get (bits t) = T'.get (bits t)) (h2 : ∀ t, hi = some (.tmp t) → T.get (bits t) = T'.get (bits t))
    (h3 : ∀ t, mx = some (.tmp t) → T.get (bits t) = T'.get (bits t)) (n c : Nat) : bnd3 lo hi mx T n c = bnd3 lo hi mx T' n c := by
  unfold bnd3
  rw [boundOf_congr h1, boundOf_congr h3]
  cases hi with
  | none => cases mx <;> rfl
  | some hi => simp only; rw [boundOf_congr h2]
theorem oper_congr {call : CallF} {o : Op} {T T' : Tm} (h : ∀ t, .tmp t ∈ o.operands → T.get (bits t) = T'.get (bits t)) : oper P call o T = oper P call o T' := by
  funext H
  cases o <;> simp only [oper] <;> simp only [Op.operands] at h
  case move x => simp only [oMove]; rw [ev_congr fun t e => h t (by simp [e])]
  case assign x => simp only [oMove]; rw [ev_congr fun t e => h t (by simp [e])]
  case pick c x y => simp only [oPick]; rw [ev_congr (x := c) fun t e => h t (by simp [e]), ev_congr (x := x) fun t e => h t (by simp [e]), ev_congr (x := y) fun t e => h t (by simp [e])]
  case box t x => simp only [oBox]; rw [ev_congr (x := x) fun t e => h t (by simp [e])]
  case build t ps =>
    simp only [oBuild]
    have : ∀ cells plc, fillL cells plc T ps.toList = fillL cells plc T' ps.toList := fun cells plc => fillL_congr fun t ht => h t (by simpa using ht)
    simp only [this]
  case buildSlice t n ps =>
    simp only [oBuildSlice]
    have : ∀ cells plc, fillL cells plc T ps.toList = fillL cells plc T' ps.toList := fun cells plc => fillL_congr fun t ht => h t (by simpa using ht)
    simp only [this]
  case load t x => simp only [oLoad]; rw [ev_congr (x := x) fun t e => h t (by simp [e])]
  case store t x y => simp only [oStore]; rw [ev_congr (x := x) fun t e => h t (by simp [e]), ev_congr (x := y) fun t e => h t (by simp [e])]
  case nilCheck x => simp only [oNilCheck]; rw [ev_congr (x := x) fun t e => h t (by simp [e])]
  case binOp op t x y yt => simp only [oBin]; rw [ev_congr (x := x) fun t e => h t (by simp [e]), ev_congr (x := y) fun t e => h t (by simp [e])]
  case unOp op t x => simp only [oUn]; rw [ev_congr (x := x) fun t e => h t (by simp [e])]
  case convert s d x => simp only [oConvert]; rw [ev_congr (x := x) fun t e => h t (by simp [e])]
  case makeInterface t x => simp only [oMakeIface]; rw [ev_congr (x := x) fun t e => h t (by simp [e])]
  case makeFunc fn f c => simp only [oMakeFunc]; rw [evL_congr fun t e => h t (by simp at e ⊢; exact .inr e)]
  case makeSlice t l c => simp only [oMakeSlice]; rw [ev_congr (x := l) fun t e => h t (by simp [e]), ev_congr (x := c) fun t e => h t (by simp [e])]
  case slice t x lo hi mx =>
    simp only [oSlice]
    rw [ev_congr (x := x) fun t e => h t (by simp [e])]
    have hlo : ∀ t, lo = some (.tmp t) → T.get (bits t) = T'.get (bits t) := fun t e => h t (by simp [e])
    have hhi : ∀ t, hi = some (.tmp t) → T.get (bits t) = T'.get (bits t) := fun t e => h t (by simp [e])
    have hmx : ∀ t, mx = some (.tmp t) → T.get (bits t) = T'.get (bits t) := fun t e => h t (by simp [e])
    have hb : ∀ n c, bnd3 lo hi mx T n c = bnd3 lo hi mx T' n c := bnd3_congr hlo hhi hmx
    have hb0 : ∀ n c, bnd3 lo hi none T n c = bnd3 lo hi none T' n c := bnd3_congr hlo hhi (fun t e => by cases e)
    have hb1 : ∀ m n c, mx = some m → bnd3 lo hi (some m) T n c = bnd3 lo hi (some m) T' n c := fun m n c e => e ▸ hb n c
    cases mx with
    | none => simp only [oSliceS, hb, hb0]
    | some m => simp only [oSliceS, hb, hb0]
  case fieldAddr t x f => simp only [oFieldAddr]; rw [ev_congr (x := x) fun t e => h t (by simp [e])]
  case field t x f => simp only [oField]; rw [ev_congr (x := x) fun t e => h t (by simp [e])]
  case indexAddr t x i => simp only [oIndexAddr]; rw [ev_congr (x := x) fun t e => h t (by simp [e]), ev_congr (x := i) fun t e => h t (by simp [e])]
  case index t x i => simp only [oIndex]; rw [ev_congr (x := x) fun t e => h t (by simp [e]), ev_congr (x := i) fun t e => h t (by simp [e])]
  case lookup t x i ok => simp only [oLookup]; rw [ev_congr (x := x) fun t e => h t (by simp [e]), ev_congr (x := i) fun t e => h t (by simp [e])]
  case mapUpdate t m k x => simp only [oMapUpdate]; rw [ev_congr (x := m) fun t e => h t (by simp [e]), ev_congr (x := k) fun t e => h t (by simp [e]), ev_congr (x := x) fun t e => h t (by simp [e])]
  case typeAssert x xt t ok => simp only [oAssert]; rw [ev_congr (x := x) fun t e => h t (by simp [e])]
  case extract x i => simp only [oExtract]; rw [ev_congr (x := x) fun t e => h t (by simp [e])]
  case panic x => simp only [oPanic]; rw [ev_congr (x := x) fun t e => h t (by simp [e])]
  case call c =>
    simp only [oCall]
    rw [evL_congr fun t e => h t (by have e' := Array.mem_toList_iff.1 e; simp [Call.operands, e'])]
    split
    · cases hc : c.callee <;> simp only
      · rename_i f; rw [ev_congr (x := f) fun t e => h t (by simp [Call.operands, hc, e])]
    · rfl
  case defer c =>
    simp only [oDefer]
    rw [evL_congr fun t e => h t (by have e' := Array.mem_toList_iff.1 e; simp [Call.operands, e'])]
    split
    · cases hc : c.callee <;> simp only
      · rename_i f; rw [ev_congr (x := f) fun t e => h t (by simp [Call.operands, hc, e])]
    · rfl

/-! ### the next number never falls -/
def MR (H : Heap) : OR → Prop
  | .val _ H' => H.nx ≤ H'.nx
  | .pan _ _ => False
  | .dfr _ _ => False
  | .rcv => False
  | .bad => True
theorem MR.bad {H : Heap} : MR H .bad := trivial
theorem MR.val {H : Heap} {v : AV} : MR H (.val v H) := Nat.le_refl _
theorem putC_MR {H : Heap} {t : Tr AV} {i : Nat} {vs : List AV} {k : Tr AV → OR} (h : ∀ t, MR H (k t)) : MR H (putC t i vs .bad k) := by
  rcases putC_eq vs t i OR.bad k with ⟨e, _⟩ | e <;> rw [e]
  · exact h _
  · exact .bad
theorem newOpen_MR {H : Heap} {n es : Nat} {l : List AV} : MR H (newOpen H n es l) := by
  unfold newOpen
  simp only [layC_eq, fN_eq, newB_eq]
  cases (!Nat.blt n limit) <;> simp [MR]
theorem MR.le {H H1 : Heap} {r : OR} (h : H.nx ≤ H1.nx) (k : MR H1 r) : MR H r := by
  cases r <;> simp only [MR] at * <;> omega
theorem okV_MR {v : Option AV} {H : Heap} : MR H (okV v H) := by cases v <;> simp [okV, MR]
theorem oPart_MR {l : List AV} {p : Plc} {H : Heap} : MR H (oPart l p H) := by unfold oPart; simp only [fL_eq]; split <;> simp [MR]
theorem loadR_MR {H : Heap} {b i n : Nat} {g : Bool} : MR H (loadR H b i g n) := by
  unfold loadR; split
  · cases g <;> simp only [cond_true, cond_false] <;> split <;> simp [MR]
  · trivial
theorem cond_MR {H : Heap} {c : Bool} {x y : OR} (h : MR H x) (k : MR H y) : MR H (bif c then x else y) := by cases c <;> assumption
theorem eqOp_MR {op : BinOp} {c : Bool} {H : Heap} : MR H (eqOp op c H) := by unfold eqOp; simp only [fB_eq]; split <;> simp [MR]
theorem strOp_MR {op : BinOp} {l x m y : Nat} {H : Heap} : MR H (strOp op l x m y H) := by
  unfold strOp; simp only [fB_eq, fN_eq]; split <;> first | (apply cond_MR <;> simp [MR]; done) | simp [MR]
theorem shiftOp_MR {op : BinOp} {k : IntKind} {x y : Int} {H : Heap} : MR H (shiftOp op k x y H) := by unfold shiftOp; simp only [fI_eq, fN_eq]; split <;> simp [MR]
theorem intOp_MR {op : BinOp} {k : IntKind} {x y : Int} {H : Heap} : MR H (intOp op k x y H) := by
  unfold intOp; simp only [fI_eq, fN_eq, fB_eq]
  split <;> first | (apply cond_MR <;> simp [MR]; done) | (simp [MR]; done) | (split <;> first | (apply cond_MR <;> simp [MR]; done) | (simp [MR]; done))
theorem oSliceR_MR {b o z : Nat} {B : Option (Nat × Nat × Nat)} {H : Heap} : MR H (oSliceR b o z B H) := by unfold oSliceR; simp only [fN_eq]; split <;> simp [MR]
theorem oSliceO_MR {b o z n : Nat} {B : Option (Nat × Nat × Nat)} {H : Heap} : MR H (oSliceO b o z n B H) := by
  unfold oSliceO; simp only [fN_eq]; split
  · apply cond_MR <;> simp [MR]
  · trivial
theorem oSliceS_MR {lo hi mx : Option Operand} {n s : Nat} {T : Tm} {H : Heap} : MR H (oSliceS lo hi mx n s T H) := by
  unfold oSliceS; simp only [fN_eq]; split
  · trivial
  · split <;> simp [MR]
theorem copyR_MR {H : Heap} {b o n es m : Nat} {l : List AV} : MR H (copyR H b o n es m l) := by
  unfold copyR; simp only [fN_eq, setB_eq]; split
  · exact putC_MR fun _ => by simp [MR]
  · trivial
theorem clearR_MR {H : Heap} {b o n : Nat} {l : List AV} : MR H (clearR H b o n l) := by
  unfold clearR; simp only [setB_eq]; split
  · exact putC_MR fun _ => by simp [MR]
  · trivial
theorem storeR_MR {H : Heap} {b i : Nat} {l : List AV} : MR H (storeR H b i l) := by
  unfold storeR; simp only [setB_eq]; split
  · exact putC_MR fun _ => by simp [MR]
  · trivial
theorem appendR_MR {H : Heap} {s : AV} {es m : Nat} {l : List AV} : MR H (appendR H s es m l) := by
  unfold appendR
  simp only [fN_eq, setB_eq, layC_eq, newB_eq]
  split
  · exact cond_MR .val newOpen_MR
  · apply cond_MR
    · split
      · exact putC_MR fun _ => by simp [MR]
      · trivial
    · split
      · split
        · exact newOpen_MR
        · trivial
      · trivial
  · apply cond_MR
    · split
      · apply cond_MR
        · exact putC_MR fun _ => by simp [MR]
        · apply cond_MR
          · apply cond_MR
            · simp [MR]
            · split
              · exact MR.le (Nat.le_refl _) newOpen_MR
              · trivial
          · trivial
      · trivial
    · trivial
  · apply cond_MR
    · split
      · exact MR.le (Nat.le_refl _) newOpen_MR
      · trivial
    · trivial
  · trivial
theorem oBuiltin_MR {b : Builtin} (hb : b ≠ .panic) (hr : b ≠ .recover) {ts : List TypeId} {xs : List AV} {H : Heap} : MR H (oBuiltin P b ts xs H) := by
  unfold oBuiltin
  split
  · unfold oAppend appS
    split
    · split
      · split
        · exact cond_MR appendR_MR .bad
        · trivial
      · split
        · exact cond_MR appendR_MR .bad
        · trivial
      · trivial
    · trivial
  · unfold oCopy
    split
    · split
      · split
        · exact copyR_MR
        · exact cond_MR copyR_MR .bad
        · exact .val
        · trivial
      · trivial
    · trivial
  · unfold oClear
    split
    · split
      · split
        · exact .val
        · exact clearR_MR
        · exact cond_MR clearR_MR .bad
        · trivial
      · trivial
    · trivial
  · unfold oLen
    split
    · split <;> first | exact .val | trivial | (split <;> first | exact .val | trivial)
    · trivial
  · unfold oCap
    split
    · split <;> first | exact .val | trivial
    · trivial
  · unfold oMinMax; simp only [fI_eq]; split <;> simp [MR]
  · unfold oMinMax; simp only [fI_eq]; split <;> simp [MR]
  · exact absurd rfl hb
  · exact absurd rfl hr
  · trivial
def MC (call : CallF) : Prop := ∀ f xs H, match call f xs H with | .ret _ H' => H.nx ≤ H'.nx | .pan _ H' => H.nx ≤ H'.nx | .bad => True
theorem newR_MR {H : Heap} {vs : List AV} : MR H (newR H vs) := by unfold newR; simp [layC_eq, fN_eq, newB_eq, MR]
theorem oper_MR {call : CallF} {o : Op} (h1 : ∀ c, o ≠ .call c) (h2 : ∀ c, o ≠ .defer c) (h3 : ∀ x, o ≠ .panic x) {T : Tm} {H : Heap} : MR H (oper P call o T H) := by
  cases o <;> simp only [oper]
  case move => exact okV_MR
  case assign => exact okV_MR
  case pick => unfold oPick; split <;> first | exact okV_MR | trivial
  case alloc => unfold oAlloc; split <;> first | exact newR_MR | trivial
  case box => unfold oBox; split <;> first | exact newR_MR | trivial
  case build =>
    unfold oBuild
    split
    · apply cond_MR
      · split <;> first | exact .val | trivial
      · trivial
    · split
      · split <;> first | exact .val | trivial
      · trivial
    · trivial
  case buildSlice =>
    unfold oBuildSlice; simp only [layC_eq, fN_eq, newB_eq]
    split
    · apply cond_MR
      · split <;> simp [MR]
      · trivial
    · trivial
  case load => unfold oLoad; split <;> first | exact loadR_MR | trivial
  case store => unfold oStore; split <;> first | exact cond_MR storeR_MR .bad | trivial
  case nilCheck => unfold oNilCheck; split <;> first | exact .val | trivial
  case binOp =>
    unfold oBin
    split <;> first
      | trivial
      | exact strOp_MR
      | (split <;> first | exact shiftOp_MR | exact eqOp_MR | trivial | exact cond_MR intOp_MR .bad | (split <;> first | exact eqOp_MR | trivial) | (apply cond_MR .bad; split <;> first | exact eqOp_MR | trivial))
  case unOp => unfold oUn; simp only [fB_eq, fI_eq]; split <;> first | exact .val | trivial
  case convert =>
    unfold oConvert; simp only [fI_eq, fN_eq]
    split
    · exact .val
    · exact .val
    · split
      · exact cond_MR newOpen_MR .bad
      · trivial
    · split
      · apply cond_MR .bad
        split
        · split <;> first | exact .val | trivial
        · trivial
      · trivial
    · trivial
  case makeInterface => unfold oMakeIface; split <;> first | exact .val | trivial
  case makeFunc => unfold oMakeFunc; split <;> first | exact .val | trivial
  case makeMap => unfold oMakeMap; simp only [newB_eq]; split <;> simp [MR]
  case makeSlice =>
    unfold oMakeSlice; simp only [layC_eq, fN_eq, newB_eq]
    split
    · apply cond_MR <;> simp [MR]
    · trivial
  case slice =>
    unfold oSlice
    split
    · exact oSliceS_MR
    · split <;> first | exact .val | trivial
    · split <;> first | exact oSliceR_MR | trivial
    · split
      · apply cond_MR
        · split <;> first | exact oSliceO_MR | exact oSliceR_MR
        · trivial
      · trivial
    · split <;> first | exact oSliceR_MR | trivial
    · trivial
  case fieldAddr => unfold oFieldAddr; simp only [fN_eq]; split <;> first | exact cond_MR .bad .val | trivial
  case field => unfold oField; split <;> first | exact oPart_MR | trivial
  case indexAddr => unfold oIndexAddr; simp only [fN_eq]; split <;> first | trivial | (split <;> first | exact .val | trivial)
  case index => unfold oIndex; simp only [fN_eq]; split <;> first | trivial | (split <;> first | exact .val | exact oPart_MR | trivial)
  case lookup =>
    unfold oLookup
    split
    · split
      · apply cond_MR
        · split
          · exact cond_MR .val .val
          · exact cond_MR .val .val
          · trivial
        · trivial
      · trivial
    · trivial
  case mapUpdate =>
    unfold oMapUpdate; simp only [setB_eq]
    split
    · split
      · apply cond_MR
        · split <;> simp [MR]
        · trivial
      · trivial
    · trivial
  case typeAssert =>
    unfold oAssert
    split
    · trivial
    · apply cond_MR
      · exact cond_MR .val .val
      · apply cond_MR
        · split <;> first | exact .val | trivial
        · trivial
    · trivial
  case extract => unfold oExtract; split <;> first | exact okV_MR | trivial
  case call => exact absurd rfl (h1 _)
  case defer => exact absurd rfl (h2 _)
  case panic => exact absurd rfl (h3 _)
  all_goals trivial
/-- what a call of a builtin gives -/
theorem oCall_cases {call : CallF} {c : Call} {T : Tm} {H : Heap} : MR H (oCall P call c T H) ∨
    (∃ xs t v, evL c.args.toList T = some xs ∧ c.callee = .builtin .panic ∧ xs = [.ifc t v] ∧ oCall P call c T H = .pan (.ifc t v) H) ∨
    (∃ xs f g l, evL c.args.toList T = some xs ∧ c.callee = .value f ∧ ev f T = some (.fn g l) ∧ oCall P call c T H = ofCall (call g (xs ++ l) H)) ∨ (c.callee = .builtin .recover ∧ oCall P call c T H = .rcv) := by
  unfold oCall
  split
  · rename_i xs hxs
    split
    · rename_i b hb
      by_cases hp : b = .panic
      · subst hp
        simp only [oBuiltin]
        split
        · rename_i t v; exact .inr (.inl ⟨_, t, v, hxs, hb, rfl, rfl⟩)
        · exact .inl trivial
      · by_cases hr : b = .recover
        · subst hr; exact .inr (.inr (.inr ⟨hb, rfl⟩))
        · exact .inl (oBuiltin_MR hp hr)
    · rename_i f hf
      split
      · rename_i g l hg; exact .inr (.inr (.inl ⟨xs, f, g, l, hxs, hf, hg, rfl⟩))
      · exact .inl trivial
    · exact .inl trivial
  · exact .inl trivial
theorem oPanic_cases {x : Operand} {T : Tm} {H : Heap} : oPanic x T H = .bad ∨ ∃ t v, ev x T = some (.ifc t v) ∧ oPanic x T H = .pan (.ifc t v) H := by
  unfold oPanic
  split
  · rename_i t v h; exact .inr ⟨t, v, h, rfl⟩
  · exact .inl rfl
theorem oDefer_cases {c : Call} {T : Tm} : oDefer c T = .bad ∨ ∃ xs f g l, evL c.args.toList T = some xs ∧ c.callee = .value f ∧ ev f T = some (.fn g l) ∧ oDefer c T = .dfr g (xs ++ l) := by
  unfold oDefer
  split
  · rename_i xs hxs
    split
    · rename_i f hf
      split
      · rename_i g l hg; exact .inr ⟨xs, f, g, l, hxs, hf, hg, rfl⟩
      · exact .inl rfl
    · exact .inl rfl
  · exact .inl rfl
theorem oper_bad {call : CallF} {o : Op} {T : Tm} {H H' : Heap} {v : AV} (hcl : cls P o = .bad) (h : oper P call o T H = .val v H') : False := by
  cases o <;> simp only [cls] at hcl <;> simp only [oper] at h
  case convert =>
    unfold oConvert at h
    split at h
    · rename_i hs hd _; rw [hs, hd] at hcl; cases hcl
    · rename_i hs hd _; rw [hs, hd] at hcl; cases hcl
    · rename_i hs hd _; rw [hs, hd] at hcl; cases hcl
    · rename_i hs hd _; rw [hs, hd] at hcl; cases hcl
    · cases h
  case slice => split at hcl <;> cases hcl
  case call c =>
    obtain ⟨ca, cb, cc⟩ := c
    cases ca <;> simp only [cls] at hcl
    · cases hcl
    · cases hcl
    · rename_i b
      cases b <;> simp only at hcl <;> (try cases hcl)
      all_goals first
        | (split at hcl <;> cases hcl; done)
        | (simp only [oCall, oBuiltin] at h; split at h <;> cases h)
  all_goals first | (cases h; done) | (cases hcl; done)
/-- the next number never falls -/
theorem oper_mono {call : CallF} (hc : MC call) {o : Op} {T : Tm} {H H' : Heap} {v : AV} (h : oper P call o T H = .val v H' ∨ oper P call o T H = .pan v H') : H.nx ≤ H'.nx := by
  have fin : MR H (oper P call o T H) → H.nx ≤ H'.nx := fun k => by
    rcases h with h | h <;> rw [h] at k
    · exact k
    · exact k.elim
  by_cases h1 : ∃ c, o = .call c
  · obtain ⟨c, rfl⟩ := h1
    simp only [oper] at h fin
    rcases oCall_cases (P := P) (call := call) (c := c) (T := T) (H := H) with k | ⟨xs, t, u, _, _, _, e⟩ | ⟨xs, f, g, l, _, _, _, e⟩ | ⟨_, e⟩
    · exact fin k
    · rw [e] at h
      rcases h with h | h
      · cases h
      · injection h with _ h2; exact Nat.le_of_eq (by rw [h2])
    · rw [e] at h
      have := hc g (xs ++ l) H
      revert this h
      cases call g (xs ++ l) H <;> simp only [ofCall]
      · rintro (h | h) <;> cases h
      · rintro (h | h) <;> first | (injection h with _ h2; rw [h2]; exact id) | cases h
      · rintro (h | h) <;> first | (injection h with _ h2; rw [h2]; exact id) | cases h
    · rw [e] at h; rcases h with h | h <;> cases h
  · by_cases h2 : ∃ c, o = .defer c
    · obtain ⟨c, rfl⟩ := h2
      simp only [oper] at h
      rcases oDefer_cases (c := c) (T := T) with e | ⟨xs, f, g, l, _, _, _, e⟩ <;> rw [e] at h <;> rcases h with h | h <;> cases h
    · by_cases h3 : ∃ x, o = .panic x
      · obtain ⟨x, rfl⟩ := h3
        simp only [oper] at h
        rcases oPanic_cases (x := x) (T := T) (H := H) with e | ⟨t, u, _, e⟩ <;> rw [e] at h <;> rcases h with h | h <;> first | (cases h; done) | (injection h with _ h2; exact Nat.le_of_eq (by rw [h2]))
      · exact fin (oper_MR (fun c e => h1 ⟨c, e⟩) (fun c e => h2 ⟨c, e⟩) fun x e => h3 ⟨x, e⟩)
theorem cond_none {β : Type} {c : Bool} {x y : β} {z : β} (h : (bif c then x else y) = z) (hx : x ≠ z) : c = false ∧ y = z := by
  cases c with
  | false => exact ⟨rfl, h⟩
  | true => exact absurd h hx
/-! ### reads of a larger heap -/
def Big (H H2 : Heap) : Prop := ∀ b B, getB H b = some B → getB H2 b = some B
theorem elemsOf_ext {H H2 : Heap} (hb : Big H H2) {v : AV} {es : Nat} {r : Nat × List AV} (h : elemsOf H v es = some r) : elemsOf H2 v es = some r := by
  unfold elemsOf at h ⊢
  split at h
  · exact h
  · exact h
  · exact h
  · split at h
    · rename_i hB; rw [hb _ _ hB]; exact h
    · cases h
  · obtain ⟨hc, h⟩ := cond_some h (by simp)
    rw [hc, cond_true]
    split at h
    · rename_i hB; rw [hb _ _ hB]; exact h
    · cases h
  · cases h
theorem loadR_ext {H H2 H' : Heap} (hb : Big H H2) {b i n : Nat} {g : Bool} {v : AV} (h : loadR H b i g n = .val v H') : loadR H2 b i g n = .val v H2 := by
  unfold loadR at h ⊢
  split at h
  · rename_i t _ _ _ hB
    rw [hb _ _ hB]
    cases g
    · simp only [cond_false] at h ⊢
      split at h
      · injection h with h1 h2; subst h1; rfl
      · cases h
    · simp only [cond_true] at h ⊢
      split at h
      · injection h with h1 h2; subst h1; rfl
      · cases h
  · cases h
theorem knownC_ext {H H2 : Heap} (hb : Big H H2) {b o es n : Nat} (h : knownC H b o es = some n) : knownC H2 b o es = some n := by
  unfold knownC at h ⊢
  split at h
  · rename_i hB; rw [hb _ _ hB]; exact h
  · cases h
theorem oSliceR_ext {H H2 H' : Heap} {b o z : Nat} {B : Option (Nat × Nat × Nat)} {v : AV} (h : oSliceR b o z B H = .val v H') : oSliceR b o z B H2 = .val v H2 := by
  unfold oSliceR at h ⊢
  simp only [fN_eq] at h ⊢
  split at h
  · injection h with h1 h2; subst h1; rfl
  · cases h
theorem oSliceO_ext {H H2 H' : Heap} {b o z n : Nat} {B : Option (Nat × Nat × Nat)} {v : AV} (h : oSliceO b o z n B H = .val v H') : oSliceO b o z n B H2 = .val v H2 := by
  unfold oSliceO at h ⊢
  simp only [fN_eq] at h ⊢
  split at h
  · rename_i l hh m
    cases hc : Nat.blt l n <;> rw [hc] at h <;> simp only [cond_true, cond_false] at h ⊢ <;> (injection h with h1 h2; subst h1; rfl)
  · cases h
theorem oper_ext {call : CallF} {o : Op} {T : Tm} {H H2 H' : Heap} {v : AV} (hcl : cls P o = .read) (hb : Big H H2) (h : oper P call o T H = .val v H') : oper P call o T H2 = .val v H2 := by
  cases o <;> simp only [cls] at hcl <;> simp only [oper] at h ⊢
  case load t x =>
    unfold oLoad at h ⊢
    split at h
    · exact loadR_ext hb h
    · cases h
  case lookup t m x ok =>
    unfold oLookup at h ⊢
    split at h
    · split at h
      · rename_i hd hB hz
        rw [hd, hb _ _ hB, hz]
        obtain ⟨hc, h⟩ := cond_some h (by simp)
        simp only at h ⊢
        rw [hc, cond_true]
        split at h
        · cases ok <;> simp only [cond_true, cond_false] at h ⊢ <;> (injection h with h1 h2; subst h1; rfl)
        · cases ok <;> simp only [cond_true, cond_false] at h ⊢ <;> (injection h with h1 h2; subst h1; rfl)
        · cases h
      · cases h
    · cases h
  case convert s d x =>
    unfold oConvert at h ⊢
    split at h
    · rename_i hs hd _; rw [hs, hd] at hcl; cases hcl
    · rename_i hs hd _; rw [hs, hd] at hcl; cases hcl
    · rename_i hs hd _; rw [hs, hd] at hcl; cases hcl
    · split at h
      · obtain ⟨hc, h⟩ := cond_none h (by simp)
        rw [hc, cond_false]
        split at h
        · rename_i n l hel
          rw [elemsOf_ext hb hel]
          simp only [fN_eq] at h ⊢
          split at h
          · injection h with h1 h2; subst h1; rfl
          · cases h
        · cases h
      · cases h
    · cases h
  case slice t x lo hi mx =>
    unfold oSlice at h ⊢
    split at h
    · rename_i hu _; rw [hu] at hcl; cases hcl
    · split at h
      · injection h with h1 h2; subst h1; rfl
      · cases h
    · split at h
      · exact oSliceR_ext h
      · cases h
    · split at h
      · rename_i hz hk
        rw [hz, knownC_ext hb hk]
        obtain ⟨hc, h⟩ := cond_some h (by simp)
        simp only at h ⊢
        rw [hc, cond_true]
        split at h
        · exact oSliceO_ext h
        · exact oSliceR_ext h
      · cases h
    · rename_i hu _; rw [hu] at hcl; cases hcl
    · cases h
  case call c =>
    simp only [oCall] at h ⊢
    split at h
    · split at h
      · rename_i b hb'
        obtain ⟨ca, cb, cc⟩ := c
        simp only at hb'
        subst hb'
        cases b <;> simp only [cls] at hcl <;> (try cases hcl) <;> simp only [oBuiltin] at h ⊢
        · unfold oCap at h ⊢
          split at h
          · split at h <;> first | (injection h with h1 h2; subst h1; rfl) | cases h
          · cases h
        · unfold oLen at h ⊢
          split at h
          · split at h <;> first
              | (injection h with h1 h2; subst h1; rfl)
              | (split at h
                 · rename_i hB; rw [hb _ _ hB]; injection h with h1 h2; subst h1; rfl
                 · cases h)
              | cases h
          · cases h
      · rename_i f hf
        obtain ⟨ca, cb, cc⟩ := c
        simp only at hf; subst hf; simp only [cls] at hcl; cases hcl
      · cases h
    · cases h
  all_goals first | cases hcl | (simp at hcl; done)
end
end Eng
end Go.Proofs.YtbdhainbcfobeaaGreatDoor
