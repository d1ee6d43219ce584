/-
  THE ENGINE, part R: the trace of a region that draws; what pure operations and those that make memory do to the heap.
-/
import Derived.Test.YtbdhainbcfobeaaGreatDoorEngQ
namespace Go.Proofs.YtbdhainbcfobeaaGreatDoor
namespace Eng
open Go
section
variable {P : Program}
theorem okV_any {v : Option AV} {H H2 H' : Heap} {u : AV} (h : okV v H = .val u H') : okV v H2 = .val u H2 := by
  cases v with
  | none => cases h
  | some v => injection h with h1 h2; subst h1; rfl
theorem oPart_any {l : List AV} {p : Plc} {H H2 H' : Heap} {u : AV} (h : oPart l p H = .val u H') : oPart l p H2 = .val u H2 := by
  unfold oPart at h ⊢
  simp only [fL_eq] at h ⊢
  split at h
  · injection h with h1 h2; subst h1; rfl
  · injection h with h1 h2; subst h1; rfl
  · cases h
theorem eqOp_any {op : BinOp} {c : Bool} {H H2 H' : Heap} {u : AV} (h : eqOp op c H = .val u H') : eqOp op c H2 = .val u H2 := by
  unfold eqOp at h ⊢
  simp only [fB_eq] at h ⊢
  split at h <;> first | (injection h with h1 h2; subst h1; rfl) | cases h
theorem cond_any {c : Bool} {H' H2 : Heap} {u : AV} {x y x2 y2 : OR} (h : (bif c then x else y) = .val u H') (h1 : x = .val u H' → x2 = .val u H2) (h2 : y = .val u H' → y2 = .val u H2) : (bif c then x2 else y2) = .val u H2 := by
  cases c
  · exact h2 h
  · exact h1 h
theorem strOp_any {op : BinOp} {l x m y : Nat} {H H2 H' : Heap} {u : AV} (h : strOp op l x m y H = .val u H') : strOp op l x m y H2 = .val u H2 := by
  unfold strOp at h ⊢
  simp only [fB_eq, fN_eq] at h ⊢
  split at h <;> first | (injection h with h1 h2; subst h1; rfl) | (cases h; done) | (refine cond_any h (fun h => ?_) (fun h => ?_) <;> first | (injection h with h1 h2; subst h1; rfl) | cases h)
theorem shiftOp_any {op : BinOp} {k : IntKind} {x y : Int} {H H2 H' : Heap} {u : AV} (h : shiftOp op k x y H = .val u H') : shiftOp op k x y H2 = .val u H2 := by
  unfold shiftOp at h ⊢
  simp only [fI_eq, fN_eq] at h ⊢
  split at h <;> first | (injection h with h1 h2; subst h1; rfl) | cases h
theorem intOp_any {op : BinOp} {k : IntKind} {x y : Int} {H H2 H' : Heap} {u : AV} (h : intOp op k x y H = .val u H') : intOp op k x y H2 = .val u H2 := by
  unfold intOp at h ⊢
  simp only [fI_eq, fN_eq, fB_eq] at h ⊢
  split at h <;> first
    | (injection h with h1 h2; subst h1; rfl)
    | (cases h; done)
    | (refine cond_any h (fun h => ?_) (fun h => ?_) <;> first | (injection h with h1 h2; subst h1; rfl) | cases h)
    | (split at h <;> first | (cases h; done) | (refine cond_any h (fun h => ?_) (fun h => ?_) <;> first | (injection h with h1 h2; subst h1; rfl) | cases h))
theorem oper_any {call : CallF} {o : Op} {T : Tm} {H H2 H' : Heap} {v : AV} (hcl : cls P o = .pure) (h : oper P call o T H = .val v H') : oper P call o T H2 = .val v H2 := by
  cases o <;> simp only [cls] at hcl <;> simp only [oper] at h ⊢
  case move => exact okV_any h
  case assign => exact okV_any h
  case pick => unfold oPick at h ⊢; split at h <;> (first | (injection h with h1 h2; subst h1; rfl) | (cases h; done) | exact okV_any h | exact oPart_any h | exact eqOp_any h | exact strOp_any h | exact shiftOp_any h | exact intOp_any h | exact oSliceR_ext h)
  case build =>
    unfold oBuild at h ⊢
    split at h
    · refine cond_any h (fun h => ?_) (fun h => by cases h)
      split at h <;> (first | (injection h with h1 h2; subst h1; rfl) | (cases h; done) | exact okV_any h | exact oPart_any h | exact eqOp_any h | exact strOp_any h | exact shiftOp_any h | exact intOp_any h | exact oSliceR_ext h)
    · split at h
      · split at h <;> (first | (injection h with h1 h2; subst h1; rfl) | (cases h; done) | exact okV_any h | exact oPart_any h | exact eqOp_any h | exact strOp_any h | exact shiftOp_any h | exact intOp_any h | exact oSliceR_ext h)
      · cases h
    · cases h
  case nilCheck => unfold oNilCheck at h ⊢; split at h <;> (first | (injection h with h1 h2; subst h1; rfl) | (cases h; done) | exact okV_any h | exact oPart_any h | exact eqOp_any h | exact strOp_any h | exact shiftOp_any h | exact intOp_any h | exact oSliceR_ext h)
  case binOp =>
    unfold oBin at h ⊢
    split at h <;> first
      | ((first | (injection h with h1 h2; subst h1; rfl) | (cases h; done) | exact okV_any h | exact oPart_any h | exact eqOp_any h | exact strOp_any h | exact shiftOp_any h | exact intOp_any h | exact oSliceR_ext h); done)
      | (split at h <;> first
          | ((first | (injection h with h1 h2; subst h1; rfl) | (cases h; done) | exact okV_any h | exact oPart_any h | exact eqOp_any h | exact strOp_any h | exact shiftOp_any h | exact intOp_any h | exact oSliceR_ext h); done)
          | (refine cond_any h (fun h => ?_) (fun h => ?_) <;> (first | (injection h with h1 h2; subst h1; rfl) | (cases h; done) | exact okV_any h | exact oPart_any h | exact eqOp_any h | exact strOp_any h | exact shiftOp_any h | exact intOp_any h | exact oSliceR_ext h); done)
          | (split at h <;> first | ((first | (injection h with h1 h2; subst h1; rfl) | (cases h; done) | exact okV_any h | exact oPart_any h | exact eqOp_any h | exact strOp_any h | exact shiftOp_any h | exact intOp_any h | exact oSliceR_ext h); done))
          | (refine cond_any h (fun h => ?_) (fun h => ?_) <;> first | ((first | (injection h with h1 h2; subst h1; rfl) | (cases h; done) | exact okV_any h | exact oPart_any h | exact eqOp_any h | exact strOp_any h | exact shiftOp_any h | exact intOp_any h | exact oSliceR_ext h); done) | (split at h <;> (first | (injection h with h1 h2; subst h1; rfl) | (cases h; done) | exact okV_any h | exact oPart_any h | exact eqOp_any h | exact strOp_any h | exact shiftOp_any h | exact intOp_any h | exact oSliceR_ext h))))
  case unOp => unfold oUn at h ⊢; simp only [fB_eq, fI_eq] at h ⊢; split at h <;> (first | (injection h with h1 h2; subst h1; rfl) | (cases h; done) | exact okV_any h | exact oPart_any h | exact eqOp_any h | exact strOp_any h | exact shiftOp_any h | exact intOp_any h | exact oSliceR_ext h)
  case convert =>
    unfold oConvert at h ⊢
    simp only [fI_eq, fN_eq] at h ⊢
    split at h
    · (first | (injection h with h1 h2; subst h1; rfl) | (cases h; done) | exact okV_any h | exact oPart_any h | exact eqOp_any h | exact strOp_any h | exact shiftOp_any h | exact intOp_any h | exact oSliceR_ext h)
    · (first | (injection h with h1 h2; subst h1; rfl) | (cases h; done) | exact okV_any h | exact oPart_any h | exact eqOp_any h | exact strOp_any h | exact shiftOp_any h | exact intOp_any h | exact oSliceR_ext h)
    · rename_i hs hd _; rw [hs, hd] at hcl; cases hcl
    · rename_i hs hd _; rw [hs, hd] at hcl; cases hcl
    · cases h
  case makeInterface => unfold oMakeIface at h ⊢; split at h <;> (first | (injection h with h1 h2; subst h1; rfl) | (cases h; done) | exact okV_any h | exact oPart_any h | exact eqOp_any h | exact strOp_any h | exact shiftOp_any h | exact intOp_any h | exact oSliceR_ext h)
  case makeFunc => unfold oMakeFunc at h ⊢; split at h <;> (first | (injection h with h1 h2; subst h1; rfl) | (cases h; done) | exact okV_any h | exact oPart_any h | exact eqOp_any h | exact strOp_any h | exact shiftOp_any h | exact intOp_any h | exact oSliceR_ext h)
  case slice =>
    unfold oSlice at h ⊢
    split at h
    · unfold oSliceS at h ⊢
      simp only [fN_eq] at h ⊢
      split at h
      · cases h
      · split at h <;> (first | (injection h with h1 h2; subst h1; rfl) | (cases h; done) | exact okV_any h | exact oPart_any h | exact eqOp_any h | exact strOp_any h | exact shiftOp_any h | exact intOp_any h | exact oSliceR_ext h)
    · rename_i hu _; rw [hu] at hcl; cases hcl
    · rename_i hu _; rw [hu] at hcl; cases hcl
    · rename_i hu _; rw [hu] at hcl; cases hcl
    · split at h <;> (first | (injection h with h1 h2; subst h1; rfl) | (cases h; done) | exact okV_any h | exact oPart_any h | exact eqOp_any h | exact strOp_any h | exact shiftOp_any h | exact intOp_any h | exact oSliceR_ext h)
    · cases h
  case fieldAddr => unfold oFieldAddr at h ⊢; simp only [fN_eq] at h ⊢; split at h <;> first | ((first | (injection h with h1 h2; subst h1; rfl) | (cases h; done) | exact okV_any h | exact oPart_any h | exact eqOp_any h | exact strOp_any h | exact shiftOp_any h | exact intOp_any h | exact oSliceR_ext h); done) | (refine cond_any h (fun h => ?_) (fun h => ?_) <;> (first | (injection h with h1 h2; subst h1; rfl) | (cases h; done) | exact okV_any h | exact oPart_any h | exact eqOp_any h | exact strOp_any h | exact shiftOp_any h | exact intOp_any h | exact oSliceR_ext h))
  case field => unfold oField at h ⊢; split at h <;> (first | (injection h with h1 h2; subst h1; rfl) | (cases h; done) | exact okV_any h | exact oPart_any h | exact eqOp_any h | exact strOp_any h | exact shiftOp_any h | exact intOp_any h | exact oSliceR_ext h)
  case indexAddr => unfold oIndexAddr at h ⊢; simp only [fN_eq] at h ⊢; split at h <;> first | ((first | (injection h with h1 h2; subst h1; rfl) | (cases h; done) | exact okV_any h | exact oPart_any h | exact eqOp_any h | exact strOp_any h | exact shiftOp_any h | exact intOp_any h | exact oSliceR_ext h); done) | (split at h <;> (first | (injection h with h1 h2; subst h1; rfl) | (cases h; done) | exact okV_any h | exact oPart_any h | exact eqOp_any h | exact strOp_any h | exact shiftOp_any h | exact intOp_any h | exact oSliceR_ext h))
  case index => unfold oIndex at h ⊢; simp only [fN_eq] at h ⊢; split at h <;> first | ((first | (injection h with h1 h2; subst h1; rfl) | (cases h; done) | exact okV_any h | exact oPart_any h | exact eqOp_any h | exact strOp_any h | exact shiftOp_any h | exact intOp_any h | exact oSliceR_ext h); done) | (split at h <;> (first | (injection h with h1 h2; subst h1; rfl) | (cases h; done) | exact okV_any h | exact oPart_any h | exact eqOp_any h | exact strOp_any h | exact shiftOp_any h | exact intOp_any h | exact oSliceR_ext h))
  case typeAssert =>
    unfold oAssert at h ⊢
    split at h
    · cases h
    · refine cond_any h (fun h => ?_) (fun h => ?_)
      · refine cond_any h (fun h => ?_) (fun h => ?_) <;> (first | (injection h with h1 h2; subst h1; rfl) | (cases h; done) | exact okV_any h | exact oPart_any h | exact eqOp_any h | exact strOp_any h | exact shiftOp_any h | exact intOp_any h | exact oSliceR_ext h)
      · refine cond_any h (fun h => ?_) (fun h => ?_)
        · split at h <;> (first | (injection h with h1 h2; subst h1; rfl) | (cases h; done) | exact okV_any h | exact oPart_any h | exact eqOp_any h | exact strOp_any h | exact shiftOp_any h | exact intOp_any h | exact oSliceR_ext h)
        · cases h
    · cases h
  case extract => unfold oExtract at h ⊢; split at h <;> (first | (injection h with h1 h2; subst h1; rfl) | (cases h; done) | exact okV_any h | exact oPart_any h | exact eqOp_any h | exact strOp_any h | exact shiftOp_any h | exact intOp_any h | exact oSliceR_ext h)
  case call c =>
    simp only [oCall] at h ⊢
    split at h
    · split at h
      · rename_i b hb'
        obtain ⟨ca, cb, cc⟩ := c
        simp only at hb'
        subst hb'
        cases b <;> simp only [cls] at hcl <;> (try cases hcl) <;> simp only [oBuiltin] at h ⊢
        · unfold oCap at h ⊢
          split at h
          · split at h <;> first | (injection h with h1 h2; subst h1; rfl) | cases h
          · cases h
        · unfold oLen at h ⊢
          split at h
          · rename_i hts _
            have hts := list1 hts
            subst hts
            split at h <;> first
              | (injection h with h1 h2; subst h1; rfl)
              | (exfalso; simp_all; done)
              | cases h
          · cases h
        · unfold oMinMax at h ⊢; simp only [fI_eq] at h ⊢; split at h <;> (first | (injection h with h1 h2; subst h1; rfl) | (cases h; done) | exact okV_any h | exact oPart_any h | exact eqOp_any h | exact strOp_any h | exact shiftOp_any h | exact intOp_any h | exact oSliceR_ext h)
        · unfold oMinMax at h ⊢; simp only [fI_eq] at h ⊢; split at h <;> (first | (injection h with h1 h2; subst h1; rfl) | (cases h; done) | exact okV_any h | exact oPart_any h | exact eqOp_any h | exact strOp_any h | exact shiftOp_any h | exact intOp_any h | exact oSliceR_ext h)
      · rename_i f hf
        obtain ⟨ca, cb, cc⟩ := c
        simp only at hf; subst hf; simp only [cls] at hcl; cases hcl
      · cases h
    · cases h
  all_goals first | cases hcl | (simp at hcl; done)
/-- what makes memory pushes one block -/
theorem oper_push {call : CallF} {o : Op} {T : Tm} {H H' : Heap} {v : AV} (hcl : cls P o = .make) (h : oper P call o T H = .val v H') :
    ∃ B, wr B ∧ H' = ⟨H.bl.set (bits H.nx) (some B), H.nx + 1⟩ := by
  have new : ∀ {vs : List AV}, newR H vs = .val v H' → ∃ B, wr B ∧ H' = ⟨H.bl.set (bits H.nx) (some B), H.nx + 1⟩ := fun h => by
    unfold newR at h
    simp only [layC_eq, fN_eq, newB_eq] at h
    injection h with h1 h2
    refine ⟨_, ?_, h2.symm⟩; rfl
  cases o <;> simp only [cls] at hcl <;> simp only [oper] at h
  case alloc => unfold oAlloc at h; split at h <;> first | exact new h | cases h
  case box => unfold oBox at h; split at h <;> first | exact new h | cases h
  case buildSlice =>
    unfold oBuildSlice at h; simp only [layC_eq, fN_eq, newB_eq] at h
    split at h
    · obtain ⟨_, h⟩ := cond_some h (by simp)
      split at h
      · injection h with h1 h2; refine ⟨_, ?_, h2.symm⟩; rfl
      · cases h
    · cases h
  case makeMap => unfold oMakeMap at h; simp only [newB_eq] at h; split at h <;> first | (injection h with h1 h2; refine ⟨_, ?_, h2.symm⟩; trivial) | cases h
  case makeSlice =>
    unfold oMakeSlice at h; simp only [layC_eq, fN_eq, newB_eq] at h
    split at h
    · obtain ⟨_, h⟩ := cond_some h (by simp)
      injection h with h1 h2; refine ⟨_, ?_, h2.symm⟩; rfl
    · cases h
  case convert =>
    unfold oConvert at h
    split at h
    · rename_i hs hd _; rw [hs, hd] at hcl; cases hcl
    · rename_i hs hd _; rw [hs, hd] at hcl; cases hcl
    · split at h
      · obtain ⟨_, h⟩ := cond_some h (by simp)
        obtain ⟨_, _, h2⟩ := newOpen_eq h
        refine ⟨_, ?_, h2⟩; rfl
      · cases h
    · rename_i hs hd _; rw [hs, hd] at hcl; cases hcl
    · cases h
  case slice => split at hcl <;> cases hcl
  case call c =>
    obtain ⟨ca, cb, cc⟩ := c
    cases ca <;> simp only [cls] at hcl
    · cases hcl
    · cases hcl
    · split at hcl <;> first | cases hcl | (split at hcl <;> cases hcl)
  all_goals first | cases hcl | (simp at hcl; done)

/-! ### the trace -/
def setT (d : Option Tmp) (v : AV) (T : Tm) : Tm := match d with | some t => T.set (bits t) (some v) | none => T
theorem putT_eq' {β : Type} (d : Option Tmp) (v : AV) (T : Tm) (k : Tm → β) : putT d v T k = k (setT d v T) := by cases d <;> simp [putT, setT, Tr.setK_eq]
inductive Step (P : Program) (call : CallF) (ops : Array Oper) : Mv → St → St → Prop
  | ck {i : Nat} {o : Oper} {S : St} : ops[i]? = some o → ckOp P ops o S = true → Step P call ops (.ck i) S S
  | skip {i : Nat} {f : Bool} {o : Oper} {S : St} : ops[i]? = some o → want ops o.guard S.T = some false → Step P call ops (.ex i f) S ⟨setT o.dst undefA S.T, S.H, S.D⟩
  | val {i : Nat} {f : Bool} {o : Oper} {S : St} {v : AV} {H' : Heap} : ops[i]? = some o → want ops o.guard S.T = some true → oper P call o.op S.T S.H = .val v H' → Step P call ops (.ex i f) S ⟨setT o.dst v S.T, H', S.D⟩
  | dfr {i : Nat} {f : Bool} {o : Oper} {S : St} {g : FuncId} {xs : List AV} : ops[i]? = some o → want ops o.guard S.T = some true → oper P call o.op S.T S.H = .dfr g xs → Step P call ops (.ex i f) S ⟨setT o.dst undefA S.T, S.H, (g, xs) :: S.D⟩
def cons' (S : St) (σ : Nat → St) : Nat → St
  | 0 => S
  | r + 1 => σ r
theorem drawR_trace {call : CallF} {ops : Array Oper} : ∀ (l : List Mv) (S : St) (e : Ex) (S' : St), drawR P call ops l S = .ok e S' →
    ∃ (σ : Nat → St) (m : Nat), σ 0 = S ∧ m ≤ l.length ∧ (∀ r mv, r < m → l[r]? = some mv → Step P call ops mv (σ r) (σ (r + 1))) ∧
      ((m = l.length ∧ e = .normal ∧ S' = σ m) ∨
       (∃ i o v H', l[m]? = some (.ex i true) ∧ ops[i]? = some o ∧ want ops o.guard (σ m).T = some true ∧ oper P call o.op (σ m).T (σ m).H = .pan v H' ∧ e = .panic v ∧ S' = ⟨clearD ops.toList (σ m).T, H', (σ m).D⟩))
  | [], S, e, S', h => by
    simp only [drawR] at h
    injection h with h1 h2
    exact ⟨fun _ => S, 0, rfl, Nat.le_refl _, fun r mv hr => by omega, .inl ⟨rfl, h1.symm, h2.symm⟩⟩
  | mv :: l, S, e, S', h => by
    have go : ∀ S1, Step P call ops mv S S1 → drawR P call ops l S1 = .ok e S' → ∃ (σ : Nat → St) (m : Nat), σ 0 = S ∧ m ≤ (mv :: l).length ∧ (∀ r mv', r < m → (mv :: l)[r]? = some mv' → Step P call ops mv' (σ r) (σ (r + 1))) ∧
      ((m = (mv :: l).length ∧ e = .normal ∧ S' = σ m) ∨
       (∃ i o v H', (mv :: l)[m]? = some (.ex i true) ∧ ops[i]? = some o ∧ want ops o.guard (σ m).T = some true ∧ oper P call o.op (σ m).T (σ m).H = .pan v H' ∧ e = .panic v ∧ S' = ⟨clearD ops.toList (σ m).T, H', (σ m).D⟩)) := by
      intro S1 hs hd
      obtain ⟨σ, m, h1, h2, h3, h4⟩ := drawR_trace l S1 e S' hd
      refine ⟨cons' S σ, m + 1, rfl, by simpa using h2, fun r mv' hr hl => ?_, ?_⟩
      · cases r with
        | zero => simp at hl; subst hl; simp only [cons', h1]; exact hs
        | succ r => exact h3 r mv' (by omega) (by simpa using hl)
      · rcases h4 with ⟨a, b, c⟩ | h4
        · exact .inl ⟨by simp [a], b, c⟩
        · exact .inr (by simpa [cons'] using h4)
    cases mv with
    | ck i =>
      simp only [drawR] at h
      split at h
      · rename_i o ho
        obtain ⟨hc, h⟩ := cond_some h (by simp)
        exact go S (.ck ho hc) h
      · cases h
    | ex i f =>
      simp only [drawR, putT_eq'] at h
      split at h
      · rename_i o ho
        split at h
        · rename_i hw
          split at h
          · rename_i v H' hv; exact go _ (.val ho hw hv) h
          · rename_i g xs hv; exact go _ (.dfr ho hw hv) h
          · rename_i v H' hv
            obtain ⟨hf, h⟩ := cond_some h (by simp)
            injection h with h1 h2
            subst hf
            exact ⟨fun _ => S, 0, rfl, by simp, fun r mv hr => by omega, .inr ⟨i, o, v, H', by simp, ho, hw, hv, h1.symm, h2.symm⟩⟩
          · cases h
          · cases h
        · rename_i hw; exact go _ (.skip ho hw) h
        · cases h
      · cases h
end
end Eng
end Go.Proofs.YtbdhainbcfobeaaGreatDoor
