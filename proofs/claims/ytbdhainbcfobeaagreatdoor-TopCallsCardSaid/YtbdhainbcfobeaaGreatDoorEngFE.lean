/-
  THE ENGINE, part FE: what the kernel's steps mean: every operation.
-/
import Derived.Test.YtbdhainbcfobeaaGreatDoorEngFD
namespace Go.Proofs.YtbdhainbcfobeaaGreatDoor
namespace Eng
open Go
variable {P : Program}

/-- what an operation's result goes on with -/
def Good (r : OR) (B : Bl) (n : Nat) (D : Dfr) (k : KD) : Prop := match r with
  | .val v H => k v H.bl H.nx D = .yes
  | .dfr f xs => k undefA B n ((f, xs) :: D) = .yes
  | _ => False
/-- a call, as the kernel runs it -/
def RC (cK : CallK) (c : CallF) : Prop := ∀ f xs B n k, cK f xs B n k = .yes → ∃ v H', c f xs ⟨B, n⟩ = .ret v H' ∧ k v H'.bl H'.nx = .yes
theorem RC.no (c : CallF) : RC noCall c := fun _ _ _ _ _ h => by cases h
theorem GoodH.good {r : OR} {B : Bl} {n : Nat} {D : Dfr} {k : KD} (h : GoodH r fun v B n => k v B n D) : Good r B n D k := by
  cases r <;> first | exact h | exact h.elim
theorem eqOp_heap {op : BinOp} {c : Bool} {H H1 : Heap} {v : AV} (h : eqOp op c H = .val v H1) (H2 : Heap) : eqOp op c H2 = .val v H2 := by
  cases op <;> simp only [eqOp, fB_eq] at h ⊢ <;> first | (injection h with h1 h2; rw [h1]) | (cases h; done)
theorem ev_T2_0 (u v : AV) : ev (.tmp 0) (T2 u v) = some u := rfl
theorem ev_T2_1 {T : Tm} {y : Operand} (u : AV) {v : AV} (hy : ev y T = some v) : ev (cstOp y) (T2 u v) = some v := by
  cases y with
  | const c => exact hy
  | _ => rfl
theorem cstOp_const (y : Operand) : (∃ c, y = .const c ∧ cstOp y = .const c) ∨ ((∀ c, y ≠ .const c) ∧ cstOp y = .tmp 1) := by
  cases y with
  | const c => exact .inl ⟨c, rfl, rfl⟩
  | _ => exact .inr ⟨fun c h => (by cases h), rfl⟩
/-- two values that are neither numbers nor texts -/
def oBinV (P : Program) (op : BinOp) (t : TypeId) (y : Operand) (u v : AV) (H : Heap) : OR := match u, v with
  | .bool a, .bool b => (match P.underlying t with | some .bool => eqOp op (a == b) H | _ => .bad)
  | .nilp, .nilp => (match P.underlying t with | some (.pointer _) => eqOp op true H | _ => .bad)
  | .ptr _ _, .nilp => (match P.underlying t with | some (.pointer _) => eqOp op false H | _ => .bad)
  | .nilp, .ptr _ _ => (match P.underlying t with | some (.pointer _) => eqOp op false H | _ => .bad)
  | .nili, .ifc _ _ => (match P.underlying t with | some (.interface _) => eqOp op false H | _ => .bad)
  | .ifc _ _, .nili => (match P.underlying t with | some (.interface _) => eqOp op false H | _ => .bad)
  | .nili, .nili => (match P.underlying t with | some (.interface _) => (match y with | .const _ => eqOp op true H | _ => .bad) | _ => .bad)
  | .nils, .nils => (match P.underlying t with | some (.slice _) => eqOp op true H | _ => .bad)
  | .sl _ _ _ _, .nils => (match P.underlying t with | some (.slice _) => eqOp op false H | _ => .bad)
  | .so _ _ _ _, .nils => (match P.underlying t with | some (.slice _) => eqOp op false H | _ => .bad)
  | .agg l, .agg m => (match flatF P t with
    | some ds => bif P.eqGuardType P.depth t then .bad else (match flatEq ds l m with | some c => eqOp op c H | none => .bad)
    | none => .bad)
  | _, _ => .bad
def plainV (u : AV) : Bool := match u with | .int _ _ => false | .str _ _ => false | _ => true
theorem oBin_V {op : BinOp} {t : TypeId} {x y : Operand} {T : Tm} {H : Heap} {u v : AV} (hx : ev x T = some u) (hy : ev y T = some v) (hu : plainV u = true) : oBin P op t x y T H = oBinV P op t y u v H := by
  unfold oBin
  rw [hx, hy]
  cases u <;> first | (cases hu; done) | (cases v <;> rfl)
theorem oBinV_heap {op : BinOp} {t : TypeId} {y : Operand} {u v w : AV} {H H1 : Heap} (h : oBinV P op t (cstOp y) u v H = .val w H1) (H2 : Heap) : oBinV P op t y u v H2 = .val w H2 := by
  cases u <;> cases v <;> first
    | (cases h; done)
    | (simp only [oBinV] at h ⊢
       cases hd : P.underlying t with
       | none => rw [hd] at h; cases h
       | some d =>
         rw [hd] at h
         cases d <;> first
          | (cases h; done)
          | exact eqOp_heap h H2
          | (rcases cstOp_const y with ⟨c, rfl, hc⟩ | ⟨hn, hc⟩
             · rw [hc] at h; exact eqOp_heap h H2
             · rw [hc] at h; cases h))
    | (simp only [oBinV] at h ⊢
       cases hf : flatF P t with
       | none => rw [hf] at h; cases h
       | some ds =>
         rw [hf] at h
         cases hg : P.eqGuardType P.depth t <;> simp only [hg, cond_true, cond_false] at h ⊢
         · split at h
           · exact eqOp_heap h H2
           · cases h
         · cases h)
theorem isShift_not {op : BinOp} (h : isShift op = false) : op ≠ .shl ∧ op ≠ .shr := by
  cases op <;> first | (cases h; done) | (constructor <;> intro e <;> cases e)
theorem binC_ok {op : BinOp} {t : TypeId} {x y : Operand} {T : Tm} {u v : AV} (hx : ev x T = some u) (hy : ev y T = some v) {k : KV} (h : runB (binC P op t y) u v k = .yes) : ∃ w, (∀ H, oBin P op t x y T H = .val w H) ∧ k w = .yes := by
  have h' : binV u P op t y (runB (intOpC op)) (isShift op) (runB (strOpC op)) v k = .yes := by
    simp only [binC, bindB_eq] at h
    cases hs : isShift op <;> rw [hs] at h <;> exact h
  by_cases hu : plainV u = true
  · have h2 : orV (oBin P op t (.tmp 0) (cstOp y) (T2 u v) H00) k = .yes := by
      cases u <;> first | (cases hu; done) | exact h'
    rw [orV_yes, oBin_V (ev_T2_0 u v) (ev_T2_1 u hy) hu] at h2
    obtain ⟨w, H1, h1, h2⟩ := h2
    exact ⟨w, fun H => by rw [oBin_V hx hy hu]; exact oBinV_heap h1 H, h2⟩
  · cases u with
    | int j a =>
      simp only [binV, intK_yes] at h'
      obtain ⟨i, b, rfl, h'⟩ := h'
      cases hs : isShift op with
      | true =>
        rw [hs] at h'
        obtain ⟨w, hw, h'⟩ := intOpC_sh hs h'
        refine ⟨w, fun H => ?_, h'⟩
        have := hw H
        simp only [oBin, hx, hy]
        cases op <;> first | (cases hs; done) | exact this
      | false =>
        rw [hs] at h'
        simp only [ifK_false, kindK_yes] at h'
        obtain ⟨rfl, h'⟩ := h'
        obtain ⟨w, hw, h'⟩ := intOpC_ok hs h'
        refine ⟨w, fun H => ?_, h'⟩
        have := hw H
        simp only [oBin, hx, hy, decide_true, cond_true]
        cases op <;> first | (cases hs; done) | exact this
    | str l a =>
      simp only [binV, strK_yes] at h'
      obtain ⟨m, b, rfl, h'⟩ := h'
      obtain ⟨w, hw, h'⟩ := strOpC_ok h'
      exact ⟨w, fun H => by simp only [oBin, hx, hy]; exact hw H, h'⟩
    | _ => exact absurd rfl hu
theorem indexAddrC_ok {t : TypeId} {x i : Operand} {T : Tm} {u v : AV} (hx : ev x T = some u) (hi : ev i T = some v) {k : KV} (h : runB (indexAddrC P (P.underlying t)) u v k = .yes) : ∃ w, (∀ H, oIndexAddr P t x i T H = .val w H) ∧ k w = .yes := by
  cases hd : P.underlying t with
  | none => rw [hd] at h; cases h
  | some d =>
    rw [hd] at h
    cases d with
    | array n e =>
      simp only [indexAddrC] at h
      cases hz : szOf P e with
      | none => rw [hz] at h; cases h
      | some z =>
        rw [hz] at h
        simp only [optB_some, fN'_eq, runB_mk, ptrK_yes, idxK_yes] at h
        obtain ⟨b, o, rfl, j, m, rfl, hb, h⟩ := h
        exact ⟨_, fun H => by simp [oIndexAddr, hx, hi, hd, hz, idx, hb, fN_eq], h⟩
    | slice e =>
      simp only [indexAddrC] at h
      cases hz : szOf P e with
      | none => rw [hz] at h; cases h
      | some z =>
        rw [hz] at h
        simp only [optB_some, fN'_eq, runB_mk, idxRow_yes, idxK_yes] at h
        rcases h with ⟨b, o, n, c, rfl, j, m, rfl, hb, h⟩ | ⟨b, o, n, c, rfl, j, m, rfl, hb, h⟩
        · exact ⟨_, fun H => by simp [oIndexAddr, hx, hi, hd, hz, idx, hb, fN_eq], h⟩
        · exact ⟨_, fun H => by simp [oIndexAddr, hx, hi, hd, hz, idx, hb, fN_eq], h⟩
    | _ => cases h
theorem oPart_some {l : List AV} {p : Plc} {w : AV} (h : partL l p = some w) (H : Heap) : oPart l p H = .val w H := by
  simp only [oPart, h, fL_eq]
  cases w <;> rfl
theorem indexC_ok {t : TypeId} {x i : Operand} {T : Tm} {u v : AV} (hx : ev x T = some u) (hi : ev i T = some v) {k : KV} (h : runB (indexC P (P.underlying t)) u v k = .yes) : ∃ w, (∀ H, oIndex P t x i T H = .val w H) ∧ k w = .yes := by
  cases hd : P.underlying t with
  | none => rw [hd] at h; cases h
  | some d =>
    rw [hd] at h
    cases d with
    | array n e =>
      simp only [indexC] at h
      cases hp : plcOf P e 0 with
      | none => rw [hp] at h; cases h
      | some p =>
        rw [hp] at h
        rcases p with ⟨o, _ | _, z⟩
        · replace h : aggK u (fun l => idxK v n fun j => fN' (Nat.mul j z) fun o => nthK o l k) = .yes := h
          simp only [aggK_yes, idxK_yes, fN'_eq, nthK_eq, optK_yes] at h
          obtain ⟨l, rfl, j, m, rfl, hb, w, hw, h⟩ := h
          refine ⟨w, fun H => ?_, h⟩
          simp only [oIndex, hx, hi, hd, hp, idx, hb, cond_true]
          exact oPart_some (by simp only [partL, cond_false]; exact hw) H
        · replace h : aggK u (fun l => idxK v n fun j => fN' (Nat.mul j z) fun o => dropK o l fun l => takeLK z l fun l => k (.agg l)) = .yes := h
          simp only [aggK_yes, idxK_yes, fN'_eq, dropK_eq, takeLK_eq] at h
          obtain ⟨l, rfl, j, m, rfl, hb, h⟩ := h
          refine ⟨_, fun H => ?_, h⟩
          simp only [oIndex, hx, hi, hd, hp, idx, hb, cond_true]
          exact oPart_some (by simp only [partL, cond_true]) H
    | string =>
      simp only [indexC, runB_mk, strK_yes, idxK_yes, fN'_eq] at h
      obtain ⟨l, s, rfl, j, m, rfl, hb, h⟩ := h
      exact ⟨_, fun H => by simp only [oIndex, hx, hi, hd, idx, hb, cond_true, fN_eq], h⟩
    | _ => cases h
theorem sliceC_ok {t : TypeId} {x : Operand} {lo hi mx : Option Operand} {F : Fr} {T : Tm} (hR : Rep F T) {u : AV} (hx : ev x T = some u) {B : Bl} {k : KV} (h : runB (sliceC P lo hi mx (P.underlying t)) F u B k = .yes) : ∃ w, (∀ n, oSlice P t x lo hi mx T ⟨B, n⟩ = .val w ⟨B, n⟩) ∧ k w = .yes := by
  cases hd : P.underlying t with
  | none => rw [hd] at h; cases h
  | some d =>
    rw [hd] at h
    cases d with
    | string =>
      cases mx with
      | some m => cases h
      | none =>
        simp only [sliceC, Option.isSome_none, ifB_false, bindB_eq, runB_mk, strK_yes] at h
        obtain ⟨n, s, rfl, h⟩ := h
        obtain ⟨l, u, m, hb, h⟩ := bnd3C_ok hR h
        simp only [fN'_eq] at h
        exact ⟨_, fun n => by simp only [oSlice, hx, hd, oSliceS, hb, fN_eq], h⟩
    | slice e =>
      simp only [sliceC] at h
      cases hz : szOf P e with
      | none => rw [hz] at h; cases h
      | some z =>
        rw [hz] at h
        simp only [optB_some, fN'_eq, bindB_eq] at h
        have h' : sliceV u z (runB (bnd3C lo hi mx)) mx.isSome F B k = .yes := by cases mx <;> exact h
        cases u with
        | nils =>
          obtain ⟨l, u, m, hb, h'⟩ := bnd3C_ok hR h'
          exact ⟨_, fun n => by simp only [oSlice, hx, hd, hb, hz], h'⟩
        | sl b o n c =>
          obtain ⟨l, u, m, hb, h'⟩ := bnd3C_ok hR h'
          obtain ⟨w, hw, h'⟩ := rowK_ok h'
          exact ⟨w, fun n => by simp only [oSlice, hx, hd, hz, hb, hw], h'⟩
        | so b o n es =>
          simp only [sliceV, ifK_yes] at h'
          obtain ⟨he, h'⟩ := h'
          obtain ⟨kn, hk, h'⟩ := knownK_ok h'
          obtain ⟨l, u, m, hb, h'⟩ := bnd3C_ok hR h'
          cases mx with
          | none =>
            simp only [Option.isSome_none, ifK_false] at h'
            obtain ⟨w, hw, h'⟩ := openK_ok (m := m) h'
            exact ⟨w, fun n => by simp only [oSlice, hx, hd, hz, hk, he, cond_true, hb, hw], h'⟩
          | some mx =>
            simp only [Option.isSome_some, ifK_true] at h'
            obtain ⟨w, hw, h'⟩ := rowK_ok h'
            exact ⟨w, fun n => by simp only [oSlice, hx, hd, hz, hk, he, cond_true, hb, hw], h'⟩
        | _ => cases h'
    | array n e =>
      simp only [sliceC] at h
      cases hz : szOf P e with
      | none => rw [hz] at h; cases h
      | some z =>
        rw [hz] at h
        simp only [optB_some, fN'_eq, bindB_eq, runB_mk, ptrK_yes] at h
        obtain ⟨b, o, rfl, h⟩ := h
        obtain ⟨l, u, m, hb, h⟩ := bnd3C_ok hR h
        obtain ⟨w, hw, h⟩ := rowK_ok h
        exact ⟨w, fun n => by simp only [oSlice, hx, hd, hz, hb, hw], h⟩
    | _ => cases h
theorem convC_ok {s d : TypeId} {x : Operand} {T : Tm} {v : AV} (hx : ev x T = some v) {B : Bl} {n : Nat} {k : KH} (h : runB (convC P (P.underlying s) (P.underlying d)) v B n k = .yes) : GoodH (oConvert P s d x T ⟨B, n⟩) k := by
  cases hs : P.underlying s with
  | none => rw [hs] at h; cases h
  | some ds =>
    cases hd : P.underlying d with
    | none => rw [hs, hd] at h; cases ds <;> cases h
    | some dd =>
      rw [hs, hd] at h
      cases ds <;> cases dd <;> first
        | (cases h; done)
        | (simp only [convC, runB_mk, intK_yes, wrapK_eq] at h
           obtain ⟨j, i, rfl, h⟩ := h
           simp only [oConvert, hs, hd, hx, fI_eq]
           exact h)
        | (simp only [convC, runB_mk, strK_yes] at h
           obtain ⟨l, y, rfl, h⟩ := h
           simp only [oConvert, hs, hd, hx]
           exact h)
        | (rename_i e
           simp only [convC] at h
           cases he : P.underlying e with
           | none => rw [he] at h; cases h
           | some de =>
             rw [he] at h
             cases de <;> first
              | (cases h; done)
              | (rename_i ki
                 cases ki <;> first
                  | (cases h; done)
                  | (simp only [runB_mk, strK_yes, strCellsK_eq] at h
                     obtain ⟨l, y, rfl, h⟩ := h
                     have hl : Nat.blt l limit = true := by
                       simp only [newOpenK, ifK_yes] at h
                       exact h.1
                     simp only [oConvert, hs, hd, hx, he, hl, cond_true]
                     exact newOpenK_ok h)
                  | (simp only [runB_mk, ifK_no] at h
                     obtain ⟨h0, h⟩ := h
                     obtain ⟨m, l, hl, h⟩ := elemsK_ok h
                     obtain ⟨y, hy, h⟩ := packK_ok _ h
                     simp only [oConvert, hs, hd, hx, he, h0, cond_false, hl, hy, fN_eq]
                     exact h)))
theorem opC_ok {F : Fr} {T : Tm} (hR : Rep F T) {cK : CallK} {c : CallF} (hC : RC cK c) (o : Op) {B : Bl} {n : Nat} {D : Dfr} {k : KD} (h : runB (opC o P) cK F B n D k = .yes) : Good (oper P c o T ⟨B, n⟩) B n D k := by
  cases o with
  | move x =>
    simp only [opC, bindB_eq, runB_mk] at h
    obtain ⟨v, hv, h⟩ := opnd_ok hR x h
    simp only [oper, oMove, hv, okV]; exact h
  | assign x =>
    simp only [opC, bindB_eq, runB_mk] at h
    obtain ⟨v, hv, h⟩ := opnd_ok hR x h
    simp only [oper, oMove, hv, okV]; exact h
  | pick x a b =>
    simp only [opC, bindB_eq, runB_mk] at h
    obtain ⟨v, hv, h⟩ := opnd_ok hR x h
    rw [boolK_yes] at h
    obtain ⟨y, rfl, h⟩ := h
    cases y with
    | true =>
      obtain ⟨w, hw, h⟩ := opnd_ok hR a h
      simp only [oper, oPick, hv, hw, okV]; exact h
    | false =>
      obtain ⟨w, hw, h⟩ := opnd_ok hR b h
      simp only [oper, oPick, hv, hw, okV]; exact h
  | load t a =>
    simp only [opC, oV1, bindB_eq, runB_mk] at h
    obtain ⟨v, hv, h⟩ := opnd_ok hR a h
    obtain ⟨q, b, i, w, hq, rfl, hl, h⟩ := loadC_ok h
    simp only [oper, oLoad, hv, hq, hl]; exact h
  | store t a x =>
    simp only [opC, oV2, bindB_eq, runB_mk] at h
    obtain ⟨u, hu, h⟩ := opnd_ok hR a h
    obtain ⟨v, hv, h⟩ := opnd_ok hR x h
    obtain ⟨m, b, i, B', hm, rfl, hl, hs, h⟩ := storeC_ok h
    simp only [oper, oStore, hu, hv, hm, hl, cond_true, hs]; exact h
  | fieldAddr t x f =>
    simp only [opC, oP1, bindB_eq, runB_mk] at h
    obtain ⟨v, hv, h⟩ := opnd_ok hR x h
    obtain ⟨q, b, i, hq, rfl, hz, h⟩ := addrC_ok h
    simp only [oper, oFieldAddr, hv, hq, hz, cond_false, fN_eq]; exact h
  | indexAddr t x i =>
    simp only [opC, oP2, bindB_eq, runB_mk] at h
    obtain ⟨u, hu, h⟩ := opnd_ok hR x h
    obtain ⟨v, hv, h⟩ := opnd_ok hR i h
    obtain ⟨w, hw, h⟩ := indexAddrC_ok hu hv h
    simp only [oper, hw]; exact h
  | binOp op t x y t2 =>
    simp only [opC, oP2, bindB_eq, runB_mk] at h
    obtain ⟨u, hu, h⟩ := opnd_ok hR x h
    obtain ⟨v, hv, h⟩ := opnd_ok hR y h
    obtain ⟨w, hw, h⟩ := binC_ok hu hv h
    simp only [oper, hw]; exact h
  | call cl =>
    rcases cl with ⟨ce, as, ts⟩
    simp only [opC, callC, bindB_eq] at h
    cases ce with
    | builtin b =>
      simp only [runB_mk] at h
      obtain ⟨xs, hxs, h⟩ := opndL_ok hR _ h
      have := builtC_ok h
      simp only [oper, oCall, hxs]
      exact this.good
    | value f =>
      simp only [runB_mk] at h
      obtain ⟨xs, hxs, h⟩ := opndL_ok hR _ h
      obtain ⟨v, hv, h⟩ := opnd_ok hR f h
      simp only [fnK_yes, appK_eq] at h
      obtain ⟨g, l, rfl, h⟩ := h
      obtain ⟨w, H', hw, h⟩ := hC _ _ _ _ _ h
      simp only [oper, oCall, hxs, hv, hw, ofCall]; exact h
    | invoke x m => cases h
  | defer cl =>
    rcases cl with ⟨ce, as, ts⟩
    simp only [opC, deferC, bindB_eq] at h
    cases ce with
    | value f =>
      simp only [runB_mk] at h
      obtain ⟨xs, hxs, h⟩ := opndL_ok hR _ h
      obtain ⟨v, hv, h⟩ := opnd_ok hR f h
      simp only [fnK_yes, appK_eq] at h
      obtain ⟨g, l, rfl, h⟩ := h
      simp only [oper, oDefer, hxs, hv]; exact h
    | _ => cases h
  | alloc t =>
    simp only [opC] at h
    cases hz : zeroOf P t with
    | none => rw [hz] at h; cases h
    | some v =>
      rw [hz] at h
      simp only [optB_some, fVA_eq, runB_mk] at h
      obtain ⟨B', hn, h⟩ := newK_ok h
      simp only [oper, oAlloc, hz, hn]; exact h
  | box t x =>
    simp only [opC, oV1, bindB_eq, runB_mk] at h
    obtain ⟨v, hv, h⟩ := opnd_ok hR x h
    obtain ⟨B', hn, h⟩ := newK_ok h
    simp only [oper, oBox, hv, hn]; exact h
  | build t ps =>
    simp only [opC, oFr, bindB_eq, runB_mk] at h
    cases hd : P.underlying t with
    | none => rw [hd] at h; cases h
    | some d =>
      rw [hd] at h
      cases d with
      | struct fs =>
        simp only [buildC] at h
        cases hz : zeroOf P t with
        | none => rw [hz] at h; cases h
        | some z =>
          rw [hz] at h
          simp only [optB_some] at h
          cases ha : fs.toList.all (fun f => (szOf P f.type).isSome) with
          | false => rw [ha] at h; cases h
          | true =>
            rw [ha] at h
            simp only [ifB_true, buildC1, bindB_eq, fVL_eq, runB_mk] at h
            obtain ⟨r, hr, h⟩ := fillC_ok hR _ _ h
            simp only [oper, oBuild, hd, hz, ha, cond_true, hr]; exact h
      | array m e =>
        simp only [buildC] at h
        cases hz : zeroOf P t with
        | none => rw [hz] at h; cases h
        | some z =>
          rw [hz] at h
          simp only [optB_some] at h
          cases hs : szOf P e with
          | none => rw [hs] at h; cases h
          | some m =>
            rw [hs] at h
            simp only [optB_some, buildC1, bindB_eq, fVL_eq, runB_mk] at h
            obtain ⟨r, hr, h⟩ := fillC_ok hR _ _ h
            simp only [oper, oBuild, hd, hz, hs, hr]; exact h
      | _ => cases h
  | buildSlice t len ps =>
    simp only [opC, oFr, bindB_eq, runB_mk, buildSliceC] at h
    cases hE : elemI P t with
    | none => rw [hE] at h; cases h
    | some E =>
      rw [hE] at h
      simp only [optB_some] at h
      cases hb : Nat.blt (Nat.mul len E.z) 10000 with
      | false => rw [hb] at h; cases h
      | true =>
        rw [hb] at h
        simp only [ifB_true, bindB_eq, fVL_eq, fN'_eq, runB_mk] at h
        obtain ⟨r, hr, h⟩ := fillC_ok hR _ _ h
        simp only [layK_eq, pushK_eq] at h
        simp only [oper, oBuildSlice, hE, hb, cond_true, hr, layC_eq, fN_eq, newB_eq]; exact h
  | nilCheck x =>
    simp only [opC, oP1, bindB_eq, runB_mk] at h
    obtain ⟨v, hv, h⟩ := opnd_ok hR x h
    cases v <;> first | (cases h; done) | (simp only [oper, oNilCheck, hv]; exact h)
  | unOp op t x =>
    simp only [opC, oP1, bindB_eq, runB_mk] at h
    obtain ⟨v, hv, h⟩ := opnd_ok hR x h
    cases op with
    | not =>
      simp only [unC, runB_mk, boolK_yes, notK_eq] at h
      obtain ⟨b, rfl, h⟩ := h
      simp only [oper, oUn, hv, fB_eq]; exact h
    | neg =>
      simp only [unC, runB_mk, intK_yes, negK_eq, wrapK_eq] at h
      obtain ⟨j, i, rfl, h⟩ := h
      simp only [oper, oUn, hv, fI_eq]; exact h
    | _ => cases h
  | convert s d x =>
    simp only [opC, oV1, bindB_eq, runB_mk] at h
    obtain ⟨v, hv, h⟩ := opnd_ok hR x h
    exact (convC_ok hv h).good
  | makeInterface t x =>
    simp only [opC, oP1, bindB_eq, runB_mk] at h
    obtain ⟨v, hv, h⟩ := opnd_ok hR x h
    cases hd : P.underlying t with
    | none => rw [hd] at h; cases h
    | some d =>
      rw [hd] at h
      cases d <;> first | (cases h; done) | (simp only [oper, oMakeIface, hd, hv]; exact h)
  | makeFunc fn a b =>
    simp only [opC] at h
    cases fn with
    | func f =>
      cases ha : a.toList with
      | nil =>
        rw [ha] at h
        simp only [makeFuncC, bindB_eq, runB_mk] at h
        obtain ⟨l, hl, h⟩ := opndL_ok hR _ h
        simp only [oper, oMakeFunc, ha, hl]; exact h
      | cons y l => rw [ha] at h; cases h
    | _ => cases h
  | makeMap t r =>
    cases r with
    | none =>
      simp only [opC, runB_mk, pushK_eq] at h
      simp only [oper, oMakeMap, newB_eq]; exact h
    | some r => cases h
  | makeSlice t l cp =>
    simp only [opC, oV2, bindB_eq, runB_mk] at h
    obtain ⟨u, hu, h⟩ := opnd_ok hR l h
    obtain ⟨v, hv, h⟩ := opnd_ok hR cp h
    simp only [makeSliceC] at h
    cases hE : elemI P t with
    | none => rw [hE] at h; cases h
    | some E =>
      rw [hE] at h
      simp only [optB_some, fN'_eq, runB_mk, natV_yes, ifK_yes, layK_eq, pushK_eq] at h
      obtain ⟨i, hi, j, hj, h1, h2, h⟩ := h
      have h2 : Nat.blt j limit = true := h2
      cases u <;> first | (cases hi; done) | skip
      cases v <;> first | (cases hj; done) | skip
      rename_i ku nu kv nv
      cases nu <;> first | (cases hi; done) | skip
      cases nv <;> first | (cases hj; done) | skip
      simp only [natOf, Option.some.injEq] at hi hj
      subst hi hj
      simp only [oper, oMakeSlice, hE, hu, hv, h1, h2, Bool.and_self, cond_true, layC_eq, fN_eq, newB_eq]; exact h
  | slice t x a b m =>
    simp only [opC, bindB_eq, runB_mk] at h
    obtain ⟨v, hv, h⟩ := opnd_ok hR x h
    obtain ⟨w, hw, h⟩ := sliceC_ok hR hv h
    simp only [oper, hw]; exact h
  | field t x f =>
    simp only [opC, oP1, bindB_eq, runB_mk] at h
    obtain ⟨v, hv, h⟩ := opnd_ok hR x h
    obtain ⟨q, l, w, hq, rfl, hw, h⟩ := partC_ok h
    simp only [oper, oField, hv, hq, oPart_some hw]; exact h
  | index t x i =>
    simp only [opC, oP2, bindB_eq, runB_mk] at h
    obtain ⟨u, hu, h⟩ := opnd_ok hR x h
    obtain ⟨v, hv, h⟩ := opnd_ok hR i h
    obtain ⟨w, hw, h⟩ := indexC_ok hu hv h
    simp only [oper, hw]; exact h
  | lookup t m x ok =>
    simp only [opC, oV2, bindB_eq, runB_mk] at h
    obtain ⟨u, hu, h⟩ := opnd_ok hR m h
    obtain ⟨v, hv, h⟩ := opnd_ok hR x h
    cases hd : P.underlying t with
    | none => rw [hd] at h; cases h
    | some d =>
      rw [hd] at h
      cases d with
      | map kt e =>
        simp only [lookC] at h
        cases hz : zeroOf P e with
        | none => rw [hz] at h; cases h
        | some z =>
          rw [hz] at h
          simp only [optB_some, fVA_eq, fN'_eq] at h
          cases ok with
          | false =>
            simp only [runB_mk, mapK_yes] at h
            obtain ⟨b, rfl, h2⟩ := h
            obtain ⟨d', hd', hp, h3, hk⟩ := keyV_ok h2
            obtain ⟨K, hK, h4⟩ := blkK_yes h3
            rw [mpK_yes] at h4
            obtain ⟨es, rfl, h5⟩ := h4
            rcases findK_ok hk es 0 h5 with ⟨h1, h2⟩ | ⟨j, w, h1, h2⟩
            · simp only [oper, oLookup, hd, hu, hv, hd', hK n, hz, hp, cond_true, h1, cond_false]; exact h2
            · simp only [oper, oLookup, hd, hu, hv, hd', hK n, hz, hp, cond_true, h1, cond_false]; exact h2
          | true =>
            simp only [runB_mk, mapK_yes] at h
            obtain ⟨b, rfl, h2⟩ := h
            obtain ⟨d', hd', hp, h3, hk⟩ := keyV_ok h2
            obtain ⟨K, hK, h4⟩ := blkK_yes h3
            rw [mpK_yes] at h4
            obtain ⟨es, rfl, h5⟩ := h4
            rcases findK_ok hk es 0 h5 with ⟨h1, h2⟩ | ⟨j, w, h1, h2⟩
            · simp only [oper, oLookup, hd, hu, hv, hd', hK n, hz, hp, cond_true, h1]; exact h2
            · simp only [oper, oLookup, hd, hu, hv, hd', hK n, hz, hp, cond_true, h1]; exact h2
      | _ => cases h
  | mapUpdate t m x y =>
    simp only [opC, oV3, bindB_eq, runB_mk] at h
    obtain ⟨u, hu, h⟩ := opnd_ok hR m h
    obtain ⟨v, hv, h⟩ := opnd_ok hR x h
    obtain ⟨w, hw, h⟩ := opnd_ok hR y h
    cases hd : P.underlying t with
    | none => rw [hd] at h; cases h
    | some d =>
      rw [hd] at h
      cases d with
      | map kt e =>
        simp only [mapUpC, fN'_eq, runB_mk, mapK_yes] at h
        obtain ⟨b, rfl, h2⟩ := h
        obtain ⟨d', hd', hp, h3, hk⟩ := keyV_ok h2
        obtain ⟨K, hK, h4⟩ := blkK_yes h3
        rw [mpK_yes] at h4
        obtain ⟨es, rfl, h5⟩ := h4
        rcases findK_ok hk es 0 h5 with ⟨h1, h2⟩ | ⟨j, z, h1, h2⟩
        · simp only [addEK_eq, setBK_eq] at h2
          simp only [oper, oMapUpdate, hd, hu, hv, hw, hd', hK n, hp, cond_true, h1, setB_eq]; exact h2
        · simp only [setEK_eq, setBK_eq] at h2
          simp only [oper, oMapUpdate, hd, hu, hv, hw, hd', hK n, hp, cond_true, h1, setB_eq]; exact h2
      | _ => cases h
  | typeAssert x t a ok =>
    simp only [opC, oP1, bindB_eq, runB_mk] at h
    obtain ⟨v, hv, h⟩ := opnd_ok hR x h
    cases hd : P.underlying a with
    | none => rw [hd] at h; cases h
    | some d =>
      rw [hd] at h
      have hi : ∀ m, d ≠ .interface m := by
        rintro m rfl
        cases h
      cases ok with
      | false =>
        have h' : ifcK v (fun t v => ifK (Nat.beq t a) (k v B n D) .no) = .yes := by cases d <;> first | exact h | (cases h; done)
        simp only [ifcK_yes, ifK_yes] at h'
        obtain ⟨t', w, rfl, hb, h'⟩ := h'
        cases d <;> first | (exact absurd rfl (hi _)) | (simp only [oper, oAssert, hd, hv, hb, cond_true, cond_false]; exact h')
      | true =>
        cases hz : zeroOf P a with
        | none => cases d <;> (simp only [assertC, hz] at h; cases h)
        | some z =>
          have h' : ifcK v (fun t v => ifK (Nat.beq t a) (k (.tup [v, .bool true]) B n D) (k (.tup [z, .bool false]) B n D)) = .yes := by
            cases d <;> first | (cases h; done) | (simp only [assertC, hz, optB_some, fVA_eq, runB_mk] at h; exact h)
          simp only [ifcK_yes] at h'
          obtain ⟨t', w, rfl, h'⟩ := h'
          cases hb : Nat.beq t' a <;> rw [hb] at h'
          · cases d <;> first | (exact absurd rfl (hi _)) | (simp only [oper, oAssert, hd, hv, hb, hz, cond_true, cond_false]; exact h')
          · cases d <;> first | (exact absurd rfl (hi _)) | (simp only [oper, oAssert, hd, hv, hb, hz, cond_true, cond_false]; exact h')
  | extract x i =>
    simp only [opC, bindB_eq, runB_mk] at h
    obtain ⟨v, hv, h⟩ := opnd_ok hR x h
    simp only [tupK_yes, nthK_eq, optK_yes] at h
    obtain ⟨l, rfl, w, hw, h⟩ := h
    simp only [oper, oExtract, hv, hw, okV]; exact h
  | _ => cases h
end Eng
end Go.Proofs.YtbdhainbcfobeaaGreatDoor
