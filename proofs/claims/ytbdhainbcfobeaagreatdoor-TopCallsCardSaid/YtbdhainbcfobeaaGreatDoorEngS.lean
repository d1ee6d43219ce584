/-
  THE ENGINE, part S: one operation's step, whatever its class; slots; guards.
-/
import Derived.Test.YtbdhainbcfobeaaGreatDoorEngR
namespace Go.Proofs.YtbdhainbcfobeaaGreatDoor
namespace Eng
open Go
section
variable {P : Program} {ρ : Rho} {T : Tm} {a : Act}

/-- ids that come to be are free -/
def ChainR (ρ : Rho) (v : AV) (chain : List PanicEntry) : Prop := ∃ x older, den ρ v = some x ∧ chain = { v := x, recovered := false, goexit := false } :: older ∧ ∀ e ∈ older, e.goexit = false
def CPost (ρ : Rho) (H : Heap) (w : World) (r : CR) : Ending → World → Prop
  | .returned x, w' => ∃ v H' ρ', r = .ret v H' ∧ den ρ' v = some x ∧ HR ρ' H' w' ∧ Ext ρ H w ρ' H' w'
  | .panicked chain, w' => ∃ v H' ρ', r = .pan v H' ∧ ChainR ρ' v chain ∧ HR ρ' H' w' ∧ Ext ρ H w ρ' H' w'
  | .outgrown, _ => False
def FreshR (ρ : Rho) (H : Heap) (r : CR) : Prop := ∀ v H', r = .ret v H' ∨ r = .pan v H' → Fresh ρ H H'
/-- what a call of the engine says of the model's -/
def CallOK (P : Program) (call : CallF) : Prop := ∀ f xs H, call f xs H ≠ .bad →
  (∀ args w, (callFunc f args).run P w = .ok (.enter f args) w) ∧
  ∀ ρ w args, DL ρ xs args.toList → HR ρ H w → GOK P ρ → FreshR ρ H (call f xs H) → Calls P f args w (CPost ρ H w (call f xs H))
def DOK (ρ : Rho) (d : FuncId × List AV) (x : Deferred) : Prop := ∃ cap, x.target = .fn (.func d.1) cap ∧ DL ρ d.2 (x.args ++ cap).toList
def DR (ρ : Rho) : List (FuncId × List AV) → List Deferred → Prop
  | [], [] => True
  | d :: D, x :: X => DOK ρ d x ∧ DR ρ D X
  | _, _ => False
theorem DOK.mono {ρ ρ' : Rho} (s : Sub ρ ρ') {d : FuncId × List AV} {x : Deferred} (h : DOK ρ d x) : DOK ρ' d x := by
  obtain ⟨cap, h1, h2⟩ := h; exact ⟨cap, h1, h2.mono s⟩
theorem DR.mono {ρ ρ' : Rho} (s : Sub ρ ρ') : ∀ {D : List (FuncId × List AV)} {X : List Deferred}, DR ρ D X → DR ρ' D X
  | [], [], _ => trivial
  | _ :: _, _ :: _, h => ⟨h.1.mono s, DR.mono s h.2⟩
  | [], _ :: _, h => h.elim
  | _ :: _, [], h => h.elim

theorem exec_call {o : Oper} {c : Call} {f : Operand} (ho : o.op = .call c) (hc : c.callee = .value f) {g : FuncId} {m : List Value} (hf : a.eval f = .func (.func g) #[] m.toArray) {w : World} {r : Result Go.Next}
    (h : (callFunc g ((c.args.map a.eval) ++ m.toArray)).run P w = r) : (execOp a.eval o).run P w = r := by
  simp only [execOp, ho, resolve, hc, Deferred.ofValue, hf, Sem.run_bind, Sem.run_pure, Result.andThen_ok, invoke]
  simpa using h
theorem exec_defer {o : Oper} {c : Call} {f : Operand} (ho : o.op = .defer c) (hc : c.callee = .value f) {g : FuncId} {m : List Value} (hf : a.eval f = .func (.func g) #[] m.toArray) (w : World) :
    (execOp a.eval o).run P w = .ok (.defer { target := .fn (.func g) m.toArray, args := c.args.map a.eval }) w := by
  simp [execOp, ho, resolve, hc, Deferred.ofValue, hf]
theorem DL.append' {l l' : List AV} {m m' : List Value} (h : DL ρ l m) (h' : DL ρ l' m') : DL ρ (l ++ l') (m ++ m') := h.append h'

/-- A step of one operation, in the very memory that the engine has. -/
theorem oper_wp {call : CallF} (hC : CallOK P call) {o : Oper} (hg : opG P o.op = true) (hT : TR ρ T a.tmps) (hG : GOK P ρ) {H : Heap} {w : World} (hH : HR ρ H w) {K : Act → World → Prop} {Q : Exit → Act → World → Prop} :
    (∀ v H', oper P call o.op T H = .val v H' → Fresh ρ H H' → (∀ ρ' x w', den ρ' v = some x → HR ρ' H' w' → Ext ρ H w ρ' H' w' → K (a.put o.dst x) w') → o.wp P a w K Q) ∧
    (∀ f xs, oper P call o.op T H = .dfr f xs → (∀ d, DOK ρ (f, xs) d → K ({ a with defers := d :: a.defers }.put o.dst undef) w) → o.wp P a w K Q) ∧
    (∀ v H', oper P call o.op T H = .pan v H' → Fresh ρ H H' → (∀ ρ' chain w', ChainR ρ' v chain → HR ρ' H' w' → Ext ρ H w ρ' H' w' → Q (.panic chain) a w') → o.wp P a w K Q) := by
  -- a value, however it comes
  have value : ∀ {v H'}, Wr P o a ρ H w v H' → (∀ ρ' x w', den ρ' v = some x → HR ρ' H' w' → Ext ρ H w ρ' H' w' → K (a.put o.dst x) w') → o.wp P a w K Q := by
    rintro v H' ⟨x, w', ρ', hrun | ⟨rfl, hrun⟩, h1, h2, h3⟩ hK
    · unfold Oper.wp; rw [hrun]; exact hK ρ' x w' h1 h2 h3
    · unfold Oper.wp; rw [hrun]; exact hK ρ' undef w' h1 h2 h3
  -- a call of a function
  have calls : ∀ {c f g l xs}, o.op = .call c → c.callee = .value f → ev f T = some (.fn g l) → evL c.args.toList T = some xs →
      (∀ v H', call g (xs ++ l) H = .ret v H' → Fresh ρ H H' → (∀ ρ' x w', den ρ' v = some x → HR ρ' H' w' → Ext ρ H w ρ' H' w' → K (a.put o.dst x) w') → o.wp P a w K Q) ∧
      (∀ v H', call g (xs ++ l) H = .pan v H' → Fresh ρ H H' → (∀ ρ' chain w', ChainR ρ' v chain → HR ρ' H' w' → Ext ρ H w ρ' H' w' → Q (.panic chain) a w') → o.wp P a w K Q) := by
    intro c f g l xs hoc hcf hf hxs
    have hgo : c.operands.toList.all (gl P) = true := by have := hg; rw [hoc] at this; exact this
    obtain ⟨m, hm, hfe⟩ := den_fn (ev_den hT hG (callFn hcf hgo) hf)
    have hargs := evL_den hT hG (callArgs hgo) hxs
    have hall : DL ρ (xs ++ l) ((c.args.map a.eval) ++ m.toArray).toList := by
      rw [Array.toList_append, args_eq]; exact hargs.append hm
    have go : ∀ r, call g (xs ++ l) H = r → r ≠ .bad → FreshR ρ H r → (∀ e w', CPost ρ H w r e w' → match e with | .returned x => K (a.put o.dst x) w' | .panicked ch => Q (.panic ch) a w' | .outgrown => False) → o.wp P a w K Q := by
      intro r hr hbad hfr hk
      obtain ⟨h1, h2⟩ := hC g (xs ++ l) H (hr ▸ hbad)
      have h2 := h2 ρ w _ hall hH hG (hr ▸ hfr)
      rw [hr] at h2
      unfold Oper.wp
      rw [exec_call hoc hcf hfe (h1 _ w), Oper.upon_enter]
      refine Calls.mono h2 fun e w' he => ?_
      have := hk e w' he
      cases e <;> first | exact this | exact this.elim
    refine ⟨fun v H' hr hfr hK => go _ hr (by simp) (fun v' H'' e => ?_) fun e w' he => ?_, fun v H' hr hfr hK => go _ hr (by simp) (fun v' H'' e => ?_) fun e w' he => ?_⟩
    · rcases e with e | e
      · injection e with e1 e2; exact e2 ▸ hfr
      · cases e
    · cases e with
      | returned x =>
        obtain ⟨v', H'', ρ', e1, e2, e3, e4⟩ := he
        injection e1 with e5 e6; subst e5; subst e6
        exact hK ρ' x w' e2 e3 e4
      | panicked ch => obtain ⟨v', H'', ρ', e1, _⟩ := he; cases e1
      | outgrown => exact he
    · rcases e with e | e
      · cases e
      · injection e with e1 e2; exact e2 ▸ hfr
    · cases e with
      | returned x => obtain ⟨v', H'', ρ', e1, _⟩ := he; cases e1
      | panicked ch =>
        obtain ⟨v', H'', ρ', e1, e2, e3, e4⟩ := he
        injection e1 with e5 e6; subst e5; subst e6
        exact hK ρ' ch w' e2 e3 e4
      | outgrown => exact he
  refine ⟨fun v H' h hfr hK => ?_, fun f xs h hK => ?_, fun v H' h hfr hK => ?_⟩
  · cases hcl : cls P o.op with
    | pure =>
      obtain ⟨rfl, x, h1, h2⟩ := oper_pure hcl hg hT hG H v H' h
      exact value ⟨x, w, ρ, .inl (h2 w), h1, hH, .refl _ _ _⟩ hK
    | read =>
      obtain ⟨rfl, x, h1, h2⟩ := oper_read hcl hg hT hG hH.vr h
      exact value ⟨x, w, ρ, .inl h2, h1, hH, .refl _ _ _⟩ hK
    | make =>
      obtain ⟨B, _, e⟩ := oper_push hcl h
      exact value ((oper_make hcl hg hT hG h).wr hH (hfr _ (Nat.le_refl _) (by rw [e]; show H.nx < H.nx + 1; omega))) hK
    | loud =>
      by_cases hno : ∀ c f, o.op = .call c → c.callee ≠ .value f
      · exact value (oper_loud hcl hno hg hT hG hH (fun e => hfr _ (Nat.le_refl _) (by omega)) h) hK
      · simp only [Classical.not_forall, Classical.not_not] at hno
        obtain ⟨c, f, hoc, hcf⟩ := hno
        rw [hoc] at h
        simp only [oper, oCall] at h
        split at h
        · rename_i xs hxs
          rw [hcf] at h
          simp only at h
          split at h
          · rename_i g l hf
            refine (calls hoc hcf hf hxs).1 v H' ?_ hfr hK
            unfold ofCall at h
            split at h
            · cases h
            · rename_i hr; injection h with h1 h2; rw [hr, h1, h2]
            · cases h
          · cases h
        · cases h
    | bad => exact (oper_bad hcl h).elim
  · by_cases h1 : ∃ c, o.op = .defer c
    · obtain ⟨c, hoc⟩ := h1
      rw [hoc] at h
      simp only [oper] at h
      have hgo : c.operands.toList.all (gl P) = true := by have := hg; rw [hoc] at this; exact this
      rcases oDefer_cases (c := c) (T := T) with e | ⟨ys, f', g, l, hxs, hcf, hf, e⟩
      · rw [e] at h; cases h
      · rw [e] at h
        injection h with e1 e2; subst e1; subst e2
        obtain ⟨m, hm, hfe⟩ := den_fn (ev_den hT hG (callFn hcf hgo) hf)
        have hargs := evL_den hT hG (callArgs hgo) hxs
        unfold Oper.wp
        rw [exec_defer hoc hcf hfe w]
        refine hK _ ⟨m.toArray, rfl, ?_⟩
        show DL ρ (ys ++ l) ((c.args.map a.eval) ++ m.toArray).toList
        rw [Array.toList_append, args_eq]; exact hargs.append hm
    · exfalso
      by_cases h2 : ∃ c, o.op = .call c
      · obtain ⟨c, hoc⟩ := h2
        rw [hoc] at h
        simp only [oper] at h
        rcases oCall_cases (P := P) (call := call) (c := c) (T := T) (H := H) with k | ⟨_, t, u, _, _, _, e⟩ | ⟨ys, f', g, l, _, _, _, e⟩ | ⟨_, e⟩
        · rw [h] at k; exact k
        · rw [e] at h; cases h
        · rw [e] at h; unfold ofCall at h; split at h <;> cases h
        · rw [e] at h; cases h
      · by_cases h3 : ∃ x, o.op = .panic x
        · obtain ⟨x, hox⟩ := h3
          rw [hox] at h
          simp only [oper] at h
          rcases oPanic_cases (x := x) (T := T) (H := H) with e | ⟨t, u, _, e⟩ <;> rw [e] at h <;> cases h
        · have k := oper_MR (P := P) (call := call) (o := o.op) (fun c e => h2 ⟨c, e⟩) (fun c e => h1 ⟨c, e⟩) (fun x e => h3 ⟨x, e⟩) (T := T) (H := H)
          rw [h] at k; exact k
  · have boom : ∀ {t u y} , den ρ (.ifc t u) = some (.iface t y) → v = .ifc t u → H' = H → (execOp a.eval o).run P w = .halt (.panic (.iface t y)) w → o.wp P a w K Q := by
      intro t u y h1 h2 h3 h4
      subst h2; subst h3
      unfold Oper.wp
      rw [h4]
      exact hK ρ _ w ⟨_, [], h1, rfl, by simp⟩ hH (.refl _ _ _)
    by_cases h2 : ∃ c, o.op = .call c
    · obtain ⟨c, hoc⟩ := h2
      have hgo : c.operands.toList.all (gl P) = true := by have := hg; rw [hoc] at this; exact this
      rw [hoc] at h
      simp only [oper] at h
      rcases oCall_cases (P := P) (call := call) (c := c) (T := T) (H := H) with k | ⟨_, t, u, hxs, hb, hl, e⟩ | ⟨ys, f', g, l, hxs, hcf, hf, e⟩ | ⟨_, e⟩
      · rw [h] at k; exact k.elim
      · rw [e] at h
        injection h with h1 h2
        have hargs := evL_den hT hG (callArgs hgo) hxs
        subst hl
        obtain ⟨z, hz, hz2⟩ := one_of_DL hargs
        obtain ⟨y, hy, rfl⟩ := den_ifc hz2
        refine boom hz2 h1.symm h2.symm ?_
        obtain ⟨cs, hcs⟩ := exec_builtin (P := P) (a := a) hoc hb
        rw [hcs w, args_eq, hz]
        simp [builtin, Instr.panic, goPanic]
      · rw [e] at h
        refine (calls hoc hcf hf hxs).2 v H' ?_ hfr hK
        unfold ofCall at h
        split at h
        · cases h
        · cases h
        · rename_i hr; injection h with h1 h2; rw [hr, h1, h2]
      · rw [e] at h; cases h
    · by_cases h1 : ∃ c, o.op = .defer c
      · obtain ⟨c, hoc⟩ := h1
        rw [hoc] at h
        simp only [oper] at h
        rcases oDefer_cases (c := c) (T := T) with e | ⟨ys, f', g, l, _, _, _, e⟩ <;> rw [e] at h <;> cases h
      · by_cases h3 : ∃ x, o.op = .panic x
        · obtain ⟨x, hox⟩ := h3
          have hgx : gl P x = true := by have := hg; rw [hox] at this; simpa [opG, Op.operands] using this
          rw [hox] at h
          simp only [oper] at h
          rcases oPanic_cases (x := x) (T := T) (H := H) with e | ⟨t, u, hx, e⟩
          · rw [e] at h; cases h
          · rw [e] at h
            injection h with h1 h2
            have hd := ev_den hT hG hgx hx
            obtain ⟨y, hy, hxe⟩ := den_ifc hd
            rw [hxe] at hd
            refine boom hd h1.symm h2.symm ?_
            simp [execOp, hox, hxe, Instr.panic, goPanic]
        · have k := oper_MR (P := P) (call := call) (o := o.op) (fun c e => h2 ⟨c, e⟩) (fun c e => h1 ⟨c, e⟩) (fun x e => h3 ⟨x, e⟩) (T := T) (H := H)
          rw [h] at k; exact k.elim

/-- recover -/
theorem oper_rcv {call : CallF} {o : Oper} {H : Heap} (h : oper P call o.op T H = .rcv) (w : World) : (execOp a.eval o).run P w = .ok .recover w := by
  by_cases h2 : ∃ c, o.op = .call c
  · obtain ⟨c, hoc⟩ := h2
    rw [hoc] at h
    simp only [oper] at h
    rcases oCall_cases (P := P) (call := call) (c := c) (T := T) (H := H) with k | ⟨_, t, u, _, _, _, e⟩ | ⟨ys, f', g, l, _, _, _, e⟩ | ⟨hb, _⟩
    · rw [h] at k; exact k.elim
    · rw [e] at h; cases h
    · rw [e] at h; unfold ofCall at h; split at h <;> cases h
    · obtain ⟨cs, hcs⟩ := exec_builtin (P := P) (a := a) hoc hb
      rw [hcs w]; rfl
  · exfalso
    by_cases h1 : ∃ c, o.op = .defer c
    · obtain ⟨c, hoc⟩ := h1
      rw [hoc] at h
      simp only [oper] at h
      rcases oDefer_cases (c := c) (T := T) with e | ⟨ys, f', g, l, _, _, _, e⟩ <;> rw [e] at h <;> cases h
    · by_cases h3 : ∃ x, o.op = .panic x
      · obtain ⟨x, hox⟩ := h3
        rw [hox] at h
        simp only [oper] at h
        rcases oPanic_cases (x := x) (T := T) (H := H) with e | ⟨t, u, _, e⟩ <;> rw [e] at h <;> cases h
      · have k := oper_MR (P := P) (call := call) (o := o.op) (fun c e => h2 ⟨c, e⟩) (fun c e => h1 ⟨c, e⟩) (fun x e => h3 ⟨x, e⟩) (T := T) (H := H)
        rw [h] at k; exact k
end
end Eng
end Go.Proofs.YtbdhainbcfobeaaGreatDoor
