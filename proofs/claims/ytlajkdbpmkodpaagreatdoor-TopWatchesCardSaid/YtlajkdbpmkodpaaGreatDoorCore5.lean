/-
  THE ENGINE, part V: functions, their results, deferred calls, recover.
-/
import Derived.Test.YtlajkdbpmkodpaaGreatDoorCore4
namespace Go.Proofs.YtlajkdbpmkodpaaGreatDoor
namespace Eng
open Go
section
variable {P : Program}

/-! ### results -/
def resF (tmps : Array Value) : ResultVar → Sem Value
  | .tmp t => pure (tmps.getD t undef)
  | .cell a t => do loadVar t (← asAddr (tmps.getD a undef))
theorem resV_run {ρ : Rho} {T : Tm} {H : Heap} {w : World} {tmps : Array Value} (hH : HR ρ H w) (hT : TR ρ T tmps) {r : ResultVar} {v : AV} (h : resV P r T H = some v) :
    ∃ x, den ρ v = some x ∧ (resF tmps r).run P w = .ok x w := by
  cases r with
  | tmp t =>
    obtain ⟨x, h1, h2⟩ := hT t v h
    exact ⟨x, h1, by simp [resF, Array.getD_eq_getD_getElem?, h2]⟩
  | cell c t =>
    simp only [resV] at h
    split at h
    · rename_i b i p hb hp
      obtain ⟨x, h1, h2⟩ := hT c _ hb
      obtain ⟨q, hq, rfl⟩ := den_ptr h1
      split at h
      · rename_i u Hx hl
        injection h with h; subst h
        obtain ⟨e1, e2, e3⟩ := plcOf_spec hp
        obtain ⟨_, y, h3, h4⟩ := loadR_run (P := P) hH.vr hq hl e2 e3
        refine ⟨y, h3, ?_⟩
        simp only [resF, Array.getD_eq_getD_getElem?, h2, Option.getD_some]
        simpa [asAddr] using h4
      · cases h
    · cases h
theorem run_mapM_list {α : Type} (f : α → Sem Value) {w : World} : ∀ (l : List α) (xs : List Value), l.length = xs.length → (∀ (i : Nat) (r : α) (x : Value), l[i]? = some r → xs[i]? = some x → (f r).run P w = .ok x w) → (l.mapM f).run P w = .ok xs w
  | [], [], _, _ => by simp
  | r :: l, x :: xs, hl, h => by
    rw [List.mapM_cons]
    have h0 := h 0 r x (by simp) (by simp)
    have ih := run_mapM_list f l xs (by simpa using hl) fun i r' x' h1 h2 => h (i + 1) r' x' (by simpa using h1) (by simpa using h2)
    simp [h0, ih]
  | [], _ :: _, hl, _ => by simp at hl
  | _ :: _, [], hl, _ => by simp at hl
theorem resL_run {ρ : Rho} {T : Tm} {H : Heap} {w : World} {tmps : Array Value} (hH : HR ρ H w) (hT : TR ρ T tmps) : ∀ {rs : List ResultVar} {vs : List AV}, resL P T H rs = some vs →
    ∃ xs : List Value, DL ρ vs xs ∧ rs.length = xs.length ∧ ∀ (i : Nat) (r : ResultVar) (x : Value), rs[i]? = some r → xs[i]? = some x → (resF tmps r).run P w = .ok x w
  | [], vs, h => by simp only [resL, Option.some.injEq] at h; subst h; exact ⟨[], .nil, rfl, by simp⟩
  | r :: l, vs, h => by
    simp only [resL] at h
    split at h
    · rename_i v m hv hm
      injection h with h; subst h
      obtain ⟨x, h1, h2⟩ := resV_run hH hT hv
      obtain ⟨xs, h3, h4, h5⟩ := resL_run hH hT hm
      refine ⟨x :: xs, .cons h1 h3, by simp [h4], fun i r' x' e1 e2 => ?_⟩
      cases i with
      | zero => simp at e1 e2; subst e1; subst e2; exact h2
      | succ i => exact h5 i r' x' (by simpa using e1) (by simpa using e2)
    · cases h
theorem resA_run {ρ : Rho} {T : Tm} {H : Heap} {w : World} {tmps : Array Value} (hH : HR ρ H w) (hT : TR ρ T tmps) {fn : Func} {v : AV} (h : resA P fn T H = some v) : ∃ x, den ρ v = some x ∧ (results fn tmps).run P w = .ok x w := by
  unfold resA at h
  have key : ∀ vs, resL P T H fn.results.toList = some vs → ∃ xs : List Value, DL ρ vs xs ∧ (results fn tmps).run P w = .ok (if h : xs.toArray.size = 1 then xs.toArray[0] else .tuple xs.toArray) w := fun vs hvs => by
    obtain ⟨xs, h1, h2, h3⟩ := resL_run hH hT hvs
    refine ⟨xs, h1, ?_⟩
    have hm := run_mapM_list (P := P) (w := w) (resF tmps) fn.results.toList xs h2 h3
    have : (fn.results.mapM (resF tmps)).run P w = .ok xs.toArray w := by
      rw [Array.mapM_eq_mapM_toList]
      simp [hm]
    have hres : results fn tmps = (do let vs ← fn.results.mapM (resF tmps); pure (if h : vs.size = 1 then vs[0] else .tuple vs)) := rfl
    rw [hres]
    simp only [Sem.run_bind]
    rw [this]
    simp
  split at h
  · rename_i u hvs
    injection h with h; subst h
    obtain ⟨xs, h1, h2⟩ := key _ hvs
    obtain ⟨x, rfl, h3⟩ := one_of_DL h1
    exact ⟨x, h3, by simpa using h2⟩
  · rename_i vs hne hvs
    injection h with h; subst h
    obtain ⟨xs, h1, h2⟩ := key _ hvs
    refine ⟨.tuple xs.toArray, by simp only [den]; rw [h1], ?_⟩
    rw [h2, dif_neg]
    intro hs
    have hl := h1.length
    have : vs.length = 1 := by simp at hs; omega
    match vs, this with
    | [u], _ => exact hne u rfl
  · cases h
end
end Eng
end Go.Proofs.YtlajkdbpmkodpaaGreatDoor
namespace Go.Proofs.YtlajkdbpmkodpaaGreatDoor
namespace Eng
open Go
section
variable {P : Program}

def UpR (ρ : Rho) : Up → FrameMode → Prop
  | .none, .returning => True
  | .pan v, .panicking chain => ChainR ρ v chain
  | .done _, .panicking chain => ∃ x older, chain = { v := x, recovered := true, goexit := false } :: older ∧ ∀ e ∈ older, e.goexit = false
  | _, _ => False
theorem UpR.mono {ρ ρ' : Rho} (s : Sub ρ ρ') {u : Up} {m : FrameMode} (h : UpR ρ u m) : UpR ρ' u m := by
  cases u <;> cases m <;> first | exact ChainR.mono s h | exact h | exact h.elim
def PostD (P : Program) (nt : Nat) (ρ : Rho) (H : Heap) (w : World) (c₀ : Frame) (cs : List Frame) (e : Ex) (S' : St) (u' : Up) : Exit → Act → List Frame → World → Prop := fun x a' cs' w' =>
  ∃ ρ' m', ExR ρ' e x ∧ Rel P nt ρ' S' a' w' ∧ Ext ρ H w ρ' S'.H w' ∧ UpR ρ' u' m' ∧ cs' = { c₀ with mode := m' } :: cs
theorem PostD.trans {nt : Nat} {ρ ρ' : Rho} {H H1 : Heap} {w w1 : World} {c₀ : Frame} {cs : List Frame} {e : Ex} {S' : St} {u' : Up} {x : Exit} {a' : Act} {cs' : List Frame} {w' : World} (hx : Ext ρ H w ρ' H1 w1) (h : PostD P nt ρ' H1 w1 c₀ cs e S' u' x a' cs' w') :
    PostD P nt ρ H w c₀ cs e S' u' x a' cs' w' := by
  obtain ⟨ρ2, m, h1, h2, h3, h4, h5⟩ := h
  exact ⟨ρ2, m, h1, h2, hx.trans h3, h4, h5⟩
theorem opsD_mono {call : CallF} (hM : MC call) {ops : Array Oper} : ∀ (l : List Oper) (S : St) (u : Up) (e : Ex) (S' : St) (u' : Up), opsD P call ops l S u = .ok e S' u' → S.H.nx ≤ S'.H.nx
  | [], S, u, e, S', u', h => by simp only [opsD] at h; injection h with h1 h2 h3; rw [h2]; exact Nat.le_refl _
  | o :: l, S, u, e, S', u', h => by
    simp only [opsD, putT_eq'] at h
    split at h
    · split at h
      · rename_i v H' hv
        have h1 := oper_mono hM (.inl hv)
        have h2 := opsD_mono hM l _ _ _ _ _ h
        exact Nat.le_trans h1 h2
      · have h2 := opsD_mono hM l _ _ _ _ _ h; exact h2
      · rename_i v H' hv
        injection h with h1 h2 h3; subst h2
        exact oper_mono hM (.inr hv)
      · cases h
    · have h2 := opsD_mono hM l _ _ _ _ _ h; exact h2
    · cases h
theorem upon_norec {o : Oper} {a : Act} {K : Act → World → Prop} {Q : Exit → Act → World → Prop} {w : World} (h : o.wp P a w K Q) (_X : Prop → World → Prop) :
    ∃ r, (execOp a.eval o).run P w = r ∧ (∀ w', r ≠ .ok .recover w') ∧ o.upon P a K Q r := by
  refine ⟨_, rfl, fun w' e => ?_, h⟩
  unfold Oper.wp at h
  rw [e] at h
  exact h
theorem opsD_wp {call : CallF} (hC : CallOK P call) (hM : MC call) {nt : Nat} {ops : Array Oper} (hops : ∀ o ∈ ops.toList, opOK P nt o = true) (c₀ : Frame) (cs : List Frame) :
    ∀ (l : List Oper) (k : Nat) (S : St) (u : Up) (e : Ex) (S' : St) (u' : Up) (ρ : Rho) (a : Act) (m : FrameMode) (w : World) (Q : Exit → Act → List Frame → World → Prop),
    ops.toList.drop k = l → opsD P call ops l S u = .ok e S' u' → Rel P nt ρ S a w → UpR ρ u m → Fresh ρ S.H S'.H → (∀ x a' cs' w', PostD P nt ρ S.H w c₀ cs e S' u' x a' cs' w' → Q x a' cs' w') →
    wpOpsS P ops Q (List.range' k l.length) a ({ c₀ with mode := m } :: cs) w
  | [], k, S, u, e, S', u', ρ, a, m, w, Q, hd, h, hR, hU, hF, hQ => by
    simp only [opsD] at h
    injection h with h1 h2 h3; subst h1; subst h2; subst h3
    exact hQ _ _ _ _ ⟨ρ, m, trivial, hR, .refl _ _ _, hU, rfl⟩
  | o :: l, k, S, u, e, S', u', ρ, a, m, w, Q, hd, h, hR, hU, hF, hQ => by
    have hk : ops[k]? = some o := by
      have : (ops.toList.drop k)[0]? = some o := by rw [hd]; rfl
      rw [List.getElem?_drop] at this
      simpa using this
    have hmem : o ∈ ops.toList := by have := List.mem_of_mem_drop (i := k) (l := ops.toList) (a := o) (by rw [hd]; simp); exact this
    have hok := hops o hmem
    have hd' : ops.toList.drop (k + 1) = l := by
      have := congrArg (List.drop 1) hd
      rw [List.drop_drop] at this
      simpa [Nat.add_comm] using this
    rw [List.length_cons, List.range'_succ]
    simp only [wpOpsS, hk]
    simp only [opsD, putT_eq'] at h
    have hwant : ∀ b, want ops o.guard S.T = some b → Region.wanted o (yielded ops a.tmps) = b := fun b hb =>
      want_wanted (ρ := ρ) (fun j w' t v _ _ hv => hR.tr t v hv) hb
    have hdst : ∀ t, o.dst = some t → t < nt := fun t ht => opOK.d hok ht
    -- what is no recover
    have lift : o.wp P a w (fun a' w' => wpOpsS P ops Q (List.range' (k + 1) l.length) a' ({ c₀ with mode := m } :: cs) w') (fun e a' w' => Q e a' ({ c₀ with mode := m } :: cs) w') →
        (match (execOp a.eval o).run P w with
          | .ok .recover w' =>
            match recoverD ({ c₀ with mode := m } :: cs) with
            | some (v, cs') => wpOpsS P ops Q (List.range' (k + 1) l.length) (a.put o.dst v) cs' w'
            | none => wpOpsS P ops Q (List.range' (k + 1) l.length) (a.put o.dst .nilIface) ({ c₀ with mode := m } :: cs) w'
          | r => o.upon P a (fun a' w' => wpOpsS P ops Q (List.range' (k + 1) l.length) a' ({ c₀ with mode := m } :: cs) w') (fun e a' w' => Q e a' ({ c₀ with mode := m } :: cs) w') r) := fun hw => by
      obtain ⟨r, hr, hne, hup⟩ := upon_norec hw (fun _ _ => True)
      rw [hr]
      split
      · rename_i w' ; exact absurd rfl (hne w')
      · exact hup
    split at h
    · rename_i hw
      rw [hwant true hw, if_pos rfl]
      obtain ⟨p1, p2, p3⟩ := oper_wp (K := fun a' w' => wpOpsS P ops Q (List.range' (k + 1) l.length) a' ({ c₀ with mode := m } :: cs) w') (Q := fun e a' w' => Q e a' ({ c₀ with mode := m } :: cs) w') hC (opOK.g hok) hR.tr hR.gk hR.hr
      split at h
      · rename_i v H' hv
        have hm := opsD_mono hM l _ _ _ _ _ h
        refine lift (p1 v H' hv (hF.left hm) fun ρ' x w' e1 e2 e3 => ?_)
        refine opsD_wp hC hM hops c₀ cs l (k + 1) _ u e S' u' ρ' _ m w' Q hd' h ?_ (hU.mono e3.sub) (hF.right e3) fun x a' cs' w'' hp => hQ _ _ _ _ (hp.trans e3)
        exact (hR.to e3.sub e2).put hdst e1
      · rename_i hv
        rw [oper_rcv hv w]
        simp only
        cases u with
        | none =>
          simp only [recov] at h
          have hnone : recoverD ({ c₀ with mode := m } :: cs) = none := by
            cases m <;> first | rfl | exact hU.elim
          rw [hnone]
          exact opsD_wp hC hM hops c₀ cs l (k + 1) _ _ e S' u' ρ _ m w Q hd' h (hR.put hdst (v := .nili) rfl) hU hF hQ
        | done v =>
          simp only [recov] at h
          have hnone : recoverD ({ c₀ with mode := m } :: cs) = none := by
            cases m <;> first | rfl | exact hU.elim | skip
            obtain ⟨x, older, rfl, _⟩ := hU
            rfl
          rw [hnone]
          exact opsD_wp hC hM hops c₀ cs l (k + 1) _ _ e S' u' ρ _ m w Q hd' h (hR.put hdst (v := .nili) rfl) hU hF hQ
        | pan v =>
          simp only [recov] at h
          cases m <;> first | exact hU.elim | skip
          obtain ⟨x, older, hx, rfl, hol⟩ := hU
          have hsome : recoverD ({ c₀ with mode := FrameMode.panicking ({ v := x, recovered := false, goexit := false } :: older) } :: cs) = some (x, { c₀ with mode := FrameMode.panicking ({ v := x, recovered := true, goexit := false } :: older) } :: cs) := rfl
          rw [hsome]
          exact opsD_wp hC hM hops c₀ cs l (k + 1) _ _ e S' u' ρ _ _ w Q hd' h (hR.put hdst hx) ⟨x, older, rfl, hol⟩ hF hQ
      · rename_i v H' hv
        injection h with h1 h2 h3; subst h1; subst h2; subst h3
        exact lift (p3 v H' hv hF fun ρ' chain w' e1 e2 e3 => hQ _ _ _ _ ⟨ρ', m, e1, hR.to e3.sub e2, e3, hU.mono e3.sub, rfl⟩)
      · cases h
    · rename_i hw
      rw [hwant false hw, if_neg (by simp)]
      exact opsD_wp hC hM hops c₀ cs l (k + 1) _ u e S' u' ρ _ m w Q hd' h (hR.put hdst (den_undef ρ)) hU hF hQ
    · cases h
theorem liftD_ok {u : Up} {r : Res} {e : Ex} {S' : St} {u' : Up} (h : liftD u r = .ok e S' u') : r = .ok e S' ∧ u' = u := by
  unfold liftD at h
  split at h
  · injection h with h1 h2 h3; subst h1; subst h2; exact ⟨rfl, h3.symm⟩
  · cases h
theorem execD_mono {call : CallF} (hM : MC call) {ex : ExF} (hX : MX ex) : ∀ (c : Code) (S : St) (u : Up) (e : Ex) (S' : St) (u' : Up), execD P call ex c S u = .ok e S' u' → S.H.nx ≤ S'.H.nx := by
  intro c
  induction c with
  | seq x y ihx ihy =>
    intro S u e S' u' h
    simp only [execD] at h
    split at h
    · rename_i S1 u1 h1; exact Nat.le_trans (ihx _ _ _ _ _ h1) (ihy _ _ _ _ _ h)
    · exact ihx _ _ _ _ _ h
  | cond c x y ihx ihy =>
    intro S u e S' u' h
    simp only [execD] at h
    split at h
    · exact ihx _ _ _ _ _ h
    · exact ihy _ _ _ _ _ h
    · cases h
  | region id ops draw =>
    intro S u e S' u' h
    cases draw
    · simp only [execD] at h; exact opsD_mono hM _ _ _ _ _ _ h
    · simp only [execD] at h; exact hX _ _ _ _ (liftD_ok h).1
  | _ =>
    intro S u e S' u' h
    simp only [execD] at h
    exact hX _ _ _ _ (liftD_ok h).1
theorem execD_wp {call : CallF} (hC : CallOK P call) (hM : MC call) {nt : Nat} {ex : ExF} (hX : MX ex) (hI : ∀ c, codeOK P nt c = true → SoundC P nt ex c) (c₀ : Frame) (cs : List Frame) : ∀ (c : Code), codeOK P nt c = true →
    ∀ (S : St) (u : Up) (e : Ex) (S' : St) (u' : Up) (ρ : Rho) (a : Act) (m : FrameMode) (w : World) (Q : Exit → Act → List Frame → World → Prop),
    execD P call ex c S u = .ok e S' u' → Rel P nt ρ S a w → UpR ρ u m → Fresh ρ S.H S'.H → (∀ x a' cs' w', PostD P nt ρ S.H w c₀ cs e S' u' x a' cs' w' → Q x a' cs' w') → c.wpS P Q a ({ c₀ with mode := m } :: cs) w := by
  have base : ∀ (c : Code), codeOK P nt c = true → ∀ (S : St) (u : Up) (e : Ex) (S' : St) (u' : Up) (ρ : Rho) (a : Act) (m : FrameMode) (w : World) (Q : Exit → Act → List Frame → World → Prop),
      liftD u (ex c S) = .ok e S' u' → Rel P nt ρ S a w → UpR ρ u m → Fresh ρ S.H S'.H → (∀ x a' cs' w', PostD P nt ρ S.H w c₀ cs e S' u' x a' cs' w' → Q x a' cs' w') → c.wpS P Q a ({ c₀ with mode := m } :: cs) w := by
    intro c hc S u e S' u' ρ a m w Q h hR hU hF hQ
    obtain ⟨h1, rfl⟩ := liftD_ok h
    refine wpS_of_wp (wpX_wp (hI c hc S e S' ρ a w _ h1 hR hF fun x a' w' hp => ?_))
    obtain ⟨ρ', e1, e2, e3⟩ := hp
    exact hQ _ _ _ _ ⟨ρ', m, e1, e2, e3, hU.mono e3.sub, rfl⟩
  intro c
  induction c with
  | seq x y ihx ihy =>
    intro hc S u e S' u' ρ a m w Q h hR hU hF hQ
    simp only [codeOK, Bool.and_eq_true] at hc
    simp only [execD] at h
    refine wpS_seq ?_
    split at h
    · rename_i S1 u1 h1
      have hm := execD_mono hM hX _ _ _ _ _ _ h
      refine ihx hc.1 S u _ S1 u1 ρ a m w _ h1 hR hU (hF.left hm) fun z a' cs' w' hp => ?_
      obtain ⟨ρ', m', e1, e2, e3, e4, rfl⟩ := hp
      cases z <;> first | exact e1.elim | skip
      exact ihy hc.2 S1 u1 e S' u' ρ' a' m' w' Q h e2 e4 (hF.right e3) fun z a'' cs'' w'' hp => hQ _ _ _ _ (hp.trans e3)
    · rename_i hne
      refine ihx hc.1 S u e S' u' ρ a m w _ h hR hU hF fun z a' cs' w' hp => ?_
      cases z
      case normal =>
        obtain ⟨ρ', m', e1, _⟩ := hp
        cases e <;> first | exact (hne _ _ h).elim | exact e1.elim
      all_goals exact hQ _ _ _ _ hp
  | cond x p q ihp ihq =>
    intro hc S u e S' u' ρ a m w Q h hR hU hF hQ
    simp only [codeOK, Bool.and_eq_true] at hc
    simp only [execD] at h
    split at h
    · rename_i hb
      have := den_bool (ev_den hR.tr hR.gk hc.1.1 hb)
      exact wpS_cond this (ihp hc.1.2 S u e S' u' ρ a m w Q h hR hU hF hQ)
    · rename_i hb
      have := den_bool (ev_den hR.tr hR.gk hc.1.1 hb)
      exact wpS_cond this (ihq hc.2 S u e S' u' ρ a m w Q h hR hU hF hQ)
    · cases h
  | region id ops draw =>
    intro hc S u e S' u' ρ a m w Q h hR hU hF hQ
    cases draw
    · simp only [execD] at h
      simp only [codeOK] at hc
      refine wpS_region ?_
      rw [List.range_eq_range']
      have := opsD_wp hC hM (List.all_eq_true.1 hc) c₀ cs ops.toList 0 S u e S' u' ρ a m w Q rfl h hR hU hF hQ
      simpa using this
    · simp only [execD] at h; exact base _ hc S u e S' u' ρ a m w Q h hR hU hF hQ
  | _ =>
    intro hc S u e S' u' ρ a m w Q h hR hU hF hQ
    simp only [execD] at h
    exact base _ hc S u e S' u' ρ a m w Q h hR hU hF hQ
end
end Eng
end Go.Proofs.YtlajkdbpmkodpaaGreatDoor
namespace Go.Proofs.YtlajkdbpmkodpaaGreatDoor
namespace Eng
open Go
section
variable {P : Program}

def fnOK (P : Program) (fn : Func) : Bool := match fn.body with
  | none => true
  | some c => codeOK P fn.ntmps c && !(fn.name == "runtime.NumGoroutine")
def progOK (P : Program) : Bool := P.funcs.toList.all (fnOK P)
theorem progOK.fn (h : progOK P = true) {f : FuncId} {fn : Func} {c : Code} (hf : P.funcs[f]? = some fn) (hb : fn.body = some c) : codeOK P fn.ntmps c = true ∧ fn.name ≠ "runtime.NumGoroutine" := by
  have hm : fn ∈ P.funcs.toList := Array.mem_toList_iff.2 (Array.mem_of_getElem? hf)
  have := List.all_eq_true.1 h fn hm
  simp only [fnOK, hb, Bool.and_eq_true, Bool.not_eq_true', beq_eq_false_iff_ne] at this
  exact this
theorem callFunc_run (h : progOK P = true) {f : FuncId} {fn : Func} {c : Code} (hf : P.funcs[f]? = some fn) (hb : fn.body = some c) (args : Array Value) (w : World) : (callFunc f args).run P w = .ok (.enter f args) w := by
  have hn := (progOK.fn h hf hb).2
  simp [callFunc, hf, hn, hb]
theorem init_rel {ρ : Rho} {H : Heap} {w : World} {xs : List AV} {args : Array Value} (hm : DL ρ xs args.toList) (hH : HR ρ H w) (hG : GOK P ρ) (nt : Nat) :
    Rel P nt ρ ⟨layT .lf 0 xs, H, []⟩ { tmps := args ++ Array.replicate (nt - args.size) undef, defers := [] } w := by
  refine ⟨hH, fun i v hv => ?_, trivial, by simp; omega, hG⟩
  rw [get_layT, Tr.get_lf] at hv
  have hl := hm.length
  simp at hl
  by_cases hi : 0 ≤ i ∧ i < 0 + xs.length
  · rw [if_pos hi] at hv
    obtain ⟨x, h1, h2⟩ := hm.get (i := i) (by simpa using hv)
    refine ⟨x, h2, ?_⟩
    rw [Array.getElem?_append_left (by omega)]
    simpa using h1
  · rw [if_neg hi] at hv; cases hv

theorem drop_all : ∀ {l : List PanicEntry}, (∀ e ∈ l, e.goexit = false) → l.dropWhile (fun e => !e.goexit) = []
  | [], _ => rfl
  | e :: l, h => by
    rw [List.dropWhile_cons, h e (by simp)]
    exact drop_all fun e he => h e (by simp [he])
theorem settle_ok {ρ : Rho} {u : Up} {m : FrameMode} (h : UpR ρ u m) : UpR ρ (upOf (mdOf u)) (settle m) := by
  cases u with
  | none => cases m <;> first | exact h | exact h.elim
  | pan v =>
    cases m <;> first | exact h.elim | skip
    obtain ⟨x, older, h1, rfl, h2⟩ := h
    exact ⟨x, older, h1, rfl, h2⟩
  | done v =>
    cases m <;> first | exact h.elim | skip
    obtain ⟨x, older, rfl, h2⟩ := h
    have := drop_all h2
    show UpR ρ .none (settle _)
    unfold settle
    simp only [this]
    trivial
theorem raised_ok {ρ : Rho} {u : Up} {m : FrameMode} (h : UpR ρ u m) {v : AV} {chain : List PanicEntry} (hc : ChainR ρ v chain) : UpR ρ (.pan v) (raised m chain) := by
  obtain ⟨x, older, h1, rfl, h2⟩ := hc
  have all : ∀ old : List PanicEntry, (∀ e ∈ old, e.goexit = false) → UpR ρ (.pan v) (.panicking ({ v := x, recovered := false, goexit := false } :: older ++ old)) := fun old ho =>
    ⟨x, older ++ old, h1, by simp, fun e he => by rcases List.mem_append.1 he with he | he; exact h2 e he; exact ho e he⟩
  cases u with
  | none =>
    cases m <;> first | exact h.elim | skip
    have := all [] (by simp)
    simpa [raised] using this
  | pan v' =>
    cases m <;> first | exact h.elim | skip
    obtain ⟨y, old, _, rfl, h4⟩ := h
    exact all _ fun e he => by rcases List.mem_cons.1 he with rfl | he; rfl; exact h4 e he
  | done v' =>
    cases m <;> first | exact h.elim | skip
    obtain ⟨y, old, rfl, h4⟩ := h
    exact all _ fun e he => by rcases List.mem_cons.1 he with rfl | he; rfl; exact h4 e he

theorem runDefers_cons {call : CallF} {ex : ExF} {f : FuncId} {xs : List AV} {ds : List (FuncId × List AV)} {m m' : Md} {H H' : Heap} (h : runDefers P call ex ((f, xs) :: ds) m H = some (m', H')) :
    ∃ fn c S u e, P.funcs[f]? = some fn ∧ fn.body = some c ∧ execD P call ex c ⟨layT .lf 0 xs, H, []⟩ (upOf m) = .ok e S u ∧ S.D = [] ∧
      ((∃ v, e = .panic v ∧ runDefers P call ex ds (.pan v) S.H = some (m', H')) ∨
       ((e = .normal ∨ e = .ret) ∧ (∃ v, resA P fn S.T S.H = some v) ∧ runDefers P call ex ds (mdOf u) S.H = some (m', H'))) := by
  simp only [runDefers, argsT_eq] at h
  split at h
  · rename_i fn hf
    split at h
    · rename_i c hb
      have emp : ∀ {α : Type} {l : List α}, l.isEmpty = true → l = [] := fun h => List.isEmpty_iff.1 h
      split at h
      · rename_i v S u hx
        obtain ⟨hD, h⟩ := cond_some h (by simp)
        exact ⟨fn, c, S, u, _, hf, hb, hx, emp hD, .inl ⟨v, rfl, h⟩⟩
      · rename_i S u hx
        obtain ⟨hD, h⟩ := cond_some h (by simp)
        rw [Bool.and_eq_true] at hD
        obtain ⟨r, hr⟩ := Option.isSome_iff_exists.1 hD.2
        exact ⟨fn, c, S, u, _, hf, hb, hx, emp hD.1, .inr ⟨.inl rfl, ⟨r, hr⟩, h⟩⟩
      · rename_i S u hx
        obtain ⟨hD, h⟩ := cond_some h (by simp)
        rw [Bool.and_eq_true] at hD
        obtain ⟨r, hr⟩ := Option.isSome_iff_exists.1 hD.2
        exact ⟨fn, c, S, u, _, hf, hb, hx, emp hD.1, .inr ⟨.inr rfl, ⟨r, hr⟩, h⟩⟩
      · cases h
    · cases h
  · cases h
theorem runDefers_mono {call : CallF} (hM : MC call) {ex : ExF} (hX : MX ex) : ∀ (ds : List (FuncId × List AV)) (m m' : Md) (H H' : Heap), runDefers P call ex ds m H = some (m', H') → H.nx ≤ H'.nx
  | [], m, m', H, H', h => by simp only [runDefers] at h; injection h with h; injection h with h1 h2; rw [h2]; exact Nat.le_refl _
  | (f, xs) :: ds, m, m', H, H', h => by
    obtain ⟨fn, c, S, u, e, hf, hb, hx, hD, hr⟩ := runDefers_cons h
    have h1 := execD_mono hM hX _ _ _ _ _ _ hx
    have h2 : S.H.nx ≤ H'.nx := by
      rcases hr with ⟨v, _, hr⟩ | ⟨_, _, hr⟩
      · exact runDefers_mono hM hX ds _ _ _ _ hr
      · exact runDefers_mono hM hX ds _ _ _ _ hr
    exact Nat.le_trans h1 h2
theorem leaves_ok (hP : progOK P = true) {call : CallF} (hC : CallOK P call) (hM : MC call) {ex : ExF} (hX : MX ex) (hI : ∀ nt c, codeOK P nt c = true → SoundC P nt ex c) {fn₀ : Func} {tmps : Array Value} {R : Ending → World → Prop} :
    ∀ (ds : List (FuncId × List AV)) (X : List Deferred) (m m' : Md) (H H' : Heap) (ρ : Rho) (u : FrameMode) (w : World), runDefers P call ex ds m H = some (m', H') → DR ρ ds X → UpR ρ (upOf m) u → HR ρ H w → GOK P ρ → Fresh ρ H H' →
    (∀ ρ' u' w', UpR ρ' (upOf m') u' → HR ρ' H' w' → Ext ρ H w ρ' H' w' → Leaves P fn₀ tmps R [] u' w') → Leaves P fn₀ tmps R X u w
  | [], [], m, m', H, H', ρ, u, w, h, _, hU, hH, hG, hF, hfin => by
    simp only [runDefers] at h
    injection h with h; injection h with h1 h2; subst h1; subst h2
    exact hfin ρ u w hU hH (.refl _ _ _)
  | [], _ :: _, m, m', H, H', ρ, u, w, h, hD, _, _, _, _, _ => hD.elim
  | _ :: _, [], m, m', H, H', ρ, u, w, h, hD, _, _, _, _, _ => hD.elim
  | (f, xs) :: ds, x :: X, m, m', H, H', ρ, u, w, h, hDR, hU, hH, hG, hF, hfin => by
    obtain ⟨fn, c, S, up, e, hf, hb, hx, hD, hr⟩ := runDefers_cons h
    obtain ⟨⟨cap, ht, hargs⟩, hDR⟩ := hDR
    obtain ⟨tg, dargs⟩ := x
    simp only at ht hargs
    subst ht
    have hcode := (progOK.fn hP hf hb).1
    have hne : u ≠ .run := by intro e; subst e; cases m <;> exact hU
    refine leaves_cons (f := f) (args := dargs ++ cap) hne (by simp only [invoke]; exact callFunc_run hP hf hb _ w) ?_
    have hSH : S.H.nx ≤ H'.nx := by
      rcases hr with ⟨v, _, hr⟩ | ⟨_, _, hr⟩ <;> exact runDefers_mono hM hX ds _ _ _ _ hr
    refine callsD_of_wpS hf hb fun c₀ cs hc₀ => ?_
    have hc₁ : c₀ = { c₀ with mode := u } := by rw [← hc₀]
    rw [hc₁]
    refine execD_wp hC hM hX (hI _) c₀ cs c hcode _ _ _ _ _ ρ _ u w _ hx (init_rel hargs hH hG fn.ntmps) hU (hF.left hSH) fun y a' cs' w' hp => ?_
    obtain ⟨ρ', um, e1, e2, e3, e4, rfl⟩ := hp
    have hdef : a'.defers = [] := by
      have := e2.dr
      rw [hD] at this
      cases hd : a'.defers with
      | nil => rfl
      | cons _ _ => rw [hd] at this; exact this.elim
    have go : ∀ m2 u2, runDefers P call ex ds m2 S.H = some (m', H') → UpR ρ' (upOf m2) u2 → Leaves P fn₀ tmps R X u2 w' := fun m2 u2 hr2 hu2 =>
      leaves_ok hP hC hM hX hI ds X m2 m' S.H H' ρ' u2 w' hr2 (hDR.mono e3.sub) hu2 e2.hr e2.gk (hF.right e3) fun ρ2 u3 w3 q1 q2 q3 => hfin ρ2 u3 w3 q1 q2 (e3.trans q3)
    have two : (e = .normal ∨ e = .ret) → (∃ v, resA P fn S.T S.H = some v) → runDefers P call ex ds (mdOf up) S.H = some (m', H') → a'.defers = [] ∧ ∃ u', ({ { c₀ with mode := u } with mode := um } :: cs : List Frame) = { { c₀ with mode := u } with mode := u' } :: cs ∧ ∃ v, (results fn a'.tmps).run P w' = .ok v w' ∧ Leaves P fn₀ tmps R X (settle u') w' := by
      rintro _ ⟨v, hv⟩ hr
      obtain ⟨z, _, hz⟩ := resA_run e2.hr e2.tr hv
      exact ⟨hdef, um, rfl, z, hz, go _ _ hr (settle_ok e4)⟩
    rcases hr with ⟨v, rfl, hr⟩ | ⟨he, hv, hr⟩
    · cases y <;> first | exact e1.elim | skip
      exact ⟨hdef, um, rfl, go _ _ hr (raised_ok e4 e1)⟩
    · rcases he with rfl | rfl
      · cases y <;> first | exact e1.elim | skip
        exact two (.inl rfl) hv hr
      · cases y <;> first | exact e1.elim | skip
        exact two (.inr rfl) hv hr

/-! ### a call -/
theorem callB_cases {call : CallF} {ex : ExF} {f : FuncId} {xs : List AV} {H : Heap} {r : CR} (h : callB P call ex f xs H = r) (hr : r ≠ .bad) :
    ∃ fn c e S m, P.funcs[f]? = some fn ∧ fn.body = some c ∧ ex c ⟨layT .lf 0 xs, H, []⟩ = .ok e S ∧ ((e = .normal ∧ m = .ret) ∨ (e = .ret ∧ m = .ret) ∨ ∃ v, e = .panic v ∧ m = .pan v) ∧
      ∃ m' H', runDefers P call ex S.D m S.H = some (m', H') ∧ ((∃ v, m' = .ret ∧ resA P fn S.T H' = some v ∧ r = .ret v H') ∨ (∃ v, m' = .pan v ∧ r = .pan v H')) := by
  simp only [callB, argsT_eq] at h
  have lv : ∀ fn m S, leave P call ex fn m S = r → ∃ m' H', runDefers P call ex S.D m S.H = some (m', H') ∧ ((∃ v, m' = .ret ∧ resA P fn S.T H' = some v ∧ r = .ret v H') ∨ (∃ v, m' = .pan v ∧ r = .pan v H')) := by
    intro fn m S h
    unfold leave at h
    split at h
    · rename_i hD
      rw [hD]
      refine ⟨m, S.H, rfl, ?_⟩
      cases m with
      | ret =>
        simp only at h
        split at h
        · rename_i v hv; exact .inl ⟨v, rfl, hv, h.symm⟩
        · exact absurd h.symm hr
      | pan v => exact .inr ⟨v, rfl, h.symm⟩
    · split at h
      · rename_i H' hrun
        split at h
        · rename_i v hv; exact ⟨_, H', hrun, .inl ⟨v, rfl, hv, h.symm⟩⟩
        · exact absurd h.symm hr
      · rename_i v H' hrun; exact ⟨_, H', hrun, .inr ⟨v, rfl, h.symm⟩⟩
      · exact absurd h.symm hr
  split at h
  · rename_i fn hf
    split at h
    · rename_i c hb
      split at h
      · rename_i S hx; exact ⟨fn, c, _, S, .ret, hf, hb, hx, .inl ⟨rfl, rfl⟩, lv _ _ _ h⟩
      · rename_i S hx; exact ⟨fn, c, _, S, .ret, hf, hb, hx, .inr (.inl ⟨rfl, rfl⟩), lv _ _ _ h⟩
      · rename_i v S hx; exact ⟨fn, c, _, S, .pan v, hf, hb, hx, .inr (.inr ⟨v, rfl, rfl⟩), lv _ _ _ h⟩
      · exact absurd h.symm hr
    · exact absurd h.symm hr
  · exact absurd h.symm hr
theorem callB_mono {call : CallF} (hM : MC call) {ex : ExF} (hX : MX ex) : MC (callB P call ex) := by
  intro f xs H
  cases hr : callB P call ex f xs H with
  | bad => trivial
  | ret v H' =>
    obtain ⟨fn, c, e, S, m, _, _, hx, _, m', H2, hrun, hres⟩ := callB_cases hr (by simp)
    have h1 := hX _ _ _ _ hx
    have h2 := runDefers_mono hM hX _ _ _ _ _ hrun
    rcases hres with ⟨v', _, _, e⟩ | ⟨v', _, e⟩
    · injection e with _ e; subst e; exact Nat.le_trans h1 h2
    · cases e
  | pan v H' =>
    obtain ⟨fn, c, e, S, m, _, _, hx, _, m', H2, hrun, hres⟩ := callB_cases hr (by simp)
    have h1 := hX _ _ _ _ hx
    have h2 := runDefers_mono hM hX _ _ _ _ _ hrun
    rcases hres with ⟨v', _, _, e⟩ | ⟨v', _, e⟩
    · cases e
    · injection e with _ e; subst e; exact Nat.le_trans h1 h2
theorem callB_ok (hP : progOK P = true) {call : CallF} (hC : CallOK P call) (hM : MC call) {ex : ExF} (hX : MX ex) (hI : ∀ nt c, codeOK P nt c = true → SoundC P nt ex c) : CallOK P (callB P call ex) := by
  intro f xs H hne
  obtain ⟨fn, c, e, S, m, hf, hb, hx, hem, m', H2, hrun, hres⟩ := callB_cases rfl hne
  refine ⟨fun args w => callFunc_run hP hf hb args w, fun ρ w args hm hH hG hF => ?_⟩
  generalize callB P call ex f xs H = r at *
  have hF2 : Fresh ρ H H2 := by
    rcases hres with ⟨v, _, _, e⟩ | ⟨v, _, e⟩
    · exact hF v H2 (.inl e)
    · exact hF v H2 (.inr e)
  have hSH := runDefers_mono hM hX _ _ _ _ _ hrun
  refine calls_of_wp_defers hf hb ?_
  refine wpX_wp (hI fn.ntmps c (progOK.fn hP hf hb).1 _ e S ρ _ w _ hx (init_rel hm hH hG fn.ntmps) (hF2.left hSH) fun y a' w' hp => ?_)
  obtain ⟨ρ', e1, e2, e3⟩ := hp
  have fin : ∀ u, UpR ρ' (upOf m) u → Leaves P fn a'.tmps (CPost ρ H w r) a'.defers u w' := fun u hu =>
    leaves_ok hP hC hM hX hI S.D a'.defers m m' S.H H2 ρ' u w' hrun e2.dr hu e2.hr e2.gk (hF2.right e3) fun ρ2 u2 w2 q1 q2 q3 => by
      rcases hres with ⟨v, rfl, hv, rfl⟩ | ⟨v, rfl, rfl⟩
      · cases u2 <;> first | exact q1.elim | skip
        obtain ⟨z, hz1, hz2⟩ := resA_run q2 (e2.tr.mono q3.sub) hv
        exact ⟨z, hz2, v, H2, ρ2, rfl, hz1, q2, e3.trans q3⟩
      · cases u2 <;> first | exact q1.elim | skip
        exact ⟨v, H2, ρ2, rfl, q1, q2, e3.trans q3⟩
  rcases hem with ⟨rfl, rfl⟩ | ⟨rfl, rfl⟩ | ⟨v, rfl, rfl⟩
  · cases y <;> first | exact e1.elim | skip
    exact fin _ trivial
  · cases y <;> first | exact e1.elim | skip
    exact fin _ trivial
  · cases y <;> first | exact e1.elim | skip
    exact fin _ e1
end
end Eng
end Go.Proofs.YtlajkdbpmkodpaaGreatDoor
namespace Go.Proofs.YtlajkdbpmkodpaaGreatDoor
namespace Eng
open Go
section
variable {P : Program} {call : CallF} {ops : Array Oper} {l : List Mv} {σ : Nat → St} {m : Nat} {nt : Nat}

theorem dig {i : Nat} {o : Oper} (h : ops[i]? = some o) : (digest P ops)[i]? = some ⟨cls P o.op, needs o, o.dst, Oper.looksAt ops o, ezO P o⟩ := by
  simp [digest, h]
theorem dig_inv {i : Nat} {d : ON} (h : (digest P ops)[i]? = some d) : ∃ o, ops[i]? = some o ∧ d = ⟨cls P o.op, needs o, o.dst, Oper.looksAt ops o, ezO P o⟩ := by
  simp only [digest, List.getElem?_map, Array.getElem?_toList] at h
  cases ho : ops[i]? with
  | none => rw [ho] at h; cases h
  | some o => rw [ho] at h; simp at h; exact ⟨o, rfl, h.symm⟩
theorem dig_len : (digest P ops).length = ops.size := by simp [digest]

/-- a region's trace -/
structure Tra (P : Program) (call : CallF) (ops : Array Oper) (l : List Mv) (σ : Nat → St) (m : Nat) (nt : Nat) : Prop where
  ok : planOK (digest P ops) (reach (digest P ops) []) l = true
  st : ∀ r mv, r < m → l[r]? = some mv → Step P call ops mv (σ r) (σ (r + 1))
  le : m ≤ l.length
  en : m = l.length ∨ ∃ i f, l[m]? = some (.ex i f)
  op : ∀ o ∈ ops.toList, opOK P nt o = true
  mc : MC call
/-- one waits for the other -/
def Bf (P : Program) (ops : Array Oper) (i j : Nat) : Prop := bef (reach (digest P ops) []) i j = true
/-- the value at a place of the plan -/
def valAt (P : Program) (call : CallF) (ops : Array Oper) (l : List Mv) (σ : Nat → St) (p : Nat) : AV := match l[p]? with
  | some (.ex i _) => (match ops[i]? with
    | some o => (match want ops o.guard (σ p).T with
      | some true => (match oper P call o.op (σ p).T (σ p).H with | .val v _ => v | _ => undefA)
      | _ => undefA)
    | none => undefA)
  | _ => undefA

theorem Tra.edges (h : Tra P call ops l σ m nt) : edgesOk (digest P ops) = true := by have := h.ok; simp only [planOK, Bool.and_eq_true] at this; exact this.1.1
theorem Tra.pairs (h : Tra P call ops l σ m nt) : pairsOk (digest P ops) (reach (digest P ops) []) = true := by have := h.ok; simp only [planOK, Bool.and_eq_true] at this; exact this.1.2
theorem Tra.walk (h : Tra P call ops l σ m nt) : walk (digest P ops) (reach (digest P ops) []) l [] = true := by have := h.ok; simp only [planOK, Bool.and_eq_true] at this; exact this.2
theorem Tra.opk (h : Tra P call ops l σ m nt) {i : Nat} {o : Oper} (ho : ops[i]? = some o) : opOK P nt o = true := h.op o (Array.mem_toList_iff.2 (Array.mem_of_getElem? ho))
/-- what has been done ahead of a place of the plan -/
def Dn' (l : List Mv) (p j : Nat) : Prop := ∃ p', p' < p ∧ ∃ f, l[p']? = some (.ex j f)
theorem dn_iff {p j : Nat} : Dn [] l p j ↔ Dn' l p j := by simp [Dn, Dn']
theorem Tra.ex (h : Tra P call ops l σ m nt) {p i : Nat} {f : Bool} (hp : l[p]? = some (.ex i f)) : ∃ o, ops[i]? = some o ∧ ¬ Dn' l p i ∧ (∀ k ∈ needs o, Dn' l p k) ∧
    (cls P o.op = .loud → ∀ j o', ops[j]? = some o' → j ≠ i → (Dn' l p j → Bf P ops j i ∨ cls P o'.op = .pure ∨ (cls P o'.op = .read ∧ j ∈ cksOf (l.drop (p + 1)))) ∧
        (¬ Dn' l p j → Bf P ops i j ∨ cls P o'.op = .pure ∨ cls P o'.op = .make)) ∧
    (f = true → ∀ j o', ops[j]? = some o' → j ≠ i → Dn' l p j ∨ Bf P ops i j ∨ ezO P o' = true) := by
  obtain ⟨d, h1, h2, h3, h4, h5, h6⟩ := walk_at l [] p i f h.walk hp
  obtain ⟨o, ho, rfl⟩ := dig_inv h1
  simp only [dn_iff] at h2 h3 h5 h6
  refine ⟨o, ho, h2, h3, fun hl j o' hj hne => ?_, fun hf j o' hj hne => ?_⟩
  · have := h5 hl j (by rw [dig_len]; exact (Array.getElem?_eq_some_iff.1 hj).1) hne
    rw [clOf_eq (dig (P := P) hj)] at this
    exact this
  · have := h6 hf j (by rw [dig_len]; exact (Array.getElem?_eq_some_iff.1 hj).1) hne
    rw [show ezOf (digest P ops) j = ezO P o' by simp only [ezOf, dig (P := P) hj]] at this
    exact this
theorem Tra.uniq (h : Tra P call ops l σ m nt) {p p' i : Nat} {f f' : Bool} (h1 : l[p]? = some (.ex i f)) (h2 : l[p']? = some (.ex i f')) : p = p' := by
  rcases Nat.lt_trichotomy p p' with hlt | he | hlt
  · obtain ⟨_, _, hn, _⟩ := h.ex h2; exact absurd ⟨p, hlt, f, h1⟩ hn
  · exact he
  · obtain ⟨_, _, hn, _⟩ := h.ex h1; exact absurd ⟨p', hlt, f', h2⟩ hn
theorem Tra.bf_lt (h : Tra P call ops l σ m nt) : ∀ j i, Bf P ops i j → i < j := by
  intro j
  induction j using Nat.strongRecOn with
  | _ j ih =>
    intro i hb
    have hjl : j < (digest P ops).length := by
      rcases Nat.lt_or_ge j (digest P ops).length with h' | h'
      · exact h'
      · have h2 := (reach_pre (digest P ops) []).2
        simp at h2
        unfold Bf bef at hb
        rw [List.getD_eq_getElem?_getD, List.getElem?_eq_none (by omega)] at hb
        simp at hb
    obtain ⟨k, hk, h'⟩ := (bef_iff h.edges (List.getElem?_eq_getElem hjl)).1 hb
    have hkj := edge_lt h.edges (List.getElem?_eq_getElem hjl) hk
    rcases h' with rfl | h'
    · exact hkj
    · have := ih k hkj i h'; omega
/-- a set that is closed under the edges -/
def Clo (ops : Array Oper) (L : Nat → Prop) : Prop := ∀ j o k, L j → ops[j]? = some o → k ∈ needs o → L k
theorem Tra.closed (h : Tra P call ops l σ m nt) {L : Nat → Prop} (hc : Clo ops L) {i j : Nat} (hb : Bf P ops i j) (hj : L j) : L i := by
  refine bef_closed h.edges (fun j d k hj hd hk => ?_) j i hb hj
  obtain ⟨o, ho, rfl⟩ := dig_inv hd
  exact hc j o k hj ho hk
theorem Dn'.mono {p p' j : Nat} (h : Dn' l p j) (hp : p ≤ p') : Dn' l p' j := by obtain ⟨q, h1, f, h2⟩ := h; exact ⟨q, by omega, f, h2⟩
theorem Tra.clo_dn (h : Tra P call ops l σ m nt) (p : Nat) : Clo ops (Dn' l p) := by
  rintro j o k ⟨p', hp, f, hf⟩ ho hk
  obtain ⟨o', ho', _, hn, _⟩ := h.ex hf
  rw [ho] at ho'; injection ho' with ho'; subst ho'
  exact (hn k hk).mono (by omega)
/-- what one waits for is done ahead of it -/
theorem Tra.before (h : Tra P call ops l σ m nt) {p i j : Nat} {f : Bool} (hp : l[p]? = some (.ex i f)) (hb : Bf P ops j i) : Dn' l p j := by
  have hc : Clo ops (Dn' l (p + 1)) := h.clo_dn (p + 1)
  obtain ⟨p', h1, f', h2⟩ := h.closed hc hb ⟨p, by omega, f, hp⟩
  rcases Nat.lt_or_ge p' p with hlt | hge
  · exact ⟨p', hlt, f', h2⟩
  · have : p' = p := by omega
    subst this
    rw [hp] at h2; injection h2 with h2; injection h2 with h2 _; subst h2
    have := h.bf_lt _ _ hb; omega
/-- two operations: ordered, or apart; never the same slot -/
theorem Tra.pair (h : Tra P call ops l σ m nt) {i j : Nat} {o o' : Oper} (hi : ops[i]? = some o) (hj : ops[j]? = some o') (hne : i ≠ j) :
    (∀ t, o.dst = some t → o'.dst ≠ some t) ∧ (Bf P ops i j ∨ Bf P ops j i ∨ ((∀ t, o.dst = some t → t ∉ Oper.looksAt ops o') ∧ ∀ t, o'.dst = some t → t ∉ Oper.looksAt ops o)) := by
  rcases Nat.lt_or_gt_of_ne hne with hlt | hgt
  · obtain ⟨h1, h2⟩ := pair_at h.pairs hlt (dig (P := P) hi) (dig (P := P) hj)
    exact ⟨h1, h2.elim .inl fun h => .inr (.inr h)⟩
  · obtain ⟨h1, h2⟩ := pair_at h.pairs hgt (dig (P := P) hj) (dig (P := P) hi)
    exact ⟨fun t ht he => h1 t he ht, h2.elim (fun h => .inr (.inl h)) fun h => .inr (.inr ⟨h.2, h.1⟩)⟩

/-! ### the slots -/
theorem Tra.stepT (h : Tra P call ops l σ m nt) {p i : Nat} {f : Bool} {o : Oper} (hp : p < m) (hl : l[p]? = some (.ex i f)) (ho : ops[i]? = some o) : (σ (p + 1)).T = setT o.dst (valAt P call ops l σ p) (σ p).T := by
  have hs := h.st p _ hp hl
  unfold valAt
  rw [hl]
  simp only [ho]
  generalize σ (p + 1) = S' at hs
  generalize σ p = S at hs
  cases hs with
  | skip ho' hw => rw [ho] at ho'; injection ho' with ho'; subst ho'; simp only [hw]
  | val ho' hw hv => rw [ho] at ho'; injection ho' with ho'; subst ho'; simp only [hw, hv]
  | dfr ho' hw hv => rw [ho] at ho'; injection ho' with ho'; subst ho'; simp only [hw, hv]
theorem Tra.stepC (h : Tra P call ops l σ m nt) {p i : Nat} (hp : p < m) (hl : l[p]? = some (.ck i)) : σ (p + 1) = σ p := by
  have hs := h.st p _ hp hl
  generalize σ (p + 1) = S' at hs
  generalize σ p = S at hs
  cases hs; rfl
theorem Tra.get (h : Tra P call ops l σ m nt) {p : Nat} (hp : p < m) : ∃ mv, l[p]? = some mv := ⟨_, List.getElem?_eq_getElem (Nat.lt_of_lt_of_le hp h.le)⟩
theorem Tra.T_old (h : Tra P call ops l σ m nt) {t : Tmp} : ∀ r, r ≤ m → (∀ p j f o, p < r → l[p]? = some (.ex j f) → ops[j]? = some o → o.dst ≠ some t) → (σ r).T.get (bits t) = (σ 0).T.get (bits t)
  | 0, _, _ => rfl
  | r + 1, hr, hn => by
    have ih := h.T_old r (by omega) fun p j f o hp => hn p j f o (by omega)
    obtain ⟨mv, hmv⟩ := h.get (p := r) (by omega)
    cases mv with
    | ck i => rw [h.stepC (by omega) hmv]; exact ih
    | ex i f =>
      obtain ⟨o, ho, _⟩ := h.ex hmv
      rw [h.stepT (by omega) hmv ho, get_setT, if_neg (hn r i f o (by omega) hmv ho)]
      exact ih
theorem Tra.T_new (h : Tra P call ops l σ m nt) {t : Tmp} {p j : Nat} {f : Bool} {o : Oper} (hl : l[p]? = some (.ex j f)) (ho : ops[j]? = some o) (ht : o.dst = some t) : ∀ r, r ≤ m → p < r → (σ r).T.get (bits t) = some (valAt P call ops l σ p)
  | 0, _, hp => by omega
  | r + 1, hr, hp => by
    obtain ⟨mv, hmv⟩ := h.get (p := r) (by omega)
    by_cases he : p = r
    · subst he
      rw [h.stepT (by omega) hl ho, get_setT, if_pos ht]
    · have ih := h.T_new hl ho ht r (by omega) (by omega)
      cases mv with
      | ck i => rw [h.stepC (by omega) hmv]; exact ih
      | ex i f' =>
        obtain ⟨o', ho', hn, _⟩ := h.ex hmv
        have hne : j ≠ i := fun e => hn ⟨p, by omega, f, e ▸ hl⟩
        rw [h.stepT (by omega) hmv ho', get_setT, if_neg ((h.pair ho ho' hne).1 t ht)]
        exact ih

/-! ### the part of the slots that is looked at -/
def restr : List Tmp → Tm → Tm
  | [], _ => .lf
  | t :: ts, T => match T.get (bits t) with
    | some v => (restr ts T).set (bits t) (some v)
    | none => restr ts T
theorem get_restr (T : Tm) (t : Tmp) : ∀ ts : List Tmp, (restr ts T).get (bits t) = if t ∈ ts then T.get (bits t) else none
  | [] => by simp [restr, Tr.get_lf]
  | u :: ts => by
    have ih := get_restr T t ts
    simp only [restr]
    by_cases hu : u = t
    · subst hu
      split
      · rename_i v hv; rw [Tr.get_set_bits, if_pos rfl, if_pos (by simp), hv]
      · rename_i hv
        rw [ih, if_pos (List.mem_cons_self ..)]
        split
        · rfl
        · exact hv.symm
    · have hm : (t ∈ u :: ts) = (t ∈ ts) := by simp [Ne.symm hu]
      split
      · rw [Tr.get_set_bits, if_neg hu, ih]; simp only [hm]
      · rw [ih]; simp only [hm]
theorem looks_op {o : Oper} {t : Tmp} (h : .tmp t ∈ o.op.operands) : t ∈ Oper.looksAt ops o :=
  List.mem_append_left _ (List.mem_filterMap.2 ⟨.tmp t, by simpa using h, rfl⟩)
theorem looks_guard {o : Oper} {j : Nat} {wv : Bool} {t : Tmp} (hg : o.guard = some (j, wv)) (h : (ops[j]?).bind (·.dst) = some t) : t ∈ Oper.looksAt ops o := by
  refine List.mem_append_right _ ?_
  rw [hg]
  simp [h]
theorem oper_restr {o : Oper} {T : Tm} {call' : CallF} : oper P call' o.op T = oper P call' o.op (restr (Oper.looksAt ops o) T) :=
  oper_congr fun t ht => by rw [get_restr, if_pos (looks_op ht)]
theorem want_congr {o : Oper} {T T' : Tm} (h : ∀ t ∈ Oper.looksAt ops o, T.get (bits t) = T'.get (bits t)) : want ops o.guard T = want ops o.guard T' := by
  unfold want
  cases hg : o.guard with
  | none => rfl
  | some jw =>
    obtain ⟨j, wv⟩ := jw
    simp only
    cases hd : (ops[j]?).bind (·.dst) with
    | none => rfl
    | some t => simp only; rw [h t (looks_guard hg hd)]
theorem oper_call {call call' : CallF} {o : Op} (hcl : cls P o = .read) {T : Tm} {H : Heap} : oper P call o T H = oper P call' o T H := by
  cases o <;> simp only [cls] at hcl <;> simp only [oper]
  case call c =>
    unfold oCall
    split
    · split
      · rfl
      · rename_i f hf
        obtain ⟨ca, cb, cc⟩ := c
        simp only at hf; subst hf; simp only [] at hcl; cases hcl
      · rfl
    · rfl
mutual
theorem AV.eq_of : ∀ (u v : AV), AV.eq u v = true → u = v
  | .bool a, v, h => by cases v <;> simp [AV.eq] at h; subst h; rfl
  | .int j a, v, h => by cases v <;> simp [AV.eq, ieq_eq] at h; obtain ⟨rfl, rfl⟩ := h; rfl
  | .str n x, v, h => by cases v <;> simp [AV.eq] at h; obtain ⟨rfl, rfl⟩ := h; rfl
  | .nilp, v, h => by cases v <;> simp [AV.eq] at h; rfl
  | .ptr b i, v, h => by cases v <;> simp [AV.eq] at h; obtain ⟨rfl, rfl⟩ := h; rfl
  | .nils, v, h => by cases v <;> simp [AV.eq] at h; rfl
  | .sl b i n c, v, h => by cases v <;> simp [AV.eq] at h; obtain ⟨⟨⟨rfl, rfl⟩, rfl⟩, rfl⟩ := h; rfl
  | .so b i n c, v, h => by cases v <;> simp [AV.eq] at h; obtain ⟨⟨⟨rfl, rfl⟩, rfl⟩, rfl⟩ := h; rfl
  | .se b i n c, v, h => by cases v <;> simp [AV.eq] at h; obtain ⟨⟨⟨rfl, rfl⟩, rfl⟩, rfl⟩ := h; rfl
  | .sz a, v, h => by cases v <;> simp [AV.eq] at h; subst h; rfl
  | .nilm, v, h => by cases v <;> simp [AV.eq] at h; rfl
  | .map b, v, h => by cases v <;> simp [AV.eq] at h; subst h; rfl
  | .fn f l, v, h => by cases v <;> simp [AV.eq] at h; obtain ⟨rfl, h⟩ := h; rw [AV.eqL_of _ _ h]
  | .nilf, v, h => by cases v <;> simp [AV.eq] at h; rfl
  | .nili, v, h => by cases v <;> simp [AV.eq] at h; rfl
  | .ifc t x, v, h => by cases v <;> simp [AV.eq] at h; obtain ⟨rfl, h⟩ := h; rw [AV.eq_of _ _ h]
  | .agg l, v, h => by cases v <;> simp [AV.eq] at h; rw [AV.eqL_of _ _ h]
  | .tup l, v, h => by cases v <;> simp [AV.eq] at h; rw [AV.eqL_of _ _ h]
theorem AV.eqL_of : ∀ (l m : List AV), AV.eqL l m = true → l = m
  | [], m, h => by cases m <;> simp [AV.eqL] at h; rfl
  | u :: l, m, h => by cases m <;> simp [AV.eqL] at h; rw [AV.eq_of _ _ h.1, AV.eqL_of _ _ h.2]
end

/-! ### the heap along the plan -/
theorem Tra.Hmono (h : Tra P call ops l σ m nt) : ∀ r r', r ≤ r' → r' ≤ m → (σ r).H.nx ≤ (σ r').H.nx := by
  intro r r' hr
  induction hr with
  | refl => intro _; exact Nat.le_refl _
  | step hr ih =>
    rename_i k
    intro hk
    refine Nat.le_trans (ih (by omega)) ?_
    obtain ⟨mv, hmv⟩ := h.get (p := k) (by omega)
    have hs := h.st k mv (by omega) hmv
    generalize σ (k + 1) = S' at hs
    generalize σ k = S at hs
    cases hs with
    | ck => exact Nat.le_refl _
    | skip => exact Nat.le_refl _
    | val _ _ hv => exact oper_mono h.mc (.inl hv)
    | dfr => exact Nat.le_refl _
/-- a quiet place: the heap stays, and what is deferred -/
theorem Tra.quiet (h : Tra P call ops l σ m nt) {p i : Nat} {f : Bool} {o : Oper} (hp : p < m) (hl : l[p]? = some (.ex i f)) (ho : ops[i]? = some o) (hc : cls P o.op = .pure ∨ cls P o.op = .read) : (σ (p + 1)).H = (σ p).H ∧ (σ (p + 1)).D = (σ p).D := by
  have hs := h.st p _ hp hl
  generalize σ (p + 1) = S' at hs
  generalize σ p = S at hs
  cases hs with
  | skip => exact ⟨rfl, rfl⟩
  | val ho' hw hv =>
    rw [ho] at ho'; injection ho' with ho'; subst ho'
    refine ⟨?_, rfl⟩
    rcases hc with hc | hc
    · have := oper_any (H2 := S.H) hc hv; rw [hv] at this; injection this
    · have := oper_ext (H2 := S.H) hc (fun _ _ h => h) hv; rw [hv] at this; injection this
  | dfr ho' hw hv =>
    exfalso
    rw [ho] at ho'; injection ho' with ho'; subst ho'
    by_cases h1 : ∃ c, o.op = .defer c
    · obtain ⟨c, hoc⟩ := h1; rw [hoc] at hc; rcases hc with hc | hc <;> simp [cls] at hc
    · by_cases h2 : ∃ c, o.op = .call c
      · obtain ⟨c, hoc⟩ := h2
        rw [hoc] at hv
        simp only [oper] at hv
        rcases oCall_cases (P := P) (call := call) (c := c) (T := S.T) (H := S.H) with k | ⟨_, t, u, _, _, _, e⟩ | ⟨ys, f', g, l, _, _, _, e⟩ | ⟨_, e⟩
        · rw [hv] at k; exact k
        · rw [e] at hv; cases hv
        · rw [e] at hv; unfold ofCall at hv; split at hv <;> cases hv
        · rw [e] at hv; cases hv
      · by_cases h3 : ∃ x, o.op = .panic x
        · obtain ⟨x, hox⟩ := h3; rw [hox] at hc; rcases hc with hc | hc <;> simp [cls] at hc
        · have k := oper_MR (P := P) (call := call) (o := o.op) (fun c e => h2 ⟨c, e⟩) (fun c e => h1 ⟨c, e⟩) (fun x e => h3 ⟨x, e⟩) (T := S.T) (H := S.H)
          rw [hv] at k; exact k
/-- where memory is made: a block is pushed, or nothing -/
theorem Tra.makes (h : Tra P call ops l σ m nt) {p i : Nat} {f : Bool} {o : Oper} (hp : p < m) (hl : l[p]? = some (.ex i f)) (ho : ops[i]? = some o) (hc : cls P o.op = .make) : (σ (p + 1)).D = (σ p).D ∧
    ((want ops o.guard (σ p).T = some false ∧ (σ (p + 1)).H = (σ p).H) ∨
     (want ops o.guard (σ p).T = some true ∧ ∃ B, wr B ∧ (σ (p + 1)).H = ⟨(σ p).H.bl.set (bits (σ p).H.nx) (some B), (σ p).H.nx + 1⟩ ∧ oper P call o.op (σ p).T (σ p).H = .val (valAt P call ops l σ p) (σ (p + 1)).H)) := by
  have hs := h.st p _ hp hl
  have hval : ∀ v H', want ops o.guard (σ p).T = some true → oper P call o.op (σ p).T (σ p).H = .val v H' → valAt P call ops l σ p = v := fun v H' hw hv => by
    unfold valAt; rw [hl]; simp only [ho, hw, hv]
  generalize σ (p + 1) = S' at hs
  cases hs with
  | skip ho' hw => rw [ho] at ho'; injection ho' with ho'; subst ho'; exact ⟨rfl, .inl ⟨hw, rfl⟩⟩
  | val ho' hw hv =>
    rw [ho] at ho'; injection ho' with ho'; subst ho'
    obtain ⟨B, h1, h2⟩ := oper_push hc hv
    exact ⟨rfl, .inr ⟨hw, B, h1, h2, by rw [hval _ _ hw hv]; exact hv⟩⟩
  | dfr ho' hw hv =>
    exfalso
    rw [ho] at ho'; injection ho' with ho'; subst ho'
    by_cases h1 : ∃ c, o.op = .defer c
    · obtain ⟨c, hoc⟩ := h1; rw [hoc] at hc; simp [cls] at hc
    · by_cases h2 : ∃ c, o.op = .call c
      · obtain ⟨c, hoc⟩ := h2
        rw [hoc] at hv
        simp only [oper] at hv
        rcases oCall_cases (P := P) (call := call) (c := c) (T := (σ p).T) (H := (σ p).H) with k | ⟨_, t, u, _, _, _, e⟩ | ⟨ys, f', g, l, _, _, _, e⟩ | ⟨_, e⟩
        · rw [hv] at k; exact k
        · rw [e] at hv; cases hv
        · rw [e] at hv; unfold ofCall at hv; split at hv <;> cases hv
        · rw [e] at hv; cases hv
      · by_cases h3 : ∃ x, o.op = .panic x
        · obtain ⟨x, hox⟩ := h3; rw [hox] at hc; simp [cls] at hc
        · have k := oper_MR (P := P) (call := call) (o := o.op) (fun c e => h2 ⟨c, e⟩) (fun c e => h1 ⟨c, e⟩) (fun x e => h3 ⟨x, e⟩) (T := (σ p).T) (H := (σ p).H)
          rw [hv] at k; exact k
end
end Eng
end Go.Proofs.YtlajkdbpmkodpaaGreatDoor
namespace Go.Proofs.YtlajkdbpmkodpaaGreatDoor
namespace Eng
open Go
section
variable {P : Program} {call : CallF} {ops : Array Oper} {l : List Mv} {σ : Nat → St} {m : Nat} {nt : Nat}

/-- no block lies at a place -/
def off (ρ : Rho) (H : Heap) (c : Nat) : Prop := ∀ b B q, getB H b = some B → ρ b = some q → q.blk ≠ c
def push (H : Heap) (B : Blk) : Heap := ⟨H.bl.set (bits H.nx) (some B), H.nx + 1⟩
theorem getB_push (H : Heap) (B : Blk) (c : Nat) : getB (push H B) c = if c = H.nx then some B else getB H c := getB_new H B c
structure Mid (ρ0 : Rho) (H0 : Heap) (w0 : World) (ρ : Rho) (H : Heap) (w : World) (N : Nat) : Prop where
  sub : Sub ρ0 ρ
  new : ∀ b, b < H0.nx ∨ N ≤ b → ρ b = ρ0 b
  nx : H0.nx ≤ H.nx
  size : w0.heap.size ≤ w.heap.size
  keep : ∀ c, c < w0.heap.size → ¬ own ρ0 H0 c → w.heap[c]? = w0.heap[c]?
  own : ∀ c, own ρ H c → own ρ0 H0 c ∨ w0.heap.size ≤ c
  ro : ∀ b B, getB H b = some B → ¬ wr B → getB H0 b = some B
  os : w.os = w0.os
  tape : w.tape = w0.tape
  output : w.output = w0.output
theorem HR.blk_of {ρ : Rho} {H : Heap} {w : World} (h : HR ρ H w) {b : Nat} {B : Blk} {p : Pl} (hb : getB H b = some B) (hp : ρ b = some p) : BlkOK ρ w p B ∧ p.blk < w.heap.size := by
  obtain ⟨q, hq, hB⟩ := h.blk b B hb
  rw [hp] at hq; injection hq with hq; subst hq
  refine ⟨hB, ?_⟩
  cases B with
  | mp es => obtain ⟨_, _, h1, _⟩ := hB; exact lt_of_some h1
  | cells t n tl ro => obtain ⟨_, _, _, h1, _⟩ := hB; exact lt_of_some h1
theorem chg_push {w w' : World} {o : Obj} (hw : w'.heap = w.heap.push o) : Chg w w' (fun _ _ => False) := ⟨by rw [hw]; simp, fun k hk => .inl (by rw [hw, Array.getElem?_push, if_neg (by omega)])⟩
theorem HR.grow {ρ ρ' : Rho} {H : Heap} {w w' : World} {o : Obj} (h : HR ρ H w) (s : Sub ρ ρ') (hw : w'.heap = w.heap.push o) : HR ρ' H w' := by
  have old : ∀ {b B p}, getB H b = some B → ρ' b = some p → ρ b = some p := fun {b B p} hb hp => by
    obtain ⟨q, hq, _⟩ := h.blk b B hb
    rw [s b q hq] at hp; injection hp with hp; subst hp; exact hq
  refine ⟨fun b B hb => ?_, fun b b' B B' p p' k i hne hb hb' hp hp' hwr2 h1 h2 => h.apart b b' B B' p p' k i hne hb hb' (old hb hp) (old hb' hp') hwr2 h1 h2, h.lt⟩
  obtain ⟨q, hq, hB⟩ := h.blk b B hb
  exact ⟨q, s b q hq, hB.keep s (chg_push hw) (fun _ _ _ => id)⟩
theorem HR.commit {ρ : Rho} {H : Heap} {w : World} {B : Blk} {p : Pl} (h : HR ρ H w) (hp : ρ H.nx = some p) (hB : BlkOK ρ w p B) (ho : off ρ H p.blk) : HR ρ (push H B) w := by
  refine ⟨fun b C hb => ?_, fun b b' C C' q q' k i hne hb hb' hq hq' hwr2 h1 h2 => ?_, fun b C hb => ?_⟩
  · rw [getB_push] at hb
    by_cases e : b = H.nx
    · subst e; rw [if_pos rfl] at hb; injection hb with hb; subst hb; exact ⟨p, hp, hB⟩
    · rw [if_neg e] at hb; exact h.blk b C hb
  · rw [getB_push] at hb hb'
    have e1 := claims_blk h1
    have e2 := claims_blk h2
    by_cases e : b = H.nx
    · subst e
      rw [if_neg (Ne.symm hne)] at hb'
      rw [hp] at hq; injection hq with hq; subst hq
      exact ho b' C' q' hb' hq' (by omega)
    · rw [if_neg e] at hb
      by_cases e' : b' = H.nx
      · subst e'
        rw [hp] at hq'; injection hq' with hq'; subst hq'
        exact ho b C q hb hq (by omega)
      · rw [if_neg e'] at hb'
        exact h.apart b b' C C' q q' k i hne hb hb' hq hq' hwr2 h1 h2
  · rw [getB_push] at hb
    by_cases e : b = H.nx
    · subst e; simp [push]
    · rw [if_neg e] at hb; have := h.lt b C hb; simp [push]; omega

structure Inv (P : Program) (call : CallF) (ops : Array Oper) (l : List Mv) (σ : Nat → St) (m nt : Nat) (ρ0 : Rho) (H0 : Heap) (w0 : World) (N : Nat) (L Y : Nat → Prop) (q : Nat) (ρ : Rho) (a : Act) (w : World) : Prop where
  qm : q ≤ m
  below : ∀ p i f o, p < q → l[p]? = some (.ex i f) → ops[i]? = some o → cls P o.op = .loud ∨ cls P o.op = .make → L i
  above : ∀ p i f o, q ≤ p → l[p]? = some (.ex i f) → ops[i]? = some o → cls P o.op = .loud → ¬ L i
  posn : ∀ j, L j → ∃ p f, p < m ∧ l[p]? = some (.ex j f)
  clo : Clo ops L
  hr : HR ρ (σ q).H w
  gk : GOK P ρ
  dr : DR ρ (σ q).D a.defers
  vals : ∀ p j f o t, L j → p < m → l[p]? = some (.ex j f) → ops[j]? = some o → o.dst = some t → ∃ x, den ρ (valAt P call ops l σ p) = some x ∧ a.tmps[t]? = some x
  rest : ∀ t v, (σ 0).T.get (bits t) = some v → (∀ j o, L j ∨ Y j → ops[j]? = some o → o.dst ≠ some t) → ∃ x, den ρ v = some x ∧ a.tmps[t]? = some x
  sz : nt ≤ a.tmps.size
  pend : ∀ p i f o B, q ≤ p → p < m → l[p]? = some (.ex i f) → ops[i]? = some o → cls P o.op = .make → L i → (σ (p + 1)).H = push (σ p).H B →
    ∃ pl, ρ (σ p).H.nx = some pl ∧ BlkOK ρ w pl B ∧ off ρ (σ q).H pl.blk ∧ pl.blk < w.heap.size ∧ w0.heap.size ≤ pl.blk
  diff : ∀ b b' pl pl', (σ q).H.nx ≤ b → b < N → (σ q).H.nx ≤ b' → b' < N → b ≠ b' → ρ b = some pl → ρ b' = some pl' → pl.blk ≠ pl'.blk
  free : ∀ b, (σ q).H.nx ≤ b → b < N → ρ b ≠ none → ∃ p i f o, q ≤ p ∧ p < m ∧ l[p]? = some (.ex i f) ∧ ops[i]? = some o ∧ cls P o.op = .make ∧ L i ∧ (σ p).H.nx = b ∧ (σ (p + 1)).H.nx = b + 1
  mid : Mid ρ0 H0 w0 ρ (σ q).H w N
  hb : ∀ r, r < q → ∀ b C, getB (σ r).H b = some C → b < (σ r).H.nx
  yex : ∀ j, Y j → ∃ p f, m < p ∧ l[p]? = some (.ex j f)
  yclo : Clo ops (fun j => L j ∨ Y j)

variable {ρ0 : Rho} {H0 : Heap} {w0 : World} {N : Nat} {L Y : Nat → Prop} {q : Nat} {ρ : Rho} {a : Act} {w : World}

/-- The base moves on over what has been done, or is quiet. -/
theorem Inv.adv (t : Tra P call ops l σ m nt) (hN : (σ m).H.nx ≤ N) (I : Inv P call ops l σ m nt ρ0 H0 w0 N L Y q ρ a w) (hq : q < m)
    (hL : ∀ i f o, l[q]? = some (.ex i f) → ops[i]? = some o → cls P o.op = .loud ∨ cls P o.op = .make → L i) : Inv P call ops l σ m nt ρ0 H0 w0 N L Y (q + 1) ρ a w := by
  have hbelow : ∀ p i f o, p < q + 1 → l[p]? = some (.ex i f) → ops[i]? = some o → cls P o.op = .loud ∨ cls P o.op = .make → L i := fun p i f o hp hl ho hc => by
    by_cases e : p = q
    · subst e; exact hL i f o hl ho hc
    · exact I.below p i f o (by omega) hl ho hc
  have hb' : ∀ r, r < q + 1 → ∀ b C, getB (σ r).H b = some C → b < (σ r).H.nx := fun r hr => by
    by_cases e : r = q
    · subst e; exact I.hr.lt
    · exact I.hb r (by omega)
  have same : (σ (q + 1)).H = (σ q).H → (σ (q + 1)).D = (σ q).D → Inv P call ops l σ m nt ρ0 H0 w0 N L Y (q + 1) ρ a w := fun hH hD => by
    refine ⟨by omega, hbelow, fun p i f o hp => I.above p i f o (by omega), I.posn, I.clo, by rw [hH]; exact I.hr, I.gk, by rw [hD]; exact I.dr, I.vals, I.rest, I.sz,
      fun p i f o B hp => by rw [hH]; exact I.pend p i f o B (by omega), by rw [hH]; exact I.diff, fun b hb hbN hne => ?_, by rw [hH]; exact I.mid, hb', I.yex, I.yclo⟩
    rw [hH] at hb
    obtain ⟨p, i, f, o, h1, h2, h3, h4, h5, h6, h7, h8⟩ := I.free b hb hbN hne
    have : p ≠ q := fun e => by subst e; rw [hH] at h8; omega
    exact ⟨p, i, f, o, by omega, h2, h3, h4, h5, h6, h7, h8⟩
  obtain ⟨mv, hmv⟩ := t.get hq
  cases mv with
  | ck i => have := t.stepC hq hmv; exact same (by rw [this]) (by rw [this])
  | ex i f =>
    obtain ⟨o, ho, _⟩ := t.ex hmv
    cases hc : cls P o.op with
    | pure => obtain ⟨h1, h2⟩ := t.quiet hq hmv ho (.inl hc); exact same h1 h2
    | read => obtain ⟨h1, h2⟩ := t.quiet hq hmv ho (.inr hc); exact same h1 h2
    | loud => exact absurd (hL i f o hmv ho (.inl hc)) (I.above q i f o (Nat.le_refl _) hmv ho hc)
    | bad =>
      exfalso
      obtain ⟨d, h1, _, _, h4, _⟩ := walk_at l [] q i f t.walk hmv
      obtain ⟨o', ho', rfl⟩ := dig_inv h1
      rw [ho] at ho'; injection ho' with ho'; subst ho'
      exact h4 hc
    | make =>
      obtain ⟨hD, ⟨_, hH⟩ | ⟨_, B, hwr, hH, _⟩⟩ := t.makes hq hmv ho hc
      · exact same hH hD
      · have hH : (σ (q + 1)).H = push (σ q).H B := hH
        have hLi := hL i f o hmv ho (.inr hc)
        obtain ⟨pl, g1, g2, g3, g4, g5⟩ := I.pend q i f o B (Nat.le_refl _) hq hmv ho hc hLi hH
        have hnx : (σ (q + 1)).H.nx = (σ q).H.nx + 1 := by rw [hH]; rfl
        have hnN : (σ q).H.nx < N := by
          have := t.Hmono (q + 1) m (by omega) (Nat.le_refl _); omega
        refine ⟨by omega, hbelow, fun p i f o hp => I.above p i f o (by omega), I.posn, I.clo, by rw [hH]; exact I.hr.commit g1 g2 g3, I.gk, by rw [hD]; exact I.dr, I.vals, I.rest, I.sz,
          fun p i' f' o' B' hp hpm hl' ho' hc' hL' hB' => ?_, fun b b' pl pl' h1 h2 h3 h4 => I.diff b b' pl pl' (by omega) h2 (by omega) h4, fun b hb hbN hne => ?_, ?_, hb', I.yex, I.yclo⟩
        · obtain ⟨pl', k1, k2, k3, k4, k5⟩ := I.pend p i' f' o' B' (by omega) hpm hl' ho' hc' hL' hB'
          refine ⟨pl', k1, k2, fun b C r hb hr => ?_, k4, k5⟩
          rw [hH, getB_push] at hb
          by_cases e : b = (σ q).H.nx
          · subst e
            rw [g1] at hr; injection hr with hr; subst hr
            have hm1 := t.Hmono (q + 1) p (by omega) (by omega)
            have hm2 := t.Hmono (p + 1) m (by omega) (Nat.le_refl _)
            have hm3 : (σ (p + 1)).H.nx = (σ p).H.nx + 1 := by rw [hB']; rfl
            exact I.diff _ _ _ _ (Nat.le_refl _) hnN (by omega) (by omega) (by omega) g1 k1
          · rw [if_neg e] at hb; exact k3 b C r hb hr
        · obtain ⟨p, i', f', o', h1, h2, h3, h4, h5, h6, h7, h8⟩ := I.free b (by omega) hbN hne
          have : p ≠ q := fun e => by subst e; omega
          exact ⟨p, i', f', o', by omega, h2, h3, h4, h5, h6, h7, h8⟩
        · have M := I.mid
          refine ⟨M.sub, M.new, by have := M.nx; omega, M.size, M.keep, ?_, ?_, M.os, M.tape, M.output⟩
          · rintro c ⟨b, C, r, hb, hr, hrc, hwC⟩
            rw [hH, getB_push] at hb
            by_cases e : b = (σ q).H.nx
            · subst e; rw [g1] at hr; injection hr with hr; subst hr; exact .inr (hrc ▸ g5)
            · rw [if_neg e] at hb; exact M.own c ⟨b, C, r, hb, hr, hrc, hwC⟩
          · intro b C hb hwC
            rw [hH, getB_push] at hb
            by_cases e : b = (σ q).H.nx
            · subst e; rw [if_pos rfl] at hb; injection hb with hb; subst hb; exact absurd hwr hwC
            · rw [if_neg e] at hb; exact M.ro b C hb hwC
theorem Inv.advTo (t : Tra P call ops l σ m nt) (hN : (σ m).H.nx ≤ N) : ∀ (r : Nat), q ≤ r → r ≤ m → Inv P call ops l σ m nt ρ0 H0 w0 N L Y q ρ a w →
    (∀ p i f o, q ≤ p → p < r → l[p]? = some (.ex i f) → ops[i]? = some o → cls P o.op = .loud ∨ cls P o.op = .make → L i) → Inv P call ops l σ m nt ρ0 H0 w0 N L Y r ρ a w := by
  intro r hr
  induction hr with
  | refl => intro _ I _; exact I
  | step hr ih =>
    rename_i k
    intro hk I hL
    exact (ih (by omega) I fun p i f o h1 h2 => hL p i f o h1 (by omega)).adv t hN (by omega) fun i f o => hL k i f o hr (by omega)

/-! ### what an operation that is ready looks at -/
theorem Inv.opnd (t : Tra P call ops l σ m nt) (I : Inv P call ops l σ m nt ρ0 H0 w0 N L Y q ρ a w) {i p : Nat} {f : Bool} {o : Oper} (hi : ¬ L i) (ho : ops[i]? = some o) (hr : ∀ k ∈ needs o, L k) (hl : l[p]? = some (.ex i f)) (hp : p ≤ m) :
    TR ρ (restr (Oper.looksAt ops o) (σ p).T) a.tmps := by
  have hLi : Clo ops (fun j => L j ∨ j = i) := fun j o' k hj ho' hk => by
    rcases hj with hj | rfl
    · exact .inl (I.clo j o' k hj ho' hk)
    · rw [ho] at ho'; injection ho' with ho'; subst ho'; exact .inl (hr k hk)
  have hbi : ∀ j, Bf P ops j i → L j := fun j hb => by
    rcases t.closed hLi hb (.inr rfl) with h | h
    · exact h
    · subst h; have := t.bf_lt _ _ hb; omega
  intro s v hv
  rw [get_restr] at hv
  by_cases hs : s ∈ Oper.looksAt ops o
  · rw [if_pos hs] at hv
    by_cases hw : ∃ p' j f' o', p' < p ∧ l[p']? = some (.ex j f') ∧ ops[j]? = some o' ∧ o'.dst = some s
    · obtain ⟨p', j, f', o', h1, h2, h3, h4⟩ := hw
      have hne : j ≠ i := fun e => by subst e; have := t.uniq h2 hl; omega
      rw [t.T_new h2 h3 h4 p hp h1] at hv
      injection hv with hv; subst hv
      have hLj : L j := by
        rcases (t.pair h3 ho hne).2 with hb | hb | ⟨hb, _⟩
        · exact hbi j hb
        · exfalso
          obtain ⟨p2, h5, f2, h6⟩ := t.before h2 hb
          have := t.uniq h6 hl; omega
        · exact absurd hs (hb s h4)
      exact I.vals p' j f' o' s hLj (by omega) h2 h3 h4
    · rw [t.T_old p hp fun p' j f' o' h1 h2 h3 h4 => hw ⟨p', j, f', o', h1, h2, h3, h4⟩] at hv
      refine I.rest s v hv fun j o' hj ho' hd => ?_
      have hiY : ¬ Y i := fun hy => by
        obtain ⟨p2, f2, h1, h2⟩ := I.yex i hy
        have := t.uniq h2 hl; omega
      have hne : j ≠ i := fun e => by
        subst e
        rcases hj with hj | hj
        · exact hi hj
        · exact hiY hj
      rcases (t.pair ho' ho hne).2 with hb | hb | ⟨hb, _⟩
      · obtain ⟨p', h1, f', h2⟩ := t.before hl hb
        exact hw ⟨p', j, f', o', h1, h2, ho', hd⟩
      · rcases t.closed I.yclo hb hj with h | h
        · exact hi h
        · exact hiY h
      · exact hb s hd hs
  · rw [if_neg hs] at hv; cases hv
theorem Inv.wanted (t : Tra P call ops l σ m nt) (I : Inv P call ops l σ m nt ρ0 H0 w0 N L Y q ρ a w) {i p : Nat} {f : Bool} {o : Oper} (hi : ¬ L i) (ho : ops[i]? = some o) (hr : ∀ k ∈ needs o, L k) (hl : l[p]? = some (.ex i f)) (hp : p ≤ m) {b : Bool}
    (h : want ops o.guard (σ p).T = some b) : Region.wanted o (yielded ops a.tmps) = b :=
  want_wanted (ρ := ρ) (fun j wv s v hg hd hv => I.opnd t hi ho hr hl hp s v (by rw [get_restr, if_pos (looks_guard hg hd)]; exact hv)) h
end
end Eng
end Go.Proofs.YtlajkdbpmkodpaaGreatDoor
namespace Go.Proofs.YtlajkdbpmkodpaaGreatDoor
namespace Eng
open Go
section
variable {P : Program} {call : CallF} {ops : Array Oper} {l : List Mv} {σ : Nat → St} {m : Nat} {nt : Nat}
variable {ρ0 : Rho} {H0 : Heap} {w0 : World} {N : Nat} {L Y : Nat → Prop} {q : Nat} {ρ : Rho} {a : Act} {w : World}

/-- the slots after a step -/
theorem Inv.step_vals (t : Tra P call ops l σ m nt) (I : Inv P call ops l σ m nt ρ0 H0 w0 N L Y q ρ a w) {i p : Nat} {f : Bool} {o : Oper} (hi : ¬ L i) (ho : ops[i]? = some o) (hl : l[p]? = some (.ex i f)) {ρ' : Rho} (s : Sub ρ ρ') {x : Value}
    (hx : ∀ t', o.dst = some t' → den ρ' (valAt P call ops l σ p) = some x) {a' : Act} (ha : a'.tmps = (a.put o.dst x).tmps) :
    (∀ p' j f' o' t', (L j ∨ j = i) → p' < m → l[p']? = some (.ex j f') → ops[j]? = some o' → o'.dst = some t' → ∃ y, den ρ' (valAt P call ops l σ p') = some y ∧ a'.tmps[t']? = some y) ∧
    (∀ t' v, (σ 0).T.get (bits t') = some v → (∀ j o', ((L j ∨ j = i) ∨ Y j) → ops[j]? = some o' → o'.dst ≠ some t') → ∃ y, den ρ' v = some y ∧ a'.tmps[t']? = some y) ∧ nt ≤ a'.tmps.size := by
  rw [ha]
  refine ⟨fun p' j f' o' t' hj hp' hl' ho' ht' => ?_, fun t' v hv hn => ?_, by rw [Act.size_put]; exact I.sz⟩
  · rw [Act.tmps_put]
    by_cases e : j = i
    · subst e
      rw [ho] at ho'; injection ho' with ho'; subst ho'
      have := t.uniq hl hl'
      subst this
      rw [if_pos ⟨ht', Nat.lt_of_lt_of_le (opOK.d (t.opk ho) ht') I.sz⟩]
      exact ⟨x, hx t' ht', rfl⟩
    · have hLj := hj.resolve_right e
      obtain ⟨y, h1, h2⟩ := I.vals p' j f' o' t' hLj hp' hl' ho' ht'
      rw [if_neg (fun h => (t.pair ho' ho e).1 t' ht' h.1)]
      exact ⟨y, den_mono s _ y h1, h2⟩
  · obtain ⟨y, h1, h2⟩ := I.rest t' v hv fun j o' hj ho' => hn j o' (hj.imp .inl id) ho'
    rw [Act.tmps_put, if_neg (fun h => hn i o (.inl (.inr rfl)) ho h.1)]
    exact ⟨y, den_mono s _ y h1, h2⟩
theorem Inv.clo' (I : Inv P call ops l σ m nt ρ0 H0 w0 N L Y q ρ a w) {i : Nat} {o : Oper} (ho : ops[i]? = some o) (hr : ∀ k ∈ needs o, L k) : Clo ops (fun j => L j ∨ j = i) := fun j o' k hj ho' hk => by
  rcases hj with hj | rfl
  · exact .inl (I.clo j o' k hj ho' hk)
  · rw [ho] at ho'; injection ho' with ho'; subst ho'; exact .inl (hr k hk)
theorem Inv.yclo' (I : Inv P call ops l σ m nt ρ0 H0 w0 N L Y q ρ a w) {i : Nat} {o : Oper} (ho : ops[i]? = some o) (hr : ∀ k ∈ needs o, L k) : Clo ops (fun j => (L j ∨ j = i) ∨ Y j) := fun j o' k hj ho' hk => by
  rcases hj with (hj | rfl) | hj
  · rcases I.yclo j o' k (.inl hj) ho' hk with h | h
    · exact .inl (.inl h)
    · exact .inr h
  · rw [ho] at ho'; injection ho' with ho'; subst ho'; exact .inl (.inl (hr k hk))
  · rcases I.yclo j o' k (.inr hj) ho' hk with h | h
    · exact .inl (.inl h)
    · exact .inr h
/-- a new variable that is laid behind the panic's place of the plan -/
theorem Inv.extra (I : Inv P call ops l σ m nt ρ0 H0 w0 N L Y q ρ a w) (t : Tra P call ops l σ m nt) {i p : Nat} {f : Bool} {o : Oper} (ho : ops[i]? = some o) (hl : l[p]? = some (.ex i f)) (hp : m < p) (hr : ∀ k ∈ needs o, L k ∨ Y k) {x : Value} {w' : World} {obj : Obj}
    (hheap : w'.heap = w.heap.push obj) (hos : w'.os = w.os) (htp : w'.tape = w.tape) (hout : w'.output = w.output) : Inv P call ops l σ m nt ρ0 H0 w0 N L (fun j => Y j ∨ j = i) q ρ (a.put o.dst x) w' := by
  have hsz : w'.heap.size = w.heap.size + 1 := by rw [hheap]; simp
  have hs : Sub ρ ρ := .refl ρ
  refine ⟨I.qm, I.below, I.above, I.posn, I.clo, I.hr.grow hs hheap, I.gk, by rw [Act.defers_put]; exact I.dr, fun p' j f' o' t' hj hp' hl' ho' ht' => ?_, fun t' v hv hn => ?_, by rw [Act.size_put]; exact I.sz,
    fun p' j f' o' B h1 h2 h3 h4 h5 h6 h7 => ?_, I.diff, I.free, ?_, I.hb, fun j hj => ?_, fun j o' k hj ho' hk => ?_⟩
  · obtain ⟨y, h1, h2⟩ := I.vals p' j f' o' t' hj hp' hl' ho' ht'
    have hne : j ≠ i := fun e => by subst e; have := t.uniq hl hl'; omega
    refine ⟨y, h1, ?_⟩
    rw [Act.tmps_put, if_neg (fun h => (t.pair ho' ho hne).1 t' ht' h.1)]
    exact h2
  · obtain ⟨y, h1, h2⟩ := I.rest t' v hv fun j o' hj ho' => hn j o' (hj.imp id .inl) ho'
    refine ⟨y, h1, ?_⟩
    rw [Act.tmps_put, if_neg (fun h => hn i o (.inr (.inr rfl)) ho h.1)]
    exact h2
  · obtain ⟨pl, g1, g2, g3, g4, g5⟩ := I.pend p' j f' o' B h1 h2 h3 h4 h5 h6 h7
    exact ⟨pl, g1, g2.keep hs (chg_push hheap) (fun _ _ _ => id), g3, by omega, g5⟩
  · have M := I.mid
    refine ⟨M.sub, M.new, M.nx, by have := M.size; omega, fun c hc' hno => ?_, M.own, M.ro, by rw [hos]; exact M.os, by rw [htp]; exact M.tape, by rw [hout]; exact M.output⟩
    have := M.size
    rw [hheap, Array.getElem?_push, if_neg (by omega)]
    exact M.keep c hc' hno
  · rcases hj with hj | rfl
    · exact I.yex j hj
    · exact ⟨p, f, hp, hl⟩
  · rcases hj with hj | hj | rfl
    · exact (I.yclo j o' k (.inl hj) ho' hk).imp id .inl
    · exact (I.yclo j o' k (.inr hj) ho' hk).imp id .inl
    · rw [ho] at ho'; injection ho' with ho'; subst ho'; exact (hr k hk).imp id .inl
/-- a step that leaves the world as it is -/
theorem Inv.quiet (t : Tra P call ops l σ m nt) (I : Inv P call ops l σ m nt ρ0 H0 w0 N L Y q ρ a w) {i p : Nat} {f : Bool} {o : Oper} (hi : ¬ L i) (ho : ops[i]? = some o) (hr : ∀ k ∈ needs o, L k) (hl : l[p]? = some (.ex i f)) (hp : p < m) {x : Value}
    (hx : ∀ t', o.dst = some t' → den ρ (valAt P call ops l σ p) = some x) (hc1 : cls P o.op ≠ .loud) (hc2 : cls P o.op = .make → (σ (p + 1)).H = (σ p).H) : Inv P call ops l σ m nt ρ0 H0 w0 N (fun j => L j ∨ j = i) Y q ρ (a.put o.dst x) w := by
  obtain ⟨v1, v2, v3⟩ := I.step_vals t hi ho hl (.refl ρ) hx rfl
  refine ⟨I.qm, fun p' j f' o' h1 h2 h3 h4 => .inl (I.below p' j f' o' h1 h2 h3 h4), fun p' j f' o' h1 h2 h3 h4 h5 => ?_, fun j hj => ?_, I.clo' ho hr, I.hr, I.gk, by rw [Act.defers_put]; exact I.dr, v1, v2, v3,
    fun p' j f' o' B h1 h2 h3 h4 h5 h6 h7 => ?_, I.diff, fun b h1 h2 h3 => ?_, I.mid, I.hb, I.yex, I.yclo' ho hr⟩
  · rcases h5 with h5 | rfl
    · exact I.above p' j f' o' h1 h2 h3 h4 h5
    · rw [ho] at h3; injection h3 with h3; subst h3; exact hc1 h4
  · rcases hj with hj | rfl
    · exact I.posn j hj
    · exact ⟨p, f, hp, hl⟩
  · rcases h6 with h6 | rfl
    · exact I.pend p' j f' o' B h1 h2 h3 h4 h5 h6 h7
    · exfalso
      rw [ho] at h4; injection h4 with h4; subst h4
      have := t.uniq hl h3; subst this
      have h8 := hc2 h5
      rw [h8] at h7
      have := congrArg Heap.nx h7
      simp [push] at this
  · obtain ⟨p', j, f', o', k1, k2, k3, k4, k5, k6, k7⟩ := I.free b h1 h2 h3
    exact ⟨p', j, f', o', k1, k2, k3, k4, k5, .inl k6, k7⟩
/-- what has come early lies apart -/
theorem Inv.pend_of (t : Tra P call ops l σ m nt) (I : Inv P call ops l σ m nt ρ0 H0 w0 N L Y q ρ a w) {b : Nat} {pl : Pl} (h1 : (σ q).H.nx ≤ b) (h2 : b < N) (h3 : ρ b = some pl) :
    off ρ (σ q).H pl.blk ∧ pl.blk < w.heap.size ∧ w0.heap.size ≤ pl.blk := by
  obtain ⟨p, i, f, o, k1, k2, k3, k4, k5, k6, k7, k8⟩ := I.free b h1 h2 (by rw [h3]; simp)
  obtain ⟨_, ⟨_, hH⟩ | ⟨_, B, _, hH, _⟩⟩ := t.makes k2 k3 k4 k5
  · rw [hH] at k8; omega
  · obtain ⟨pl', g1, _, g3, g4, g5⟩ := I.pend p i f o B k1 k2 k3 k4 k5 k6 hH
    rw [k7, h3] at g1; injection g1 with g1; subst g1
    exact ⟨g3, g4, g5⟩
theorem nx_pos (t : Tra P call ops l σ m nt) {p p' b : Nat} (hp : p < m) (hp' : p' < m) (h1 : (σ p).H.nx = b) (h2 : (σ (p + 1)).H.nx = b + 1) (h3 : (σ p').H.nx = b) (h4 : (σ (p' + 1)).H.nx = b + 1) : p = p' := by
  rcases Nat.lt_trichotomy p p' with h | h | h
  · have := t.Hmono (p + 1) p' (by omega) (by omega); omega
  · exact h
  · have := t.Hmono (p' + 1) p (by omega) (by omega); omega
theorem push_inj {H : Heap} {B B' : Blk} (h : push H B = push H B') : B = B' := by
  have h1 : getB (push H B) H.nx = some B := by rw [getB_push, if_pos rfl]
  have h2 : getB (push H B') H.nx = some B' := by rw [getB_push, if_pos rfl]
  rw [h, h2] at h1
  injection h1 with h1; exact h1.symm
/-- memory is made, early or in its turn -/
theorem Inv.made (t : Tra P call ops l σ m nt) (hN : (σ m).H.nx ≤ N) (I : Inv P call ops l σ m nt ρ0 H0 w0 N L Y q ρ a w) {i p : Nat} {f : Bool} {o : Oper} (hi : ¬ L i) (ho : ops[i]? = some o) (hr : ∀ k ∈ needs o, L k) (hl : l[p]? = some (.ex i f)) (hp : p < m)
    (hc : cls P o.op = .make) {B : Blk} (_hwr : wr B) (hH : (σ (p + 1)).H = push (σ p).H B) {x : Value} {w' : World} {obj : Obj} {lim : Nat} (hheap : w'.heap = w.heap.push obj) (hos : w'.os = w.os) (htp : w'.tape = w.tape) (hout : w'.output = w.output)
    (hden : ∀ ρ', Sub ρ ρ' → ρ' (σ p).H.nx = some ⟨w.heap.size, 0, lim⟩ → den ρ' (valAt P call ops l σ p) = some x)
    (hblk : ∀ ρ' w'', Sub ρ ρ' → w''.heap[w.heap.size]? = some obj → BlkOK ρ' w'' ⟨w.heap.size, 0, lim⟩ B) :
    Inv P call ops l σ m nt ρ0 H0 w0 N (fun j => L j ∨ j = i) Y q (upd ρ (σ p).H.nx ⟨w.heap.size, 0, lim⟩) (a.put o.dst x) w' := by
  have hqp : q ≤ p := by
    rcases Nat.lt_or_ge p q with h | h
    · exact absurd (I.below p i f o h hl ho (.inr hc)) hi
    · exact h
  have hnx1 : (σ (p + 1)).H.nx = (σ p).H.nx + 1 := by rw [hH]; rfl
  have hidN : (σ p).H.nx < N := by have := t.Hmono (p + 1) m (by omega) (Nat.le_refl _); omega
  have hqid : (σ q).H.nx ≤ (σ p).H.nx := t.Hmono q p hqp (by omega)
  have hfree : ρ (σ p).H.nx = none := by
    cases hn : ρ (σ p).H.nx with
    | none => rfl
    | some pl =>
      exfalso
      obtain ⟨p', i', f', o', k1, k2, k3, k4, k5, k6, k7, k8⟩ := I.free (σ p).H.nx hqid hidN (by rw [hn]; simp)
      have := nx_pos t hp k2 rfl hnx1 k7 k8
      subst this
      rw [hl] at k3; injection k3 with k3; injection k3 with k3 _; subst k3
      exact hi k6
  have hs : Sub ρ (upd ρ (σ p).H.nx ⟨w.heap.size, 0, lim⟩) := .upd hfree
  have hself : upd ρ (σ p).H.nx ⟨w.heap.size, 0, lim⟩ (σ p).H.nx = some ⟨w.heap.size, 0, lim⟩ := upd_self _ _ _
  have hsz : w'.heap.size = w.heap.size + 1 := by rw [hheap]; simp
  have hold : ∀ {b C r}, getB (σ q).H b = some C → upd ρ (σ p).H.nx ⟨w.heap.size, 0, lim⟩ b = some r → ρ b = some r := fun {b C r} hb hr' => by
    obtain ⟨r0, h0, _⟩ := I.hr.blk b C hb
    rw [hs b r0 h0] at hr'; injection hr' with hr'; subst hr'; exact h0
  obtain ⟨v1, v2, v3⟩ := I.step_vals t hi ho hl hs (fun _ _ => hden _ hs hself) (a' := a.put o.dst x) rfl
  refine ⟨I.qm, fun p' j f' o' h1 h2 h3 h4 => .inl (I.below p' j f' o' h1 h2 h3 h4), fun p' j f' o' h1 h2 h3 h4 h5 => ?_, fun j hj => ?_, I.clo' ho hr, I.hr.grow hs hheap, I.gk.mono hs, by rw [Act.defers_put]; exact I.dr.mono hs, v1, v2, v3,
    fun p' j f' o' B' h1 h2 h3 h4 h5 h6 h7 => ?_, fun b b' pl pl' h1 h2 h3 h4 hne hb hb' => ?_, fun b h1 h2 h3 => ?_, ?_, I.hb, I.yex, I.yclo' ho hr⟩
  · rcases h5 with h5 | rfl
    · exact I.above p' j f' o' h1 h2 h3 h4 h5
    · rw [ho] at h3; injection h3 with h3; subst h3; rw [hc] at h4; cases h4
  · rcases hj with hj | rfl
    · exact I.posn j hj
    · exact ⟨p, f, hp, hl⟩
  · by_cases e : p' = p
    · subst e
      rw [hH] at h7
      have := push_inj h7
      subst this
      refine ⟨_, hself, hblk _ w' hs (by rw [hheap]; simp), fun b C r hb hr' => ?_, by rw [hsz]; show w.heap.size < _; omega, I.mid.size⟩
      have := (I.hr.blk_of hb (hold hb hr')).2
      show r.blk ≠ w.heap.size; omega
    · have hj : L j := by
        rcases h6 with h6 | rfl
        · exact h6
        · exact absurd (t.uniq h3 hl) e
      obtain ⟨pl, g1, g2, g3, g4, g5⟩ := I.pend p' j f' o' B' h1 h2 h3 h4 h5 hj h7
      exact ⟨pl, hs _ _ g1, g2.keep hs (chg_push hheap) (fun _ _ _ => id), fun b C r hb hr' => g3 b C r hb (hold hb hr'), by omega, g5⟩
  · have cases' : ∀ {b pl}, (σ q).H.nx ≤ b → b < N → upd ρ (σ p).H.nx ⟨w.heap.size, 0, lim⟩ b = some pl → (b = (σ p).H.nx ∧ pl.blk = w.heap.size) ∨ (ρ b = some pl ∧ pl.blk < w.heap.size) := fun {b pl} h1 h2 hb => by
      by_cases e : b = (σ p).H.nx
      · subst e; rw [hself] at hb; injection hb with hb; subst hb; exact .inl ⟨rfl, rfl⟩
      · rw [upd_ne e] at hb; exact .inr ⟨hb, (I.pend_of t h1 h2 hb).2.1⟩
    rcases cases' h1 h2 hb with ⟨e1, e2⟩ | ⟨e1, e2⟩ <;> rcases cases' h3 h4 hb' with ⟨e3, e4⟩ | ⟨e3, e4⟩
    · omega
    · omega
    · omega
    · exact I.diff b b' pl pl' h1 h2 h3 h4 hne e1 e3
  · by_cases e : b = (σ p).H.nx
    · subst e; exact ⟨p, i, f, o, hqp, hp, hl, ho, hc, .inr rfl, rfl, hnx1⟩
    · rw [upd_ne e] at h3
      obtain ⟨p', j, f', o', k1, k2, k3, k4, k5, k6, k7⟩ := I.free b h1 h2 h3
      exact ⟨p', j, f', o', k1, k2, k3, k4, k5, .inl k6, k7⟩
  · have M := I.mid
    refine ⟨M.sub.trans hs, fun b hb => ?_, M.nx, by have := M.size; omega, fun c hc' hno => ?_, ?_, M.ro, by rw [hos]; exact M.os, by rw [htp]; exact M.tape, by rw [hout]; exact M.output⟩
    · have := M.nx
      rw [upd_ne (by omega)]; exact M.new b hb
    · have := M.size
      rw [hheap, Array.getElem?_push, if_neg (by omega)]
      exact M.keep c hc' hno
    · rintro c ⟨b, C, r, hb, hr', hrc, hwC⟩
      exact M.own c ⟨b, C, r, hb, hold hb hr', hrc, hwC⟩
theorem BlkOK.same {ρ ρ' : Rho} {w w' : World} {p : Pl} {B : Blk} (h : BlkOK ρ w p B) (s : Sub ρ ρ') (hk : w'.heap[p.blk]? = w.heap[p.blk]?) : BlkOK ρ' w' p B := by
  cases B with
  | mp es =>
    obtain ⟨es', k, h1, h2, h3⟩ := h
    exact ⟨es', k, by rw [hk]; exact h1, h2.mono s, h3.mono s⟩
  | cells t n tl ro =>
    obtain ⟨cs, e, fz, h1, h2, h3, h4, h5⟩ := h
    refine ⟨cs, e, fz, by rw [hk]; exact h1, h2, h3, h4, fun i v hv => ?_⟩
    obtain ⟨a, x, b, d⟩ := h5 i v hv
    exact ⟨a, x, den_mono s v x b, d⟩
/-- what writes, in its turn -/
theorem Inv.loud (t : Tra P call ops l σ m nt) (hN : (σ m).H.nx ≤ N) {i p : Nat} (I : Inv P call ops l σ m nt ρ0 H0 w0 N L Y p ρ a w) {f : Bool} {o : Oper} (hi : ¬ L i) (ho : ops[i]? = some o) (hr : ∀ k ∈ needs o, L k) (hl : l[p]? = some (.ex i f)) (hp : p < m)
    (hc : cls P o.op = .loud) {x : Value} {ρ' : Rho} {w' : World} {a' : Act} (hx : den ρ' (valAt P call ops l σ p) = some x) (hh : HR ρ' (σ (p + 1)).H w') (he : Ext ρ (σ p).H w ρ' (σ (p + 1)).H w')
    (ha : a'.tmps = (a.put o.dst x).tmps) (hd : DR ρ' (σ (p + 1)).D a'.defers) : Inv P call ops l σ m nt ρ0 H0 w0 N (fun j => L j ∨ j = i) Y (p + 1) ρ' a' w' := by
  obtain ⟨v1, v2, v3⟩ := I.step_vals t hi ho hl he.sub (fun _ _ => hx) ha
  have hnew : ∀ b, (σ (p + 1)).H.nx ≤ b → ρ' b = ρ b := fun b hb => he.new b (.inr hb)
  have hm1 := t.Hmono p (p + 1) (by omega) (by omega)
  have hm2 := t.Hmono (p + 1) m (by omega) (Nat.le_refl _)
  refine ⟨by omega, fun p' j f' o' h1 h2 h3 h4 => ?_, fun p' j f' o' h1 h2 h3 h4 h5 => ?_, fun j hj => ?_, I.clo' ho hr, hh, I.gk.mono he.sub, hd, v1, v2, v3,
    fun p' j f' o' B' h1 h2 h3 h4 h5 h6 h7 => ?_, fun b b' pl pl' h1 h2 h3 h4 hne hb hb' => ?_, fun b h1 h2 h3 => ?_, ?_, fun r hr => if e : r = p then e ▸ I.hr.lt else I.hb r (by omega), I.yex, I.yclo' ho hr⟩
  · by_cases e : p' = p
    · subst e; rw [hl] at h2; injection h2 with h2; injection h2 with h2 _; exact .inr h2.symm
    · exact .inl (I.below p' j f' o' (by omega) h2 h3 h4)
  · rcases h5 with h5 | rfl
    · exact I.above p' j f' o' (by omega) h2 h3 h4 h5
    · have := t.uniq hl h2; omega
  · rcases hj with hj | rfl
    · exact I.posn j hj
    · exact ⟨p, f, hp, hl⟩
  · have hj : L j := by
      rcases h6 with h6 | rfl
      · exact h6
      · have := t.uniq hl h3; omega
    obtain ⟨pl, g1, g2, g3, g4, g5⟩ := I.pend p' j f' o' B' (by omega) h2 h3 h4 h5 hj h7
    have hid := t.Hmono (p + 1) p' h1 (by omega)
    have hno : ¬ own ρ (σ p).H pl.blk := by rintro ⟨b, C, r, hb, hr', hrc, _⟩; exact g3 b C r hb hr' hrc
    refine ⟨pl, by rw [hnew _ hid]; exact g1, g2.same he.sub (he.keep _ g4 hno), fun b C r hb hr' hrc => ?_, Nat.lt_of_lt_of_le g4 he.size, g5⟩
    by_cases hwC : wr C
    · rcases he.own pl.blk ⟨b, C, r, hb, hr', hrc, hwC⟩ with h | h
      · exact hno h
      · omega
    · have hb' := he.ro b C hb hwC
      obtain ⟨r0, h0, _⟩ := I.hr.blk b C hb'
      rw [he.sub b r0 h0] at hr'; injection hr' with hr'; subst hr'
      exact g3 b C r0 hb' h0 hrc
  · rw [hnew b h1] at hb; rw [hnew b' h3] at hb'
    exact I.diff b b' pl pl' (by omega) h2 (by omega) h4 hne hb hb'
  · rw [hnew b h1] at h3
    obtain ⟨p', j, f', o', k1, k2, k3, k4, k5, k6, k7⟩ := I.free b (by omega) h2 h3
    have : p' ≠ p := fun e => by
      subst e
      rw [hl] at k3; injection k3 with k3; injection k3 with k3 _; subst k3
      rw [ho] at k4; injection k4 with k4; subst k4
      rw [hc] at k5; cases k5
    exact ⟨p', j, f', o', by omega, k2, k3, k4, k5, .inl k6, k7⟩
  · have M := I.mid
    refine ⟨M.sub.trans he.sub, fun b hb => ?_, Nat.le_trans M.nx hm1, Nat.le_trans M.size he.size, fun c hc' hno => ?_, fun c hc' => ?_, fun b B hb hwB => M.ro b B (he.ro b B hb hwB) hwB, he.os.trans M.os, he.tape.trans M.tape, he.output.trans M.output⟩
    · have := M.nx
      rw [he.new b (by omega)]; exact M.new b hb
    · rw [he.keep c (Nat.lt_of_lt_of_le hc' M.size) (fun h => by rcases M.own c h with h | h; exact hno h; omega)]
      exact M.keep c hc' hno
    · rcases he.own c hc' with h | h
      · exact M.own c h
      · exact .inr (Nat.le_trans M.size h)
end
end Eng
end Go.Proofs.YtlajkdbpmkodpaaGreatDoor
namespace Go.Proofs.YtlajkdbpmkodpaaGreatDoor
namespace Eng
open Go
section
variable {P : Program} {call : CallF} {ops : Array Oper} {l : List Mv} {σ : Nat → St} {m : Nat} {nt : Nat}
variable {ρ0 : Rho} {H0 : Heap} {w0 : World} {N : Nat} {L Y : Nat → Prop} {q : Nat} {ρ : Rho} {a : Act} {w : World}

theorem Tra.nobad (t : Tra P call ops l σ m nt) {p i : Nat} {f : Bool} {o : Oper} (hl : l[p]? = some (.ex i f)) (ho : ops[i]? = some o) : cls P o.op ≠ .bad := by
  obtain ⟨d, h1, _, _, h4, _⟩ := walk_at l [] p i f t.walk hl
  obtain ⟨o', ho', rfl⟩ := dig_inv h1
  rw [ho] at ho'; injection ho' with ho'; subst ho'
  exact h4
theorem Tra.kinds (t : Tra P call ops l σ m nt) {k : Nat} (hk : k < m) : (σ (k + 1)).H = (σ k).H ∨
    (∃ i f o B, l[k]? = some (.ex i f) ∧ ops[i]? = some o ∧ cls P o.op = .make ∧ (σ (k + 1)).H = push (σ k).H B) ∨
    (∃ i f o, l[k]? = some (.ex i f) ∧ ops[i]? = some o ∧ cls P o.op = .loud) := by
  obtain ⟨mv, hmv⟩ := t.get hk
  cases mv with
  | ck i => exact .inl (by rw [t.stepC hk hmv])
  | ex i f =>
    obtain ⟨o, ho, _⟩ := t.ex hmv
    cases hc : cls P o.op with
    | pure => exact .inl (t.quiet hk hmv ho (.inl hc)).1
    | read => exact .inl (t.quiet hk hmv ho (.inr hc)).1
    | loud => exact .inr (.inr ⟨i, f, o, hmv, ho, hc⟩)
    | bad => exact absurd hc (t.nobad hmv ho)
    | make =>
      obtain ⟨_, ⟨_, hH⟩ | ⟨_, B, _, hH, _⟩⟩ := t.makes hk hmv ho hc
      · exact .inl hH
      · exact .inr (.inl ⟨i, f, o, B, hmv, ho, hc, hH⟩)
/-- what a ready operation waits for has been done -/
theorem Inv.bef (t : Tra P call ops l σ m nt) (I : Inv P call ops l σ m nt ρ0 H0 w0 N L Y q ρ a w) {i : Nat} {o : Oper} (ho : ops[i]? = some o) (hr : ∀ k ∈ needs o, L k) {j : Nat} (hb : Bf P ops j i) : L j := by
  rcases t.closed (I.clo' ho hr) hb (.inr rfl) with h | h
  · exact h
  · subst h; have := t.bf_lt _ _ hb; omega
theorem big_push (H : Heap) (B : Blk) (h : ∀ b C, getB H b = some C → b < H.nx) : Big H (push H B) := fun b C hb => by
  rw [getB_push, if_neg (by have := h b C hb; omega)]; exact hb
/-- the blocks of the engine's heap are below its next number, all along -/
def HB (H : Heap) : Prop := ∀ b C, getB H b = some C → b < H.nx

/-- from the base to a later place with no write between: the blocks are where they are said to be -/
theorem Inv.vr (t : Tra P call ops l σ m nt) (hN : (σ m).H.nx ≤ N) (I : Inv P call ops l σ m nt ρ0 H0 w0 N L Y q ρ a w) : ∀ r, q ≤ r → r ≤ m → (∀ k i f o, q ≤ k → k < r → l[k]? = some (.ex i f) → ops[i]? = some o → cls P o.op ≠ .loud) → VR ρ (σ r).H w ∧ HB (σ r).H := by
  intro r hr
  induction hr with
  | refl => intro _ _; exact ⟨I.hr.vr, I.hr.lt⟩
  | step hr ih =>
    rename_i k
    intro hk hno
    obtain ⟨ih, ihb⟩ := ih (by omega) fun k' i f o h1 h2 => hno k' i f o h1 (by omega)
    rcases t.kinds (k := k) (by omega) with h | ⟨i, f, o, B, hl, ho, hc, hH⟩ | ⟨i, f, o, hl, ho, hc⟩
    · rw [h]; exact ⟨ih, ihb⟩
    · rw [hH]
      have hnx1 : (σ (k + 1)).H.nx = (σ k).H.nx + 1 := by rw [hH]; rfl
      refine ⟨fun b C hb p hp => ?_, fun b C hb => ?_⟩
      · rw [getB_push] at hb
        by_cases e : b = (σ k).H.nx
        · subst e
          rw [if_pos rfl] at hb; injection hb with hb; subst hb
          have hm1 := t.Hmono q k hr (by omega)
          have hm2 := t.Hmono (k + 1) m (by omega) (Nat.le_refl _)
          obtain ⟨p', i', f', o', k1, k2, k3, k4, k5, k6, k7, k8⟩ := I.free (σ k).H.nx hm1 (by omega) (by rw [hp]; simp)
          have := nx_pos t (by omega : k < m) k2 rfl hnx1 k7 k8
          subst this
          obtain ⟨pl, g1, g2, _⟩ := I.pend k i' f' o' B k1 k2 k3 k4 k5 k6 hH
          rw [hp] at g1; injection g1 with g1; subst g1
          exact g2
        · rw [if_neg e] at hb; exact ih b C hb p hp
      · rw [getB_push] at hb
        by_cases e : b = (σ k).H.nx
        · subst e; simp [push]
        · rw [if_neg e] at hb; have := ihb b C hb; simp [push]; omega
    · exact absurd hc (hno k i f o hr (by omega) hl ho)
theorem want_restr {o : Oper} {T T' : Tm} (h : ∀ s ∈ Oper.looksAt ops o, T.get (bits s) = T'.get (bits s)) : restr (Oper.looksAt ops o) T = restr (Oper.looksAt ops o) T' := by
  generalize Oper.looksAt ops o = ts at h
  induction ts with
  | nil => rfl
  | cons u ts ih =>
    simp only [restr]
    rw [h u (by simp), ih fun s hs => h s (by simp [hs])]
/-- a read, whenever it is made -/
theorem Inv.readv (t : Tra P call ops l σ m nt) (hN : (σ m).H.nx ≤ N) (I : Inv P call ops l σ m nt ρ0 H0 w0 N L Y q ρ a w) {i p : Nat} {f : Bool} {o : Oper} (hi : ¬ L i) (ho : ops[i]? = some o) (hr : ∀ k ∈ needs o, L k)
    (hl : l[p]? = some (.ex i f)) (hp : p < m) (hc : cls P o.op = .read) {H' : Heap} (hw : want ops o.guard (σ p).T = some true) (hv : oper P call o.op (σ p).T (σ p).H = .val (valAt P call ops l σ p) H') :
    ∃ v, GivesIn P o a ρ w v ∧ ∀ s, o.dst = some s → v = valAt P call ops l σ p := by
  have hT := I.opnd t hi ho hr hl (Nat.le_of_lt hp)
  have hg := opOK.g (t.opk ho)
  rw [oper_restr (ops := ops)] at hv
  rcases Nat.lt_or_ge p q with hpq | hqp
  · -- it comes late: it has been looked at again after each write
    have claim : ∀ r, p ≤ r → r ≤ q → ∃ v H'', oper P call o.op (restr (Oper.looksAt ops o) (σ p).T) (σ r).H = .val v H'' ∧ ∀ s, o.dst = some s → v = valAt P call ops l σ p := by
      intro r hr1
      induction hr1 with
      | refl => intro _; exact ⟨_, H', hv, fun _ _ => rfl⟩
      | step hr1 ih =>
        rename_i k
        intro hkq
        have hqm := I.qm
        obtain ⟨v, H'', h1, h2⟩ := ih (by omega)
        rcases t.kinds (k := k) (by omega) with h | ⟨i', f', o', B, hl', ho', hc', hH⟩ | ⟨i', f', o', hl', ho', hc'⟩
        · exact ⟨v, H'', by rw [h]; exact h1, h2⟩
        · exact ⟨v, _, by rw [hH]; exact oper_ext hc (big_push _ _ (I.hb k (by omega))) h1, h2⟩
        · -- a write: the plan looks again
          have hLi' : L i' := I.below k i' f' o' (by omega) hl' ho' (.inl hc')
          have hne : i ≠ i' := fun e => hi (e ▸ hLi')
          have hpk : p < k := by
            rcases Nat.lt_or_ge p k with h | h
            · exact h
            · have : p = k := Nat.le_antisymm hr1 h
              subst this
              rw [hl] at hl'; injection hl' with hl'; injection hl' with e _; exact absurd e hne
          obtain ⟨o2, ho2, _, _, hloud, _⟩ := t.ex hl'
          rw [ho'] at ho2; injection ho2 with ho2; subst ho2
          have hck : i ∈ cksOf (l.drop (k + 1)) := by
            rcases (hloud hc' i o ho hne).1 ⟨p, hpk, f, hl⟩ with hb | hb | hb
            · exact absurd (t.closed I.clo hb hLi') hi
            · rw [hc] at hb; cases hb
            · exact hb.2
          obtain ⟨r', hr'1, hr'2⟩ := cks_at _ hck
          rw [List.getElem?_drop] at hr'1
          have hlt : ∀ s, s ≤ r' → k + 1 + s < m := by
            intro s hs
            have hle : k + 1 + s < l.length := Nat.lt_of_le_of_lt (by omega) (List.getElem?_eq_some_iff.1 hr'1).1
            rcases t.en with e | ⟨im, fm, e⟩
            · omega
            · rcases Nat.lt_or_ge (k + 1 + s) m with h | h
              · exact h
              · exfalso
                have hmk : ∃ s', s' ≤ r' ∧ m = k + 1 + s' := ⟨m - (k + 1), by omega, by omega⟩
                obtain ⟨s', hs', hm'⟩ := hmk
                have : ∃ j, l[m]? = some (.ck j) := by
                  rw [hm']
                  rcases Nat.lt_or_ge s' r' with h' | h'
                  · obtain ⟨j, hj⟩ := hr'2 s' h'; rw [List.getElem?_drop] at hj; exact ⟨j, hj⟩
                  · have : s' = r' := by omega
                    subst this; exact ⟨i, hr'1⟩
                obtain ⟨j, hj⟩ := this
                rw [e] at hj; cases hj
          have hσ : ∀ s, s ≤ r' → σ (k + 1 + s) = σ (k + 1) := by
            intro s
            induction s with
            | zero => intro _; rfl
            | succ s ihs =>
              intro hs
              obtain ⟨j, hj⟩ := hr'2 s (by omega)
              rw [List.getElem?_drop] at hj
              have := t.stepC (hlt s (by omega)) hj
              rw [show k + 1 + (s + 1) = k + 1 + s + 1 by omega, this]
              exact ihs (by omega)
          have hst := t.st _ _ (hlt r' (Nat.le_refl _)) hr'1
          have hstσ := hσ r' (Nat.le_refl _)
          -- the slots that it looks at are as they were
          obtain ⟨d, hd1, hd2, hd3⟩ := walk_ck l [] _ i t.walk hr'1
          obtain ⟨o3, ho3, rfl⟩ := dig_inv hd1
          rw [ho] at ho3; injection ho3 with ho3; subst ho3
          have hsame : ∀ s ∈ Oper.looksAt ops o, (σ (k + 1)).T.get (bits s) = (σ p).T.get (bits s) := by
            intro s hs
            by_cases hwr : ∃ p' j f' o', p' < k + 1 ∧ l[p']? = some (.ex j f') ∧ ops[j]? = some o' ∧ o'.dst = some s
            · obtain ⟨p', j, f'', o'', h3, h4, h5, h6⟩ := hwr
              have hb := hd3 j _ s (dn_iff.2 ⟨p', by omega, f'', h4⟩) (dig (P := P) h5) h6 hs
              obtain ⟨p2, h7, f2, h8⟩ := t.before hl hb
              have hpp := t.uniq h4 h8; subst hpp
              rw [t.T_new h4 h5 h6 (k + 1) (by omega) h3, t.T_new h4 h5 h6 p (by omega) h7]
            · rw [t.T_old (k + 1) (by omega) fun p' j f' o' h3 h4 h5 h6 => hwr ⟨p', j, f', o', h3, h4, h5, h6⟩,
                t.T_old p (by omega) fun p' j f' o' h3 h4 h5 h6 => hwr ⟨p', j, f', o', by omega, h4, h5, h6⟩]
          have hckop : ckOp P ops o (σ (k + 1)) = true := by
            rw [← hstσ]
            generalize σ (k + 1 + r') = S1 at hst
            generalize σ (k + 1 + r' + 1) = S2 at hst
            cases hst with
            | ck ho4 hcc => rw [ho] at ho4; injection ho4 with ho4; subst ho4; exact hcc
          unfold ckOp at hckop
          rw [want_congr hsame, hw] at hckop
          simp only at hckop
          split at hckop
          · rename_i u Hu hu
            rw [oper_call (call' := call) hc, oper_restr (ops := ops), want_restr hsame] at hu
            refine ⟨u, Hu, hu, fun s hs => ?_⟩
            rw [hs] at hckop
            simp only at hckop
            rw [t.T_new hl ho hs (k + 1) (by omega) (by omega)] at hckop
            exact (AV.eq_of _ _ hckop).symm
          · cases hckop
    obtain ⟨v, H'', h1, h2⟩ := claim q (Nat.le_of_lt hpq) (Nat.le_refl _)
    exact ⟨v, (oper_read hc hg hT I.gk I.hr.vr h1).2, h2⟩
  · -- no write lies between
    have hvr := (I.vr t hN p hqp (Nat.le_of_lt hp) fun k i' f' o' h1 h2 h3 h4 h5 => by
      have hne : i ≠ i' := fun e => by subst e; have := t.uniq hl h3; omega
      obtain ⟨o2, ho2, _, _, hloud, _⟩ := t.ex h3
      rw [h4] at ho2; injection ho2 with ho2; subst ho2
      have hnd : ¬ Dn' l k i := by rintro ⟨p', hp', f2, hf2⟩; have := t.uniq hl hf2; omega
      rcases (hloud h5 i o ho hne).2 hnd with hb | hb | hb
      · exact I.above k i' f' o' h1 h3 h4 h5 (I.bef t ho hr hb)
      · rw [hc] at hb; cases hb
      · rw [hc] at hb; cases hb).1
    exact ⟨_, (oper_read hc hg hT I.gk hvr hv).2, fun _ _ => rfl⟩
end
end Eng
end Go.Proofs.YtlajkdbpmkodpaaGreatDoor
namespace Go.Proofs.YtlajkdbpmkodpaaGreatDoor
namespace Eng
open Go
section
variable {P : Program} {call : CallF} {ops : Array Oper} {l : List Mv} {σ : Nat → St} {m : Nat} {nt : Nat}
variable {ρ0 : Rho} {H0 : Heap} {w0 : World} {N : Nat} {L Y : Nat → Prop} {q : Nat} {ρ : Rho} {a : Act} {w : World}

/-- how many are not listed -/
def left (listed : Array Bool) : Nat → Nat
  | 0 => 0
  | n + 1 => (if listed.getD n false = true then 0 else 1) + left listed n
theorem getD_set {listed : Array Bool} {i j : Nat} (hi : i < listed.size) : (listed.setIfInBounds i true).getD j false = true ↔ (listed.getD j false = true ∨ j = i) := by
  by_cases e : i = j
  · subst e; simp [hi]
  · rw [getD_set_ne false e]; simp [Ne.symm e]
theorem left_set {listed : Array Bool} {i : Nat} (hi : i < listed.size) (hn : listed.getD i false ≠ true) : ∀ n, left (listed.setIfInBounds i true) n + (if i < n then 1 else 0) = left listed n
  | 0 => by simp [left]
  | n + 1 => by
    have ih := left_set hi hn n
    simp only [left]
    have h := getD_set (listed := listed) (j := n) hi
    by_cases e : n = i
    · subst e
      rw [if_pos (h.2 (.inr rfl)), if_neg hn, if_pos (by omega)]
      rw [if_neg (by omega)] at ih
      omega
    · have : (listed.setIfInBounds i true).getD n false = true ↔ listed.getD n false = true := by rw [h]; simp [e]
      by_cases hl : listed.getD n false = true
      · rw [if_pos (this.2 hl), if_pos hl]
        by_cases h2 : i < n
        · rw [if_pos h2] at ih; rw [if_pos (by omega)]; omega
        · rw [if_neg h2] at ih; rw [if_neg (by omega)]; omega
      · rw [if_neg (fun h => hl (this.1 h)), if_neg hl]
        by_cases h2 : i < n
        · rw [if_pos h2] at ih; rw [if_pos (by omega)]; omega
        · rw [if_neg h2] at ih; rw [if_neg (by omega)]; omega
theorem left_zero {listed : Array Bool} : ∀ n, left listed n = 0 → ∀ j, j < n → listed.getD j false = true
  | 0, _, j, hj => by omega
  | n + 1, h, j, hj => by
    simp only [left] at h
    by_cases e : j = n
    · subst e
      by_cases hl : listed.getD j false = true
      · exact hl
      · rw [if_neg hl] at h; omega
    · exact left_zero n (by omega) j (by omega)
theorem left_rep (k : Nat) : ∀ n, left (Array.replicate k false) n ≤ n
  | 0 => Nat.le_refl _
  | n + 1 => by
    have := left_rep k n
    simp only [left]
    split <;> omega
theorem Mid.ext {H1 : Heap} (h : Mid ρ0 H0 w0 ρ H1 w H1.nx) : Ext ρ0 H0 w0 ρ H1 w := ⟨h.sub, h.new, h.nx, h.size, h.keep, h.own, h.ro, h.os, h.tape, h.output⟩
theorem get_clearD (s : Tmp) : ∀ (os : List Oper) (T : Tm), (clearD os T).get (bits s) = if ∃ o ∈ os, o.dst = some s then none else T.get (bits s)
  | [], T => by simp [clearD]
  | o :: os, T => by
    rw [clearD, get_clearD s os]
    by_cases h : ∃ o ∈ os, o.dst = some s
    · rw [if_pos h, if_pos]
      obtain ⟨o', h1, h2⟩ := h; exact ⟨o', by simp [h1], h2⟩
    · rw [if_neg h]
      cases hd : o.dst with
      | none =>
        rw [if_neg]
        rintro ⟨o', h1, h2⟩
        rcases List.mem_cons.1 h1 with rfl | h1
        · rw [hd] at h2; cases h2
        · exact h ⟨o', h1, h2⟩
      | some t =>
        simp only [Tr.get_set_bits]
        by_cases e : t = s
        · rw [if_pos e, if_pos ⟨o, by simp, by rw [hd, e]⟩]
        · rw [if_neg e, if_neg]
          rintro ⟨o', h1, h2⟩
          rcases List.mem_cons.1 h1 with rfl | h1
          · rw [hd] at h2; injection h2 with h2; exact e h2
          · exact h ⟨o', h1, h2⟩
theorem pan_loud {o : Op} {T : Tm} {H H' : Heap} {v : AV} (h : oper P call o T H = .pan v H') : cls P o = .loud := by
  by_cases h2 : ∃ c, o = .call c
  · obtain ⟨c, rfl⟩ := h2
    simp only [oper] at h
    obtain ⟨ca, cb, cc⟩ := c
    rcases oCall_cases (P := P) (call := call) (c := ⟨ca, cb, cc⟩) (T := T) (H := H) with k | ⟨_, t, u, _, hb, _, e⟩ | ⟨ys, f', g, l, _, hc, _, e⟩ | ⟨_, e⟩
    · rw [h] at k; exact k.elim
    · simp only at hb; subst hb; simp [cls]
    · simp only at hc; subst hc; simp [cls]
    · rw [e] at h; cases h
  · by_cases h1 : ∃ c, o = .defer c
    · obtain ⟨c, rfl⟩ := h1; simp [cls]
    · by_cases h3 : ∃ x, o = .panic x
      · obtain ⟨x, rfl⟩ := h3; simp [cls]
      · have k := oper_MR (P := P) (call := call) (o := o) (fun c e => h2 ⟨c, e⟩) (fun c e => h1 ⟨c, e⟩) (fun x e => h3 ⟨x, e⟩) (T := T) (H := H)
        rw [h] at k; exact k.elim
/-- to a write's place: all that it waits for has been done -/
theorem Inv.toLoud (t : Tra P call ops l σ m nt) (hN : (σ m).H.nx ≤ N) (I : Inv P call ops l σ m nt ρ0 H0 w0 N L Y q ρ a w) {i p : Nat} {f : Bool} {o : Oper} (hi : ¬ L i) (ho : ops[i]? = some o) (hr : ∀ k ∈ needs o, L k) (hl : l[p]? = some (.ex i f)) (hp : p ≤ m) (hqp : q ≤ p)
    (hc : cls P o.op = .loud) : Inv P call ops l σ m nt ρ0 H0 w0 N L Y p ρ a w := by
  refine I.advTo t hN p hqp hp fun p' i' f' o' h1 h2 h3 h4 h5 => ?_
  have hne : i' ≠ i := fun e => by subst e; have := t.uniq hl h3; omega
  obtain ⟨o2, ho2, _, _, hloud, _⟩ := t.ex hl
  rw [ho] at ho2; injection ho2 with ho2; subst ho2
  rcases (hloud hc i' o' h4 hne).1 ⟨p', h2, f', h3⟩ with hb | hb | hb
  · exact I.bef t ho hr hb
  · rcases h5 with h5 | h5 <;> rw [h5] at hb <;> cases hb
  · rcases h5 with h5 | h5 <;> rw [h5] at hb <;> cases hb.1
theorem Inv.fresh (t : Tra P call ops l σ m nt) (_hN : (σ m).H.nx ≤ N) {p : Nat} (I : Inv P call ops l σ m nt ρ0 H0 w0 N L Y p ρ a w) {i : Nat} {f : Bool} {o : Oper} (ho : ops[i]? = some o) (hl : l[p]? = some (.ex i f)) (hc : cls P o.op = .loud) {H' : Heap} (hH : H'.nx ≤ N)
    (hn : p < m → H'.nx ≤ (σ (p + 1)).H.nx) : Fresh ρ (σ p).H H' := by
  intro b h1 h2
  cases hb : ρ b with
  | none => rfl
  | some pl =>
    exfalso
    obtain ⟨p', i', f', o', k1, k2, k3, k4, k5, k6, k7, k8⟩ := I.free b h1 (by omega) (by rw [hb]; simp)
    have hne : p' ≠ p := fun e => by
      subst e
      rw [hl] at k3; injection k3 with k3; injection k3 with k3 _; subst k3
      rw [ho] at k4; injection k4 with k4; subst k4
      rw [hc] at k5; cases k5
    have := hn (by omega)
    have := t.Hmono (p + 1) p' (by omega) (by omega)
    omega

/-- what lies behind the panic's place -/
def Xm (l : List Mv) (m j : Nat) : Prop := ∃ p f, m < p ∧ l[p]? = some (.ex j f)
def Ll (l : List Mv) (m : Nat) (listed : Array Bool) : Nat → Prop := fun j => listed.getD j false = true ∧ ¬ Xm l m j
def Yl (l : List Mv) (m : Nat) (listed : Array Bool) : Nat → Prop := fun j => listed.getD j false = true ∧ Xm l m j
theorem ll_or {l : List Mv} {m : Nat} {listed : Array Bool} {j : Nat} (h : listed.getD j false = true) : Ll l m listed j ∨ Yl l m listed j := by
  by_cases hx : Xm l m j
  · exact .inr ⟨h, hx⟩
  · exact .inl ⟨h, hx⟩
theorem Tra.notX (t : Tra P call ops l σ m nt) {p i : Nat} {f : Bool} (hl : l[p]? = some (.ex i f)) (hp : p ≤ m) : ¬ Xm l m i := fun ⟨p2, f2, h1, h2⟩ => by
  have := t.uniq hl h2; omega
theorem ez_run {o : Oper} (he : ezO P o = true) {ρ : Rho} {a : Act} (hG : GOK P ρ) (hg : opG P o.op = true) (H : Heap) : o.guard = none ∧ cls P o.op = .make ∧ ∃ v H', Mk P o a ρ H v H' := by
  unfold ezO at he
  split at he
  · rename_i t hop hgd
    refine ⟨hgd, by rw [hop]; simp [cls], ?_⟩
    obtain ⟨z, hz⟩ := Option.isSome_iff_exists.1 he
    have hv : ∃ v H', oper P (fun _ _ _ => .bad) o.op .lf H = .val v H' := by
      rw [hop]
      exact ⟨_, _, by simp only [oper, oAlloc, hz, newR, layC_eq, fN_eq, newB_eq]; rfl⟩
    obtain ⟨v, H', hv⟩ := hv
    exact ⟨v, H', oper_make (by rw [hop]; simp [cls]) hg (fun s u hu => by rw [Tr.get_lf] at hu; cases hu) hG hv⟩
  · cases he
theorem draw_any (hC : CallOK P call) (t : Tra P call ops l σ m nt) {e : Ex} {S' : St} (hfin : (m = l.length ∧ e = .normal ∧ S' = σ m) ∨
       (∃ i o v H', l[m]? = some (.ex i true) ∧ ops[i]? = some o ∧ want ops o.guard (σ m).T = some true ∧ oper P call o.op (σ m).T (σ m).H = .pan v H' ∧ e = .panic v ∧ S' = ⟨clearD ops.toList (σ m).T, H', (σ m).D⟩))
    (hN : (σ m).H.nx ≤ S'.H.nx) {Q : Exit → Act → World → Prop} (hQ : ∀ x a' w', Post P nt ρ0 H0 w0 e S' x a' w' → Q x a' w') : ∀ (fuel : Nat) (listed : Array Bool) (q : Nat) (ρ : Rho) (a : Act) (w : World), listed.size = ops.size → left listed ops.size ≤ fuel →
    Inv P call ops l σ m nt ρ0 H0 w0 S'.H.nx (Ll l m listed) (Yl l m listed) q ρ a w → wpAny P .any ops Q fuel listed a w := by
  -- all done
  have done : ∀ (listed : Array Bool) (q : Nat) (ρ : Rho) (a : Act) (w : World), (∀ j, j < ops.size → listed.getD j false = true) → Inv P call ops l σ m nt ρ0 H0 w0 S'.H.nx (Ll l m listed) (Yl l m listed) q ρ a w → Q .normal a w := by
    intro listed q ρ a w hall I
    have hex : ∀ {p i : Nat} {f : Bool}, l[p]? = some (Mv.ex i f) → listed.getD i false = true := fun {p i f} hl => by
      obtain ⟨o, ho, _⟩ := t.ex hl
      exact hall i (Array.getElem?_eq_some_iff.1 ho).1
    rcases hfin with ⟨hml, rfl, rfl⟩ | ⟨i, o, v, H', hl, _⟩
    · have I' := I.advTo t hN m I.qm (Nat.le_refl _) fun p i f o _ hpm hl _ _ => ⟨hex hl, t.notX hl (Nat.le_of_lt hpm)⟩
      refine hQ _ _ _ ⟨ρ, trivial, ⟨I'.hr, fun s v hv => ?_, I'.dr, I'.sz, I'.gk⟩, I'.mid.ext⟩
      by_cases hw : ∃ p j f o, p < m ∧ l[p]? = some (.ex j f) ∧ ops[j]? = some o ∧ o.dst = some s
      · obtain ⟨p, j, f, o, h1, h2, h3, h4⟩ := hw
        rw [t.T_new h2 h3 h4 m (Nat.le_refl _) h1] at hv
        injection hv with hv; subst hv
        exact I'.vals p j f o s ⟨hex h2, t.notX h2 (Nat.le_of_lt h1)⟩ h1 h2 h3 h4
      · rw [t.T_old m (Nat.le_refl _) fun p j f o h1 h2 h3 h4 => hw ⟨p, j, f, o, h1, h2, h3, h4⟩] at hv
        refine I'.rest s v hv fun j o hj ho hd => ?_
        rcases hj with hj | hj
        · obtain ⟨p, f, hp, hl⟩ := I'.posn j hj
          exact hw ⟨p, j, f, o, hp, hl, ho, hd⟩
        · obtain ⟨p, f, hp, hl⟩ := I'.yex j hj
          have := (List.getElem?_eq_some_iff.1 hl).1
          omega
    · exfalso
      obtain ⟨p, f, hp, hl'⟩ := I.posn i ⟨hex hl, t.notX hl (Nat.le_refl _)⟩
      have := t.uniq hl hl'; omega
  -- none is ready: all are done
  have none_ready : ∀ (listed : Array Bool), listed.size = ops.size → Region.ready .any ops listed = [] → ∀ j, j < ops.size → listed.getD j false = true := by
    intro listed hsz hr j
    induction j using Nat.strongRecOn with
    | _ j ih =>
      intro hj
      cases hl : listed.getD j false with
      | true => rfl
      | false =>
        exfalso
        have : j ∈ Region.ready .any ops listed := by
          rw [mem_ready]
          refine ⟨?_, ops[j], Array.getElem?_eq_getElem hj, fun e he hb => ?_⟩
          · have hjl : j < listed.size := by omega
            simpa [hjl] using hl
          · have hk : e.on ∈ needs ops[j] := by
              unfold needs
              exact List.mem_map.2 ⟨e, List.mem_filter.2 ⟨Array.mem_toList_iff.2 he, hb⟩, rfl⟩
            have := edge_lt t.edges (dig (P := P) (Array.getElem?_eq_getElem hj)) hk
            exact ih _ this (by omega)
        rw [hr] at this; cases this
  intro fuel
  induction fuel with
  | zero =>
    intro listed q ρ a w hsz hleft I
    have hall := left_zero ops.size (by omega : left listed ops.size = 0)
    refine ⟨?_, done listed q ρ a w hall I⟩
    rw [List.eq_nil_iff_forall_not_mem]
    intro j hj
    obtain ⟨h1, o, ho, _⟩ := mem_ready.1 hj
    have hj := (Array.getElem?_eq_some_iff.1 ho).1
    have h2 := hall j hj
    have hjl : j < listed.size := by omega
    simp [hjl] at h1 h2
    rw [h1] at h2; cases h2
  | succ fuel ih =>
    intro listed q ρ a w hsz hleft I
    refine ⟨fun hr => done listed q ρ a w (none_ready listed hsz hr) I, fun i hi => ?_⟩
    obtain ⟨h1, o, ho, hall⟩ := mem_ready.1 hi
    have hin := (Array.getElem?_eq_some_iff.1 ho).1
    have hil : i < listed.size := by omega
    have hiL : ¬ listed.getD i false = true := by simp [hil] at h1 ⊢; exact h1
    have hr0 : ∀ k ∈ needs o, listed.getD k false = true := fun k hk => by
      unfold needs at hk
      obtain ⟨e, he, rfl⟩ := List.mem_map.1 hk
      obtain ⟨he1, he2⟩ := List.mem_filter.1 he
      exact hall e (Array.mem_toList_iff.1 he1) he2
    have hg := opOK.g (t.opk ho)
    -- the rest
    have next0 : ∀ (q' : Nat) (ρ' : Rho) (a' : Act) (w' : World), Inv P call ops l σ m nt ρ0 H0 w0 S'.H.nx (Ll l m (listed.setIfInBounds i true)) (Yl l m (listed.setIfInBounds i true)) q' ρ' a' w' → wpAny P .any ops Q fuel (listed.setIfInBounds i true) a' w' := by
      intro q' ρ' a' w' I'
      refine ih _ q' ρ' a' w' (by simpa using hsz) ?_ I'
      have := left_set hil hiL ops.size
      rw [if_pos hin] at this; omega
    -- where it stands in the plan
    obtain ⟨p, hpl, f, hl⟩ : Dn' l l.length i := dn_iff.1 (walk_all l [] t.walk i (by rw [dig_len]; exact hin))
    unfold wpOp
    rw [ho]
    simp only
    by_cases hmp : m < p
    · -- a new variable, laid ahead of the panic
      rcases hfin with ⟨h, _⟩ | ⟨i', o', v, H', hl', ho', _⟩
      · omega
      · have hne : i ≠ i' := fun e => by subst e; have := t.uniq hl hl'; omega
        obtain ⟨o2, ho2, _, _, _, hf⟩ := t.ex hl'
        have hez : ezO P o = true := by
          rcases hf rfl i o ho hne with ⟨p2, hp2, f2, hl2⟩ | hb | he
          · exfalso; have := t.uniq hl hl2; omega
          · exfalso
            have hLY : ∀ k, k ∈ needs o → Ll l m listed k ∨ Yl l m listed k := fun k hk => ll_or (hr0 k hk)
            have hcl : Clo ops (fun j => (Ll l m listed j ∨ Yl l m listed j) ∨ j = i) := fun j o3 k hj ho3 hk => by
              rcases hj with hj | rfl
              · exact .inl (I.yclo j o3 k hj ho3 hk)
              · rw [ho] at ho3; injection ho3 with ho3; subst ho3; exact .inl (hLY k hk)
            rcases t.closed hcl hb (.inr rfl) with (h | h) | h
            · obtain ⟨p2, f2, hp2, hl2⟩ := I.posn i' h
              have := t.uniq hl' hl2; omega
            · obtain ⟨p2, f2, hp2, hl2⟩ := I.yex i' h
              have := t.uniq hl' hl2; omega
            · exact hne h.symm
          · exact he
        obtain ⟨hgd, _, v2, H2, B, _, _, hmk⟩ := ez_run (a := a) hez I.gk hg (σ q).H
        have hwant : Region.wanted o (yielded ops a.tmps) = true := by simp [Region.wanted, hgd]
        rw [hwant, if_pos rfl]
        left
        obtain ⟨x, w', obj, lim, hrun, hheap, hos, htp, hout, _, _⟩ := hmk w
        unfold Oper.wp
        rw [hrun]
        have I' := I.extra t ho hl hmp (fun k hk => ll_or (hr0 k hk)) (x := x) hheap hos htp hout
        refine next0 q ρ _ w' ?_
        have e1 : Ll l m (listed.setIfInBounds i true) = Ll l m listed := by
          funext j
          refine propext ⟨fun ⟨h1, h2⟩ => ⟨?_, h2⟩, fun ⟨h1, h2⟩ => ⟨(getD_set hil).2 (.inl h1), h2⟩⟩
          rcases (getD_set hil).1 h1 with h | rfl
          · exact h
          · exact absurd ⟨p, f, hmp, hl⟩ h2
        have e2 : Yl l m (listed.setIfInBounds i true) = fun j => Yl l m listed j ∨ j = i := by
          funext j
          refine propext ⟨fun ⟨h1, h2⟩ => ?_, fun h => ?_⟩
          · rcases (getD_set hil).1 h1 with h | rfl
            · exact .inl ⟨h, h2⟩
            · exact .inr rfl
          · rcases h with ⟨h1, h2⟩ | rfl
            · exact ⟨(getD_set hil).2 (.inl h1), h2⟩
            · exact ⟨(getD_set hil).2 (.inr rfl), p, f, hmp, hl⟩
        rw [e1, e2]
        exact I'
    have hpm : p ≤ m := Nat.le_of_not_lt hmp
    have hiX : ¬ Xm l m i := t.notX hl hpm
    have hiL : ¬ Ll l m listed i := fun h => hiL h.1
    have hr : ∀ k ∈ needs o, Ll l m listed k := fun k hk => by
      refine ⟨hr0 k hk, ?_⟩
      obtain ⟨o2, ho2, _, hn, _⟩ := t.ex hl
      rw [ho] at ho2; injection ho2 with ho2; subst ho2
      obtain ⟨p2, hp2, f2, hl2⟩ := hn k hk
      exact t.notX hl2 (by omega)
    have next : ∀ (q' : Nat) (ρ' : Rho) (a' : Act) (w' : World), Inv P call ops l σ m nt ρ0 H0 w0 S'.H.nx (fun j => Ll l m listed j ∨ j = i) (Yl l m listed) q' ρ' a' w' → wpAny P .any ops Q fuel (listed.setIfInBounds i true) a' w' := by
      intro q' ρ' a' w' I'
      refine next0 q' ρ' a' w' ?_
      have e1 : Ll l m (listed.setIfInBounds i true) = fun j => Ll l m listed j ∨ j = i := by
        funext j
        refine propext ⟨fun ⟨h1, h2⟩ => ?_, fun h => ?_⟩
        · rcases (getD_set hil).1 h1 with h | rfl
          · exact .inl ⟨h, h2⟩
          · exact .inr rfl
        · rcases h with ⟨h1, h2⟩ | rfl
          · exact ⟨(getD_set hil).2 (.inl h1), h2⟩
          · exact ⟨(getD_set hil).2 (.inr rfl), hiX⟩
      have e2 : Yl l m (listed.setIfInBounds i true) = Yl l m listed := by
        funext j
        refine propext ⟨fun ⟨h1, h2⟩ => ?_, fun ⟨h1, h2⟩ => ⟨(getD_set hil).2 (.inl h1), h2⟩⟩
        rcases (getD_set hil).1 h1 with h | rfl
        · exact ⟨h, h2⟩
        · exact absurd h2 hiX
      rw [e1, e2]
      exact I'
    have hT := I.opnd t hiL ho hr hl hpm
    have hqp : cls P o.op = .loud → q ≤ p := fun hc => by
      rcases Nat.lt_or_ge p q with h | h
      · exact absurd (I.below p i f o h hl ho (.inl hc)) hiL
      · exact h
    rcases Nat.lt_or_eq_of_le hpm with hp | rfl
    · have hstep := t.st p _ hp hl
      have hval : ∀ v H', want ops o.guard (σ p).T = some true → oper P call o.op (σ p).T (σ p).H = .val v H' → valAt P call ops l σ p = v := fun v H' hw hv => by
        unfold valAt; rw [hl]; simp only [ho, hw, hv]
      have hundef : (want ops o.guard (σ p).T = some false ∨ ∃ g xs, want ops o.guard (σ p).T = some true ∧ oper P call o.op (σ p).T (σ p).H = .dfr g xs) → valAt P call ops l σ p = undefA := fun h => by
        unfold valAt; rw [hl]; simp only [ho]
        rcases h with h | ⟨g, xs, h, h'⟩
        · rw [h]
        · rw [h, h']
      generalize hS' : σ (p + 1) = S1 at hstep
      cases hstep with
      | skip ho' hw =>
        rw [ho] at ho'; injection ho' with ho'; subst ho'
        rw [I.wanted t hiL ho hr hl hpm hw, if_neg (by simp)]
        have hx : den ρ (valAt P call ops l σ p) = some undef := by rw [hundef (.inl hw)]; exact den_undef ρ
        by_cases hc : cls P o.op = .loud
        · have I1 := I.toLoud t hN hiL ho hr hl hpm (hqp hc) hc
          refine next (p + 1) ρ _ w (I1.loud t hN hiL ho hr hl hp hc hx ?_ ?_ rfl ?_)
          · rw [hS']; exact I1.hr
          · rw [hS']; exact .refl _ _ _
          · rw [hS', Act.defers_put]; exact I1.dr
        · exact next q ρ _ w (I.quiet t hiL ho hr hl hp (fun _ _ => hx) hc fun _ => by rw [hS'])
      | dfr ho' hw hv =>
        rename_i g xs
        rw [ho] at ho'; injection ho' with ho'; subst ho'
        rw [I.wanted t hiL ho hr hl hpm hw, if_pos rfl]
        left
        have hx : den ρ (valAt P call ops l σ p) = some undef := by rw [hundef (.inr ⟨g, xs, hw, hv⟩)]; exact den_undef ρ
        have hc : cls P o.op = .loud := by
          by_cases h1 : ∃ c, o.op = .defer c
          · obtain ⟨c, hoc⟩ := h1; rw [hoc]; simp [cls]
          · exfalso
            by_cases h2 : ∃ c, o.op = .call c
            · obtain ⟨c, hoc⟩ := h2
              rw [hoc] at hv
              simp only [oper] at hv
              rcases oCall_cases (P := P) (call := call) (c := c) (T := (σ p).T) (H := (σ p).H) with k | ⟨_, t, u, _, _, _, e⟩ | ⟨ys, f', g, l, _, _, _, e⟩ | ⟨_, e⟩
              · rw [hv] at k; exact k
              · rw [e] at hv; cases hv
              · rw [e] at hv; unfold ofCall at hv; split at hv <;> cases hv
              · rw [e] at hv; cases hv
            · by_cases h3 : ∃ x, o.op = .panic x
              · obtain ⟨x, hox⟩ := h3
                rw [hox] at hv
                simp only [oper] at hv
                rcases oPanic_cases (x := x) (T := (σ p).T) (H := (σ p).H) with e | ⟨t, u, _, e⟩ <;> rw [e] at hv <;> cases hv
              · have k := oper_MR (P := P) (call := call) (o := o.op) (fun c e => h2 ⟨c, e⟩) (fun c e => h1 ⟨c, e⟩) (fun x e => h3 ⟨x, e⟩) (T := (σ p).T) (H := (σ p).H)
                rw [hv] at k; exact k
        have I1 := I.toLoud t hN hiL ho hr hl hpm (hqp hc) hc
        rw [oper_restr (ops := ops)] at hv
        refine (oper_wp hC hg hT I.gk I1.hr).2.1 _ _ hv fun d hd => ?_
        refine next (p + 1) ρ _ w (I1.loud t hN hiL ho hr hl hp hc hx ?_ ?_ ?_ ?_)
        · rw [hS']; exact I1.hr
        · rw [hS']; exact .refl _ _ _
        · exact put_defs _ _ _ _
        · rw [hS', Act.defers_put]; exact ⟨hd, I1.dr⟩
      | val ho' hw hv =>
        rename_i v H'
        rw [ho] at ho'; injection ho' with ho'; subst ho'
        rw [I.wanted t hiL ho hr hl hpm hw, if_pos rfl]
        left
        have hve := hval v H' hw hv
        have hH' : (σ (p + 1)).H = H' := by rw [hS']
        cases hc : cls P o.op with
        | bad => exact absurd hc (t.nobad hl ho)
        | pure =>
          rw [oper_restr (ops := ops)] at hv
          obtain ⟨_, x, hx, hrun⟩ := oper_pure hc hg hT I.gk (σ p).H v H' hv
          unfold Oper.wp
          rw [hrun w]
          exact next q ρ _ w (I.quiet t hiL ho hr hl hp (fun _ _ => by rw [hve]; exact hx) (by rw [hc]; simp) fun h => by rw [hc] at h; cases h)
        | read =>
          have hv2 : oper P call o.op (σ p).T (σ p).H = .val (valAt P call ops l σ p) H' := by rw [hve]; exact hv
          obtain ⟨u, ⟨x, hx, hrun⟩, hu⟩ := I.readv t hN hiL ho hr hl hp hc hw hv2
          unfold Oper.wp
          rw [hrun]
          exact next q ρ _ w (I.quiet t hiL ho hr hl hp (fun s hs => by rw [← hu s hs]; exact hx) (by rw [hc]; simp) fun h => by rw [hc] at h; cases h)
        | make =>
          rw [oper_restr (ops := ops)] at hv
          obtain ⟨B, hB, hwr, hmk⟩ := oper_make hc hg hT I.gk hv
          obtain ⟨x, w', obj, lim, hrun, hheap, hos, htp, hout, hden, hblk⟩ := hmk w
          unfold Oper.wp
          rw [hrun]
          exact next q _ _ w' (I.made t hN hiL ho hr hl hp hc hwr (by rw [hH']; exact hB) hheap hos htp hout (fun ρ' h1 h2 => by rw [hve]; exact hden ρ' h1 h2) hblk)
        | loud =>
          have I1 := I.toLoud t hN hiL ho hr hl hpm (hqp hc) hc
          have hmm := t.Hmono (p + 1) m (by omega) (Nat.le_refl _)
          have hfr : Fresh ρ (σ p).H H' := I1.fresh t hN ho hl hc (by rw [← hH']; omega) fun _ => by rw [hH']; exact Nat.le_refl _
          rw [oper_restr (ops := ops)] at hv
          refine (oper_wp hC hg hT I.gk I1.hr).1 v H' hv hfr fun ρ' x w' e1 e2 e3 => ?_
          refine next (p + 1) ρ' _ w' (I1.loud t hN hiL ho hr hl hp hc (by rw [hve]; exact e1) (by rw [hH']; exact e2) (by rw [hH']; exact e3) rfl ?_)
          rw [Act.defers_put]
          have : (σ (p + 1)).D = (σ p).D := by rw [hS']
          rw [this]
          exact I1.dr.mono e3.sub
    · -- the panic
      rcases hfin with ⟨h, _⟩ | ⟨i', o', v, H', hl', ho', hw, hv, rfl, rfl⟩
      · omega
      · rw [hl] at hl'; injection hl' with hl'; injection hl' with e1 _; subst e1
        rw [ho] at ho'; injection ho' with ho'; subst ho'
        rw [I.wanted t hiL ho hr hl hpm hw, if_pos rfl]
        left
        have hc := pan_loud hv
        have I1 := I.toLoud t hN hiL ho hr hl hpm (hqp hc) hc
        have hfr : Fresh ρ (σ p).H H' := I1.fresh t hN ho hl hc (Nat.le_refl _) fun h => by omega
        rw [oper_restr (ops := ops)] at hv
        refine (oper_wp hC hg hT I.gk I1.hr).2.2 v H' hv hfr fun ρ' chain w' e1 e2 e3 => hQ _ _ _ ⟨ρ', e1, ⟨e2, fun s u hu => ?_, I1.dr.mono e3.sub, I.sz, I.gk.mono e3.sub⟩, ?_⟩
        · rw [get_clearD] at hu
          by_cases hex : ∃ o ∈ ops.toList, o.dst = some s
          · rw [if_pos hex] at hu; cases hu
          · rw [if_neg hex] at hu
            have hno : ∀ (j : Nat) (o' : Oper), ops[j]? = some o' → o'.dst ≠ some s := fun j o' hj hd => hex ⟨o', Array.mem_toList_iff.2 (Array.mem_of_getElem? hj), hd⟩
            rw [t.T_old p hpm fun p' j f' o' _ _ h3 => hno j o' h3] at hu
            obtain ⟨y, h1, h2⟩ := I.rest s u hu fun j o' _ hj => hno j o' hj
            exact ⟨y, den_mono e3.sub _ y h1, h2⟩
        · have M := I1.mid
          have hm1 := e3.nx
          refine ⟨M.sub.trans e3.sub, fun b hb => ?_, Nat.le_trans M.nx hm1, Nat.le_trans M.size e3.size, fun c hc' hno => ?_, fun c hc' => ?_, fun b B hb hwB => M.ro b B (e3.ro b B hb hwB) hwB, e3.os.trans M.os, e3.tape.trans M.tape, e3.output.trans M.output⟩
          · have := M.nx
            have hb' : b < (σ p).H.nx ∨ H'.nx ≤ b := by rcases hb with hb | hb; exact .inl (by omega); exact .inr hb
            rw [e3.new b hb']; exact M.new b hb
          · rw [e3.keep c (Nat.lt_of_lt_of_le hc' M.size) (fun h => by rcases M.own c h with h | h; exact hno h; omega)]
            exact M.keep c hc' hno
          · rcases e3.own c hc' with h | h
            · exact M.own c h
            · exact .inr (Nat.le_trans M.size h)
theorem draw_ok (hC : CallOK P call) (hM : MC call) : DrawOK P call := by
  intro nt ops l S e S' ρ a w hops hpl h hR hF Q hQ
  have hok : planOK (digest P ops) (reach (digest P ops) []) l = true := by
    unfold planOf at hpl
    simp only at hpl
    split at hpl
    · rename_i pos _
      cases hb : planOK (digest P ops) (reach (digest P ops) []) pos with
      | true => rw [hb] at hpl; simp at hpl; subst hpl; exact hb
      | false => rw [hb] at hpl; cases hpl
    · cases hpl
  obtain ⟨σ, m, h0, hle, hst, hfin⟩ := drawR_trace l S e S' h
  have t : Tra P call ops l σ m nt := ⟨hok, hst, hle, by
    rcases hfin with ⟨h, _⟩ | ⟨i, o, v, H', hl, _⟩
    · exact .inl h
    · exact .inr ⟨i, true, hl⟩, hops, hM⟩
  have hN : (σ m).H.nx ≤ S'.H.nx := by
    rcases hfin with ⟨_, _, rfl⟩ | ⟨i, o, v, H', _, _, _, hv, _, rfl⟩
    · exact Nat.le_refl _
    · exact oper_mono hM (.inr hv)
  subst h0
  have hno0 : ∀ j, ¬ (Array.replicate ops.size false).getD j false = true := fun j h => by
    simp [Array.getElem?_replicate] at h
    split at h <;> simp at h
  have hno : ∀ j, ¬ Ll l m (Array.replicate ops.size false) j := fun j h => hno0 j h.1
  have hnoY : ∀ j, ¬ Yl l m (Array.replicate ops.size false) j := fun j h => hno0 j h.1
  refine draw_any (ρ0 := ρ) (H0 := (σ 0).H) (w0 := w) hC t hfin hN hQ ops.size _ 0 ρ a w (by simp) (left_rep _ _) ?_
  refine ⟨Nat.zero_le _, fun p i f o h => by omega, fun p i f o _ _ _ _ => hno i, fun j hj => absurd hj (hno j), fun j o k hj => absurd hj (hno j), hR.hr, hR.gk, hR.dr, fun p j f o t hj => absurd hj (hno j), fun t v hv _ => hR.tr t v hv, hR.sz,
    fun p i f o B _ _ _ _ _ hj => absurd hj (hno i), fun b b' pl pl' h1 h2 _ _ _ hb => ?_, fun b h1 h2 h3 => absurd (hF b h1 h2) h3, ⟨.refl ρ, fun _ _ => rfl, Nat.le_refl _, Nat.le_refl _, fun _ _ _ => rfl, fun _ h => .inl h, fun _ _ h _ => h, rfl, rfl, rfl⟩, fun r h => by omega, fun j h => absurd h (hnoY j), fun j o k h => absurd h fun h => h.elim (hno j) (hnoY j)⟩
  rw [hF b h1 h2] at hb; cases hb
end
/-- THE ENGINE IS SOUND. -/
theorem level_ok {P : Program} (hP : progOK P = true) (hfol : P.follows .mixedOrders = true) : ∀ n, CallOK P (callF P n) ∧ MC (callF P n) ∧ MX (exec P n) ∧ ∀ nt c, codeOK P nt c = true → SoundC P nt (exec P n) c
  | 0 => by
    refine ⟨fun f xs H h => absurd rfl h, fun f xs H => trivial, fun c S e S' h => ?_, fun nt c _ S e S' ρ a w Q h => ?_⟩
    · cases h
    · cases h
  | n + 1 => by
    obtain ⟨h1, h2, h3, h4⟩ := level_ok hP hfol n
    have g1 := callB_ok hP h1 h2 h3 h4
    have g2 := callB_mono (P := P) h2 h3
    exact ⟨g1, g2, stepC_mono g2 h3, fun nt c hc => stepC_wp g1 g2 (draw_ok g1 g2) hfol h3 (h4 nt) c hc⟩
end Eng
end Go.Proofs.YtlajkdbpmkodpaaGreatDoor
