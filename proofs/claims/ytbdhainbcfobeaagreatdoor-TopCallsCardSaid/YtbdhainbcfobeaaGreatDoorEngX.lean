/-
  THE ENGINE, part X: deferred calls run; a call of the engine says what the model's call does.
-/
import Derived.Test.YtbdhainbcfobeaaGreatDoorEngW
namespace Go.Proofs.YtbdhainbcfobeaaGreatDoor
namespace Eng
open Go
section
variable {P : Program}

def fnOK (P : Program) (fn : Func) : Bool := match fn.body with
  | none => true
  | some c => codeOK P fn.ntmps c && !(fn.name == "runtime.NumGoroutine")
def progOK (P : Program) : Bool := P.funcs.toList.all (fnOK P)
theorem progOK.fn (h : progOK P = true) {f : FuncId} {fn : Func} {c : Code} (hf : P.funcs[f]? = some fn) (hb : fn.body = some c) : codeOK P fn.ntmps c = true ∧ fn.name ≠ "runtime.NumGoroutine" := by
  have hm : fn ∈ P.funcs.toList := Array.mem_toList_iff.2 (Array.mem_of_getElem? hf)
  have := List.all_eq_true.1 h fn hm
  simp only [fnOK, hb, Bool.and_eq_true, Bool.not_eq_true', beq_eq_false_iff_ne] at this
  exact this
theorem callFunc_run (h : progOK P = true) {f : FuncId} {fn : Func} {c : Code} (hf : P.funcs[f]? = some fn) (hb : fn.body = some c) (args : Array Value) (w : World) : (callFunc f args).run P w = .ok (.enter f args) w := by
  have hn := (progOK.fn h hf hb).2
  simp [callFunc, hf, hn, hb]
theorem init_rel {ρ : Rho} {H : Heap} {w : World} {xs : List AV} {args : Array Value} (hm : DL ρ xs args.toList) (hH : HR ρ H w) (hG : GOK P ρ) (nt : Nat) :
    Rel P nt ρ ⟨layT .lf 0 xs, H, []⟩ { tmps := args ++ Array.replicate (nt - args.size) undef, defers := [] } w := by
  refine ⟨hH, fun i v hv => ?_, trivial, by simp; omega, hG⟩
  rw [get_layT, Tr.get_lf] at hv
  have hl := hm.length
  simp at hl
  by_cases hi : 0 ≤ i ∧ i < 0 + xs.length
  · rw [if_pos hi] at hv
    obtain ⟨x, h1, h2⟩ := hm.get (i := i) (by simpa using hv)
    refine ⟨x, h2, ?_⟩
    rw [Array.getElem?_append_left (by omega)]
    simpa using h1
  · rw [if_neg hi] at hv; cases hv

theorem drop_all : ∀ {l : List PanicEntry}, (∀ e ∈ l, e.goexit = false) → l.dropWhile (fun e => !e.goexit) = []
  | [], _ => rfl
  | e :: l, h => by
    rw [List.dropWhile_cons, h e (by simp)]
    exact drop_all fun e he => h e (by simp [he])
theorem settle_ok {ρ : Rho} {u : Up} {m : FrameMode} (h : UpR ρ u m) : UpR ρ (upOf (mdOf u)) (settle m) := by
  cases u with
  | none => cases m <;> first | exact h | exact h.elim
  | pan v =>
    cases m <;> first | exact h.elim | skip
    obtain ⟨x, older, h1, rfl, h2⟩ := h
    exact ⟨x, older, h1, rfl, h2⟩
  | done v =>
    cases m <;> first | exact h.elim | skip
    obtain ⟨x, older, rfl, h2⟩ := h
    have := drop_all h2
    show UpR ρ .none (settle _)
    unfold settle
    simp only [this]
    trivial
theorem raised_ok {ρ : Rho} {u : Up} {m : FrameMode} (h : UpR ρ u m) {v : AV} {chain : List PanicEntry} (hc : ChainR ρ v chain) : UpR ρ (.pan v) (raised m chain) := by
  obtain ⟨x, older, h1, rfl, h2⟩ := hc
  have all : ∀ old : List PanicEntry, (∀ e ∈ old, e.goexit = false) → UpR ρ (.pan v) (.panicking ({ v := x, recovered := false, goexit := false } :: older ++ old)) := fun old ho =>
    ⟨x, older ++ old, h1, by simp, fun e he => by rcases List.mem_append.1 he with he | he; exact h2 e he; exact ho e he⟩
  cases u with
  | none =>
    cases m <;> first | exact h.elim | skip
    have := all [] (by simp)
    simpa [raised] using this
  | pan v' =>
    cases m <;> first | exact h.elim | skip
    obtain ⟨y, old, _, rfl, h4⟩ := h
    exact all _ fun e he => by rcases List.mem_cons.1 he with rfl | he; rfl; exact h4 e he
  | done v' =>
    cases m <;> first | exact h.elim | skip
    obtain ⟨y, old, rfl, h4⟩ := h
    exact all _ fun e he => by rcases List.mem_cons.1 he with rfl | he; rfl; exact h4 e he

theorem runDefers_cons {call : CallF} {ex : ExF} {f : FuncId} {xs : List AV} {ds : List (FuncId × List AV)} {m m' : Md} {H H' : Heap} (h : runDefers P call ex ((f, xs) :: ds) m H = some (m', H')) :
    ∃ fn c S u e, P.funcs[f]? = some fn ∧ fn.body = some c ∧ execD P call ex c ⟨layT .lf 0 xs, H, []⟩ (upOf m) = .ok e S u ∧ S.D = [] ∧
      ((∃ v, e = .panic v ∧ runDefers P call ex ds (.pan v) S.H = some (m', H')) ∨
       ((e = .normal ∨ e = .ret) ∧ (∃ v, resA P fn S.T S.H = some v) ∧ runDefers P call ex ds (mdOf u) S.H = some (m', H'))) := by
  simp only [runDefers, argsT_eq] at h
  split at h
  · rename_i fn hf
    split at h
    · rename_i c hb
      have emp : ∀ {α : Type} {l : List α}, l.isEmpty = true → l = [] := fun h => List.isEmpty_iff.1 h
      split at h
      · rename_i v S u hx
        obtain ⟨hD, h⟩ := cond_some h (by simp)
        exact ⟨fn, c, S, u, _, hf, hb, hx, emp hD, .inl ⟨v, rfl, h⟩⟩
      · rename_i S u hx
        obtain ⟨hD, h⟩ := cond_some h (by simp)
        rw [Bool.and_eq_true] at hD
        obtain ⟨r, hr⟩ := Option.isSome_iff_exists.1 hD.2
        exact ⟨fn, c, S, u, _, hf, hb, hx, emp hD.1, .inr ⟨.inl rfl, ⟨r, hr⟩, h⟩⟩
      · rename_i S u hx
        obtain ⟨hD, h⟩ := cond_some h (by simp)
        rw [Bool.and_eq_true] at hD
        obtain ⟨r, hr⟩ := Option.isSome_iff_exists.1 hD.2
        exact ⟨fn, c, S, u, _, hf, hb, hx, emp hD.1, .inr ⟨.inr rfl, ⟨r, hr⟩, h⟩⟩
      · cases h
    · cases h
  · cases h
theorem runDefers_mono {call : CallF} (hM : MC call) {ex : ExF} (hX : MX ex) : ∀ (ds : List (FuncId × List AV)) (m m' : Md) (H H' : Heap), runDefers P call ex ds m H = some (m', H') → H.nx ≤ H'.nx
  | [], m, m', H, H', h => by simp only [runDefers] at h; injection h with h; injection h with h1 h2; rw [h2]; exact Nat.le_refl _
  | (f, xs) :: ds, m, m', H, H', h => by
    obtain ⟨fn, c, S, u, e, hf, hb, hx, hD, hr⟩ := runDefers_cons h
    have h1 := execD_mono hM hX _ _ _ _ _ _ hx
    have h2 : S.H.nx ≤ H'.nx := by
      rcases hr with ⟨v, _, hr⟩ | ⟨_, _, hr⟩
      · exact runDefers_mono hM hX ds _ _ _ _ hr
      · exact runDefers_mono hM hX ds _ _ _ _ hr
    exact Nat.le_trans h1 h2
theorem leaves_ok (hP : progOK P = true) {call : CallF} (hC : CallOK P call) (hM : MC call) {ex : ExF} (hX : MX ex) (hI : ∀ nt c, codeOK P nt c = true → SoundC P nt ex c) {fn₀ : Func} {tmps : Array Value} {R : Ending → World → Prop} :
    ∀ (ds : List (FuncId × List AV)) (X : List Deferred) (m m' : Md) (H H' : Heap) (ρ : Rho) (u : FrameMode) (w : World), runDefers P call ex ds m H = some (m', H') → DR ρ ds X → UpR ρ (upOf m) u → HR ρ H w → GOK P ρ → Fresh ρ H H' →
    (∀ ρ' u' w', UpR ρ' (upOf m') u' → HR ρ' H' w' → Ext ρ H w ρ' H' w' → Leaves P fn₀ tmps R [] u' w') → Leaves P fn₀ tmps R X u w
  | [], [], m, m', H, H', ρ, u, w, h, _, hU, hH, hG, hF, hfin => by
    simp only [runDefers] at h
    injection h with h; injection h with h1 h2; subst h1; subst h2
    exact hfin ρ u w hU hH (.refl _ _ _)
  | [], _ :: _, m, m', H, H', ρ, u, w, h, hD, _, _, _, _, _ => hD.elim
  | _ :: _, [], m, m', H, H', ρ, u, w, h, hD, _, _, _, _, _ => hD.elim
  | (f, xs) :: ds, x :: X, m, m', H, H', ρ, u, w, h, hDR, hU, hH, hG, hF, hfin => by
    obtain ⟨fn, c, S, up, e, hf, hb, hx, hD, hr⟩ := runDefers_cons h
    obtain ⟨⟨cap, ht, hargs⟩, hDR⟩ := hDR
    obtain ⟨tg, dargs⟩ := x
    simp only at ht hargs
    subst ht
    have hcode := (progOK.fn hP hf hb).1
    have hne : u ≠ .run := by intro e; subst e; cases m <;> exact hU
    refine leaves_cons (f := f) (args := dargs ++ cap) hne (by simp only [invoke]; exact callFunc_run hP hf hb _ w) ?_
    have hSH : S.H.nx ≤ H'.nx := by
      rcases hr with ⟨v, _, hr⟩ | ⟨_, _, hr⟩ <;> exact runDefers_mono hM hX ds _ _ _ _ hr
    refine callsD_of_wpS hf hb fun c₀ cs hc₀ => ?_
    have hc₁ : c₀ = { c₀ with mode := u } := by rw [← hc₀]
    rw [hc₁]
    refine execD_wp hC hM hX (hI _) c₀ cs c hcode _ _ _ _ _ ρ _ u w _ hx (init_rel hargs hH hG fn.ntmps) hU (hF.left hSH) fun y a' cs' w' hp => ?_
    obtain ⟨ρ', um, e1, e2, e3, e4, rfl⟩ := hp
    have hdef : a'.defers = [] := by
      have := e2.dr
      rw [hD] at this
      cases hd : a'.defers with
      | nil => rfl
      | cons _ _ => rw [hd] at this; exact this.elim
    have go : ∀ m2 u2, runDefers P call ex ds m2 S.H = some (m', H') → UpR ρ' (upOf m2) u2 → Leaves P fn₀ tmps R X u2 w' := fun m2 u2 hr2 hu2 =>
      leaves_ok hP hC hM hX hI ds X m2 m' S.H H' ρ' u2 w' hr2 (hDR.mono e3.sub) hu2 e2.hr e2.gk (hF.right e3) fun ρ2 u3 w3 q1 q2 q3 => hfin ρ2 u3 w3 q1 q2 (e3.trans q3)
    have two : (e = .normal ∨ e = .ret) → (∃ v, resA P fn S.T S.H = some v) → runDefers P call ex ds (mdOf up) S.H = some (m', H') → a'.defers = [] ∧ ∃ u', ({ { c₀ with mode := u } with mode := um } :: cs : List Frame) = { { c₀ with mode := u } with mode := u' } :: cs ∧ ∃ v, (results fn a'.tmps).run P w' = .ok v w' ∧ Leaves P fn₀ tmps R X (settle u') w' := by
      rintro _ ⟨v, hv⟩ hr
      obtain ⟨z, _, hz⟩ := resA_run e2.hr e2.tr hv
      exact ⟨hdef, um, rfl, z, hz, go _ _ hr (settle_ok e4)⟩
    rcases hr with ⟨v, rfl, hr⟩ | ⟨he, hv, hr⟩
    · cases y <;> first | exact e1.elim | skip
      exact ⟨hdef, um, rfl, go _ _ hr (raised_ok e4 e1)⟩
    · rcases he with rfl | rfl
      · cases y <;> first | exact e1.elim | skip
        exact two (.inl rfl) hv hr
      · cases y <;> first | exact e1.elim | skip
        exact two (.inr rfl) hv hr

/-! ### a call -/
theorem callB_cases {call : CallF} {ex : ExF} {f : FuncId} {xs : List AV} {H : Heap} {r : CR} (h : callB P call ex f xs H = r) (hr : r ≠ .bad) :
    ∃ fn c e S m, P.funcs[f]? = some fn ∧ fn.body = some c ∧ ex c ⟨layT .lf 0 xs, H, []⟩ = .ok e S ∧ ((e = .normal ∧ m = .ret) ∨ (e = .ret ∧ m = .ret) ∨ ∃ v, e = .panic v ∧ m = .pan v) ∧
      ∃ m' H', runDefers P call ex S.D m S.H = some (m', H') ∧ ((∃ v, m' = .ret ∧ resA P fn S.T H' = some v ∧ r = .ret v H') ∨ (∃ v, m' = .pan v ∧ r = .pan v H')) := by
  simp only [callB, argsT_eq] at h
  have lv : ∀ fn m S, leave P call ex fn m S = r → ∃ m' H', runDefers P call ex S.D m S.H = some (m', H') ∧ ((∃ v, m' = .ret ∧ resA P fn S.T H' = some v ∧ r = .ret v H') ∨ (∃ v, m' = .pan v ∧ r = .pan v H')) := by
    intro fn m S h
    unfold leave at h
    split at h
    · rename_i hD
      rw [hD]
      refine ⟨m, S.H, rfl, ?_⟩
      cases m with
      | ret =>
        simp only at h
        split at h
        · rename_i v hv; exact .inl ⟨v, rfl, hv, h.symm⟩
        · exact absurd h.symm hr
      | pan v => exact .inr ⟨v, rfl, h.symm⟩
    · split at h
      · rename_i H' hrun
        split at h
        · rename_i v hv; exact ⟨_, H', hrun, .inl ⟨v, rfl, hv, h.symm⟩⟩
        · exact absurd h.symm hr
      · rename_i v H' hrun; exact ⟨_, H', hrun, .inr ⟨v, rfl, h.symm⟩⟩
      · exact absurd h.symm hr
  split at h
  · rename_i fn hf
    split at h
    · rename_i c hb
      split at h
      · rename_i S hx; exact ⟨fn, c, _, S, .ret, hf, hb, hx, .inl ⟨rfl, rfl⟩, lv _ _ _ h⟩
      · rename_i S hx; exact ⟨fn, c, _, S, .ret, hf, hb, hx, .inr (.inl ⟨rfl, rfl⟩), lv _ _ _ h⟩
      · rename_i v S hx; exact ⟨fn, c, _, S, .pan v, hf, hb, hx, .inr (.inr ⟨v, rfl, rfl⟩), lv _ _ _ h⟩
      · exact absurd h.symm hr
    · exact absurd h.symm hr
  · exact absurd h.symm hr
theorem callB_mono {call : CallF} (hM : MC call) {ex : ExF} (hX : MX ex) : MC (callB P call ex) := by
  intro f xs H
  cases hr : callB P call ex f xs H with
  | bad => trivial
  | ret v H' =>
    obtain ⟨fn, c, e, S, m, _, _, hx, _, m', H2, hrun, hres⟩ := callB_cases hr (by simp)
    have h1 := hX _ _ _ _ hx
    have h2 := runDefers_mono hM hX _ _ _ _ _ hrun
    rcases hres with ⟨v', _, _, e⟩ | ⟨v', _, e⟩
    · injection e with _ e; subst e; exact Nat.le_trans h1 h2
    · cases e
  | pan v H' =>
    obtain ⟨fn, c, e, S, m, _, _, hx, _, m', H2, hrun, hres⟩ := callB_cases hr (by simp)
    have h1 := hX _ _ _ _ hx
    have h2 := runDefers_mono hM hX _ _ _ _ _ hrun
    rcases hres with ⟨v', _, _, e⟩ | ⟨v', _, e⟩
    · cases e
    · injection e with _ e; subst e; exact Nat.le_trans h1 h2
theorem callB_ok (hP : progOK P = true) {call : CallF} (hC : CallOK P call) (hM : MC call) {ex : ExF} (hX : MX ex) (hI : ∀ nt c, codeOK P nt c = true → SoundC P nt ex c) : CallOK P (callB P call ex) := by
  intro f xs H hne
  obtain ⟨fn, c, e, S, m, hf, hb, hx, hem, m', H2, hrun, hres⟩ := callB_cases rfl hne
  refine ⟨fun args w => callFunc_run hP hf hb args w, fun ρ w args hm hH hG hF => ?_⟩
  generalize callB P call ex f xs H = r at *
  have hF2 : Fresh ρ H H2 := by
    rcases hres with ⟨v, _, _, e⟩ | ⟨v, _, e⟩
    · exact hF v H2 (.inl e)
    · exact hF v H2 (.inr e)
  have hSH := runDefers_mono hM hX _ _ _ _ _ hrun
  refine calls_of_wp_defers hf hb ?_
  refine wpX_wp (hI fn.ntmps c (progOK.fn hP hf hb).1 _ e S ρ _ w _ hx (init_rel hm hH hG fn.ntmps) (hF2.left hSH) fun y a' w' hp => ?_)
  obtain ⟨ρ', e1, e2, e3⟩ := hp
  have fin : ∀ u, UpR ρ' (upOf m) u → Leaves P fn a'.tmps (CPost ρ H w r) a'.defers u w' := fun u hu =>
    leaves_ok hP hC hM hX hI S.D a'.defers m m' S.H H2 ρ' u w' hrun e2.dr hu e2.hr e2.gk (hF2.right e3) fun ρ2 u2 w2 q1 q2 q3 => by
      rcases hres with ⟨v, rfl, hv, rfl⟩ | ⟨v, rfl, rfl⟩
      · cases u2 <;> first | exact q1.elim | skip
        obtain ⟨z, hz1, hz2⟩ := resA_run q2 (e2.tr.mono q3.sub) hv
        exact ⟨z, hz2, v, H2, ρ2, rfl, hz1, q2, e3.trans q3⟩
      · cases u2 <;> first | exact q1.elim | skip
        exact ⟨v, H2, ρ2, rfl, q1, q2, e3.trans q3⟩
  rcases hem with ⟨rfl, rfl⟩ | ⟨rfl, rfl⟩ | ⟨v, rfl, rfl⟩
  · cases y <;> first | exact e1.elim | skip
    exact fin _ trivial
  · cases y <;> first | exact e1.elim | skip
    exact fin _ trivial
  · cases y <;> first | exact e1.elim | skip
    exact fin _ e1
end
end Eng
end Go.Proofs.YtbdhainbcfobeaaGreatDoor
