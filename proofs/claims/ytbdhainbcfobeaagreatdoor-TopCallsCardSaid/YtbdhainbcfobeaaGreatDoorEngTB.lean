/-
  THE ENGINE, part TB: a law whose first steps make some few slots out of its arguments: the rest is run from these.
-/
import Derived.Test.YtbdhainbcfobeaaGreatDoorEngTA
namespace Go.Proofs.YtbdhainbcfobeaaGreatDoor
namespace Eng
open Go
variable {P : Program}

theorem Rep.sub {F : Fr} {T T' : Tm} (h : Rep F T) (s : ∀ t v, T.get (bits t) = some v → T'.get (bits t) = some v) : Rep F T' := by
  obtain ⟨p, hF, hp⟩ := h
  exact ⟨p, hF, fun t v ht hv => s t v (hp t v ht hv)⟩
noncomputable def isTT (v : AV) : Ans := boolK v fun b => ifK b .yes .no
theorem isTT_yes {v : AV} (h : isTT v = .yes) : v = .bool true := by
  simp only [isTT, boolK_yes] at h
  obtain ⟨b, rfl, h⟩ := h
  cases b
  · cases h
  · rfl
noncomputable def setsF (l : List (Nat × AV)) : Fr → (Fr → Ans) → Ans := List.rec (motive := fun _ => Fr → (Fr → Ans) → Ans) (fun T k => k T) (fun p _ ih T k => runB (tmpS p.1) p.2 T fun T => ih T k) l
def setsT : List (Nat × AV) → Tm → Tm
  | [], T => T
  | p :: l, T => setsT l (T.set (bits p.1) (some p.2))
theorem setsF_ok : ∀ (l : List (Nat × AV)) {F : Fr} {T : Tm}, Rep F T → ∀ {k : Fr → Ans}, setsF l F k = .yes → ∃ F', Rep F' (setsT l T) ∧ k F' = .yes
  | [], F, T, hR, k, h => ⟨F, hR, h⟩
  | (t, v) :: l, F, T, hR, k, h => by
    have h : runB (tmpS t) v F (fun T => setsF l T k) = .yes := h
    obtain ⟨F1, h1, h⟩ := tmpS_ok hR t v h
    exact setsF_ok l h1 h
/-- the rest of a law's run, from some slots on: it answers true -/
noncomputable def restK (P : Program) (N : Nat) (c : Code) (rs : List ResultVar) (S : List (Nat × AV)) (B : Bl) (n : Nat) : Ans :=
  setsF S fr0 fun T => runB (codeC c P) (exF P N) (callK P (exF P N)) T B n [] fun e T B n D => endE e (dfsF P (exF P (Nat.succ N)) D B n fun B _ => runB (resC P rs) T B fun l => oneF l isTT)
theorem restK_ok {N : Nat} {f : FuncId} {fn : Func} {c r : Code} (hf : P.funcs[f]? = some fn) (hb : fn.body = some c) {xs : List AV} {H : Heap} {S : List (Nat × AV)} {T1 : Tm}
    (hpre : ∀ cf ih, stepC P cf ih c ⟨layT .lf 0 xs, H, []⟩ = stepC P cf ih r ⟨T1, H, []⟩) (hS : ∀ t v, (setsT S .lf).get (bits t) = some v → T1.get (bits t) = some v)
    (h : restK P N r fn.results.toList S H.bl H.nx = .yes) : ∃ H', callF P (N + 2) f xs H = .ret (.bool true) H' := by
  obtain ⟨F, hR, h⟩ := setsF_ok S (Rep.fr0 .lf) h
  have hR := hR.sub hS
  obtain ⟨e, F', S', h1, hR', h⟩ := codeC_ok (exF_ok N) (run_ok N) r hR h
  rw [endE_yes] at h
  obtain ⟨he, h⟩ := h
  obtain ⟨H', h2, h⟩ := dfsF_ok (exF_ok (N + 1)) (c := callF P (N + 1)) _ h
  obtain ⟨vs, hvs, h⟩ := resC_ok hR' _ h
  obtain ⟨v, hv, hk⟩ := resA_of hvs
  rw [hk] at h
  have hv1 := isTT_yes h
  subst hv1
  refine ⟨H', ?_⟩
  have hl : leave P (callF P (N + 1)) (exec P (N + 1)) fn .ret S' = .ret (.bool true) H' := by
    unfold leave
    cases hD : S'.D with
    | nil =>
      rw [hD] at h2
      have h2 : some (Md.ret, S'.H) = some (.ret, H') := h2
      injection h2 with h2
      injection h2 with _ h2
      subst h2
      simp only [hv]
    | cons d ds =>
      rw [hD] at h2
      have h2 : runDefers P (callF P (N + 1)) (exec P (N + 1)) (d :: ds) .ret S'.H = some (.ret, H') := h2
      simp only [h2, hv]
  have hx : exec P (N + 1) c ⟨layT .lf 0 xs, H, []⟩ = .ok e S' := (hpre (callF P (N + 1)) (exec P N)).trans h1
  show callB P (callF P (N + 1)) (exec P (N + 1)) f xs H = _
  simp only [callB, hf, hb, argsT_eq, hx]
  rcases he with rfl | rfl
  · exact hl
  · exact hl

/-! ### first steps -/
def view (l : List Oper) : List (Option Tmp × Op) := l.map fun o => (o.dst, o.op)
def bareG (l : List Oper) : Bool := l.all fun o => match o.guard with | none => true | some _ => false
def runV (P : Program) (call : CallF) : List (Option Tmp × Op) → St → Res
  | [], S => .ok .normal S
  | (d, o) :: l, S => after d S (runV P call l) (oper P call o S.T S.H)
theorem opsR_view {call : CallF} {ops : Array Oper} : ∀ (l : List Oper), bareG l = true → ∀ S, opsR P call ops l S = runV P call (view l) S
  | [], _, S => rfl
  | o :: l, h, S => by
    simp only [bareG, List.all_cons, Bool.and_eq_true] at h
    have hg : o.guard = none := by
      cases hg : o.guard with
      | none => rfl
      | some g => rw [hg] at h; cases h.1
    have e : opsR P call ops l = runV P call (view l) := funext (opsR_view l h.2)
    simp only [opsR, oneOp, hg, want, view, List.map_cons, runV]
    rw [e]
    rfl
/-- the first two regions, and what follows -/
def pre2 (c : Code) : Option (List Oper × List Oper × Code) := match c with
  | .seq (.region _ a false) (.seq (.region _ b false) r) => some (a.toList, b.toList, r)
  | _ => none
theorem pre2_ok {c r : Code} {a b : List Oper} (h : pre2 c = some (a, b, r)) (ha : bareG a = true) (hb : bareG b = true) {cf : CallF} {ih : ExF} {S S1 S2 : St}
    (h1 : runV P cf (view a) S = .ok .normal S1) (h2 : runV P cf (view b) S1 = .ok .normal S2) : stepC P cf ih c S = stepC P cf ih r S2 := by
  unfold pre2 at h
  split at h
  · injection h with h
    injection h with e1 h
    injection h with e2 e3
    subst e1 e2 e3
    simp only [stepC, regionR]
    rw [opsR_view _ ha, h1]
    simp only [seqK, stepC, regionR]
    rw [opsR_view _ hb, h2]
  · cases h

/-! ### the variables that are laid -/
theorem laid_get {w : World} : ∀ {laid : List (String × DataW Unit)} {ps : List MemPlace}, DataW.LaidVars P w laid ps → ∀ x ∈ laid,
    ∃ g t cs fuel p, P.globalNamed x.1 = some g ∧ (P.globals[g]?).map (·.type) = some t ∧ w.var? P x.1 = some cs ∧ DataW.trod (fun _ => ()) P w 0 (fun _ => true) false fuel t cs.toList = some (x.2, p)
  | [], _, _, x, hx => by cases hx
  | (n, d) :: r, ps, h, x, hx => by
    obtain ⟨g, t, cs, fuel, p, q, h1, h2, h3, h4, h5, _⟩ := h
    rcases List.mem_cons.1 hx with rfl | hx
    · exact ⟨g, t, cs, fuel, p, h1, h2, h3, h4⟩
    · exact laid_get h5 x hx
theorem laid_one {w : World} {laid : List (String × DataW Unit)} {ps : List MemPlace} (h : DataW.LaidVars P w laid ps) {x : String × DataW Unit} (hx : x ∈ laid) {g t : Nat} {l : List AV}
    (hg : P.globalNamed x.1 = some g) (ht : (P.globals[g]?).map (·.type) = some t) (hl : flatD P 8 t x.2 = some l) (ρ : Rho) : ∃ c e fz, w.heap[g]? = some (.cells c e fz) ∧ DL ρ l c.toList := by
  obtain ⟨g', t', cs, fuel, p, h1, h2, h3, h4⟩ := laid_get h x hx
  rw [hg] at h1
  injection h1 with h1
  subst h1
  rw [ht] at h2
  injection h2 with h2
  subst h2
  simp only [World.var?, hg, Option.bind_some] at h3
  split at h3
  · rename_i c e fz hc
    injection h3 with h3
    subst h3
    exact ⟨_, _, _, hc, flatD_ok 8 t x.2 l hl _ _ _ h4⟩
  · cases h3
end Eng
end Go.Proofs.YtbdhainbcfobeaaGreatDoor
