/-
  THE ENGINE, part TA: from a run of the engine to what the model's call does; the variables that are laid.
-/
import Derived.Test.YtlajkdbpmkodpaaGreatDoorCore6
import Derived.OpenShut
import Derived.FnData
import GoSem.ClaimJoined
import Derived.Lib.Bytealg
namespace Go.Proofs.YtlajkdbpmkodpaaGreatDoor
namespace Eng
open Go
variable {P : Program}

/-! ### a run's meaning -/
theorem contract_of_run (hP : progOK P = true) (hfol : P.follows .mixedOrders = true) {n : Nat} {f : FuncId} {xs : List AV} {H H' : Heap} {v : AV} (hrun : callF P n f xs H = .ret v H')
    {ρ : Rho} {W : World} {args : Array Value} (hm : DL ρ xs args.toList) (hH : HR ρ H W) (hG : GOK P ρ) (hnew : ∀ b, H.nx ≤ b → ρ b = none) (hro : ∀ b B, getB H b = some B → ¬ wr B) {x : Value} (hx : ∀ ρ', den ρ' v = some x) :
    Calls P f args W fun e W' => e = .returned x ∧ W.keptBut W' (fun _ => False) := by
  have hbad : callF P n f xs H ≠ .bad := by rw [hrun]; intro h; cases h
  have := ((level_ok hP hfol n).1 f xs H hbad).2 ρ W args hm hH hG (fun v H' _ b hb _ => hnew b hb)
  refine this.mono fun e W' hp => ?_
  rw [hrun] at hp
  cases e with
  | returned y =>
    obtain ⟨v', H2, ρ', hr, hd, hHR, hE⟩ := hp
    injection hr with h1 h2
    subst h1 h2
    rw [hx ρ'] at hd
    injection hd with hd
    subst hd
    refine ⟨rfl, hE.os, hE.output, fun i hi => ?_⟩
    have hk := hE.keep i hi (fun ⟨b, B, p, hB, hp, hc, hw⟩ => hro b B hB hw)
    rw [hk]
    cases hc : W.heap[i]? with
    | none => rfl
    | some o =>
      cases o with
      | cells c t fr => exact ⟨rfl, rfl, rfl, fun _ _ => rfl⟩
      | map es k => exact .inr ⟨rfl, rfl⟩
      | _ => rfl
  | panicked ch =>
    obtain ⟨v', H2, ρ', hr, _⟩ := hp
    cases hr
  | outgrown => exact hp.elim

/-! ### flat data -/
def catA (f : DataW Unit → Option (List AV)) (z : Nat) : List (DataW Unit) → Option (List AV)
  | [] => some []
  | d :: ds => match f d, catA f z ds with
    | some l, some r => if l.length = z then some (l ++ r) else none
    | _, _ => none
def catS (P : Program) (f : TypeId → DataW Unit → Option (List AV)) : Nat → List Field → List (DataW Unit) → Option (List AV)
  | _, [], [] => some []
  | off, x :: fs, d :: ds => match f x.type d, catS P f (off + P.cellsOf x.type) fs ds with
    | some l, some r => if x.offset = off ∧ l.length = P.cellsOf x.type then some (l ++ r) else none
    | _, _ => none
  | _, _, _ => none
def flatD (P : Program) : Nat → TypeId → DataW Unit → Option (List AV)
  | 0, _, _ => none
  | n + 1, t, d => match P.underlying t, d with
    | some .bool, .lit (.bool b) => some [.bool b]
    | some (.int k), .lit (.int _ z) => some [.int k z]
    | some .string, .lit (.string bs) => some [.str bs.length (packL bs)]
    | some (.array m e), .agg ds => if P.cellsOf t = m * P.cellsOf e then catA (flatD P n e) (P.cellsOf e) ds else none
    | some (.struct fs), .agg ds => match catS P (flatD P n) 0 fs.toList ds with
      | some l => if l.length = P.cellsOf t then some l else none
      | none => none
    | _, _ => none
theorem take_drop_succ {α : Type} (cs : List α) (i z : Nat) : (cs.drop ((i + 1) * z)).take z = ((cs.drop z).drop (i * z)).take z := by
  rw [List.drop_drop]
  congr 2
  rw [Nat.add_mul, Nat.one_mul, Nat.add_comm]
theorem catA_ok {ρ : Rho} {f : DataW Unit → Option (List AV)} {z : Nat} : ∀ (ds : List (DataW Unit)) (l : List AV) (cs : List Value), catA f z ds = some l → cs.length = ds.length * z →
    (∀ (i : Nat) d l, ds[i]? = some d → f d = some l → DL ρ l ((cs.drop (i * z)).take z)) → DL ρ l cs
  | [], l, cs, h, hl, _ => by
    injection h with h
    subst h
    have : cs = [] := List.length_eq_zero_iff.1 (by simpa using hl)
    subst this
    exact .nil
  | d :: ds, l, cs, h, hl, hd => by
    simp only [catA] at h
    split at h
    · rename_i l0 r h0 hr
      split at h
      · rename_i hz
        injection h with h
        subst h
        have h1 := hd 0 d l0 rfl h0
        simp only [Nat.zero_mul, List.drop_zero] at h1
        have h2 := catA_ok ds r (cs.drop z) hr (by rw [List.length_drop, hl, List.length_cons, Nat.add_mul]; omega) (fun i d l hi hf => by
          rw [← take_drop_succ]
          exact hd (i + 1) d l (by simpa using hi) hf)
        have := h1.append h2
        rwa [List.take_append_drop] at this
      · cases h
    · cases h
theorem catS_ok {ρ : Rho} {f : TypeId → DataW Unit → Option (List AV)} {cs : List Value} : ∀ (fs : List Field) (ds : List (DataW Unit)) (off : Nat) (l : List AV), catS P f off fs ds = some l → cs.length = off + l.length →
    (∀ (i : Nat) (x : Field) d l, fs[i]? = some x → ds[i]? = some d → f x.type d = some l → DL ρ l ((cs.drop x.offset).take (P.cellsOf x.type))) → DL ρ l (cs.drop off)
  | [], [], off, l, h, hl, _ => by
    injection h with h
    subst h
    rw [List.drop_eq_nil_of_le (by simp at hl; omega)]
    exact .nil
  | [], _ :: _, _, _, h, _, _ => by cases h
  | _ :: _, [], _, _, h, _, _ => by cases h
  | x :: fs, d :: ds, off, l, h, hl, hd => by
    simp only [catS] at h
    split at h
    · rename_i l0 r h0 hr
      split at h
      · rename_i hz
        injection h with h
        subst h
        have h1 := hd 0 x d l0 rfl rfl h0
        rw [hz.1] at h1
        rw [List.length_append] at hl
        have h2 := catS_ok fs ds _ r hr (by omega) (fun i x d l hi hj hf => hd (i + 1) x d l (by simpa using hi) (by simpa using hj) hf)
        have := h1.append h2
        rw [← List.drop_drop, List.take_append_drop] at this
        exact this
      · cases h
    · cases h
theorem flatD_ok {ρ : Rho} {w : World} {base : Nat} {sp : Nat → Bool} {held : Bool} : ∀ (n : Nat) (t : TypeId) (d : DataW Unit) (l : List AV), flatD P n t d = some l →
    ∀ (fuel : Nat) (cs : List Value) (ps : List MemPlace), DataW.trod (fun _ => ()) P w base sp held fuel t cs = some (d, ps) → DL ρ l cs
  | 0, _, _, _, h, _, _, _, _ => by cases h
  | n + 1, t, d, l, h, fuel, cs, ps, ht => by
    simp only [flatD] at h
    split at h
    · rename_i b hu
      obtain ⟨c, rfl, hx⟩ := DataW.trod_bool hu ht
      injection hx with hx _
      injection h with h
      cases hx; subst h
      exact .cons rfl .nil
    · rename_i k j z hu
      obtain ⟨c, rfl, hx, _⟩ := DataW.trod_int hu ht
      injection hx with hx _
      injection h with h
      cases hx; subst h
      exact .cons rfl .nil
    · rename_i bs hu
      obtain ⟨c, rfl, hx, _⟩ := DataW.trod_string hu ht
      injection hx with hx _
      injection h with h
      cases hx; subst h
      have : unpack c.data.toList.length (packL c.data.toList) = c := by
        have h := unpack_pack c
        have e : c.size = c.data.toList.length := Array.length_toList.symm
        rw [e] at h
        exact h
      exact .cons (show den ρ (.str c.data.toList.length (packL c.data.toList)) = some (.string c) by rw [den, this]) .nil
    · rename_i m e ds hu
      split at h
      · rename_i hz
        obtain ⟨xs, k, rfl, hx, hlen, hm, hel⟩ := DataW.trod_array hu ht
        injection hx with hx _
        injection hx with hx
        subst hx
        refine catA_ok _ _ _ h (by rw [hlen, hz, List.length_map, hm]) (fun i d l hi hf => ?_)
        rw [List.getElem?_map] at hi
        cases hxi : xs[i]? with
        | none => rw [hxi] at hi; cases hi
        | some y =>
          rw [hxi] at hi
          simp only [Option.map_some, Option.some.injEq] at hi
          have him : i < m := by rw [← hm]; exact (List.getElem?_eq_some_iff.1 hxi).1
          have := hel i him
          rw [hxi] at this
          obtain ⟨y1, y2⟩ := y
          simp only at hi
          subst hi
          exact flatD_ok n e _ l hf _ _ _ this
      · cases h
    · rename_i fs ds hu
      split at h
      · rename_i l0 h0
        split at h
        · rename_i hz
          injection h with h
          subst h
          obtain ⟨xs, k, rfl, hx, hlen, hm, hel⟩ := DataW.trod_struct hu ht
          injection hx with hx _
          injection hx with hx
          subst hx
          refine catS_ok (P := P) fs.toList _ 0 _ h0 (by rw [hlen]; omega) (fun i x d l hi hj hf => ?_)
          rw [List.getElem?_map] at hj
          cases hxi : xs[i]? with
          | none => rw [hxi] at hj; cases hj
          | some y =>
            rw [hxi] at hj
            simp only [Option.map_some, Option.some.injEq] at hj
            have := hel i x (by simpa using hi)
            rw [hxi] at this
            obtain ⟨y1, y2⟩ := y
            simp only at hj
            subst hj
            exact flatD_ok n _ _ l hf _ _ _ this
        · cases h
      · cases h
    · cases h

/-! ### the memory that is laid -/
def laidG : List (List AV) → Nat → Heap → Heap
  | [], _, H => H
  | [] :: r, i, H => laidG r (Nat.succ i) H
  | (v :: l) :: r, i, H => laidG r (Nat.succ i) (layC .lf 0 (v :: l) fun t => setB H i (some (.cells t (len' (v :: l)) false true)) fun H => H)
theorem getB_laidG : ∀ (gl : List (List AV)) (i : Nat) (H : Heap) (b : Nat), getB (laidG gl i H) b = if i ≤ b then (match gl[b - i]? with | some (v :: l) => some (.cells (layT .lf 0 (v :: l)) (v :: l).length false true) | _ => getB H b) else getB H b
  | [], i, H, b => by simp [laidG]
  | [] :: r, i, H, b => by
    simp only [laidG]
    rw [getB_laidG r]
    by_cases h1 : i + 1 ≤ b
    · rw [if_pos (show Nat.succ i ≤ b from h1), if_pos (by omega : i ≤ b)]
      have : b - i = (b - (i + 1)) + 1 := by omega
      rw [this, List.getElem?_cons_succ]
    · rw [if_neg (show ¬ Nat.succ i ≤ b from h1)]
      by_cases h2 : i = b
      · subst h2
        simp
      · rw [if_neg (by omega)]
  | (v :: l) :: r, i, H, b => by
    simp only [laidG, layC_eq, setB_eq]
    rw [getB_laidG r]
    rw [getB_set, len'_eq]
    by_cases h1 : i + 1 ≤ b
    · rw [if_pos (show Nat.succ i ≤ b from h1), if_pos (by omega : i ≤ b)]
      have : b - i = (b - (i + 1)) + 1 := by omega
      rw [this, List.getElem?_cons_succ, if_neg (by omega)]
    · rw [if_neg (show ¬ Nat.succ i ≤ b from h1)]
      by_cases h2 : i = b
      · subst h2
        simp
      · rw [if_neg h2, if_neg (by omega)]
theorem laidG_nx : ∀ (gl : List (List AV)) (i : Nat) (H : Heap), (laidG gl i H).nx = H.nx
  | [], _, _ => rfl
  | [] :: r, i, H => by simp only [laidG]; rw [laidG_nx r]
  | (v :: l) :: r, i, H => by simp only [laidG, layC_eq, setB_eq]; rw [laidG_nx r]
def H0 (gl : List (List AV)) (m : Nat) : Heap := laidG gl 0 ⟨.lf, m⟩
theorem getB_H0 {gl : List (List AV)} {m b : Nat} {B : Blk} (h : getB (H0 gl m) b = some B) : ∃ l, gl[b]? = some l ∧ B = .cells (layT .lf 0 l) l.length false true ∧ l ≠ [] := by
  have : getB (⟨.lf, m⟩ : Heap) b = none := by simp [getB, Tr.get_lf]
  simp only [H0, getB_laidG, this] at h
  simp only [Nat.zero_le, if_true, Nat.sub_zero] at h
  cases hl : gl[b]? with
  | none => rw [hl] at h; cases h
  | some l =>
    rw [hl] at h
    cases l with
    | nil => cases h
    | cons v l => injection h with h; exact ⟨_, rfl, h.symm, by simp⟩
def rho0 (W : World) (m : Nat) : Rho := fun b => if b < m then some ⟨b, 0, match W.heap[b]? with | some (.cells c _ _) => c.size | _ => 0⟩ else none
theorem H0_ro {gl : List (List AV)} {m b : Nat} {B : Blk} (h : getB (H0 gl m) b = some B) : ¬ wr B := by
  obtain ⟨l, _, rfl, _⟩ := getB_H0 h
  simp [wr]
theorem H0_HR {gl : List (List AV)} {m : Nat} {W : World} (hm : gl.length ≤ m) (hgl : ∀ (b : Nat) l, gl[b]? = some l → ∃ c t fz, W.heap[b]? = some (.cells c t fz) ∧ DL (rho0 W m) l c.toList) : HR (rho0 W m) (H0 gl m) W where
  blk b B h := by
    obtain ⟨l, hl, rfl, _⟩ := getB_H0 h
    obtain ⟨c, t, fz, hc, hd⟩ := hgl b l hl
    have hb : b < m := Nat.lt_of_lt_of_le (List.getElem?_eq_some_iff.1 hl).1 hm
    refine ⟨⟨b, 0, c.size⟩, by simp [rho0, hb, hc], c, t, fz, hc, ?_, ?_, fun h => by simp at h, fun i v hv => ?_⟩
    · have := hd.length; simp at this; simp [this]
    · simp
    · rw [get_layT] at hv
      have hv : (if i < l.length then l[i]? else none) = some v := by simpa [Tr.get_lf] using hv
      by_cases hi : i < l.length
      · rw [if_pos hi] at hv
        obtain ⟨x, hx, hxd⟩ := hd.get hv
        exact ⟨hi, x, hxd, by simpa using hx⟩
      · rw [if_neg hi] at hv; cases hv
  apart b b' B B' p p' k i hne hB hB' hp hp' _ hc := by
    obtain ⟨l, hl, rfl, _⟩ := getB_H0 hB
    obtain ⟨l', hl', rfl, _⟩ := getB_H0 hB'
    simp only [rho0] at hp hp'
    split at hp
    · injection hp with hp
      split at hp'
      · injection hp' with hp'
        subst hp hp'
        rintro ⟨h1, _⟩
        have h2 := hc.1
        simp only at h1 h2
        exact hne (h2.trans h1.symm)
      · cases hp'
    · cases hp
  lt b B h := by
    obtain ⟨l, hl, rfl, _⟩ := getB_H0 h
    rw [H0, laidG_nx]
    exact Nat.lt_of_lt_of_le (List.getElem?_eq_some_iff.1 hl).1 hm
theorem rho0_G {W : World} {m : Nat} (h : P.globals.size ≤ m) : GOK P (rho0 W m) := fun g hg => ⟨_, by simp only [rho0]; rw [if_pos (Nat.lt_of_lt_of_le hg h)]⟩
theorem rho0_new {W : World} {gl : List (List AV)} {m b : Nat} (h : (H0 gl m).nx ≤ b) : rho0 W m b = none := by
  rw [H0, laidG_nx] at h
  simp only [rho0]
  rw [if_neg (by simpa using h)]
end Eng
end Go.Proofs.YtlajkdbpmkodpaaGreatDoor
namespace Go.Proofs.YtlajkdbpmkodpaaGreatDoor
namespace Eng
open Go
variable {P : Program}

theorem Rep.sub {F : Fr} {T T' : Tm} (h : Rep F T) (s : ∀ t v, T.get (bits t) = some v → T'.get (bits t) = some v) : Rep F T' := by
  obtain ⟨p, hF, hp⟩ := h
  exact ⟨p, hF, fun t v ht hv => s t v (hp t v ht hv)⟩
noncomputable def isTT (v : AV) : Ans := boolK v fun b => ifK b .yes .no
theorem isTT_yes {v : AV} (h : isTT v = .yes) : v = .bool true := by
  simp only [isTT, boolK_yes] at h
  obtain ⟨b, rfl, h⟩ := h
  cases b
  · cases h
  · rfl
noncomputable def setsF (l : List (Nat × AV)) : Fr → (Fr → Ans) → Ans := List.rec (motive := fun _ => Fr → (Fr → Ans) → Ans) (fun T k => k T) (fun p _ ih T k => runB (tmpS p.1) p.2 T fun T => ih T k) l
def setsT : List (Nat × AV) → Tm → Tm
  | [], T => T
  | p :: l, T => setsT l (T.set (bits p.1) (some p.2))
theorem setsF_ok : ∀ (l : List (Nat × AV)) {F : Fr} {T : Tm}, Rep F T → ∀ {k : Fr → Ans}, setsF l F k = .yes → ∃ F', Rep F' (setsT l T) ∧ k F' = .yes
  | [], F, T, hR, k, h => ⟨F, hR, h⟩
  | (t, v) :: l, F, T, hR, k, h => by
    have h : runB (tmpS t) v F (fun T => setsF l T k) = .yes := h
    obtain ⟨F1, h1, h⟩ := tmpS_ok hR t v h
    exact setsF_ok l h1 h
/-- the rest of a law's run, from some slots on: it answers true -/
noncomputable def restK (P : Program) (pt : List PlT) (N : Nat) (pl : PlT) (c : Code) (rs : List ResultVar) (S : List (Nat × AV)) (B : Bl) (n : Nat) : Ans :=
  setsF S fr0 fun T => runB (codeC c P pl) (exF P pt N) (callN P pt (Nat.succ N)) T B n [] fun e T B n D => leaveK e fun m => dfsF P pt (exF P pt (Nat.succ N)) (callN P pt (Nat.succ N)) D m B n fun m B _ => mdK m (runB (resC P rs) T B fun l => oneF l fun v => isTT v) fun _ => .no
theorem restK_ok {pt : List PlT} (hpt : PtOK P pt) {pl : PlT} {N : Nat} {f : FuncId} {fn : Func} {c r : Code} (hf : P.funcs[f]? = some fn) (hb : fn.body = some c) {xs : List AV} {H : Heap} {S : List (Nat × AV)} {T1 : Tm}
    (hpre : ∀ cf ih, stepC P cf ih c ⟨layT .lf 0 xs, H, []⟩ = stepC P cf ih r ⟨T1, H, []⟩) (hS : ∀ t v, (setsT S .lf).get (bits t) = some v → T1.get (bits t) = some v)
    (hpl : PlOK P pl r) (h : restK P pt N pl r fn.results.toList S H.bl H.nx = .yes) : ∃ H', callF P (N + 2) f xs H = .ret (.bool true) H' := by
  obtain ⟨F, hR, h⟩ := setsF_ok S (Rep.fr0 .lf) h
  have hR := hR.sub hS
  obtain ⟨e, F', S', h1, hR', h⟩ := codeC_ok (exF_ok hpt N) (run_ok hpt (N + 1)) r hpl hR h
  have hl := leave_ok hpt (exF_ok hpt (N + 1)) (run_ok hpt (N + 1)) hR' (k := fun v _ _ => isTT v) (p := fun _ _ _ => .no) h
  have hx : exec P (N + 1) c ⟨layT .lf 0 xs, H, []⟩ = .ok e S' := (hpre (callF P (N + 1)) (exec P N)).trans h1
  rcases hl with ⟨v, H', hl, hy⟩ | ⟨v, H', _, hy⟩
  · rw [isTT_yes hy] at hl
    refine ⟨H', ?_⟩
    show callB P (callF P (N + 1)) (exec P (N + 1)) f xs H = _
    simp only [callB, hf, hb, argsT_eq, hx]
    exact hl
  · cases hy

/-! ### first steps -/
def view (l : List Oper) : List (Option Tmp × Op) := l.map fun o => (o.dst, o.op)
def bareG (l : List Oper) : Bool := l.all fun o => match o.guard with | none => true | some _ => false
def runV (P : Program) (call : CallF) : List (Option Tmp × Op) → St → Res
  | [], S => .ok .normal S
  | (d, o) :: l, S => after d S (runV P call l) (oper P call o S.T S.H)
theorem opsR_view {call : CallF} {ops : Array Oper} : ∀ (l : List Oper), bareG l = true → ∀ S, opsR P call ops l S = runV P call (view l) S
  | [], _, S => rfl
  | o :: l, h, S => by
    simp only [bareG, List.all_cons, Bool.and_eq_true] at h
    have hg : o.guard = none := by
      cases hg : o.guard with
      | none => rfl
      | some g => rw [hg] at h; cases h.1
    have e : opsR P call ops l = runV P call (view l) := funext (opsR_view l h.2)
    simp only [opsR, oneOp, hg, want, view, List.map_cons, runV]
    rw [e]
    rfl
/-- the first two regions, and what follows -/
def pre2 (c : Code) : Option (List Oper × List Oper × Code) := match c with
  | .seq (.region _ a false) (.seq (.region _ b false) r) => some (a.toList, b.toList, r)
  | _ => none
theorem pre2_ok {c r : Code} {a b : List Oper} (h : pre2 c = some (a, b, r)) (ha : bareG a = true) (hb : bareG b = true) {cf : CallF} {ih : ExF} {S S1 S2 : St}
    (h1 : runV P cf (view a) S = .ok .normal S1) (h2 : runV P cf (view b) S1 = .ok .normal S2) : stepC P cf ih c S = stepC P cf ih r S2 := by
  unfold pre2 at h
  split at h
  · injection h with h
    injection h with e1 h
    injection h with e2 e3
    subst e1 e2 e3
    simp only [stepC, regionR]
    rw [opsR_view _ ha, h1]
    simp only [seqK]
    rw [opsR_view _ hb, h2]
  · cases h

/-! ### the variables that are laid -/
theorem laid_get {w : World} : ∀ {laid : List (String × DataW Unit)} {ps : List MemPlace}, DataW.LaidVars P w laid ps → ∀ x ∈ laid,
    ∃ g t cs fuel p, P.globalNamed x.1 = some g ∧ (P.globals[g]?).map (·.type) = some t ∧ w.var? P x.1 = some cs ∧ DataW.trod (fun _ => ()) P w 0 (fun _ => true) false fuel t cs.toList = some (x.2, p)
  | [], _, _, x, hx => by cases hx
  | (n, d) :: r, ps, h, x, hx => by
    obtain ⟨g, t, cs, fuel, p, q, h1, h2, h3, h4, h5, _⟩ := h
    rcases List.mem_cons.1 hx with rfl | hx
    · exact ⟨g, t, cs, fuel, p, h1, h2, h3, h4⟩
    · exact laid_get h5 x hx
theorem laid_one {w : World} {laid : List (String × DataW Unit)} {ps : List MemPlace} (h : DataW.LaidVars P w laid ps) {x : String × DataW Unit} (hx : x ∈ laid) {g t : Nat} {l : List AV}
    (hg : P.globalNamed x.1 = some g) (ht : (P.globals[g]?).map (·.type) = some t) (hl : flatD P 8 t x.2 = some l) (ρ : Rho) : ∃ c e fz, w.heap[g]? = some (.cells c e fz) ∧ DL ρ l c.toList := by
  obtain ⟨g', t', cs, fuel, p, h1, h2, h3, h4⟩ := laid_get h x hx
  rw [hg] at h1
  injection h1 with h1
  subst h1
  rw [ht] at h2
  injection h2 with h2
  subst h2
  simp only [World.var?, hg, Option.bind_some] at h3
  split at h3
  · rename_i c e fz hc
    injection h3 with h3
    subst h3
    exact ⟨_, _, _, hc, flatD_ok 8 t x.2 l hl _ _ _ h4⟩
  · cases h3
end Eng
end Go.Proofs.YtlajkdbpmkodpaaGreatDoor
namespace Go.Proofs.YtlajkdbpmkodpaaGreatDoor
namespace Eng
open Go
variable {P : Program}

/-- memory kept, but for what is new -/
structure Same (W W' : World) : Prop where
  size : W.heap.size ≤ W'.heap.size
  keep : ∀ c, c < W.heap.size → W'.heap[c]? = W.heap[c]?
  os : W'.os = W.os
  tape : W'.tape = W.tape
  output : W'.output = W.output
theorem Same.keptBut {W W' : World} (h : Same W W') : W.keptBut W' (fun _ => False) := by
  refine ⟨h.os, h.output, fun i hi => ?_⟩
  rw [h.keep i hi]
  cases hc : W.heap[i]? with
  | none => rfl
  | some o =>
    cases o with
    | cells c t fr => exact ⟨rfl, rfl, rfl, fun _ _ => rfl⟩
    | map es k => exact .inr ⟨rfl, rfl⟩
    | _ => rfl

/-! ### ground values -/
def groundV (v : AV) : Bool := match v with | .int _ _ => true | .str _ _ => true | .bool _ => true | _ => false
theorem groundV_den {v : AV} (h : groundV v = true) : ∃ x, ∀ ρ, den ρ v = some x := by
  cases v <;> first | (cases h; done) | exact ⟨_, fun ρ => rfl⟩
theorem ieq_true {a b : Int} (h : ieq a b = true) : a = b := by rw [ieq_eq] at h; simpa using h
theorem eq_ground {u v : AV} (hv : groundV v = true) (h : AV.eq u v = true) : u = v := by
  cases v <;> first | (cases hv; done) | skip
  · cases u <;> simp only [AV.eq] at h <;> first | (cases h; done) | skip
    rw [beq_iff_eq] at h
    rw [h]
  · cases u <;> simp only [AV.eq] at h <;> first | (cases h; done) | skip
    rw [Bool.and_eq_true, decide_eq_true_eq] at h
    rw [h.1, ieq_true h.2]
  · cases u <;> simp only [AV.eq] at h <;> first | (cases h; done) | skip
    rw [Bool.and_eq_true, beq_true, beq_true] at h
    rw [h.1, h.2]
def groundG (gl : List (List AV)) : Bool := gl.all fun l => l.all groundV
/-- the laid variables, in a world -/
def LaidW (gl : List (List AV)) (W : World) : Prop := ∀ (b : Nat) l, gl[b]? = some l → l ≠ [] → ∃ c e fz, W.heap[b]? = some (.cells c e fz) ∧ l.length ≤ c.size ∧ ∀ (i : Nat) v, l[i]? = some v → ∃ x, (∀ ρ, den ρ v = some x) ∧ c[i]? = some x
theorem H0_HR' {gl : List (List AV)} {m : Nat} {W : World} (hm : gl.length ≤ m) (h : LaidW gl W) : HR (rho0 W m) (H0 gl m) W where
  blk b B hB := by
    obtain ⟨l, hl, rfl, hne⟩ := getB_H0 hB
    obtain ⟨c, t, fz, hc, hn, hd⟩ := h b l hl hne
    have hb : b < m := Nat.lt_of_lt_of_le (List.getElem?_eq_some_iff.1 hl).1 hm
    refine ⟨⟨b, 0, c.size⟩, by simp [rho0, hb, hc], c, t, fz, hc, hn, by simp, fun h => by simp at h, fun i v hv => ?_⟩
    rw [get_layT] at hv
    have hv : (if i < l.length then l[i]? else none) = some v := by simpa [Tr.get_lf] using hv
    by_cases hi : i < l.length
    · rw [if_pos hi] at hv
      obtain ⟨x, hxd, hx⟩ := hd i v hv
      exact ⟨hi, x, hxd _, by simpa using hx⟩
    · rw [if_neg hi] at hv; cases hv
  apart b b' B B' p p' k i hne hB hB' hp hp' _ hc := by
    obtain ⟨l, hl, rfl, _⟩ := getB_H0 hB
    obtain ⟨l', hl', rfl, _⟩ := getB_H0 hB'
    simp only [rho0] at hp hp'
    split at hp
    · injection hp with hp
      split at hp'
      · injection hp' with hp'
        subst hp hp'
        rintro ⟨h1, _⟩
        have h2 := hc.1
        simp only at h1 h2
        exact hne (h2.trans h1.symm)
      · cases hp'
    · cases hp
  lt b B hB := by
    obtain ⟨l, hl, rfl, _⟩ := getB_H0 hB
    rw [H0, laidG_nx]
    exact Nat.lt_of_lt_of_le (List.getElem?_eq_some_iff.1 hl).1 hm
theorem laidW_of {gl : List (List AV)} (hg : groundG gl = true) {W : World} (h : ∀ (b : Nat) l, gl[b]? = some l → l ≠ [] → ∃ c e fz, W.heap[b]? = some (.cells c e fz) ∧ ∃ ρ, DL ρ l c.toList) : LaidW gl W := by
  intro b l hl hne
  obtain ⟨c, e, fz, hc, ρ, hd⟩ := h b l hl hne
  refine ⟨c, e, fz, hc, ?_, fun i v hv => ?_⟩
  · have := hd.length; simp at this; omega
  · have hgv : groundV v = true := by
      have h1 := List.all_eq_true.1 hg l (List.mem_of_getElem? hl)
      exact List.all_eq_true.1 h1 v (List.mem_of_getElem? hv)
    obtain ⟨x, hx⟩ := groundV_den hgv
    obtain ⟨y, hy, hyd⟩ := hd.get hv
    rw [hx ρ] at hyd
    injection hyd with hyd
    subst hyd
    exact ⟨x, hx, by simpa using hy⟩
theorem LaidW.same {gl : List (List AV)} {W W' : World} (h : LaidW gl W) (s : Same W W') : LaidW gl W' := by
  intro b l hl hne
  obtain ⟨c, e, fz, hc, hr⟩ := h b l hl hne
  exact ⟨c, e, fz, by rw [s.keep b (Array.getElem?_eq_some_iff.1 hc).1]; exact hc, hr⟩

/-! ### the laid variables, as a heap of the engine has them -/
def cellsIn (t : Tr AV) : List AV → Nat → Bool
  | [], _ => true
  | v :: l, i => (match t.get (bits i) with | some u => AV.eq u v | none => false) && cellsIn t l (Nat.succ i)
def laidIn : List (List AV) → Nat → Heap → Bool
  | [], _, _ => true
  | [] :: r, b, H => laidIn r (Nat.succ b) H
  | (v :: l) :: r, b, H => (match getB H b with | some (.cells t _ _ _) => cellsIn t (v :: l) 0 | _ => false) && laidIn r (Nat.succ b) H
theorem cellsIn_get {t : Tr AV} : ∀ (l : List AV) (i : Nat), l.all groundV = true → cellsIn t l i = true → ∀ (j : Nat) v, l[j]? = some v → t.get (bits (i + j)) = some v
  | [], _, _, _, j, v, hv => by simp at hv
  | u :: l, i, hg, h, j, v, hv => by
    simp only [cellsIn, Bool.and_eq_true] at h
    simp only [List.all_cons, Bool.and_eq_true] at hg
    cases j with
    | zero =>
      simp only [List.getElem?_cons_zero, Option.some.injEq] at hv
      subst hv
      cases ht : t.get (bits i) with
      | none => rw [ht] at h; cases h.1
      | some w => rw [ht] at h; rw [eq_ground hg.1 h.1]
    | succ j =>
      have := cellsIn_get l (i + 1) hg.2 h.2 j v (by simpa using hv)
      rw [show i + (j + 1) = i + 1 + j by omega]
      exact this
theorem laidIn_get {H : Heap} : ∀ (gl : List (List AV)) (b : Nat), groundG gl = true → laidIn gl b H = true → ∀ (j : Nat) l, gl[j]? = some l → l ≠ [] → ∃ t n tl ro, getB H (b + j) = some (.cells t n tl ro) ∧ ∀ (i : Nat) v, l[i]? = some v → t.get (bits i) = some v
  | [], _, _, _, j, l, hl, _ => by simp at hl
  | [] :: gl, b, hg, h, j, l, hl, hne => by
    simp only [laidIn] at h
    simp only [groundG, List.all_cons, Bool.and_eq_true] at hg
    cases j with
    | zero =>
      simp only [List.getElem?_cons_zero, Option.some.injEq] at hl
      exact absurd hl.symm hne
    | succ j =>
      have := laidIn_get gl (b + 1) hg.2 h j l (by simpa using hl) hne
      rw [show b + (j + 1) = b + 1 + j by omega]
      exact this
  | (w :: u) :: gl, b, hg, h, j, l, hl, hne => by
    simp only [laidIn, Bool.and_eq_true] at h
    simp only [groundG, List.all_cons, Bool.and_eq_true] at hg
    cases j with
    | zero =>
      simp only [List.getElem?_cons_zero, Option.some.injEq] at hl
      subst hl
      have h1 := h.1
      split at h1
      · rename_i t n tl ro hB
        exact ⟨t, n, tl, ro, by rw [Nat.add_zero]; exact hB, fun i v hv => by have := cellsIn_get (w :: u) 0 (by simp only [List.all_cons, Bool.and_eq_true]; exact hg.1) h1 i v hv; rwa [Nat.zero_add] at this⟩
      · cases h1
    | succ j =>
      have := laidIn_get gl (b + 1) hg.2 h.2 j l (by simpa using hl) hne
      rw [show b + (j + 1) = b + 1 + j by omega]
      exact this
theorem laidIn_W {gl : List (List AV)} (hg : groundG gl = true) (hsz : gl.length ≤ P.globals.size) {ρ : Rho} {H : Heap} {W : World} (hH : HR ρ H W) (hG : GOK P ρ) (h : laidIn gl 0 H = true) : LaidW gl W := by
  intro b l hl hne
  obtain ⟨t, n, tl, ro, hB, hc⟩ := laidIn_get gl 0 hg h b l hl hne
  rw [Nat.zero_add] at hB
  obtain ⟨p, hp, c, e, fz, hw, hn, hlim, _, hv⟩ := hH.blk b _ hB
  have hb : b < gl.length := (List.getElem?_eq_some_iff.1 hl).1
  obtain ⟨m, hm⟩ := hG b (by omega)
  rw [hm] at hp
  injection hp with hp
  subst hp
  simp only at hw hn hlim hv
  refine ⟨c, e, fz, hw, ?_, fun i v hi => ?_⟩
  · rcases Nat.lt_or_ge 0 l.length with hpos | h0
    · have hlast : l[l.length - 1]? = some l[l.length - 1] := List.getElem?_eq_getElem (by omega)
      have := (hv _ _ (hc _ _ hlast)).1
      omega
    · omega
  · have hgv : groundV v = true := by
      have h1 := List.all_eq_true.1 hg l (List.mem_of_getElem? hl)
      exact List.all_eq_true.1 h1 v (List.mem_of_getElem? hi)
    obtain ⟨x, hx⟩ := groundV_den hgv
    obtain ⟨_, y, hy, hyc⟩ := hv i v (hc i v hi)
    rw [hx ρ] at hy
    injection hy with hy
    subst hy
    exact ⟨x, hx, by simpa using hyc⟩

/-! ### known calls -/
def memF (f : FuncId) (tb : List FuncId) : Bool := tb.any fun g => Nat.beq f g
def callO (tb : List FuncId) (gl : List (List AV)) (c : CallF) : CallF := fun f xs H => match xs with
  | [] => bif memF f tb then (bif laidIn gl 0 H then .ret (.bool true) H else .bad) else c f [] H
  | x :: l => c f (x :: l) H
def levelO (P : Program) (tb : List FuncId) (gl : List (List AV)) : Nat → ExF × CallF
  | 0 => (fun _ _ => .bad, fun _ _ _ => .bad)
  | n + 1 => (stepC P (callO tb gl (callB P (levelO P tb gl n).2 (levelO P tb gl n).1)) (levelO P tb gl n).1, callO tb gl (callB P (levelO P tb gl n).2 (levelO P tb gl n).1))
def execO (P : Program) (tb : List FuncId) (gl : List (List AV)) (n : Nat) : ExF := (levelO P tb gl n).1
def callFO (P : Program) (tb : List FuncId) (gl : List (List AV)) (n : Nat) : CallF := (levelO P tb gl n).2
/-- what is known of a function without arguments -/
def KnownOK (P : Program) (gl : List (List AV)) (f : FuncId) : Prop := (∃ fn c, P.funcs[f]? = some fn ∧ fn.body = some c) ∧
  ∀ W, LaidW gl W → Calls P f #[] W fun e W' => e = .returned (.bool true) ∧ Same W W'
theorem callO_mono {tb : List FuncId} {gl : List (List AV)} {c : CallF} (h : MC c) : MC (callO tb gl c) := by
  intro f xs H
  cases xs with
  | cons x l => exact h f (x :: l) H
  | nil =>
    simp only [callO]
    cases memF f tb
    · exact h f [] H
    · cases laidIn gl 0 H
      · trivial
      · exact Nat.le_refl _
theorem callO_ok (hP : progOK P = true) {tb : List FuncId} {gl : List (List AV)} (hg : groundG gl = true) (hsz : gl.length ≤ P.globals.size) (hK : ∀ f ∈ tb, KnownOK P gl f) {c : CallF} (h : CallOK P c) : CallOK P (callO tb gl c) := by
  intro f xs H hne
  cases xs with
  | cons x l => exact h f (x :: l) H hne
  | nil =>
    simp only [callO] at hne ⊢
    cases hm : memF f tb with
    | false => rw [hm] at hne; exact h f [] H hne
    | true =>
      rw [hm] at hne
      simp only [cond_true] at hne ⊢
      cases hl : laidIn gl 0 H with
      | false => rw [hl] at hne; exact absurd rfl hne
      | true =>
        simp only [cond_true]
        have hf : f ∈ tb := by
          simp only [memF, List.any_eq_true] at hm
          obtain ⟨g, hg, e⟩ := hm
          rw [beq_true.1 e]; exact hg
        obtain ⟨⟨fn, b, hfn, hb⟩, hC⟩ := hK f hf
        refine ⟨fun args w => callFunc_run hP hfn hb args w, fun ρ w args hd hH hG _ => ?_⟩
        have ha : args = #[] := by
          have := hd.eq_nil
          exact Array.toList_eq_nil_iff.1 this
        subst ha
        refine (hC w (laidIn_W hg hsz hH hG hl)).mono fun e w' ⟨he, hs⟩ => ?_
        subst he
        refine ⟨_, _, ρ, rfl, rfl, ⟨fun b B hB => ?_, hH.apart, hH.lt⟩, ⟨.refl ρ, fun _ _ => rfl, Nat.le_refl _, hs.size, fun c hc _ => hs.keep c hc, fun _ h => .inl h, fun _ _ h _ => h, hs.os, hs.tape, hs.output⟩⟩
        obtain ⟨p, hp, hk⟩ := hH.blk b B hB
        refine ⟨p, hp, ?_⟩
        cases B with
        | cells t n tl ro =>
          obtain ⟨c, e, fz, h1, h2⟩ := hk
          exact ⟨c, e, fz, by rw [hs.keep _ (Array.getElem?_eq_some_iff.1 h1).1]; exact h1, h2⟩
        | mp es =>
          obtain ⟨es', k, h1, h2⟩ := hk
          exact ⟨es', k, by rw [hs.keep _ (Array.getElem?_eq_some_iff.1 h1).1]; exact h1, h2⟩
theorem levelO_ok (hP : progOK P = true) (hfol : P.follows .mixedOrders = true) {tb : List FuncId} {gl : List (List AV)} (hg : groundG gl = true) (hsz : gl.length ≤ P.globals.size) (hK : ∀ f ∈ tb, KnownOK P gl f) :
    ∀ n, CallOK P (callFO P tb gl n) ∧ MC (callFO P tb gl n) ∧ MX (execO P tb gl n) ∧ ∀ nt c, codeOK P nt c = true → SoundC P nt (execO P tb gl n) c
  | 0 => by
    refine ⟨fun f xs H h => absurd rfl h, fun f xs H => trivial, fun c S e S' h => ?_, fun nt c _ S e S' ρ a w Q h => ?_⟩
    · cases h
    · cases h
  | n + 1 => by
    obtain ⟨h1, h2, h3, h4⟩ := levelO_ok hP hfol hg hsz hK n
    have g1 := callO_ok hP hg hsz hK (callB_ok hP h1 h2 h3 h4)
    have g2 := callO_mono (tb := tb) (gl := gl) (callB_mono (P := P) h2 h3)
    exact ⟨g1, g2, stepC_mono g2 h3, fun nt c hc => stepC_wp g1 g2 (draw_ok g1 g2) hfol h3 (h4 nt) c hc⟩
/-- from a run, with known calls, to what the model's call does -/
theorem contractO (hP : progOK P = true) (hfol : P.follows .mixedOrders = true) {tb : List FuncId} {gl : List (List AV)} (hg : groundG gl = true) (hsz : gl.length ≤ P.globals.size) (hK : ∀ f ∈ tb, KnownOK P gl f)
    {n m : Nat} {f : FuncId} {xs : List AV} {H' : Heap} {v : AV} (hm : P.globals.size ≤ m) (hrun : callFO P tb gl n f xs (H0 gl m) = .ret v H') {W : World} {args : Array Value} (hd : ∀ ρ, DL ρ xs args.toList) (hL : LaidW gl W)
    {x : Value} (hx : ∀ ρ', den ρ' v = some x) : Calls P f args W fun e W' => e = .returned x ∧ Same W W' := by
  have hbad : callFO P tb gl n f xs (H0 gl m) ≠ .bad := by rw [hrun]; intro h; cases h
  have := ((levelO_ok hP hfol hg hsz hK n).1 f xs (H0 gl m) hbad).2 (rho0 W m) W args (hd _) (H0_HR' (by omega) hL) (rho0_G hm) (fun v H' _ b hb _ => rho0_new hb)
  refine this.mono fun e W' hp => ?_
  rw [hrun] at hp
  cases e with
  | returned y =>
    obtain ⟨v', H2, ρ', hr, hd, hHR, hE⟩ := hp
    injection hr with h1 h2
    subst h1 h2
    rw [hx ρ'] at hd
    injection hd with hd
    subst hd
    exact ⟨rfl, hE.size, fun c hc => hE.keep c hc (fun ⟨b, B, p, hB, hp, _, hw⟩ => H0_ro hB hw), hE.os, hE.tape, hE.output⟩
  | panicked ch =>
    obtain ⟨v', H2, ρ', hr, _⟩ := hp
    cases hr
  | outgrown => exact hp.elim

/-! ### the same, for the kernel -/
noncomputable def cellsK2 (l : List AV) : Tr AV → Nat → Ans → Ans := List.rec (motive := fun _ => Tr AV → Nat → Ans → Ans) (fun _ _ x => x) (fun v _ ih t i x => getK (path i) t fun u => eqK u v (fN' (Nat.succ i) fun i => ih t i x)) l
noncomputable def laidK (gl : List (List AV)) : Nat → Bl → Ans → Ans := List.rec (motive := fun _ => Nat → Bl → Ans → Ans) (fun _ _ x => x) (fun l _ ih b B x => List.rec (motive := fun _ => Ans) (fN' (Nat.succ b) fun b => ih b B x) (fun v r _ => blkK B b fun K => cellsK K fun t _ _ _ => cellsK2 (v :: r) t 0 (fN' (Nat.succ b) fun b => ih b B x)) l) gl
noncomputable def callKO (tb : List FuncId) (gl : List (List AV)) (cK : CallK) : CallK := fun f xs B n k p => List.rec (motive := fun _ => Ans) (ifK (memF f tb) (laidK gl 0 B (k (.bool true) B n)) (cK f [] B n k p)) (fun x l _ => cK f (x :: l) B n k p) xs
theorem cellsK2_ok {t : Tr AV} : ∀ (l : List AV) (i : Nat) {x : Ans}, cellsK2 l t i x = .yes → cellsIn t l i = true ∧ x = .yes
  | [], _, _, h => ⟨rfl, h⟩
  | v :: l, i, x, h => by
    have h : getK (path i) t (fun u => eqK u v (fN' (Nat.succ i) fun i => cellsK2 l t i x)) = .yes := h
    simp only [path_eq, getK_eq, optK_yes, fN'_eq] at h
    obtain ⟨u, hu, h⟩ := h
    obtain ⟨h1, h⟩ := eqK_ok h
    obtain ⟨h2, h⟩ := cellsK2_ok l _ h
    exact ⟨by simp only [cellsIn, hu, h1, h2, Bool.and_self], h⟩
theorem laidK_ok {B : Bl} {n : Nat} : ∀ (gl : List (List AV)) (b : Nat) {x : Ans}, laidK gl b B x = .yes → laidIn gl b ⟨B, n⟩ = true ∧ x = .yes
  | [], _, _, h => ⟨rfl, h⟩
  | [] :: gl, b, x, h => by
    have h : fN' (Nat.succ b) (fun b => laidK gl b B x) = .yes := h
    simp only [fN'_eq] at h
    exact laidK_ok (n := n) gl _ h
  | (v :: l) :: gl, b, x, h => by
    have h : blkK B b (fun K => cellsK K fun t _ _ _ => cellsK2 (v :: l) t 0 (fN' (Nat.succ b) fun b => laidK gl b B x)) = .yes := h
    obtain ⟨K, hK, h⟩ := blkK_yes h
    simp only [cellsK_yes, fN'_eq] at h
    obtain ⟨t, s, tl, ro, rfl, h⟩ := h
    obtain ⟨h1, h⟩ := cellsK2_ok (v :: l) 0 h
    obtain ⟨h2, h⟩ := laidK_ok (n := n) gl _ h
    exact ⟨by simp only [laidIn, hK n, h1, h2, Bool.and_self], h⟩
theorem callKO_ok {tb : List FuncId} {gl : List (List AV)} {cK : CallK} {c : CallF} (h : RC cK c) : RC (callKO tb gl cK) (callO tb gl c) := by
  intro f xs B n k p hy
  cases xs with
  | cons x l => exact h _ _ _ _ _ _ hy
  | nil =>
    have hy : ifK (memF f tb) (laidK gl 0 B (k (.bool true) B n)) (cK f [] B n k p) = .yes := hy
    simp only [callO]
    cases hm : memF f tb with
    | false => rw [hm] at hy; exact h _ _ _ _ _ _ hy
    | true =>
      rw [hm] at hy
      obtain ⟨h1, hy⟩ := laidK_ok (n := n) gl 0 hy
      exact .inl ⟨.bool true, ⟨B, n⟩, by simp only [cond_true, h1], hy⟩
noncomputable def lvFO (P : Program) (pt : List PlT) (tb : List FuncId) (gl : List (List AV)) (n : Nat) : (b : Bool) → Sel b := Nat.rec (motive := fun _ => (b : Bool) → Sel b)
  (fun b => Bool.rec (motive := Sel) (fun _ _ _ _ _ _ => .no : CallK) (fun _ _ _ _ _ _ _ => .no : ExK) b)
  (fun _ ih b => Bool.rec (motive := Sel) (callKO tb gl (callK P pt (ih true) (ih false))) (fun c pl T B x D k => runB (codeC c P pl) (ih true) (callKO tb gl (callK P pt (ih true) (ih false))) T B x D k : ExK) b) n
noncomputable def exFO (P : Program) (pt : List PlT) (tb : List FuncId) (gl : List (List AV)) (n : Nat) : ExK := lvFO P pt tb gl n true
noncomputable def callNO (P : Program) (pt : List PlT) (tb : List FuncId) (gl : List (List AV)) (n : Nat) : CallK := lvFO P pt tb gl n false
theorem lvFO_ok {pt : List PlT} (hpt : PtOK P pt) {tb : List FuncId} {gl : List (List AV)} : ∀ n, RX P (exFO P pt tb gl n) (execO P tb gl n) ∧ RC (callNO P pt tb gl n) (callFO P tb gl n)
  | 0 => ⟨fun c pl F T B n D k _ _ h => (by cases h), fun f xs B n k p h => (by cases h)⟩
  | n + 1 => by
    obtain ⟨h1, h2⟩ := lvFO_ok hpt n
    have hc : RC (callNO P pt tb gl (n + 1)) (callFO P tb gl (n + 1)) := callKO_ok (callK_ok hpt h1 h2)
    exact ⟨fun c pl F T B m D k hpl hR h => codeC_ok h1 hc c hpl hR h, hc⟩
theorem exFO_ok {pt : List PlT} (hpt : PtOK P pt) {tb : List FuncId} {gl : List (List AV)} (n : Nat) : RX P (exFO P pt tb gl n) (execO P tb gl n) := (lvFO_ok hpt n).1
theorem runO_ok {pt : List PlT} (hpt : PtOK P pt) (tb : List FuncId) (gl : List (List AV)) (n : Nat) : RC (callNO P pt tb gl n) (callFO P tb gl n) := (lvFO_ok hpt n).2
/-- a whole run of a function: it answers true -/
noncomputable def wholeK (P : Program) (pt : List PlT) (tb : List FuncId) (gl : List (List AV)) (N : Nat) (f : FuncId) (xs : List AV) (B : Bl) (n : Nat) : Ans := callNO P pt tb gl (Nat.succ N) f xs B n (fun v _ _ => isTT v) fun _ _ _ => .no
theorem wholeK_ok {pt : List PlT} (hpt : PtOK P pt) {tb : List FuncId} {gl : List (List AV)} {N : Nat} {f : FuncId} {xs : List AV} {H : Heap} (h : wholeK P pt tb gl N f xs H.bl H.nx = .yes) : ∃ H', callFO P tb gl (N + 1) f xs H = .ret (.bool true) H' := by
  rcases runO_ok hpt tb gl (N + 1) f xs H.bl H.nx _ _ h with ⟨v, H', h1, h2⟩ | ⟨v, H', _, h2⟩
  · rw [isTT_yes h2] at h1
    exact ⟨H', h1⟩
  · cases h2
theorem known_of_run (hP : progOK P = true) (hfol : P.follows .mixedOrders = true) {tb : List FuncId} {gl : List (List AV)} (hg : groundG gl = true) (hsz : gl.length ≤ P.globals.size) (hK : ∀ f ∈ tb, KnownOK P gl f)
    {pt : List PlT} (hpt : PtOK P pt) {N m : Nat} {f : FuncId} (hm : P.globals.size = m) {fn : Func} {c : Code} (hf : P.funcs[f]? = some fn) (hb : fn.body = some c) (h : wholeK P pt tb gl N f [] (H0 gl m).bl m = .yes) : KnownOK P gl f := by
  have e : (H0 gl m).nx = m := laidG_nx _ _ _
  have h : wholeK P pt tb gl N f [] (H0 gl m).bl (H0 gl m).nx = .yes := by rw [e]; exact h
  obtain ⟨H', hr⟩ := wholeK_ok hpt h
  exact ⟨⟨fn, c, hf, hb⟩, fun W hL => contractO hP hfol hg hsz hK (Nat.le_of_eq hm) hr (fun ρ => DL.nil) hL (fun _ => rfl)⟩
/-- the rest of a law's run, from some slots on, with known calls: it answers true -/
noncomputable def restO (P : Program) (pt : List PlT) (tb : List FuncId) (gl : List (List AV)) (N : Nat) (pl : PlT) (c : Code) (rs : List ResultVar) (S : List (Nat × AV)) (B : Bl) (n : Nat) : Ans :=
  setsF S fr0 fun T => runB (codeC c P pl) (exFO P pt tb gl N) (callNO P pt tb gl (Nat.succ N)) T B n [] fun e T B n D => leaveK e fun m => dfsF P pt (exFO P pt tb gl (Nat.succ N)) (callNO P pt tb gl (Nat.succ N)) D m B n fun m B _ => mdK m (runB (resC P rs) T B fun l => oneF l fun v => isTT v) fun _ => .no
theorem restO_ok {pt : List PlT} (hpt : PtOK P pt) {tb : List FuncId} {gl : List (List AV)} {pl : PlT} {N : Nat} {f : FuncId} {fn : Func} {c r : Code} (hf : P.funcs[f]? = some fn) (hb : fn.body = some c) {x : AV} {xs : List AV} {H : Heap} {S : List (Nat × AV)} {T1 : Tm}
    (hpre : ∀ cf ih, stepC P cf ih c ⟨layT .lf 0 (x :: xs), H, []⟩ = stepC P cf ih r ⟨T1, H, []⟩) (hS : ∀ t v, (setsT S .lf).get (bits t) = some v → T1.get (bits t) = some v)
    (hpl : PlOK P pl r) (h : restO P pt tb gl N pl r fn.results.toList S H.bl H.nx = .yes) : ∃ H', callFO P tb gl (N + 2) f (x :: xs) H = .ret (.bool true) H' := by
  obtain ⟨F, hR, h⟩ := setsF_ok S (Rep.fr0 .lf) h
  have hR := hR.sub hS
  obtain ⟨e, F', S', h1, hR', h⟩ := codeC_ok (exFO_ok hpt N) (runO_ok hpt tb gl (N + 1)) r hpl hR h
  have hl := leave_ok hpt (exFO_ok hpt (N + 1)) (runO_ok hpt tb gl (N + 1)) hR' (k := fun v _ _ => isTT v) (p := fun _ _ _ => .no) h
  have hx : execO P tb gl (N + 1) c ⟨layT .lf 0 (x :: xs), H, []⟩ = .ok e S' := (hpre (callFO P tb gl (N + 1)) (execO P tb gl N)).trans h1
  rcases hl with ⟨v, H', hl, hy⟩ | ⟨v, H', _, hy⟩
  · rw [isTT_yes hy] at hl
    refine ⟨H', ?_⟩
    show callB P (callFO P tb gl (N + 1)) (execO P tb gl (N + 1)) f (x :: xs) H = _
    simp only [callB, hf, hb, argsT_eq, hx]
    exact hl
  · cases hy
end Eng
end Go.Proofs.YtlajkdbpmkodpaaGreatDoor
namespace Go.Proofs.YtlajkdbpmkodpaaGreatDoor
namespace Eng
open Go
variable {P : Program}

/-- the place of a byte in a text of so many bytes, counted from i on; below 0: it is not there -/
def ixB (c : Nat) : Nat → Nat → Nat → Int
  | 0, _, _ => .negSucc 0
  | n + 1, x, i => bif Nat.beq (Nat.mod x 256) c then .ofNat i else ixB c n (Nat.div x 256) (Nat.succ i)
theorem ixB_eq (c : Nat) (hc : c < 256) : ∀ (l x i : Nat), ixB c l x i = (if Lib.indexByte (unpackL l x) (UInt8.ofNat c) = -1 then -1 else (i : Int) + Lib.indexByte (unpackL l x) (UInt8.ofNat c))
  | 0, x, i => by simp [ixB, unpackL, Lib.indexByte]
  | n + 1, x, i => by
    have hge := Lib.indexByte_ge (unpackL n (x / 256)) (UInt8.ofNat c)
    have e : Nat.beq (Nat.mod x 256) c = (UInt8.ofNat (x % 256) == UInt8.ofNat c) := by
      rw [Bool.eq_iff_iff, beq_true, beq_iff_eq]
      constructor
      · intro h; rw [show x % 256 = c from h]
      · intro h
        have := congrArg UInt8.toNat h
        simp at this
        show x % 256 = c
        omega
    have ih := ixB_eq c hc n (x / 256) (i + 1)
    simp only [ixB, unpackL, Lib.indexByte]
    rw [e]
    cases hb : (UInt8.ofNat (x % 256) == UInt8.ofNat c) with
    | true => simp
    | false =>
      simp only [cond_false, Bool.false_eq_true, if_false]
      rw [show Nat.div x 256 = x / 256 from rfl, show Nat.succ i = i + 1 from rfl, ih]
      by_cases h : Lib.indexByte (unpackL n (x / 256)) (UInt8.ofNat c) = -1
      · simp [h]
      · have h2 : (Lib.indexByte (unpackL n (x / 256)) (UInt8.ofNat c) == -1) = false := by simpa using h
        simp only [if_neg h, h2, Bool.false_eq_true, if_false]
        rw [if_neg (by omega)]
        push_cast
        omega
theorem ixB_is (c l x : Nat) (hc : c < 256) : ixB c l x 0 = Lib.indexByte (unpackL l x) (UInt8.ofNat c) := by
  rw [ixB_eq c hc]
  split
  · rename_i h; exact h.symm
  · simp
/-- what is known of the function that looks for a byte -/
def IxOK (P : Program) (f : FuncId) : Prop := (∃ fn c, P.funcs[f]? = some fn ∧ fn.body = some c) ∧
  ∀ (s : ByteArray) (c : Int) (w : World), Calls P f #[.string s, .int .u8 c] w fun e w' => e = .returned (.int .i64 (Lib.indexByte s.data.toList c.toNat.toUInt8)) ∧ w' = w
def callI (ix : FuncId) (c : CallF) : CallF := fun f xs H => match xs with
  | [.str l x, .int .u8 (.ofNat k)] => bif Nat.beq f ix then (bif Nat.blt k 256 then .ret (.int .i64 (ixB k l x 0)) H else .bad) else c f [.str l x, .int .u8 (.ofNat k)] H
  | xs => c f xs H
theorem callI_cases (ix : FuncId) (c : CallF) (f : FuncId) (xs : List AV) (H : Heap) : callI ix c f xs H = c f xs H ∨ callI ix c f xs H = .bad ∨
    (f = ix ∧ ∃ l x k, k < 256 ∧ xs = [.str l x, .int .u8 (.ofNat k)] ∧ callI ix c f xs H = .ret (.int .i64 (ixB k l x 0)) H) := by
  unfold callI
  split
  · rename_i l x k
    cases hf : Nat.beq f ix with
    | false => exact .inl rfl
    | true =>
      cases hk : Nat.blt k 256 with
      | false => exact .inr (.inl rfl)
      | true =>
        rw [blt_iff, decide_eq_true_iff] at hk
        exact .inr (.inr ⟨beq_true.1 hf, l, x, k, hk, rfl, rfl⟩)
  · exact .inl rfl
theorem callI_mono {ix : FuncId} {c : CallF} (h : MC c) : MC (callI ix c) := by
  intro f xs H
  rcases callI_cases ix c f xs H with e | e | ⟨_, l, x, k, _, _, e⟩ <;> rw [e]
  · exact h f xs H
  · trivial
  · exact Nat.le_refl _
theorem callI_ok (hP : progOK P = true) {ix : FuncId} (hI : IxOK P ix) {c : CallF} (h : CallOK P c) : CallOK P (callI ix c) := by
  intro f xs H hne
  rcases callI_cases ix c f xs H with e | e | ⟨rfl, l, x, k, hk, rfl, e⟩
  · rw [e] at hne ⊢
    exact h f xs H hne
  · exact absurd e hne
  · rw [e]
    obtain ⟨⟨fn, b, hfn, hb⟩, hC⟩ := hI
    refine ⟨fun args w => callFunc_run hP hfn hb args w, fun ρ w args hd hH hG _ => ?_⟩
    obtain ⟨u, r, e1, h1, hd⟩ := hd.uncons
    obtain ⟨u2, r2, e2, h2, hd⟩ := hd.uncons
    have e3 := hd.eq_nil
    subst e3 e2
    obtain rfl : args = #[u, u2] := by rw [← Array.toArray_toList (xs := args), e1]
    rw [den_str h1, den_int h2]
    refine (hC (unpack l x) (.ofNat k) w).mono fun e w' ⟨he, hw⟩ => ?_
    subst he hw
    have ex : (unpack l x).data.toList = unpackL l x := by simp [unpack]
    refine ⟨_, _, ρ, rfl, ?_, hH, .refl _ _ _⟩
    rw [ex, ixB_is k l x hk]
    rfl
def levelI (P : Program) (ix : FuncId) (tb : List FuncId) (gl : List (List AV)) : Nat → ExF × CallF
  | 0 => (fun _ _ => .bad, fun _ _ _ => .bad)
  | n + 1 => (stepC P (callI ix (callO tb gl (callB P (levelI P ix tb gl n).2 (levelI P ix tb gl n).1))) (levelI P ix tb gl n).1, callI ix (callO tb gl (callB P (levelI P ix tb gl n).2 (levelI P ix tb gl n).1)))
def execI (P : Program) (ix : FuncId) (tb : List FuncId) (gl : List (List AV)) (n : Nat) : ExF := (levelI P ix tb gl n).1
def callFI (P : Program) (ix : FuncId) (tb : List FuncId) (gl : List (List AV)) (n : Nat) : CallF := (levelI P ix tb gl n).2
theorem levelI_ok (hP : progOK P = true) (hfol : P.follows .mixedOrders = true) {ix : FuncId} {tb : List FuncId} {gl : List (List AV)} (hg : groundG gl = true) (hsz : gl.length ≤ P.globals.size) (hK : ∀ f ∈ tb, KnownOK P gl f) (hI : IxOK P ix) :
    ∀ n, CallOK P (callFI P ix tb gl n) ∧ MC (callFI P ix tb gl n) ∧ MX (execI P ix tb gl n) ∧ ∀ nt c, codeOK P nt c = true → SoundC P nt (execI P ix tb gl n) c
  | 0 => by
    refine ⟨fun f xs H h => absurd rfl h, fun f xs H => trivial, fun c S e S' h => ?_, fun nt c _ S e S' ρ a w Q h => ?_⟩
    · cases h
    · cases h
  | n + 1 => by
    obtain ⟨h1, h2, h3, h4⟩ := levelI_ok hP hfol hg hsz hK hI n
    have g1 := callI_ok hP hI (callO_ok hP hg hsz hK (callB_ok hP h1 h2 h3 h4))
    have g2 := callI_mono (ix := ix) (callO_mono (tb := tb) (gl := gl) (callB_mono (P := P) h2 h3))
    exact ⟨g1, g2, stepC_mono g2 h3, fun nt c hc => stepC_wp g1 g2 (draw_ok g1 g2) hfol h3 (h4 nt) c hc⟩
/-- from a run, with known calls, to what the model's call does -/
theorem contractI (hP : progOK P = true) (hfol : P.follows .mixedOrders = true) {ix : FuncId} {tb : List FuncId} {gl : List (List AV)} (hg : groundG gl = true) (hsz : gl.length ≤ P.globals.size) (hK : ∀ f ∈ tb, KnownOK P gl f) (hI : IxOK P ix)
    {n m : Nat} {f : FuncId} {xs : List AV} {H' : Heap} {v : AV} (hm : P.globals.size ≤ m) (hrun : callFI P ix tb gl n f xs (H0 gl m) = .ret v H') {W : World} {args : Array Value} (hd : ∀ ρ, DL ρ xs args.toList) (hL : LaidW gl W)
    {x : Value} (hx : ∀ ρ', den ρ' v = some x) : Calls P f args W fun e W' => e = .returned x ∧ Same W W' := by
  have hbad : callFI P ix tb gl n f xs (H0 gl m) ≠ .bad := by rw [hrun]; intro h; cases h
  have := ((levelI_ok hP hfol hg hsz hK hI n).1 f xs (H0 gl m) hbad).2 (rho0 W m) W args (hd _) (H0_HR' (by omega) hL) (rho0_G hm) (fun v H' _ b hb _ => rho0_new hb)
  refine this.mono fun e W' hp => ?_
  rw [hrun] at hp
  cases e with
  | returned y =>
    obtain ⟨v', H2, ρ', hr, hd, hHR, hE⟩ := hp
    injection hr with h1 h2
    subst h1 h2
    rw [hx ρ'] at hd
    injection hd with hd
    subst hd
    exact ⟨rfl, hE.size, fun c hc => hE.keep c hc (fun ⟨b, B, p, hB, hp, _, hw⟩ => H0_ro hB hw), hE.os, hE.tape, hE.output⟩
  | panicked ch =>
    obtain ⟨v', H2, ρ', hr, _⟩ := hp
    cases hr
  | outgrown => exact hp.elim


/-! ### the same, for the kernel -/
noncomputable def ixKn (c n : Nat) : Nat → Nat → KV → Ans := Nat.rec (motive := fun _ => Nat → Nat → KV → Ans) (fun _ _ k => k (.int .i64 (.negSucc 0)))
  (fun _ ih x i k => Bool.rec (motive := fun _ => Ans) (fN' (Nat.div x 256) fun x => fN' (Nat.succ i) fun i => ih x i k) (k (.int .i64 (.ofNat i))) (Nat.beq (Nat.mod x 256) c)) n
theorem ixKn_eq (c : Nat) : ∀ (n x i : Nat) (k : KV), ixKn c n x i k = k (.int .i64 (ixB c n x i))
  | 0, x, i, k => rfl
  | n + 1, x, i, k => by
    show (Bool.rec (motive := fun _ => Ans) (fN' (Nat.div x 256) fun x => fN' (Nat.succ i) fun i => ixKn c n x i k) (k (.int .i64 (.ofNat i))) (Nat.beq (Nat.mod x 256) c)) = _
    simp only [ixB, fN'_eq]
    cases Nat.beq (Nat.mod x 256) c
    · exact ixKn_eq c n _ _ k
    · rfl
noncomputable def callKI (ix : FuncId) (cK : CallK) : CallK := fun f xs B n k p => ifK (Nat.beq f ix) (twoK xs fun u v => strK u fun l x => intK v fun j i => kindK j .u8 (natK i fun c => ifK (Nat.blt c 256) (ixKn c l x 0 fun v => k v B n) .no)) (cK f xs B n k p)
theorem callKI_ok {ix : FuncId} {cK : CallK} {c : CallF} (h : RC cK c) : RC (callKI ix cK) (callI ix c) := by
  intro f xs B n k p hy
  have hy : ifK (Nat.beq f ix) (twoK xs fun u v => strK u fun l x => intK v fun j i => kindK j .u8 (natK i fun c => ifK (Nat.blt c 256) (ixKn c l x 0 fun v => k v B n) .no)) (cK f xs B n k p) = .yes := hy
  cases hf : Nat.beq f ix with
  | true =>
    rw [hf, ifK_true] at hy
    simp only [twoK_yes, strK_yes, intK_yes, kindK_yes, natK_yes, ifK_yes, ixKn_eq] at hy
    obtain ⟨u, v, rfl, l, x, rfl, j, i, rfl, rfl, c', rfl, hc, hy⟩ := hy
    refine .inl ⟨_, ⟨B, n⟩, ?_, hy⟩
    simp only [callI, hf, hc, cond_true]
  | false =>
    rw [hf, ifK_false] at hy
    have e : callI ix c f xs ⟨B, n⟩ = c f xs ⟨B, n⟩ := by
      unfold callI
      split
      · rw [hf]; rfl
      · rfl
    rw [e]
    exact h _ _ _ _ _ _ hy
noncomputable def lvFI (P : Program) (pt : List PlT) (ix : FuncId) (tb : List FuncId) (gl : List (List AV)) (n : Nat) : (b : Bool) → Sel b := Nat.rec (motive := fun _ => (b : Bool) → Sel b)
  (fun b => Bool.rec (motive := Sel) (fun _ _ _ _ _ _ => .no : CallK) (fun _ _ _ _ _ _ _ => .no : ExK) b)
  (fun _ ih b => Bool.rec (motive := Sel) (callKI ix (callKO tb gl (callK P pt (ih true) (ih false)))) (fun c pl T B x D k => runB (codeC c P pl) (ih true) (callKI ix (callKO tb gl (callK P pt (ih true) (ih false)))) T B x D k : ExK) b) n
noncomputable def exFI (P : Program) (pt : List PlT) (ix : FuncId) (tb : List FuncId) (gl : List (List AV)) (n : Nat) : ExK := lvFI P pt ix tb gl n true
noncomputable def callNI (P : Program) (pt : List PlT) (ix : FuncId) (tb : List FuncId) (gl : List (List AV)) (n : Nat) : CallK := lvFI P pt ix tb gl n false
theorem lvFI_ok {pt : List PlT} (hpt : PtOK P pt) {ix : FuncId} {tb : List FuncId} {gl : List (List AV)} : ∀ n, RX P (exFI P pt ix tb gl n) (execI P ix tb gl n) ∧ RC (callNI P pt ix tb gl n) (callFI P ix tb gl n)
  | 0 => ⟨fun c pl F T B n D k _ _ h => (by cases h), fun f xs B n k p h => (by cases h)⟩
  | n + 1 => by
    obtain ⟨h1, h2⟩ := lvFI_ok hpt n
    have hc : RC (callNI P pt ix tb gl (n + 1)) (callFI P ix tb gl (n + 1)) := callKI_ok (callKO_ok (callK_ok hpt h1 h2))
    exact ⟨fun c pl F T B m D k hpl hR h => codeC_ok h1 hc c hpl hR h, hc⟩
theorem exFI_ok {pt : List PlT} (hpt : PtOK P pt) {ix : FuncId} {tb : List FuncId} {gl : List (List AV)} (n : Nat) : RX P (exFI P pt ix tb gl n) (execI P ix tb gl n) := (lvFI_ok hpt n).1
theorem runI_ok {pt : List PlT} (hpt : PtOK P pt) (ix : FuncId) (tb : List FuncId) (gl : List (List AV)) (n : Nat) : RC (callNI P pt ix tb gl n) (callFI P ix tb gl n) := (lvFI_ok hpt n).2
/-- a whole run of a function: it answers true -/
noncomputable def wholeI (P : Program) (pt : List PlT) (ix : FuncId) (tb : List FuncId) (gl : List (List AV)) (N : Nat) (f : FuncId) (xs : List AV) (B : Bl) (n : Nat) : Ans := callNI P pt ix tb gl (Nat.succ N) f xs B n (fun v _ _ => isTT v) fun _ _ _ => .no
theorem wholeI_ok {pt : List PlT} (hpt : PtOK P pt) {ix : FuncId} {tb : List FuncId} {gl : List (List AV)} {N : Nat} {f : FuncId} {xs : List AV} {H : Heap} (h : wholeI P pt ix tb gl N f xs H.bl H.nx = .yes) : ∃ H', callFI P ix tb gl (N + 1) f xs H = .ret (.bool true) H' := by
  rcases runI_ok hpt ix tb gl (N + 1) f xs H.bl H.nx _ _ h with ⟨v, H', h1, h2⟩ | ⟨v, H', _, h2⟩
  · rw [isTT_yes h2] at h1
    exact ⟨H', h1⟩
  · cases h2
/-- the rest of a law's run, from some slots on, with known calls: it answers true -/
noncomputable def restI (P : Program) (pt : List PlT) (ix : FuncId) (tb : List FuncId) (gl : List (List AV)) (N : Nat) (pl : PlT) (c : Code) (rs : List ResultVar) (S : List (Nat × AV)) (B : Bl) (n : Nat) : Ans :=
  setsF S fr0 fun T => runB (codeC c P pl) (exFI P pt ix tb gl N) (callNI P pt ix tb gl (Nat.succ N)) T B n [] fun e T B n D => leaveK e fun m => dfsF P pt (exFI P pt ix tb gl (Nat.succ N)) (callNI P pt ix tb gl (Nat.succ N)) D m B n fun m B _ => mdK m (runB (resC P rs) T B fun l => oneF l fun v => isTT v) fun _ => .no
theorem restI_ok {pt : List PlT} (hpt : PtOK P pt) {ix : FuncId} {tb : List FuncId} {gl : List (List AV)} {pl : PlT} {N : Nat} {f : FuncId} {fn : Func} {c r : Code} (hf : P.funcs[f]? = some fn) (hb : fn.body = some c) {x : AV} {xs : List AV} {H : Heap} {S : List (Nat × AV)} {T1 : Tm}
    (hpre : ∀ cf ih, stepC P cf ih c ⟨layT .lf 0 (x :: xs), H, []⟩ = stepC P cf ih r ⟨T1, H, []⟩) (hS : ∀ t v, (setsT S .lf).get (bits t) = some v → T1.get (bits t) = some v)
    (hpl : PlOK P pl r) (hci : ∀ c : CallF, callI ix c f (x :: xs) H = c f (x :: xs) H) (h : restI P pt ix tb gl N pl r fn.results.toList S H.bl H.nx = .yes) : ∃ H', callFI P ix tb gl (N + 2) f (x :: xs) H = .ret (.bool true) H' := by
  obtain ⟨F, hR, h⟩ := setsF_ok S (Rep.fr0 .lf) h
  have hR := hR.sub hS
  obtain ⟨e, F', S', h1, hR', h⟩ := codeC_ok (exFI_ok hpt N) (runI_ok hpt ix tb gl (N + 1)) r hpl hR h
  have hl := leave_ok hpt (exFI_ok hpt (N + 1)) (runI_ok hpt ix tb gl (N + 1)) hR' (k := fun v _ _ => isTT v) (p := fun _ _ _ => .no) h
  have hx : execI P ix tb gl (N + 1) c ⟨layT .lf 0 (x :: xs), H, []⟩ = .ok e S' := (hpre (callFI P ix tb gl (N + 1)) (execI P ix tb gl N)).trans h1
  rcases hl with ⟨v, H', hl, hy⟩ | ⟨v, H', _, hy⟩
  · rw [isTT_yes hy] at hl
    refine ⟨H', ?_⟩
    show callI ix (callO tb gl (callB P (callFI P ix tb gl (N + 1)) (execI P ix tb gl (N + 1)))) f (x :: xs) H = _
    rw [hci]
    show callB P (callFI P ix tb gl (N + 1)) (execI P ix tb gl (N + 1)) f (x :: xs) H = _
    simp only [callB, hf, hb, argsT_eq, hx]
    exact hl
  · cases hy
end Eng
end Go.Proofs.YtlajkdbpmkodpaaGreatDoor
