/-
  THE ENGINE, part E: its operations say what the model's operations do: those that are pure.
-/
import Derived.Test.YtbdhainbcfobeaaGreatDoorEngD
import Derived.Laws.Append
namespace Go.Proofs.YtbdhainbcfobeaaGreatDoor
namespace Eng
open Go

/-- a frame's slots -/
def TR (ρ : Rho) (T : Tm) (ts : Array Value) : Prop := ∀ i v, T.get (bits i) = some v → ∃ x, den ρ v = some x ∧ ts[i]? = some x
theorem TR.mono {ρ ρ' : Rho} {T : Tm} {ts : Array Value} (h : TR ρ T ts) (s : Sub ρ ρ') : TR ρ' T ts := fun i v hv => by
  obtain ⟨x, h1, h2⟩ := h i v hv; exact ⟨x, den_mono s v x h1, h2⟩
def GOK (P : Program) (ρ : Rho) : Prop := ∀ g, g < P.globals.size → ∃ n, ρ g = some ⟨g, 0, n⟩
theorem GOK.mono {P : Program} {ρ ρ' : Rho} (h : GOK P ρ) (s : Sub ρ ρ') : GOK P ρ' := fun g hg => by obtain ⟨n, e⟩ := h g hg; exact ⟨n, s g _ e⟩
def gl (P : Program) : Operand → Bool
  | .global g => Nat.blt g P.globals.size
  | _ => true

mutual
theorem aConst_den (ρ : Rho) : ∀ (v : Value) (u : AV), aConst v = some u → den ρ u = some v
  | .bool b, u, h => by simp only [aConst, Option.some.injEq] at h; subst h; rfl
  | .int k n, u, h => by simp only [aConst, fI_eq, Option.some.injEq] at h; subst h; rfl
  | .string s, u, h => by simp only [aConst, fN_eq, Option.some.injEq] at h; subst h; simp [den, unpack_pack]
  | .pointer none, u, h => by simp only [aConst, Option.some.injEq] at h; subst h; rfl
  | .pointer (some _), u, h => by simp [aConst] at h
  | .slice none 0 0, u, h => by simp only [aConst, Option.some.injEq] at h; subst h; rfl
  | .slice none 0 (_ + 1), u, h => by simp [aConst] at h
  | .slice none (_ + 1) _, u, h => by simp [aConst] at h
  | .slice (some _) _ _, u, h => by simp [aConst] at h
  | .map none, u, h => by simp only [aConst, Option.some.injEq] at h; subst h; rfl
  | .map (some _), u, h => by simp [aConst] at h
  | .chan _, u, h => by simp [aConst] at h
  | .float _ _, u, h => by simp [aConst] at h
  | .complex _ _ _, u, h => by simp [aConst] at h
  | .func (.func f) ⟨[]⟩ ⟨[]⟩, u, h => by simp only [aConst, Option.some.injEq] at h; subst h; simp [den, denL]
  | .func (.func f) ⟨[]⟩ ⟨_ :: _⟩, u, h => by simp [aConst] at h
  | .func (.func f) ⟨_ :: _⟩ _, u, h => by simp [aConst] at h
  | .func (.method _) _ _, u, h => by simp [aConst] at h
  | .func (.methodOf _ _) _ _, u, h => by simp [aConst] at h
  | .func (.via _ _ _ _) _ _, u, h => by simp [aConst] at h
  | .func (.yield _) _ _, u, h => by simp [aConst] at h
  | .nilFunc, u, h => by simp only [aConst, Option.some.injEq] at h; subst h; rfl
  | .iface _ _, u, h => by simp [aConst] at h
  | .nilIface, u, h => by simp only [aConst, Option.some.injEq] at h; subst h; rfl
  | .agg ⟨l⟩, u, h => by
    simp only [aConst] at h
    split at h
    · rename_i m hm; injection h with h; subst h; simp [den, aConstL_den ρ l m hm]
    · cases h
  | .tuple ⟨l⟩, u, h => by
    simp only [aConst] at h
    split at h
    · rename_i m hm; injection h with h; subst h; simp [den, aConstL_den ρ l m hm]
    · cases h
theorem aConstL_den (ρ : Rho) : ∀ (l : List Value) (m : List AV), aConstL l = some m → denL ρ m = some l
  | [], m, h => by simp only [aConstL, Option.some.injEq] at h; subst h; rfl
  | v :: l, m, h => by
    simp only [aConstL] at h
    split at h
    · rename_i u r hu hr; injection h with h; subst h; simp [denL, aConst_den ρ v u hu, aConstL_den ρ l r hr]
    · cases h
end

section
variable {P : Program} {ρ : Rho} {T : Tm} {a : Act}
theorem ev_den (hT : TR ρ T a.tmps) (hG : GOK P ρ) {x : Operand} {v : AV} (hg : gl P x = true) (h : ev x T = some v) : den ρ v = some (a.eval x) := by
  cases x with
  | tmp t =>
    obtain ⟨y, h1, h2⟩ := hT t v h
    simp [Act.eval, Array.getD_eq_getD_getElem?, h2, h1]
  | const c => exact aConst_den ρ c v h
  | global g =>
    simp only [ev, Option.some.injEq] at h
    subst h
    obtain ⟨n, e⟩ := hG g (by simpa [gl, blt_iff] using hg)
    simp [den, e, Act.eval]
  | func f => simp only [ev, Option.some.injEq] at h; subst h; simp [den, denL, Act.eval]
theorem evL_den (hT : TR ρ T a.tmps) (hG : GOK P ρ) : ∀ {xs : List Operand} {vs : List AV}, xs.all (gl P) = true → evL xs T = some vs → DL ρ vs (xs.map a.eval)
  | [], vs, _, h => by simp only [evL, Option.some.injEq] at h; subst h; exact .nil
  | x :: l, vs, hg, h => by
    simp only [evL] at h
    simp only [List.all_cons, Bool.and_eq_true] at hg
    split at h
    · rename_i v r hv hr; injection h with h; subst h; exact .cons (ev_den hT hG hg.1 hv) (evL_den hT hG hg.2 hr)
    · cases h

/-! ### what values stand for, read backwards -/
theorem den_int {k : IntKind} {n : Int} {x : Value} (h : den ρ (.int k n) = some x) : x = .int k n := by simp [den] at h; exact h.symm
theorem den_bool {b : Bool} {x : Value} (h : den ρ (.bool b) = some x) : x = .bool b := by simp [den] at h; exact h.symm
theorem den_str {l y : Nat} {x : Value} (h : den ρ (.str l y) = some x) : x = .string (unpack l y) := by simp [den] at h; exact h.symm
theorem den_ptr {b o : Nat} {x : Value} (h : den ρ (.ptr b o) = some x) : ∃ p, ρ b = some p ∧ x = .pointer (some ⟨p.blk, p.off + o, none⟩) := by
  simp only [den] at h; split at h
  · rename_i p hp; injection h with h; exact ⟨p, hp, h.symm⟩
  · cases h
theorem den_sl {b o n c : Nat} {x : Value} (h : den ρ (.sl b o n c) = some x) : ∃ p, ρ b = some p ∧ x = .slice (some ⟨p.blk, p.off + o, none⟩) n c := by
  simp only [den] at h; split at h
  · rename_i p hp; injection h with h; exact ⟨p, hp, h.symm⟩
  · cases h
theorem den_so {b o n z : Nat} {x : Value} (h : den ρ (.so b o n z) = some x) : ∃ p, ρ b = some p ∧ x = .slice (some ⟨p.blk, p.off + o, none⟩) n ((p.lim - o) / z) := by
  simp only [den] at h; split at h
  · rename_i p hp; injection h with h; exact ⟨p, hp, h.symm⟩
  · cases h
theorem den_se {b o was z : Nat} {x : Value} (h : den ρ (.se b o was z) = some x) : ∃ p, ρ b = some p ∧ x = .slice (some ⟨p.blk, p.off + (if (p.lim - o) / z = 0 then was else o), none⟩) 0 ((p.lim - o) / z) := by
  simp only [den] at h; split at h
  · rename_i p hp; injection h with h; exact ⟨p, hp, h.symm⟩
  · cases h
theorem den_map {b : Nat} {x : Value} (h : den ρ (.map b) = some x) : ∃ p, ρ b = some p ∧ x = .map (some p.blk) := by
  simp only [den] at h; split at h
  · rename_i p hp; injection h with h; exact ⟨p, hp, h.symm⟩
  · cases h
theorem den_fn {f : FuncId} {l : List AV} {x : Value} (h : den ρ (.fn f l) = some x) : ∃ m, DL ρ l m ∧ x = .func (.func f) #[] m.toArray := by
  simp only [den] at h; split at h
  · rename_i p hp; injection h with h; exact ⟨p, hp, h.symm⟩
  · cases h
theorem den_ifc {t : TypeId} {v : AV} {x : Value} (h : den ρ (.ifc t v) = some x) : ∃ y, den ρ v = some y ∧ x = .iface t y := by
  simp only [den] at h; split at h
  · rename_i p hp; injection h with h; exact ⟨p, hp, h.symm⟩
  · cases h
theorem den_agg {l : List AV} {x : Value} (h : den ρ (.agg l) = some x) : ∃ m, DL ρ l m ∧ x = .agg m.toArray := by
  simp only [den] at h; split at h
  · rename_i p hp; injection h with h; exact ⟨p, hp, h.symm⟩
  · cases h
theorem den_tup {l : List AV} {x : Value} (h : den ρ (.tup l) = some x) : ∃ m, DL ρ l m ∧ x = .tuple m.toArray := by
  simp only [den] at h; split at h
  · rename_i p hp; injection h with h; exact ⟨p, hp, h.symm⟩
  · cases h

/-- what a pure operation gives, in every world -/
def Gives (P : Program) (o : Oper) (a : Act) (ρ : Rho) (v : AV) : Prop := ∃ x, den ρ v = some x ∧ ∀ w, (execOp a.eval o).run P w = .ok (.value x) w
def OKp (P : Program) (o : Oper) (a : Act) (ρ : Rho) (H : Heap) (r : OR) : Prop := ∀ v H', r = .val v H' → H' = H ∧ Gives P o a ρ v

theorem okV_p {o : Oper} {H : Heap} {v : Option AV} (h : ∀ u, v = some u → Gives P o a ρ u) : OKp P o a ρ H (okV v H) := fun u H' e => by
  cases v with
  | none => cases e
  | some y => injection e with e1 e2; subst e1; exact ⟨e2.symm, h _ rfl⟩

theorem oMove_p (o : Oper) (x : Operand) (ho : o.op = .move x ∨ o.op = .assign x) (hT : TR ρ T a.tmps) (hG : GOK P ρ) (hg : gl P x = true) (H : Heap) : OKp P o a ρ H (oMove x T H) :=
  okV_p fun u hu => ⟨_, ev_den hT hG hg hu, fun w => by rcases ho with e | e <;> simp [execOp, e]⟩

theorem oPick_p (o : Oper) (c x y : Operand) (ho : o.op = .pick c x y) (hT : TR ρ T a.tmps) (hG : GOK P ρ) (hc : gl P c = true) (hx : gl P x = true) (hy : gl P y = true) (H : Heap) :
    OKp P o a ρ H (oPick c x y T H) := by
  intro v H' h
  unfold oPick at h
  split at h
  · rename_i e
    have := den_bool (ev_den hT hG hc e)
    exact okV_p (fun u hu => ⟨_, ev_den hT hG hx hu, fun w => by simp [execOp, ho, this, asBool]⟩) v H' h
  · rename_i e
    have := den_bool (ev_den hT hG hc e)
    exact okV_p (fun u hu => ⟨_, ev_den hT hG hy hu, fun w => by simp [execOp, ho, this, asBool]⟩) v H' h
  · cases h

theorem oNilCheck_p (o : Oper) (x : Operand) (ho : o.op = .nilCheck x) (hT : TR ρ T a.tmps) (hG : GOK P ρ) (hg : gl P x = true) (H : Heap) : OKp P o a ρ H (oNilCheck x T H) := by
  intro v H' h
  unfold oNilCheck at h
  split at h
  · rename_i b i e
    injection h with h1 h2; subst h1
    have h3 := ev_den hT hG hg e
    obtain ⟨p, hp, hx⟩ := den_ptr h3
    exact ⟨h2.symm, _, h3, fun w => by simp [execOp, ho, hx]⟩
  · rename_i f c e
    injection h with h1 h2; subst h1
    have h3 := ev_den hT hG hg e
    obtain ⟨p, hp, hx⟩ := den_fn h3
    exact ⟨h2.symm, _, h3, fun w => by simp [execOp, ho, hx]⟩
  · rename_i b e
    injection h with h1 h2; subst h1
    have h3 := ev_den hT hG hg e
    obtain ⟨p, hp, hx⟩ := den_map h3
    exact ⟨h2.symm, _, h3, fun w => by simp [execOp, ho, hx]⟩
  · cases h

/-! ### types -/
theorem run_und {t : TypeId} {d : TypeDesc} (h : P.underlying t = some d) (w : World) : (underlying t).run P w = .ok d w := run_underlying h w
theorem run_info {t : TypeId} {i : TypeInfo} (h : P.info? t = some i) (w : World) : (typeInfo t).run P w = .ok i w := by simp [typeInfo, h]
theorem szOf_run {t : TypeId} {n : Nat} (h : szOf P t = some n) (w : World) : (sizeOf t).run P w = .ok n w := by
  unfold szOf at h
  cases hi : P.info? t with
  | none => simp [hi] at h
  | some i => simp [hi] at h; simp [sizeOf, typeInfo, hi, h]
theorem aggOf_run {t : TypeId} {b : Bool} (h : aggOf P t = some b) (w : World) : (isAgg t).run P w = .ok b w := by
  unfold aggOf at h
  split at h <;> rename_i hu
  all_goals first
    | (injection h with h; subst h; simp [isAgg, run_und hu]; done)
    | (cases h; done)
    | (rename_i d h1 h2; injection h with h; subst h; simp only [isAgg, Sem.run_bind, run_und hu, Result.andThen_ok]; cases d <;> simp_all; done)
    | (rename_i d h1 h2 _; injection h with h; subst h; simp only [isAgg, Sem.run_bind, run_und (by assumption), Result.andThen_ok]; cases d <;> simp_all)
theorem zeroOf_run {t : TypeId} {v : AV} (h : zeroOf P t = some v) : ∃ x, (∀ ρ, den ρ v = some x) ∧ (∀ w, (zeroValue t).run P w = .ok x w) ∧ ∃ i, P.info? t = some i ∧ i.zero = some x := by
  unfold zeroOf at h
  cases hi : P.info? t with
  | none => simp [hi] at h
  | some i =>
    cases hz : i.zero with
    | none => simp [hi, hz] at h
    | some x =>
      simp [hi, hz] at h
      exact ⟨x, fun ρ => aConst_den ρ x v h, fun w => by simp [zeroValue, typeInfo, hi, hz], i, rfl, hz⟩
theorem plcOf_spec {t : TypeId} {off : Nat} {p : Plc} (h : plcOf P t off = some p) : p.off = off ∧ aggOf P t = some p.agg ∧ szOf P t = some p.sz := by
  unfold plcOf at h
  split at h
  · rename_i b n h1 h2; injection h with h; subst h; exact ⟨rfl, h1, h2⟩
  · cases h
theorem fieldPlc_spec {s : TypeId} {f : Nat} {p : Plc} (h : fieldPlc P s f = some p) : ∃ fs x, P.underlying s = some (.struct fs) ∧ fs[f]? = some x ∧ p.off = x.offset ∧ aggOf P x.type = some p.agg ∧ szOf P x.type = some p.sz := by
  unfold fieldPlc at h
  split at h
  · rename_i fs hu
    split at h
    · rename_i x hx
      obtain ⟨h1, h2, h3⟩ := plcOf_spec h
      exact ⟨fs, x, hu, hx, h1, h2, h3⟩
    · cases h
  · cases h

theorem add_none (k o n : Nat) : (⟨k, o, none⟩ : Addr).add n = ⟨k, o + n, none⟩ := by unfold Addr.add; split <;> simp_all

theorem oFieldAddr_p (o : Oper) (s : TypeId) (x : Operand) (f : Nat) (ho : o.op = .fieldAddr s x f) (hT : TR ρ T a.tmps) (hG : GOK P ρ) (hg : gl P x = true) (H : Heap) :
    OKp P o a ρ H (oFieldAddr P s x f T H) := by
  intro v H' h
  unfold oFieldAddr at h
  split at h
  · rename_i b i p e hp
    rw [fN_eq] at h
    cases hz : Nat.beq p.sz 0 with
    | true => rw [hz] at h; cases h
    | false =>
      rw [hz] at h
      injection h with h1 h2; subst h1
      obtain ⟨q, hq, hx⟩ := den_ptr (ev_den hT hG hg e)
      obtain ⟨fs, y, h3, h4, h5, h6, h7⟩ := fieldPlc_spec hp
      have hne : p.sz ≠ 0 := fun e => by rw [e] at hz; cases hz
      have e3 : i + p.off = Nat.add i p.off := rfl
      refine ⟨h2.symm, .pointer (some ⟨q.blk, q.off + i + p.off, none⟩), by simp [den, hq, Nat.add_assoc], fun w => ?_⟩
      simp [execOp, ho, Instr.fieldAt, run_und h3, h4, hx, Instr.sureAddr, fieldPlace, szOf_run h7, hne, add_none, h5]
  · cases h

theorem part_run {t : TypeId} {p : Plc} {l : List AV} {m : List Value} {v : AV} (ha : aggOf P t = some p.agg) (hs : szOf P t = some p.sz) (hl : DL ρ l m) (h : partL l p = some v) :
    ∃ x, den ρ v = some x ∧ ∀ w, (part t m.toArray p.off).run P w = .ok x w := by
  unfold partL at h
  cases hb : p.agg with
  | true =>
    rw [hb] at h ha
    injection h with h
    subst h
    refine ⟨.agg ((m.drop p.off).take p.sz).toArray, by simp [den, show denL ρ _ = some _ from (hl.drop p.off).take p.sz], fun w => ?_⟩
    simp only [part, Sem.run_bind, aggOf_run ha, Result.andThen_ok, if_true, szOf_run hs, Sem.run_pure]
    congr 2
    apply Array.ext'
    simp [List.extract_eq_take_drop]
  | false =>
    rw [hb] at h ha
    obtain ⟨x, h1, h2⟩ := hl.get h
    refine ⟨x, h2, fun w => ?_⟩
    simp [part, aggOf_run ha, h1]
theorem oPart_p {o : Oper} {l : List AV} {p : Plc} {H : Heap} (h : ∀ v, partL l p = some v → Gives P o a ρ v) : OKp P o a ρ H (oPart l p H) := by
  intro v H' e
  unfold oPart at e
  split at e
  · rename_i m hm; rw [fL_eq] at e; injection e with e1 e2; subst e1; exact ⟨e2.symm, h _ hm⟩
  · rename_i u hu _; injection e with e1 e2; subst e1; exact ⟨e2.symm, h _ (by assumption)⟩
  · cases e
theorem oField_p (o : Oper) (s : TypeId) (x : Operand) (f : Nat) (ho : o.op = .field s x f) (hT : TR ρ T a.tmps) (hG : GOK P ρ) (hg : gl P x = true) (H : Heap) :
    OKp P o a ρ H (oField P s x f T H) := by
  intro v H' h
  unfold oField at h
  split at h
  · rename_i l p e hp
    obtain ⟨m, hm, hx⟩ := den_agg (ev_den hT hG hg e)
    obtain ⟨fs, y, h3, h4, h5, h6, h7⟩ := fieldPlc_spec hp
    refine oPart_p (fun v hv => ?_) v H' h
    obtain ⟨z, h8, h9⟩ := part_run (P := P) h6 h7 hm hv
    exact ⟨z, h8, fun w => by simp [execOp, ho, Instr.field, run_und h3, h4, hx, asAgg, ← h5, h9]⟩
  · cases h
theorem idx_spec {v : Option AV} {n j : Nat} (h : idx v n = some j) : ∃ k, v = some (.int k j) ∧ j < n := by
  unfold idx at h
  split at h
  · rename_i k i
    cases hb : Nat.blt i n with
    | true => rw [hb] at h; injection h with h; subst h; exact ⟨k, rfl, by simpa [blt_iff] using hb⟩
    | false => rw [hb] at h; cases h
  · cases h
theorem oIndexAddr_p (o : Oper) (t : TypeId) (x i : Operand) (ho : o.op = .indexAddr t x i) (hT : TR ρ T a.tmps) (hG : GOK P ρ) (hg : gl P x = true) (hi : gl P i = true) (H : Heap) :
    OKp P o a ρ H (oIndexAddr P t x i T H) := by
  intro v H' h
  unfold oIndexAddr at h
  split at h
  · rename_i n e b o' hu he
    split at h
    · rename_i j z hj hz
      rw [fN_eq] at h
      injection h with h1 h2; subst h1
      obtain ⟨k, hk, hlt⟩ := idx_spec hj
      obtain ⟨q, hq, hx⟩ := den_ptr (ev_den hT hG hg he)
      have hn := den_int (ev_den hT hG hi hk)
      refine ⟨h2.symm, .pointer (some ⟨q.blk, q.off + (o' + j * z), none⟩), by simp [den, hq], fun w => ?_⟩
      simp [execOp, ho, Instr.indexAt, hn, asIntOf, run_und hu, hx, Instr.sureAddr, hlt, szOf_run hz, add_none, Nat.add_assoc]
    · cases h
  · rename_i e b o' n c hu he
    split at h
    · rename_i j z hj hz
      rw [fN_eq] at h
      injection h with h1 h2; subst h1
      obtain ⟨k, hk, hlt⟩ := idx_spec hj
      obtain ⟨q, hq, hx⟩ := den_sl (ev_den hT hG hg he)
      have hn := den_int (ev_den hT hG hi hk)
      refine ⟨h2.symm, .pointer (some ⟨q.blk, q.off + (o' + j * z), none⟩), by simp [den, hq], fun w => ?_⟩
      simp [execOp, ho, Instr.indexAt, hn, asIntOf, run_und hu, hx, hlt, szOf_run hz, add_none, Nat.add_assoc]
    · cases h
  · rename_i e b o' n c hu he
    split at h
    · rename_i j z hj hz
      rw [fN_eq] at h
      injection h with h1 h2; subst h1
      obtain ⟨k, hk, hlt⟩ := idx_spec hj
      obtain ⟨q, hq, hx⟩ := den_so (ev_den hT hG hg he)
      have hn := den_int (ev_den hT hG hi hk)
      refine ⟨h2.symm, .pointer (some ⟨q.blk, q.off + (o' + j * z), none⟩), by simp [den, hq], fun w => ?_⟩
      simp [execOp, ho, Instr.indexAt, hn, asIntOf, run_und hu, hx, hlt, szOf_run hz, add_none, Nat.add_assoc]
    · cases h
  · cases h
theorem oIndex_p (o : Oper) (t : TypeId) (x i : Operand) (ho : o.op = .index t x i) (hT : TR ρ T a.tmps) (hG : GOK P ρ) (hg : gl P x = true) (hi : gl P i = true) (H : Heap) :
    OKp P o a ρ H (oIndex P t x i T H) := by
  intro v H' h
  unfold oIndex at h
  split at h
  · rename_i n e l hu he
    split at h
    · rename_i j p hj hp
      obtain ⟨k, hk, hlt⟩ := idx_spec hj
      obtain ⟨m, hm, hx⟩ := den_agg (ev_den hT hG hg he)
      have hn := den_int (ev_den hT hG hi hk)
      obtain ⟨_, h6, h7⟩ := plcOf_spec hp
      refine oPart_p (fun v hv => ?_) v H' h
      obtain ⟨z, h8, h9⟩ := part_run (P := P) (p := ⟨Nat.mul j p.sz, p.agg, p.sz⟩) h6 h7 hm hv
      refine ⟨z, h8, fun w => ?_⟩
      have h10 := h9 w
      simp only [Nat.mul_eq] at h10
      simp [execOp, ho, Instr.index, hn, asIntOf, run_und hu, hx, hlt, szOf_run h7, h10]
    · cases h
  · rename_i n s hu he
    split at h
    · rename_i j hj
      rw [fN_eq] at h
      injection h with h1 h2; subst h1
      obtain ⟨k, hk, hlt⟩ := idx_spec hj
      have hx := den_str (ev_den hT hG hg he)
      have hn := den_int (ev_den hT hG hi hk)
      refine ⟨h2.symm, _, rfl, fun w => ?_⟩
      have hb : (unpack n s)[j]? = some (UInt8.ofNat (s / 256 ^ j % 256)) := by
        have := unpackL_get n s j hlt
        rw [getElem?_def] at this ⊢
        rw [dif_pos (by rw [unpackL_length]; exact hlt)] at this
        rw [dif_pos (by rw [unpack_size]; exact hlt)]
        injection this with this
        congr 1
      simp [execOp, ho, Instr.index, hn, asIntOf, run_und hu, hx, hb, byteAt_eq]
    · cases h
  · cases h
end
end Eng
end Go.Proofs.YtbdhainbcfobeaaGreatDoor
