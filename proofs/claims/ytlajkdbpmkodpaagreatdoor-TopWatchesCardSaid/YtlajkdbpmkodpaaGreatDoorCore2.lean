/-
  THE ENGINE, part E: its operations say what the model's operations do: those that are pure.
-/
import Derived.Test.YtlajkdbpmkodpaaGreatDoorCore1
import Derived.Laws.Append
import Derived.Laws.StructEq
import Derived.Laws.Pointers
import Derived.Laws.BytesString
namespace Go.Proofs.YtlajkdbpmkodpaaGreatDoor
namespace Eng
open Go

/-- a frame's slots -/
def TR (ρ : Rho) (T : Tm) (ts : Array Value) : Prop := ∀ i v, T.get (bits i) = some v → ∃ x, den ρ v = some x ∧ ts[i]? = some x
theorem TR.mono {ρ ρ' : Rho} {T : Tm} {ts : Array Value} (h : TR ρ T ts) (s : Sub ρ ρ') : TR ρ' T ts := fun i v hv => by
  obtain ⟨x, h1, h2⟩ := h i v hv; exact ⟨x, den_mono s v x h1, h2⟩
def GOK (P : Program) (ρ : Rho) : Prop := ∀ g, g < P.globals.size → ∃ n, ρ g = some ⟨g, 0, n⟩
theorem GOK.mono {P : Program} {ρ ρ' : Rho} (h : GOK P ρ) (s : Sub ρ ρ') : GOK P ρ' := fun g hg => by obtain ⟨n, e⟩ := h g hg; exact ⟨n, s g _ e⟩
def gl (P : Program) : Operand → Bool
  | .global g => Nat.blt g P.globals.size
  | _ => true

mutual
theorem aConst_den (ρ : Rho) : ∀ (v : Value) (u : AV), aConst v = some u → den ρ u = some v
  | .bool b, u, h => by simp only [aConst, Option.some.injEq] at h; subst h; rfl
  | .int k n, u, h => by simp only [aConst, fI_eq, Option.some.injEq] at h; subst h; rfl
  | .string s, u, h => by simp only [aConst, fN_eq, Option.some.injEq] at h; subst h; simp [den, unpack_pack]
  | .pointer none, u, h => by simp only [aConst, Option.some.injEq] at h; subst h; rfl
  | .pointer (some _), u, h => by simp [aConst] at h
  | .slice none 0 0, u, h => by simp only [aConst, Option.some.injEq] at h; subst h; rfl
  | .slice none 0 (_ + 1), u, h => by simp [aConst] at h
  | .slice none (_ + 1) _, u, h => by simp [aConst] at h
  | .slice (some _) _ _, u, h => by simp [aConst] at h
  | .map none, u, h => by simp only [aConst, Option.some.injEq] at h; subst h; rfl
  | .map (some _), u, h => by simp [aConst] at h
  | .chan _, u, h => by simp [aConst] at h
  | .float _ _, u, h => by simp [aConst] at h
  | .complex _ _ _, u, h => by simp [aConst] at h
  | .func (.func f) ⟨[]⟩ ⟨[]⟩, u, h => by simp only [aConst, Option.some.injEq] at h; subst h; simp [den, denL]
  | .func (.func f) ⟨[]⟩ ⟨_ :: _⟩, u, h => by simp [aConst] at h
  | .func (.func f) ⟨_ :: _⟩ _, u, h => by simp [aConst] at h
  | .func (.method _) _ _, u, h => by simp [aConst] at h
  | .func (.methodOf _ _) _ _, u, h => by simp [aConst] at h
  | .func (.via _ _ _ _) _ _, u, h => by simp [aConst] at h
  | .func (.yield _) _ _, u, h => by simp [aConst] at h
  | .nilFunc, u, h => by simp only [aConst, Option.some.injEq] at h; subst h; rfl
  | .iface _ _, u, h => by simp [aConst] at h
  | .nilIface, u, h => by simp only [aConst, Option.some.injEq] at h; subst h; rfl
  | .agg ⟨l⟩, u, h => by
    simp only [aConst] at h
    split at h
    · rename_i m hm; injection h with h; subst h; simp [den, aConstL_den ρ l m hm]
    · cases h
  | .tuple ⟨l⟩, u, h => by
    simp only [aConst] at h
    split at h
    · rename_i m hm; injection h with h; subst h; simp [den, aConstL_den ρ l m hm]
    · cases h
theorem aConstL_den (ρ : Rho) : ∀ (l : List Value) (m : List AV), aConstL l = some m → denL ρ m = some l
  | [], m, h => by simp only [aConstL, Option.some.injEq] at h; subst h; rfl
  | v :: l, m, h => by
    simp only [aConstL] at h
    split at h
    · rename_i u r hu hr; injection h with h; subst h; simp [denL, aConst_den ρ v u hu, aConstL_den ρ l r hr]
    · cases h
end

section
variable {P : Program} {ρ : Rho} {T : Tm} {a : Act}
theorem ev_den (hT : TR ρ T a.tmps) (hG : GOK P ρ) {x : Operand} {v : AV} (hg : gl P x = true) (h : ev x T = some v) : den ρ v = some (a.eval x) := by
  cases x with
  | tmp t =>
    obtain ⟨y, h1, h2⟩ := hT t v h
    simp [Act.eval, Array.getD_eq_getD_getElem?, h2, h1]
  | const c => exact aConst_den ρ c v h
  | global g =>
    simp only [ev, Option.some.injEq] at h
    subst h
    obtain ⟨n, e⟩ := hG g (by simpa [gl, blt_iff] using hg)
    simp [den, e, Act.eval]
  | func f => simp only [ev, Option.some.injEq] at h; subst h; simp [den, denL, Act.eval]
theorem evL_den (hT : TR ρ T a.tmps) (hG : GOK P ρ) : ∀ {xs : List Operand} {vs : List AV}, xs.all (gl P) = true → evL xs T = some vs → DL ρ vs (xs.map a.eval)
  | [], vs, _, h => by simp only [evL, Option.some.injEq] at h; subst h; exact .nil
  | x :: l, vs, hg, h => by
    simp only [evL] at h
    simp only [List.all_cons, Bool.and_eq_true] at hg
    split at h
    · rename_i v r hv hr; injection h with h; subst h; exact .cons (ev_den hT hG hg.1 hv) (evL_den hT hG hg.2 hr)
    · cases h

/-! ### what values stand for, read backwards -/
theorem den_int {k : IntKind} {n : Int} {x : Value} (h : den ρ (.int k n) = some x) : x = .int k n := by simp [den] at h; exact h.symm
theorem den_bool {b : Bool} {x : Value} (h : den ρ (.bool b) = some x) : x = .bool b := by simp [den] at h; exact h.symm
theorem den_str {l y : Nat} {x : Value} (h : den ρ (.str l y) = some x) : x = .string (unpack l y) := by simp [den] at h; exact h.symm
theorem den_ptr {b o : Nat} {x : Value} (h : den ρ (.ptr b o) = some x) : ∃ p, ρ b = some p ∧ x = .pointer (some ⟨p.blk, p.off + o, none⟩) := by
  simp only [den] at h; split at h
  · rename_i p hp; injection h with h; exact ⟨p, hp, h.symm⟩
  · cases h
theorem den_sl {b o n c : Nat} {x : Value} (h : den ρ (.sl b o n c) = some x) : ∃ p, ρ b = some p ∧ x = .slice (some ⟨p.blk, p.off + o, none⟩) n c := by
  simp only [den] at h; split at h
  · rename_i p hp; injection h with h; exact ⟨p, hp, h.symm⟩
  · cases h
theorem den_so {b o n z : Nat} {x : Value} (h : den ρ (.so b o n z) = some x) : ∃ p, ρ b = some p ∧ x = .slice (some ⟨p.blk, p.off + o, none⟩) n ((p.lim - o) / z) := by
  simp only [den] at h; split at h
  · rename_i p hp; injection h with h; exact ⟨p, hp, h.symm⟩
  · cases h
theorem den_sz {ρ : Rho} {a : Addr} {x : Value} (h : den ρ (.sz a) = some x) : x = .slice (some a) 0 0 := by simp [den] at h; exact h.symm
theorem den_se {b o was z : Nat} {x : Value} (h : den ρ (.se b o was z) = some x) : ∃ p, ρ b = some p ∧ x = .slice (some ⟨p.blk, p.off + (if (p.lim - o) / z = 0 then was else o), none⟩) 0 ((p.lim - o) / z) := by
  simp only [den] at h; split at h
  · rename_i p hp; injection h with h; exact ⟨p, hp, h.symm⟩
  · cases h
theorem den_map {b : Nat} {x : Value} (h : den ρ (.map b) = some x) : ∃ p, ρ b = some p ∧ x = .map (some p.blk) := by
  simp only [den] at h; split at h
  · rename_i p hp; injection h with h; exact ⟨p, hp, h.symm⟩
  · cases h
theorem den_fn {f : FuncId} {l : List AV} {x : Value} (h : den ρ (.fn f l) = some x) : ∃ m, DL ρ l m ∧ x = .func (.func f) #[] m.toArray := by
  simp only [den] at h; split at h
  · rename_i p hp; injection h with h; exact ⟨p, hp, h.symm⟩
  · cases h
theorem den_ifc {t : TypeId} {v : AV} {x : Value} (h : den ρ (.ifc t v) = some x) : ∃ y, den ρ v = some y ∧ x = .iface t y := by
  simp only [den] at h; split at h
  · rename_i p hp; injection h with h; exact ⟨p, hp, h.symm⟩
  · cases h
theorem den_agg {l : List AV} {x : Value} (h : den ρ (.agg l) = some x) : ∃ m, DL ρ l m ∧ x = .agg m.toArray := by
  simp only [den] at h; split at h
  · rename_i p hp; injection h with h; exact ⟨p, hp, h.symm⟩
  · cases h
theorem den_tup {l : List AV} {x : Value} (h : den ρ (.tup l) = some x) : ∃ m, DL ρ l m ∧ x = .tuple m.toArray := by
  simp only [den] at h; split at h
  · rename_i p hp; injection h with h; exact ⟨p, hp, h.symm⟩
  · cases h

/-- what a pure operation gives, in every world -/
def Gives (P : Program) (o : Oper) (a : Act) (ρ : Rho) (v : AV) : Prop := ∃ x, den ρ v = some x ∧ ∀ w, (execOp a.eval o).run P w = .ok (.value x) w
def OKp (P : Program) (o : Oper) (a : Act) (ρ : Rho) (H : Heap) (r : OR) : Prop := ∀ v H', r = .val v H' → H' = H ∧ Gives P o a ρ v

theorem okV_p {o : Oper} {H : Heap} {v : Option AV} (h : ∀ u, v = some u → Gives P o a ρ u) : OKp P o a ρ H (okV v H) := fun u H' e => by
  cases v with
  | none => cases e
  | some y => injection e with e1 e2; subst e1; exact ⟨e2.symm, h _ rfl⟩

theorem oMove_p (o : Oper) (x : Operand) (ho : o.op = .move x ∨ o.op = .assign x) (hT : TR ρ T a.tmps) (hG : GOK P ρ) (hg : gl P x = true) (H : Heap) : OKp P o a ρ H (oMove x T H) :=
  okV_p fun u hu => ⟨_, ev_den hT hG hg hu, fun w => by rcases ho with e | e <;> simp [execOp, e]⟩

theorem oPick_p (o : Oper) (c x y : Operand) (ho : o.op = .pick c x y) (hT : TR ρ T a.tmps) (hG : GOK P ρ) (hc : gl P c = true) (hx : gl P x = true) (hy : gl P y = true) (H : Heap) :
    OKp P o a ρ H (oPick c x y T H) := by
  intro v H' h
  unfold oPick at h
  split at h
  · rename_i e
    have := den_bool (ev_den hT hG hc e)
    exact okV_p (fun u hu => ⟨_, ev_den hT hG hx hu, fun w => by simp [execOp, ho, this, asBool]⟩) v H' h
  · rename_i e
    have := den_bool (ev_den hT hG hc e)
    exact okV_p (fun u hu => ⟨_, ev_den hT hG hy hu, fun w => by simp [execOp, ho, this, asBool]⟩) v H' h
  · cases h

theorem oNilCheck_p (o : Oper) (x : Operand) (ho : o.op = .nilCheck x) (hT : TR ρ T a.tmps) (hG : GOK P ρ) (hg : gl P x = true) (H : Heap) : OKp P o a ρ H (oNilCheck x T H) := by
  intro v H' h
  unfold oNilCheck at h
  split at h
  · rename_i b i e
    injection h with h1 h2; subst h1
    have h3 := ev_den hT hG hg e
    obtain ⟨p, hp, hx⟩ := den_ptr h3
    exact ⟨h2.symm, _, h3, fun w => by simp [execOp, ho, hx]⟩
  · rename_i f c e
    injection h with h1 h2; subst h1
    have h3 := ev_den hT hG hg e
    obtain ⟨p, hp, hx⟩ := den_fn h3
    exact ⟨h2.symm, _, h3, fun w => by simp [execOp, ho, hx]⟩
  · rename_i b e
    injection h with h1 h2; subst h1
    have h3 := ev_den hT hG hg e
    obtain ⟨p, hp, hx⟩ := den_map h3
    exact ⟨h2.symm, _, h3, fun w => by simp [execOp, ho, hx]⟩
  · cases h

/-! ### types -/
theorem run_und {t : TypeId} {d : TypeDesc} (h : P.underlying t = some d) (w : World) : (underlying t).run P w = .ok d w := run_underlying h w
theorem run_info {t : TypeId} {i : TypeInfo} (h : P.info? t = some i) (w : World) : (typeInfo t).run P w = .ok i w := by simp [typeInfo, h]
theorem szOf_run {t : TypeId} {n : Nat} (h : szOf P t = some n) (w : World) : (sizeOf t).run P w = .ok n w := by
  unfold szOf at h
  cases hi : P.info? t with
  | none => simp [hi] at h
  | some i => simp [hi] at h; simp [sizeOf, typeInfo, hi, h]
theorem aggOf_run {t : TypeId} {b : Bool} (h : aggOf P t = some b) (w : World) : (isAgg t).run P w = .ok b w := by
  unfold aggOf at h
  split at h <;> rename_i hu
  all_goals first
    | (injection h with h; subst h; simp [isAgg, run_und hu]; done)
    | (cases h; done)
    | (rename_i d h1 h2; injection h with h; subst h; simp only [isAgg, Sem.run_bind, run_und hu, Result.andThen_ok]; cases d <;> simp_all; done)
    | (rename_i d h1 h2 _; injection h with h; subst h; simp only [isAgg, Sem.run_bind, run_und (by assumption), Result.andThen_ok]; cases d <;> simp_all)
theorem zeroOf_run {t : TypeId} {v : AV} (h : zeroOf P t = some v) : ∃ x, (∀ ρ, den ρ v = some x) ∧ (∀ w, (zeroValue t).run P w = .ok x w) ∧ ∃ i, P.info? t = some i ∧ i.zero = some x := by
  unfold zeroOf at h
  cases hi : P.info? t with
  | none => simp [hi] at h
  | some i =>
    cases hz : i.zero with
    | none => simp [hi, hz] at h
    | some x =>
      simp [hi, hz] at h
      exact ⟨x, fun ρ => aConst_den ρ x v h, fun w => by simp [zeroValue, typeInfo, hi, hz], i, rfl, hz⟩
theorem plcOf_spec {t : TypeId} {off : Nat} {p : Plc} (h : plcOf P t off = some p) : p.off = off ∧ aggOf P t = some p.agg ∧ szOf P t = some p.sz := by
  unfold plcOf at h
  split at h
  · rename_i b n h1 h2; injection h with h; subst h; exact ⟨rfl, h1, h2⟩
  · cases h
theorem fieldPlc_spec {s : TypeId} {f : Nat} {p : Plc} (h : fieldPlc P s f = some p) : ∃ fs x, P.underlying s = some (.struct fs) ∧ fs[f]? = some x ∧ p.off = x.offset ∧ aggOf P x.type = some p.agg ∧ szOf P x.type = some p.sz := by
  unfold fieldPlc at h
  split at h
  · rename_i fs hu
    split at h
    · rename_i x hx
      obtain ⟨h1, h2, h3⟩ := plcOf_spec h
      exact ⟨fs, x, hu, hx, h1, h2, h3⟩
    · cases h
  · cases h

theorem add_none (k o n : Nat) : (⟨k, o, none⟩ : Addr).add n = ⟨k, o + n, none⟩ := by unfold Addr.add; split <;> simp_all

theorem oFieldAddr_p (o : Oper) (s : TypeId) (x : Operand) (f : Nat) (ho : o.op = .fieldAddr s x f) (hT : TR ρ T a.tmps) (hG : GOK P ρ) (hg : gl P x = true) (H : Heap) :
    OKp P o a ρ H (oFieldAddr P s x f T H) := by
  intro v H' h
  unfold oFieldAddr at h
  split at h
  · rename_i b i p e hp
    rw [fN_eq] at h
    cases hz : Nat.beq p.sz 0 with
    | true => rw [hz] at h; cases h
    | false =>
      rw [hz] at h
      injection h with h1 h2; subst h1
      obtain ⟨q, hq, hx⟩ := den_ptr (ev_den hT hG hg e)
      obtain ⟨fs, y, h3, h4, h5, h6, h7⟩ := fieldPlc_spec hp
      have hne : p.sz ≠ 0 := fun e => by rw [e] at hz; cases hz
      have e3 : i + p.off = Nat.add i p.off := rfl
      refine ⟨h2.symm, .pointer (some ⟨q.blk, q.off + i + p.off, none⟩), by simp [den, hq, Nat.add_assoc], fun w => ?_⟩
      simp [execOp, ho, Instr.fieldAt, run_und h3, h4, hx, Instr.sureAddr, fieldPlace, szOf_run h7, hne, add_none, h5]
  · cases h

theorem part_run {t : TypeId} {p : Plc} {l : List AV} {m : List Value} {v : AV} (ha : aggOf P t = some p.agg) (hs : szOf P t = some p.sz) (hl : DL ρ l m) (h : partL l p = some v) :
    ∃ x, den ρ v = some x ∧ ∀ w, (part t m.toArray p.off).run P w = .ok x w := by
  unfold partL at h
  cases hb : p.agg with
  | true =>
    rw [hb] at h ha
    injection h with h
    subst h
    refine ⟨.agg ((m.drop p.off).take p.sz).toArray, by simp [den, show denL ρ _ = some _ from (hl.drop p.off).take p.sz], fun w => ?_⟩
    simp only [part, Sem.run_bind, aggOf_run ha, Result.andThen_ok, if_true, szOf_run hs, Sem.run_pure]
    congr 2
    apply Array.ext'
    simp [List.extract_eq_take_drop]
  | false =>
    rw [hb] at h ha
    obtain ⟨x, h1, h2⟩ := hl.get h
    refine ⟨x, h2, fun w => ?_⟩
    simp [part, aggOf_run ha, h1]
theorem oPart_p {o : Oper} {l : List AV} {p : Plc} {H : Heap} (h : ∀ v, partL l p = some v → Gives P o a ρ v) : OKp P o a ρ H (oPart l p H) := by
  intro v H' e
  unfold oPart at e
  split at e
  · rename_i m hm; rw [fL_eq] at e; injection e with e1 e2; subst e1; exact ⟨e2.symm, h _ hm⟩
  · rename_i u hu _; injection e with e1 e2; subst e1; exact ⟨e2.symm, h _ (by assumption)⟩
  · cases e
theorem oField_p (o : Oper) (s : TypeId) (x : Operand) (f : Nat) (ho : o.op = .field s x f) (hT : TR ρ T a.tmps) (hG : GOK P ρ) (hg : gl P x = true) (H : Heap) :
    OKp P o a ρ H (oField P s x f T H) := by
  intro v H' h
  unfold oField at h
  split at h
  · rename_i l p e hp
    obtain ⟨m, hm, hx⟩ := den_agg (ev_den hT hG hg e)
    obtain ⟨fs, y, h3, h4, h5, h6, h7⟩ := fieldPlc_spec hp
    refine oPart_p (fun v hv => ?_) v H' h
    obtain ⟨z, h8, h9⟩ := part_run (P := P) h6 h7 hm hv
    exact ⟨z, h8, fun w => by simp [execOp, ho, Instr.field, run_und h3, h4, hx, asAgg, ← h5, h9]⟩
  · cases h
theorem idx_spec {v : Option AV} {n j : Nat} (h : idx v n = some j) : ∃ k, v = some (.int k j) ∧ j < n := by
  unfold idx at h
  split at h
  · rename_i k i
    cases hb : Nat.blt i n with
    | true => rw [hb] at h; injection h with h; subst h; exact ⟨k, rfl, by simpa [blt_iff] using hb⟩
    | false => rw [hb] at h; cases h
  · cases h
theorem oIndexAddr_p (o : Oper) (t : TypeId) (x i : Operand) (ho : o.op = .indexAddr t x i) (hT : TR ρ T a.tmps) (hG : GOK P ρ) (hg : gl P x = true) (hi : gl P i = true) (H : Heap) :
    OKp P o a ρ H (oIndexAddr P t x i T H) := by
  intro v H' h
  unfold oIndexAddr at h
  split at h
  · rename_i n e b o' hu he
    split at h
    · rename_i j z hj hz
      rw [fN_eq] at h
      injection h with h1 h2; subst h1
      obtain ⟨k, hk, hlt⟩ := idx_spec hj
      obtain ⟨q, hq, hx⟩ := den_ptr (ev_den hT hG hg he)
      have hn := den_int (ev_den hT hG hi hk)
      refine ⟨h2.symm, .pointer (some ⟨q.blk, q.off + (o' + j * z), none⟩), by simp [den, hq], fun w => ?_⟩
      simp [execOp, ho, Instr.indexAt, hn, asIntOf, run_und hu, hx, Instr.sureAddr, hlt, szOf_run hz, add_none, Nat.add_assoc]
    · cases h
  · rename_i e b o' n c hu he
    split at h
    · rename_i j z hj hz
      rw [fN_eq] at h
      injection h with h1 h2; subst h1
      obtain ⟨k, hk, hlt⟩ := idx_spec hj
      obtain ⟨q, hq, hx⟩ := den_sl (ev_den hT hG hg he)
      have hn := den_int (ev_den hT hG hi hk)
      refine ⟨h2.symm, .pointer (some ⟨q.blk, q.off + (o' + j * z), none⟩), by simp [den, hq], fun w => ?_⟩
      simp [execOp, ho, Instr.indexAt, hn, asIntOf, run_und hu, hx, hlt, szOf_run hz, add_none, Nat.add_assoc]
    · cases h
  · rename_i e b o' n c hu he
    split at h
    · rename_i j z hj hz
      rw [fN_eq] at h
      injection h with h1 h2; subst h1
      obtain ⟨k, hk, hlt⟩ := idx_spec hj
      obtain ⟨q, hq, hx⟩ := den_so (ev_den hT hG hg he)
      have hn := den_int (ev_den hT hG hi hk)
      refine ⟨h2.symm, .pointer (some ⟨q.blk, q.off + (o' + j * z), none⟩), by simp [den, hq], fun w => ?_⟩
      simp [execOp, ho, Instr.indexAt, hn, asIntOf, run_und hu, hx, hlt, szOf_run hz, add_none, Nat.add_assoc]
    · cases h
  · cases h
theorem oIndex_p (o : Oper) (t : TypeId) (x i : Operand) (ho : o.op = .index t x i) (hT : TR ρ T a.tmps) (hG : GOK P ρ) (hg : gl P x = true) (hi : gl P i = true) (H : Heap) :
    OKp P o a ρ H (oIndex P t x i T H) := by
  intro v H' h
  unfold oIndex at h
  split at h
  · rename_i n e l hu he
    split at h
    · rename_i j p hj hp
      obtain ⟨k, hk, hlt⟩ := idx_spec hj
      obtain ⟨m, hm, hx⟩ := den_agg (ev_den hT hG hg he)
      have hn := den_int (ev_den hT hG hi hk)
      obtain ⟨_, h6, h7⟩ := plcOf_spec hp
      refine oPart_p (fun v hv => ?_) v H' h
      obtain ⟨z, h8, h9⟩ := part_run (P := P) (p := ⟨Nat.mul j p.sz, p.agg, p.sz⟩) h6 h7 hm hv
      refine ⟨z, h8, fun w => ?_⟩
      have h10 := h9 w
      simp only [Nat.mul_eq] at h10
      simp [execOp, ho, Instr.index, hn, asIntOf, run_und hu, hx, hlt, szOf_run h7, h10]
    · cases h
  · rename_i n s hu he
    split at h
    · rename_i j hj
      rw [fN_eq] at h
      injection h with h1 h2; subst h1
      obtain ⟨k, hk, hlt⟩ := idx_spec hj
      have hx := den_str (ev_den hT hG hg he)
      have hn := den_int (ev_den hT hG hi hk)
      refine ⟨h2.symm, _, rfl, fun w => ?_⟩
      have hb : (unpack n s)[j]? = some (UInt8.ofNat (s / 256 ^ j % 256)) := by
        have := unpackL_get n s j hlt
        rw [getElem?_def] at this ⊢
        rw [dif_pos (by rw [unpackL_length]; exact hlt)] at this
        rw [dif_pos (by rw [unpack_size]; exact hlt)]
        injection this with this
        congr 1
      simp [execOp, ho, Instr.index, hn, asIntOf, run_und hu, hx, hb, byteAt_eq]
    · cases h
  · cases h
end
end Eng
end Go.Proofs.YtlajkdbpmkodpaaGreatDoor
namespace Go.Proofs.YtlajkdbpmkodpaaGreatDoor
namespace Eng
open Go

/-- a value that a step of the model gives in every world -/
def RunV (P : Program) (ρ : Rho) (s : Sem Value) (v : AV) : Prop := ∃ x, den ρ v = some x ∧ ∀ w, s.run P w = .ok x w
def OKv (P : Program) (ρ : Rho) (s : Sem Value) (H : Heap) (r : OR) : Prop := ∀ v H', r = .val v H' → H' = H ∧ RunV P ρ s v
theorem OKv.bad {P : Program} {ρ : Rho} {s : Sem Value} {H : Heap} : OKv P ρ s H .bad := fun _ _ h => by cases h
theorem OKv.val {P : Program} {ρ : Rho} {s : Sem Value} {H : Heap} {v : AV} (h : RunV P ρ s v) : OKv P ρ s H (.val v H) := fun _ _ e => by injection e with e1 e2; subst e1; exact ⟨e2.symm, h⟩

section
variable {P : Program} {ρ : Rho} {T : Tm} {a : Act}
theorem RunV.bool {s : Sem Value} {c : Bool} (h : ∀ w, s.run P w = .ok (.bool c) w) : RunV P ρ s (.bool c) := ⟨_, rfl, h⟩
theorem RunV.int {s : Sem Value} {k : IntKind} {n : Int} (h : ∀ w, s.run P w = .ok (.int k n) w) : RunV P ρ s (.int k n) := ⟨_, rfl, h⟩

theorem bits_lt {k : IntKind} {m : Nat} (h : inK k (.ofNat m) = true) : m < 2 ^ k.bits := by
  unfold inK at h
  split at h <;> first | (cases h; done) | (simp only [blt_iff, decide_eq_true_iff, pow63, pow64] at h; simp_all [IntKind.bits]; done) | (rename_i hm _; simp_all [blt_iff, pow63, pow64, IntKind.bits]; omega)
theorem inK_of_le {k : IntKind} {m n : Nat} (h : inK k (.ofNat m) = true) (hn : n ≤ m) : inK k (.ofNat n) = true := by
  unfold inK at h ⊢
  cases k <;> simp_all [blt_iff] <;> omega
theorem inK_or {k : IntKind} {m n r : Nat} (hm : inK k (.ofNat m) = true) (hn : inK k (.ofNat n) = true) (hr : ∀ i, m < 2 ^ i → n < 2 ^ i → r < 2 ^ i) : inK k (.ofNat r) = true := by
  unfold inK at hm hn ⊢
  cases k <;> simp_all only [blt_iff, pow63, pow64, decide_eq_true_iff, Bool.false_eq_true]
  · exact hr 31 hm hn
  · exact hr 63 hm hn
  · exact hr 8 hm hn
  · exact hr 32 hm hn
  · exact hr 64 hm hn
theorem back_and {k : IntKind} {m n : Nat} (hm : inK k (.ofNat m) = true) (hn : inK k (.ofNat n) = true) :
    k.wrap ((BitVec.ofInt k.bits (m : Int) &&& BitVec.ofInt k.bits (n : Int)).toNat : Int) = ((m &&& n : Nat) : Int) := by
  have : (BitVec.ofInt k.bits (m : Int) &&& BitVec.ofInt k.bits (n : Int)).toNat = m &&& n := by
    simp [BitVec.toNat_and, Nat.mod_eq_of_lt (bits_lt hm), Nat.mod_eq_of_lt (bits_lt hn)]
  rw [this]
  exact inK_nat (inK_of_le hm Nat.and_le_left)
theorem back_or {k : IntKind} {m n : Nat} (hm : inK k (.ofNat m) = true) (hn : inK k (.ofNat n) = true) :
    k.wrap ((BitVec.ofInt k.bits (m : Int) ||| BitVec.ofInt k.bits (n : Int)).toNat : Int) = ((m ||| n : Nat) : Int) := by
  have : (BitVec.ofInt k.bits (m : Int) ||| BitVec.ofInt k.bits (n : Int)).toNat = m ||| n := by
    simp [BitVec.toNat_or, Nat.mod_eq_of_lt (bits_lt hm), Nat.mod_eq_of_lt (bits_lt hn)]
  rw [this]
  exact inK_nat (inK_or hm hn fun i a b => Nat.or_lt_two_pow a b)
theorem back_xor {k : IntKind} {m n : Nat} (hm : inK k (.ofNat m) = true) (hn : inK k (.ofNat n) = true) :
    k.wrap ((BitVec.ofInt k.bits (m : Int) ^^^ BitVec.ofInt k.bits (n : Int)).toNat : Int) = ((m ^^^ n : Nat) : Int) := by
  have : (BitVec.ofInt k.bits (m : Int) ^^^ BitVec.ofInt k.bits (n : Int)).toNat = m ^^^ n := by
    simp [BitVec.toNat_xor, Nat.mod_eq_of_lt (bits_lt hm), Nat.mod_eq_of_lt (bits_lt hn)]
  rw [this]
  exact inK_nat (inK_or hm hn fun i a b => Nat.xor_lt_two_pow a b)
theorem back_andNot {k : IntKind} {m n : Nat} (hm : inK k (.ofNat m) = true) :
    k.wrap ((BitVec.ofInt k.bits (m : Int) &&& ~~~ BitVec.ofInt k.bits (n : Int)).toNat : Int) = ((m ^^^ (m &&& n) : Nat) : Int) := by
  have e : BitVec.ofInt k.bits (m : Int) &&& ~~~ BitVec.ofInt k.bits (n : Int) = BitVec.ofNat k.bits (m ^^^ (m &&& n)) := by
    rw [BitVec.ofInt_natCast, BitVec.ofInt_natCast]
    ext i hi
    simp
    cases (BitVec.ofNat k.bits m)[i] <;> cases (BitVec.ofNat k.bits n)[i] <;> rfl
  have hlt : m ^^^ (m &&& n) ≤ m := by
    have h1 : (m ^^^ (m &&& n)) &&& m = m ^^^ (m &&& n) := by
      apply Nat.eq_of_testBit_eq
      intro i
      rw [Nat.testBit_and, Nat.testBit_xor, Nat.testBit_and]
      cases m.testBit i <;> cases n.testBit i <;> rfl
    rw [← h1]; exact Nat.and_le_right
  rw [e]
  have : (BitVec.ofNat k.bits (m ^^^ (m &&& n))).toNat = m ^^^ (m &&& n) := by
    rw [BitVec.toNat_ofNat, Nat.mod_eq_of_lt (Nat.lt_of_le_of_lt hlt (bits_lt hm))]
  rw [this]
  exact inK_nat (inK_of_le hm hlt)

theorem tdiv_ok {b : Int} (h : ieq b (.ofNat 0) = false) : ¬ b = 0 := by
  rw [ieq_eq] at h; intro e; subst e; simp at h
theorem intOp_v (op : BinOp) (t : TypeId) (k : IntKind) (x y : Int) (H : Heap) : OKv P ρ (binOp op t (.int k x) (.int k y)) H (intOp op k x y H) := by
  intro v H' h
  cases op <;> simp only [intOp, fI_eq, fB_eq, wrapF_eq, iadd_eq, ineg_eq, ilt_eq, ile_eq, ieq_eq] at h
  case add | sub | mul =>
    refine OKv.val (.int fun w => ?_) v H' h
    simp [binOp, Op.intArith, Int.sub_eq_add_neg]
  case quo | rem =>
    cases hy : (y == Int.ofNat 0) with
    | true => rw [hy] at h; cases h
    | false =>
      rw [hy] at h
      have hy' : ¬ y = 0 := by simpa using hy
      refine OKv.val (.int fun w => ?_) v H' h
      simp [binOp, Op.intDiv, hy']
  case and | or | xor | andNot =>
    split at h
    · rename_i m n
      rw [fN_eq] at h
      simp only [Int.ofNat_eq_natCast] at h
      cases hm : inK k (m : Int) with
      | false => rw [hm] at h; cases h
      | true =>
        cases hn : inK k (n : Int) with
        | false => rw [hm, hn] at h; cases h
        | true =>
          rw [hm, hn] at h
          replace hm : inK k (.ofNat m) = true := hm
          replace hn : inK k (.ofNat n) = true := hn
          simp only [Bool.and_self, cond_true] at h
          refine OKv.val (.int fun w => ?_) v H' h
          have e1 := back_and hm hn
          have e2 := back_or hm hn
          have e3 := back_xor hm hn
          have e4 := back_andNot (n := n) hm
          simp only [binOp, ne_eq, not_true_eq_false, if_false, Op.intBits, Sem.run_pure]
          first | exact congrArg (fun z => Result.ok (Value.int k z) w) e1 | exact congrArg (fun z => Result.ok (Value.int k z) w) e2 | exact congrArg (fun z => Result.ok (Value.int k z) w) e3 | exact congrArg (fun z => Result.ok (Value.int k z) w) e4
    · cases h
  case eql | neq | lss | leq | gtr | geq =>
    refine OKv.val (.bool fun w => ?_) v H' h
    simp [binOp, Op.intCmp, bne]
  case shl | shr => cases h
theorem bitsK_eq (k : IntKind) : bitsK k = k.bits := by cases k <;> rfl
theorem shiftOp_v (op : BinOp) (t : TypeId) (k j : IntKind) (x y : Int) (H : Heap) : OKv P ρ (binOp op t (.int k x) (.int j y)) H (shiftOp op k x y H) := by
  intro v H' h
  unfold shiftOp at h
  split at h
  · rename_i n
    simp only [fI_eq, wrapF_eq, bitsK_eq] at h
    refine OKv.val (.int fun w => ?_) v H' h
    have h0 : ¬ ((n : Int) < 0) := by omega
    have e : x.mul (Int.ofNat (Nat.pow 2 (n.min k.bits))) = x * 2 ^ min n k.bits := by
      show x * (((2 ^ min n k.bits : Nat) : Int)) = _
      simp
    simp [binOp, Op.shift, h0]
    try exact congrArg k.wrap e.symm
  · rename_i m n
    simp only [fN_eq, bitsK_eq] at h
    refine OKv.val (.int fun w => ?_) v H' h
    have h0 : ¬ ((n : Int) < 0) := by omega
    have e : (2 : Int) ^ min n k.bits = ((2 ^ min n k.bits : Nat) : Int) := by simp
    simp [binOp, Op.shift, h0]
    rw [e]
    exact (Int.ofNat_fdiv m (2 ^ min n k.bits)).symm
  · cases h
theorem unpack_append (l m x y : Nat) : unpack l x ++ unpack m y = unpack (l + m) (x % 256 ^ l + y * 256 ^ l) := by
  have e : ∀ (a b : ByteArray), a.data.toList = b.data.toList → a = b := fun a b h => by
    cases a; cases b; congr 1; exact Array.ext' h
  apply e
  simp [unpack, unpackL_append]
theorem strOp_v (op : BinOp) (t : TypeId) (l x m y : Nat) (H : Heap) : OKv P ρ (binOp op t (.string (unpack l x)) (.string (unpack m y))) H (strOp op l x m y H) := by
  intro v H' h
  unfold strOp at h
  split at h
  · cases hb : Nat.blt (Nat.add l m) pow63 with
    | false => rw [hb] at h; cases h
    | true =>
      rw [hb] at h
      simp only [cond_true, fN_eq] at h
      rw [blt_iff, decide_eq_true_iff] at hb
      have hb' : l + m < 9223372036854775808 := hb
      refine OKv.val ⟨_, rfl, fun w => ?_⟩ v H' h
      have hlt : ¬ ((9223372036854775807 : Int) < (l : Int) + (m : Int)) := by omega
      show _ = Result.ok (Value.string (unpack (l + m) (x % 256 ^ l + y * 256 ^ l))) w
      simp [binOp, Op.stringOp, unpack_size, IntKind.max, IntKind.signed, IntKind.bits, hlt, unpack_append]
  · simp only [fB_eq] at h
    refine OKv.val (.bool fun w => ?_) v H' h
    simp [binOp, Op.stringOp, strEq_eq]
  · simp only [fB_eq] at h
    refine OKv.val (.bool fun w => ?_) v H' h
    simp [binOp, Op.stringOp, strEq_eq]
  · cases h
theorem eqOp_v {op : BinOp} {s : Sem Value} {c : Bool} (H : Heap) (h1 : op = .eql → ∀ w, s.run P w = .ok (.bool c) w) (h2 : op = .neq → ∀ w, s.run P w = .ok (.bool (!c)) w) : OKv P ρ s H (eqOp op c H) := by
  intro v H' h
  unfold eqOp at h
  split at h
  · rw [fB_eq] at h; exact OKv.val (.bool (h1 rfl)) v H' h
  · rw [fB_eq] at h; exact OKv.val (.bool (h2 rfl)) v H' h
  · cases h

/-! ### structs and arrays, compared -/
theorem flat1_eq {t : TypeId} {d : TypeDesc} (h : flat1 P t = some d) : P.underlying t = some d ∧ aggOf P t = some false := by
  unfold flat1 at h
  split at h <;> first | (cases h; done) | (rename_i hu; injection h with h; subst h; exact ⟨hu, by simp [aggOf, hu]⟩)
/-- one cell against another one -/
def eq1 (d : TypeDesc) (a b : AV) : Option Bool := match d, a, b with
  | .bool, .bool a, .bool b => some (a == b)
  | .int k, .int j a, .int i b => bif decide (k = j) && decide (j = i) then some (ieq a b) else none
  | .string, .str n x, .str p y => some (strEq n x p y)
  | _, _, _ => none
theorem cond_some {β : Type} {c : Bool} {x y : β} {z : β} (h : (bif c then x else y) = z) (hy : y ≠ z) : c = true ∧ x = z := by
  cases c with
  | true => exact ⟨rfl, h⟩
  | false => exact absurd h hy
theorem flatEq_cons {d : TypeDesc} {ds : List TypeDesc} {a b : AV} {l m : List AV} {c : Bool} (h : flatEq (d :: ds) (a :: l) (b :: m) = some c) :
    ∃ c1 c2, eq1 d a b = some c1 ∧ flatEq ds l m = some c2 ∧ c = (c1 && c2) := by
  unfold flatEq at h
  split at h
  · simp_all
  · rename_i e1 e2 e3
    simp only [List.cons.injEq] at e1 e2 e3
    obtain ⟨rfl, rfl⟩ := e1; obtain ⟨rfl, rfl⟩ := e2; obtain ⟨rfl, rfl⟩ := e3
    split at h
    · rename_i c' hc; injection h with h; exact ⟨_, c', rfl, hc, h.symm⟩
    · cases h
  · rename_i e1 e2 e3
    simp only [List.cons.injEq] at e1 e2 e3
    obtain ⟨rfl, rfl⟩ := e1; obtain ⟨rfl, rfl⟩ := e2; obtain ⟨rfl, rfl⟩ := e3
    obtain ⟨hk, h⟩ := cond_some h (by simp)
    split at h
    · rename_i c' hc; injection h with h; exact ⟨_, c', by simp only [eq1, hk, cond_true], hc, h.symm⟩
    · cases h
  · rename_i e1 e2 e3
    simp only [List.cons.injEq] at e1 e2 e3
    obtain ⟨rfl, rfl⟩ := e1; obtain ⟨rfl, rfl⟩ := e2; obtain ⟨rfl, rfl⟩ := e3
    split at h
    · rename_i c' hc; injection h with h; exact ⟨_, c', rfl, hc, h.symm⟩
    · cases h
  · cases h
theorem eq1_run {t : TypeId} {d : TypeDesc} {a b : AV} {x y : Value} {c : Bool} (hd : flat1 P t = some d) (h : eq1 d a b = some c) (hx : den ρ a = some x) (hy : den ρ b = some y) (n : Nat) (w : World) :
    (Op.equalIn (n + 1) t x y).run P w = .ok c w := by
  obtain ⟨hu, _⟩ := flat1_eq hd
  unfold eq1 at h
  split at h
  · injection h with h; subst h; rw [den_bool hx, den_bool hy]; exact run_equalIn_bool' w n t _ _ hu
  · rename_i k j a' i b'
    cases hk : (decide (k = j) && decide (j = i)) with
    | false => rw [hk] at h; cases h
    | true =>
      rw [hk, cond_true] at h
      injection h with h; subst h
      simp only [Bool.and_eq_true, decide_eq_true_iff] at hk
      obtain ⟨rfl, rfl⟩ := hk
      rw [den_int hx, den_int hy, ieq_eq]
      exact run_equalIn_int w n t _ _ _ _ hu
  · injection h with h; subst h; rw [den_str hx, den_str hy, strEq_eq]; exact run_equalIn_string w n t _ _ hu
  · cases h
theorem flatEq_nil {ds : List TypeDesc} {l m : List AV} {c : Bool} (h : flatEq ds l m = some c) : ds.length = l.length ∧ ds.length = m.length := by
  induction ds generalizing l m c with
  | nil =>
    unfold flatEq at h
    split at h <;> first | (cases h; done) | simp_all
  | cons d ds ih =>
    cases l with
    | nil => unfold flatEq at h; split at h <;> simp_all
    | cons a l =>
      cases m with
      | nil => unfold flatEq at h; split at h <;> simp_all
      | cons b m =>
        obtain ⟨c1, c2, _, h2, _⟩ := flatEq_cons h
        have := ih h2
        simp only [List.length_cons]; omega
theorem eqFields_run : ∀ (fs : List Field) (i : Nat) (ds : List TypeDesc) (l m : List AV) (xs ys : List Value) (c : Bool), flatFs P i fs = some ds → flatEq ds (l.drop i) (m.drop i) = some c →
    DL ρ l xs → DL ρ m ys → ∀ (n : Nat) (w : World), (Op.eqFields (n + 1) xs.toArray ys.toArray fs).run P w = .ok c w
  | [], i, ds, l, m, xs, ys, c, h, he, _, _, n, w => by
    simp only [flatFs, Option.some.injEq] at h
    subst h
    unfold flatEq at he
    split at he <;> first | (cases he; done) | (injection he with he; subst he; simp [Op.eqFields]; done) | simp_all
  | f :: fs, i, ds, l, m, xs, ys, c, h, he, hl, hm, n, w => by
    simp only [flatFs] at h
    cases hn : (f.name != "_" && Nat.beq f.offset i) with
    | false => rw [hn] at h; cases h
    | true =>
      rw [hn, cond_true] at h
      simp only [Bool.and_eq_true, bne_iff_ne, beq_true] at hn
      obtain ⟨hn1, hn2⟩ := hn
      split at h
      · rename_i d r hd hr
        injection h with h; subst h
        obtain ⟨hlen1, hlen2⟩ := flatEq_nil he
        simp only [List.length_cons, List.length_drop] at hlen1 hlen2
        have el : l.drop i = l[i]'(by omega) :: l.drop (i + 1) := List.drop_eq_getElem_cons (by omega)
        have em : m.drop i = m[i]'(by omega) :: m.drop (i + 1) := List.drop_eq_getElem_cons (by omega)
        rw [el, em] at he
        obtain ⟨c1, c2, h1, h2, rfl⟩ := flatEq_cons he
        obtain ⟨x, hx1, hx2⟩ := hl.get (i := i) (v := l[i]'(by omega)) (by simp)
        obtain ⟨y, hy1, hy2⟩ := hm.get (i := i) (v := m[i]'(by omega)) (by simp)
        have hag := (flat1_eq hd).2
        have px : ∀ w, (part f.type xs.toArray f.offset).run P w = .ok x w := fun w => by simp [part, aggOf_run hag, hn2, hx1]
        have py : ∀ w, (part f.type ys.toArray f.offset).run P w = .ok y w := fun w => by simp [part, aggOf_run hag, hn2, hy1]
        have ih := eqFields_run fs (i + 1) r l m xs ys c2 hr h2 hl hm n w
        rw [Op.eqFields]
        simp only [if_pos hn1, Sem.run_bind, px, py, eq1_run hd h1 hx2 hy2, Result.andThen_ok]
        cases c1 <;> simp [ih]
      · cases h
theorem eqArray_run {e : TypeId} {d : TypeDesc} (hd : flat1 P e = some d) (hz : szOf P e = some 1) : ∀ (k i : Nat) (l m : List AV) (xs ys : List Value) (c : Bool), flatEq (List.replicate k d) (l.drop i) (m.drop i) = some c →
    DL ρ l xs → DL ρ m ys → ∀ (n : Nat) (w : World), (forIn (m := Sem) (List.range' i k) ((none : Option Bool), PUnit.unit) fun j _r => do
      let b ← Op.equalIn (n + 1) e (← part e xs.toArray (j * 1)) (← part e ys.toArray (j * 1))
      if (!b) = true then pure (ForInStep.done (some false, PUnit.unit)) else pure (ForInStep.yield (none, PUnit.unit))).run P w = .ok (if c then none else some false, PUnit.unit) w
  | 0, i, l, m, xs, ys, c, he, _, _, n, w => by
    simp only [List.replicate_zero] at he
    unfold flatEq at he
    split at he <;> first | (cases he; done) | (injection he with he; subst he; simp; done) | simp_all
  | k + 1, i, l, m, xs, ys, c, he, hl, hm, n, w => by
    obtain ⟨hlen1, hlen2⟩ := flatEq_nil he
    simp only [List.length_replicate, List.length_drop] at hlen1 hlen2
    have el : l.drop i = l[i]'(by omega) :: l.drop (i + 1) := List.drop_eq_getElem_cons (by omega)
    have em : m.drop i = m[i]'(by omega) :: m.drop (i + 1) := List.drop_eq_getElem_cons (by omega)
    rw [el, em, List.replicate_succ] at he
    obtain ⟨c1, c2, h1, h2, rfl⟩ := flatEq_cons he
    obtain ⟨x, hx1, hx2⟩ := hl.get (i := i) (v := l[i]'(by omega)) (by simp)
    obtain ⟨y, hy1, hy2⟩ := hm.get (i := i) (v := m[i]'(by omega)) (by simp)
    have hag := (flat1_eq hd).2
    have px : ∀ w, (part e xs.toArray i).run P w = .ok x w := fun w => by simp [part, aggOf_run hag, hx1]
    have py : ∀ w, (part e ys.toArray i).run P w = .ok y w := fun w => by simp [part, aggOf_run hag, hy1]
    have ih := eqArray_run hd hz k (i + 1) l m xs ys c2 h2 hl hm n w
    rw [List.range'_succ, List.forIn_cons]
    simp only [Sem.run_bind, Nat.mul_one, px, py, eq1_run hd h1 hx2 hy2, Result.andThen_ok]
    cases c1
    · simp
    · simpa using ih

theorem repl_agg_run {t e : TypeId} {n : Nat} {d : TypeDesc} (hu : P.underlying t = some (.array n e)) (hd : flat1 P e = some d) (hz : szOf P e = some 1) {l m : List AV} {xs ys : List Value} {c : Bool}
    (he : flatEq (List.replicate n d) l m = some c) (hl : DL ρ l xs) (hm : DL ρ m ys) (w : World) : (Op.equalIn 10000 t (.agg xs.toArray) (.agg ys.toArray)).run P w = .ok c w := by
  have h := eqArray_run (P := P) hd hz n 0 l m xs ys c (by simpa using he) hl hm 9998 w
  rw [show (10000 : Nat) = 9998 + 1 + 1 from rfl, Op.equalIn]
  simp only [Sem.run_bind, run_und hu, Result.andThen_ok, szOf_run hz]
  rw [Std.Legacy.Range.forIn_eq_forIn_range']
  simp only [Std.Legacy.Range.size, Nat.sub_zero, Nat.add_sub_cancel, Nat.div_one] at *
  rw [h]
  cases c <;> simp
theorem flatF_run {t : TypeId} {ds : List TypeDesc} (hf : flatF P t = some ds) {l m : List AV} {xs ys : List Value} {c : Bool} (he : flatEq ds l m = some c) (hl : DL ρ l xs) (hm : DL ρ m ys) (w : World) :
    (Op.equalIn 10000 t (.agg xs.toArray) (.agg ys.toArray)).run P w = .ok c w := by
  unfold flatF at hf
  split at hf
  · rename_i fs hu
    obtain ⟨hk, hf⟩ : P.stoodInHeld t = false ∧ flatFs P 0 fs.toList = some ds := by
      cases hs : P.stoodInHeld t with
      | true => rw [hs] at hf; cases hf
      | false => rw [hs] at hf; exact ⟨rfl, hf⟩
    have hfs : P.fieldsOf t = fs := by simp [Program.fieldsOf, hu]
    rw [show (10000 : Nat) = 9999 + 1 from rfl, run_equalIn_struct w 9999 t _ _ (by rw [hfs]; exact hu) hk, hfs]
    exact eqFields_run fs.toList 0 ds l m xs ys c hf (by simpa using he) hl hm 9998 w
  · rename_i n e hu
    split at hf
    · rename_i d hd hz
      injection hf with hf; subst hf
      exact repl_agg_run hu hd hz he hl hm w
    · cases hf
  · cases hf

theorem gives_bin {o : Oper} {op : BinOp} {t yt : TypeId} {x y : Operand} {v : AV} (ho : o.op = .binOp op t x y yt) (hg : ∀ w, (eqGuard op t x y (a.eval x) (a.eval y)).run P w = .ok () w)
    (h : RunV P ρ (binOp op t (a.eval x) (a.eval y)) v) : Gives P o a ρ v := by
  obtain ⟨z, h1, h2⟩ := h
  exact ⟨z, h1, fun w => by simp [execOp, ho, hg, h2]⟩
theorem okp_bin {o : Oper} {op : BinOp} {t yt : TypeId} {x y : Operand} {H : Heap} {r : OR} (ho : o.op = .binOp op t x y yt) (hg : ∀ w, (eqGuard op t x y (a.eval x) (a.eval y)).run P w = .ok () w)
    (h : OKv P ρ (binOp op t (a.eval x) (a.eval y)) H r) : OKp P o a ρ H r := fun v H' e => ⟨(h v H' e).1, gives_bin ho hg (h v H' e).2⟩
theorem guard_off {op : BinOp} {t : TypeId} {x y : Operand} {u v : Value} (h : ∀ a b, ¬ (u = .agg a ∧ v = .agg b)) (h' : ¬ (u = .nilIface ∧ v = .nilIface)) (w : World) : (eqGuard op t x y u v).run P w = .ok () w := by
  unfold eqGuard
  cases op <;> simp <;> (split <;> first | (simp; done) | (exact absurd ⟨rfl, rfl⟩ h') | (exact absurd ⟨rfl, rfl⟩ (h _ _)))
theorem eqv {op : BinOp} {t : TypeId} {x y : Value} {c : Bool} (H : Heap) (h1 : binOp .eql t x y = (do pure (.bool (← Op.equal t x y)))) (h2 : binOp .neq t x y = (do pure (.bool (!(← Op.equal t x y)))))
    (hc : ∀ w, (Op.equal t x y).run P w = .ok c w) : OKv P ρ (binOp op t x y) H (eqOp op c H) :=
  eqOp_v H (fun e w => by subst e; rw [h1]; simp [hc]) (fun e w => by subst e; rw [h2]; simp [hc])
theorem equal_succ (t : TypeId) (x y : Value) : Op.equal t x y = Op.equalIn (9999 + 1) t x y := rfl
theorem eq_bb {t : TypeId} (hu : P.underlying t = some .bool) (b c : Bool) (w : World) : (Op.equal t (.bool b) (.bool c)).run P w = .ok (b == c) w := run_equal_bool w t b c hu
theorem eq_p1 {t e : TypeId} (hu : P.underlying t = some (.pointer e)) (b : Option Addr) (w : World) : (Op.equal t (.pointer none) (.pointer b)).run P w = .ok b.isNone w := by
  rw [equal_succ]; unfold Op.equalIn; simp only [Sem.run_bind, run_und hu, Result.andThen_ok]; rfl
theorem eq_p2 {t e : TypeId} (hu : P.underlying t = some (.pointer e)) (b : Addr) (w : World) : (Op.equal t (.pointer (some b)) (.pointer none)).run P w = .ok false w := by
  rw [equal_succ]; unfold Op.equalIn; simp only [Sem.run_bind, run_und hu, Result.andThen_ok]; rfl
theorem eq_i0 {t : TypeId} {ms : Array (String × TypeId)} (hu : P.underlying t = some (.interface ms)) (w : World) : (Op.equal t .nilIface .nilIface).run P w = .ok true w := by
  rw [equal_succ]; unfold Op.equalIn; simp only [Sem.run_bind, run_und hu, Result.andThen_ok]; rfl
theorem eq_i1 {t : TypeId} {ms : Array (String × TypeId)} (hu : P.underlying t = some (.interface ms)) (u : TypeId) (v : Value) (w : World) : (Op.equal t .nilIface (.iface u v)).run P w = .ok false w := by
  rw [equal_succ]; unfold Op.equalIn; simp only [Sem.run_bind, run_und hu, Result.andThen_ok]; rfl
theorem eq_i2 {t : TypeId} {ms : Array (String × TypeId)} (hu : P.underlying t = some (.interface ms)) (u : TypeId) (v : Value) (w : World) : (Op.equal t (.iface u v) .nilIface).run P w = .ok false w := by
  rw [equal_succ]; unfold Op.equalIn; simp only [Sem.run_bind, run_und hu, Result.andThen_ok]; rfl
theorem eq_s {t e : TypeId} (hu : P.underlying t = some (.slice e)) (b : Option Addr) (n c : Nat) (w : World) : (Op.equal t (.slice b n c) (.slice none 0 0)).run P w = .ok b.isNone w := by
  rw [equal_succ]; unfold Op.equalIn; simp only [Sem.run_bind, run_und hu, Result.andThen_ok]; cases b <;> rfl

theorem gp {x : Operand} {v : AV} {u : Value} (hT : TR ρ T a.tmps) (hG : GOK P ρ) (hx : gl P x = true) (h : ev x T = some v) (hd : den ρ v = some u) : a.eval x = u := by
  have := ev_den hT hG hx h; rw [hd] at this; injection this with this; exact this.symm
theorem oBin_p (o : Oper) (op : BinOp) (t yt : TypeId) (x y : Operand) (ho : o.op = .binOp op t x y yt) (hT : TR ρ T a.tmps) (hG : GOK P ρ) (hx : gl P x = true) (hy : gl P y = true) (H : Heap) :
    OKp P o a ρ H (oBin P op t x y T H) := by
  have go : ∀ {u v : Value} {r : OR}, a.eval x = u → a.eval y = v → (∀ a b, ¬ (u = .agg a ∧ v = .agg b)) → ¬ (u = .nilIface ∧ v = .nilIface) → OKv P ρ (binOp op t u v) H r → OKp P o a ρ H r :=
    fun e1 e2 n1 n2 h => okp_bin ho (fun w => by rw [e1, e2]; exact guard_off n1 n2 w) (by rw [e1, e2]; exact h)
  intro v H' h
  unfold oBin at h
  split at h
  · rename_i k i j b ex ey
    have e1 := den_int (ev_den hT hG hx ex)
    have e2 := den_int (ev_den hT hG hy ey)
    split at h
    · exact go e1 e2 (by simp) (by simp) (shiftOp_v _ _ _ _ _ _ _) v H' h
    · exact go e1 e2 (by simp) (by simp) (shiftOp_v _ _ _ _ _ _ _) v H' h
    · obtain ⟨hk, h2⟩ := cond_some h (by simp)
      have hk := of_decide_eq_true hk
      subst hk
      exact go e1 e2 (by simp) (by simp) (intOp_v _ _ _ _ _ _) v H' h2
  · rename_i l i m j ex ey
    exact go (den_str (ev_den hT hG hx ex)) (den_str (ev_den hT hG hy ey)) (by simp) (by simp) (strOp_v _ _ _ _ _ _ _) v H' h
  · rename_i b c ex ey
    split at h
    · rename_i hu; exact go (den_bool (ev_den hT hG hx ex)) (den_bool (ev_den hT hG hy ey)) (by simp) (by simp) (eqv H rfl rfl (eq_bb hu b c)) v H' h
    · cases h
  · rename_i ex ey
    split at h
    · rename_i hu; exact go (gp hT hG hx ex rfl) (gp hT hG hy ey rfl) (by simp) (by simp) (eqv H rfl rfl (eq_p1 hu none)) v H' h
    · cases h
  · rename_i ex ey
    obtain ⟨p, _, e1⟩ := den_ptr (ev_den hT hG hx ex)
    split at h
    · rename_i hu; exact go e1 (gp hT hG hy ey rfl) (by simp) (by simp) (eqv H rfl rfl (eq_p2 hu _)) v H' h
    · cases h
  · rename_i ex ey
    obtain ⟨p, _, e2⟩ := den_ptr (ev_den hT hG hy ey)
    split at h
    · rename_i hu; exact go (gp hT hG hx ex rfl) e2 (by simp) (by simp) (eqv H rfl rfl (eq_p1 hu (some _))) v H' h
    · cases h
  · rename_i ex ey
    obtain ⟨p, _, e2⟩ := den_ifc (ev_den hT hG hy ey)
    split at h
    · rename_i hu; exact go (gp hT hG hx ex rfl) e2 (by simp) (by simp) (eqv H rfl rfl (eq_i1 hu _ _)) v H' h
    · cases h
  · rename_i ex ey
    obtain ⟨p, _, e1⟩ := den_ifc (ev_den hT hG hx ex)
    split at h
    · rename_i hu; exact go e1 (gp hT hG hy ey rfl) (by simp) (by simp) (eqv H rfl rfl (eq_i2 hu _ _)) v H' h
    · cases h
  · rename_i ex ey
    have e1 : a.eval x = .nilIface := gp hT hG hx ex rfl
    have e2 : a.eval y = .nilIface := gp hT hG hy ey rfl
    split at h
    · rename_i hu
      split at h
      · exact okp_bin ho (fun w => by rw [e1, e2]; cases op <;> simp [eqGuard]) (by rw [e1, e2]; exact eqv H rfl rfl (eq_i0 hu)) v H' h
      · cases h
    · cases h
  · rename_i ex ey
    split at h
    · rename_i hu; exact go (gp hT hG hx ex rfl) (gp hT hG hy ey rfl) (by simp) (by simp) (eqv H rfl rfl (eq_s hu none 0 0)) v H' h
    · cases h
  · rename_i ex ey
    obtain ⟨p, _, e1⟩ := den_sl (ev_den hT hG hx ex)
    split at h
    · rename_i hu; exact go e1 (gp hT hG hy ey rfl) (by simp) (by simp) (eqv H rfl rfl (eq_s hu (some _) _ _)) v H' h
    · cases h
  · rename_i ex ey
    obtain ⟨p, _, e1⟩ := den_so (ev_den hT hG hx ex)
    split at h
    · rename_i hu; exact go e1 (gp hT hG hy ey rfl) (by simp) (by simp) (eqv H rfl rfl (eq_s hu (some _) _ _)) v H' h
    · cases h
  · rename_i ex ey
    have e1 := den_sz (ev_den hT hG hx ex)
    split at h
    · rename_i hu; exact go e1 (gp hT hG hy ey rfl) (by simp) (by simp) (eqv H rfl rfl (eq_s hu (some _) _ _)) v H' h
    · cases h
  · rename_i l m ex ey
    obtain ⟨l', hl, e1⟩ := den_agg (ev_den hT hG hx ex)
    obtain ⟨m', hm, e2⟩ := den_agg (ev_den hT hG hy ey)
    split at h
    · rename_i ds hf
      cases hq : P.eqGuardType P.depth t with
      | true => rw [hq] at h; cases h
      | false =>
        rw [hq, cond_false] at h
        split at h
        · rename_i c hc
          have hr := fun w => flatF_run hf hc hl hm w
          refine okp_bin ho (fun w => by rw [e1, e2]; exact run_eqGuard_agg w op t x y _ _ hq) (by
            rw [e1, e2]
            exact eqOp_v H (fun e w => by subst e; rw [run_eql_struct, hr]; rfl) (fun e w => by subst e; rw [run_neq_struct, hr]; rfl)) v H' h
        · cases h
    · cases h
  · cases h
end
end Eng
end Go.Proofs.YtlajkdbpmkodpaaGreatDoor
namespace Go.Proofs.YtlajkdbpmkodpaaGreatDoor
namespace Eng
open Go
section
variable {P : Program} {ρ : Rho} {T : Tm} {a : Act}

theorem oUn_p (o : Oper) (op : UnOp) (t : TypeId) (x : Operand) (ho : o.op = .unOp op t x) (hT : TR ρ T a.tmps) (hG : GOK P ρ) (hx : gl P x = true) (H : Heap) : OKp P o a ρ H (oUn op x T H) := by
  intro v H' h
  unfold oUn at h
  split at h
  · rename_i b e
    rw [fB_eq] at h
    injection h with h1 h2; subst h1
    have := den_bool (ev_den hT hG hx e)
    exact ⟨h2.symm, _, rfl, fun w => by simp [execOp, ho, this, Op.unary]⟩
  · rename_i k n e
    rw [fI_eq, wrapF_eq, ineg_eq] at h
    injection h with h1 h2; subst h1
    have := den_int (ev_den hT hG hx e)
    exact ⟨h2.symm, _, rfl, fun w => by simp [execOp, ho, this, Op.unary, Op.intArith]⟩
  · cases h
theorem oConvert_p (o : Oper) (s d : TypeId) (x : Operand) (ho : o.op = .convert s d x) (hcl : cls P o.op = .pure) (hT : TR ρ T a.tmps) (hG : GOK P ρ) (hx : gl P x = true) (H : Heap) :
    OKp P o a ρ H (oConvert P s d x T H) := by
  intro v H' h
  unfold oConvert at h
  rw [ho] at hcl
  simp only [cls] at hcl
  split at h
  · rename_i k1 k k2 n hs hd e
    rw [fI_eq, wrapF_eq] at h
    injection h with h1 h2; subst h1
    have := den_int (ev_den hT hG hx e)
    exact ⟨h2.symm, _, rfl, fun w => by simp [execOp, ho, this, convert, run_und hs, run_und hd, Conv.intToInt]⟩
  · rename_i n y hs hd e
    injection h with h1 h2; subst h1
    have h3 := ev_den hT hG hx e
    have := den_str h3
    exact ⟨h2.symm, _, h3, fun w => by simp [execOp, ho, this, convert, run_und hs, run_und hd]⟩
  · rename_i hs hd _; rw [hs, hd] at hcl; cases hcl
  · rename_i hs hd _; rw [hs, hd] at hcl; cases hcl
  · cases h
theorem oMakeIface_p (o : Oper) (t : TypeId) (x : Operand) (ho : o.op = .makeInterface t x) (hT : TR ρ T a.tmps) (hG : GOK P ρ) (hx : gl P x = true) (H : Heap) : OKp P o a ρ H (oMakeIface P t x T H) := by
  intro v H' h
  unfold oMakeIface at h
  split at h
  · cases h
  · rename_i d u hn hu e
    injection h with h1 h2; subst h1
    have h3 := ev_den hT hG hx e
    refine ⟨h2.symm, .iface t (a.eval x), by simp [den, h3], fun w => ?_⟩
    simp only [execOp, ho, Instr.makeInterface, Sem.run_bind, run_und hu, Result.andThen_ok]
    cases d <;> simp_all
  · cases h
theorem oMakeFunc_p (o : Oper) (fn : Fn) (first captured : Array Operand) (ho : o.op = .makeFunc fn first captured) (hT : TR ρ T a.tmps) (hG : GOK P ρ) (hx : captured.toList.all (gl P) = true) (H : Heap) :
    OKp P o a ρ H (oMakeFunc fn first captured T H) := by
  intro v H' h
  unfold oMakeFunc at h
  split at h
  · rename_i f l hf hl
    injection h with h1 h2; subst h1
    have h3 := evL_den hT hG hx hl
    refine ⟨h2.symm, .func (.func f) #[] (captured.map a.eval), ?_, fun w => ?_⟩
    · simp only [den, show denL ρ l = some _ from h3]
      congr 2
      apply Array.ext'; simp
    · have : first = #[] := Array.ext' (by simpa using hf)
      simp [execOp, ho, Instr.makeFunc, this]
  · cases h
theorem oAssert_p (o : Oper) (x : Operand) (xt t : TypeId) (ok : Bool) (ho : o.op = .typeAssert x xt t ok) (hT : TR ρ T a.tmps) (hG : GOK P ρ) (hx : gl P x = true) (H : Heap) : OKp P o a ρ H (oAssert P x t ok T H) := by
  intro v H' h
  unfold oAssert at h
  split at h
  · cases h
  · rename_i d u y hn hu e
    obtain ⟨z, hz, e1⟩ := den_ifc (ev_den hT hG hx e)
    have hr : ∀ w, ((execOp a.eval o).run P w) = ((if u = t then (if ok then (pure (Value.tuple #[z, .bool true]) : Sem Value) else pure z) else (if ok then (do pure (.tuple #[← zeroValue t, .bool false])) else runtimePanic (.typeAssertion (some xt) (some u) t ""))).run P w).andThen fun v w' => .ok (.value v) w' := fun w => by
      simp only [execOp, ho, Instr.typeAssert, Sem.run_bind, run_und hu, Result.andThen_ok, e1]
      cases d <;> simp_all [Sem.run_ite] <;> (split <;> simp_all []) <;> (try split) <;> simp_all []
    cases hq : Nat.beq u t with
    | true =>
      rw [hq, cond_true] at h
      have hut : u = t := beq_true.1 hq
      cases ok with
      | true =>
        injection h with h1 h2; subst h1
        exact ⟨h2.symm, .tuple #[z, .bool true], by simp [den, denL, hz], fun w => by rw [hr]; simp [hut]⟩
      | false =>
        injection h with h1 h2; subst h1
        exact ⟨h2.symm, z, hz, fun w => by rw [hr]; simp [hut]⟩
    | false =>
      rw [hq, cond_false] at h
      have hut : ¬ u = t := fun e => by rw [beq_true.2 e] at hq; cases hq
      cases ok with
      | true =>
        rw [cond_true] at h
        split at h
        · rename_i z0 hz0
          injection h with h1 h2; subst h1
          obtain ⟨y0, h3, h4, _⟩ := zeroOf_run hz0
          exact ⟨h2.symm, .tuple #[y0, .bool false], by simp [den, denL, h3], fun w => by rw [hr]; simp [hut, h4]⟩
        · cases h
      | false => cases h
  · cases h
theorem oExtract_p (o : Oper) (x : Operand) (i : Nat) (ho : o.op = .extract x i) (hT : TR ρ T a.tmps) (hG : GOK P ρ) (hx : gl P x = true) (H : Heap) : OKp P o a ρ H (oExtract x i T H) := by
  intro v H' h
  unfold oExtract at h
  split at h
  · rename_i l e
    obtain ⟨m, hm, e1⟩ := den_tup (ev_den hT hG hx e)
    refine okV_p (fun u hu => ?_) v H' h
    obtain ⟨y, h1, h2⟩ := hm.get hu
    exact ⟨y, h2, fun w => by simp [execOp, ho, Instr.extract, e1, h1]⟩
  · cases h

/-! ### literals -/
theorem putL_spec : ∀ (l : List AV) (i : Nat) (vs l' : List AV), putL l i vs = some l' → 0 < vs.length → l'.length = l.length ∧ i + vs.length ≤ l.length ∧ ∀ k : Nat, l'[k]? = if i ≤ k ∧ k < i + vs.length then vs[k - i]? else l[k]?
  | l, i, [], l', _, h => by simp at h
  | [], i, v :: vs, l', h, _ => by simp [putL] at h
  | x :: l, 0, v :: vs, l', h, _ => by
    simp only [putL] at h
    split at h
    · rename_i r hr
      injection h with h; subst h
      cases vs with
      | nil =>
        have : r = l := by cases l <;> simp [putL] at hr <;> first | exact hr.symm | exact hr
        subst this
        refine ⟨by simp, by simp, fun k => ?_⟩
        cases k with
        | zero => simp
        | succ k => rw [if_neg (by simp)]; simp
      | cons v2 vs =>
        obtain ⟨h1, h2, h3⟩ := putL_spec l 0 (v2 :: vs) r hr (by simp)
        refine ⟨by simp [h1], by simp at h2 ⊢; omega, fun k => ?_⟩
        cases k with
        | zero => simp
        | succ k =>
          rw [List.getElem?_cons_succ, h3 k]
          by_cases hk : k < (v2 :: vs).length
          · rw [if_pos ⟨by omega, by omega⟩, if_pos ⟨by omega, by simp at hk ⊢; omega⟩]; simp
          · rw [if_neg (by omega), if_neg (by simp at hk ⊢; omega)]; simp
    · cases h
  | x :: l, i + 1, v :: vs, l', h, _ => by
    simp only [putL] at h
    split at h
    · rename_i r hr
      injection h with h; subst h
      obtain ⟨h1, h2, h3⟩ := putL_spec l i (v :: vs) r hr (by simp)
      refine ⟨by simp [h1], by simp at h2 ⊢; omega, fun k => ?_⟩
      cases k with
      | zero => rw [if_neg (by omega)]; simp
      | succ k =>
        rw [List.getElem?_cons_succ, h3 k, show k + 1 - (i + 1) = k - i by omega, List.getElem?_cons_succ]
        by_cases hk : i ≤ k ∧ k < i + (v :: vs).length
        · rw [if_pos hk, if_pos (by omega)]
        · rw [if_neg hk, if_neg (by omega)]
    · cases h
theorem fold_set : ∀ (xs : List Value) (n off : Nat) (c : Array Value), ((xs.zipIdx n).foldl (fun cs (p : Value × Nat) => cs.setIfInBounds (off + p.2) p.1) c).size = c.size ∧
    ∀ k : Nat, ((xs.zipIdx n).foldl (fun cs (p : Value × Nat) => cs.setIfInBounds (off + p.2) p.1) c)[k]? = if off + n ≤ k ∧ k < off + n + xs.length ∧ k < c.size then xs[k - (off + n)]? else c[k]?
  | [], n, off, c => ⟨rfl, fun k => by rw [if_neg (by simp; omega)]; rfl⟩
  | x :: xs, n, off, c => by
    rw [List.zipIdx_cons, List.foldl_cons]
    obtain ⟨h1, h2⟩ := fold_set xs (n + 1) off (c.setIfInBounds (off + n) x)
    refine ⟨by simpa using h1, fun k => ?_⟩
    rw [h2 k]
    simp only [Array.size_setIfInBounds, List.length_cons, Array.getElem?_setIfInBounds]
    by_cases h3 : off + n = k
    · subst h3
      rw [if_neg (by omega), if_pos rfl]
      by_cases h4 : off + n < c.size
      · rw [if_pos h4, if_pos (by omega)]; simp
      · rw [if_neg h4, if_neg (by omega)]; exact (Array.getElem?_eq_none (by omega)).symm
    · rw [if_neg h3]
      by_cases h4 : off + (n + 1) ≤ k ∧ k < off + (n + 1) + xs.length ∧ k < c.size
      · rw [if_pos h4, if_pos (by omega), show k - (off + n) = (k - (off + (n + 1))) + 1 by omega, List.getElem?_cons_succ]
      · rw [if_neg h4, if_neg (by omega)]
theorem fill_den (hT : TR ρ T a.tmps) (hG : GOK P ρ) (plc : Nat → Option (Nat × Nat)) (place : Nat → Option (Nat × Nat)) (hp : ∀ i q, plc i = some q → place i = some q) :
    ∀ (ps : List (Nat × Operand)) (l l' : List AV) (m : List Value), ps.all (fun p => gl P p.2) = true → DL ρ l m → fillL l plc T ps = some l' →
      ∃ m', DL ρ l' m' ∧ Instr.fill place m.toArray (ps.map fun p => (p.1, a.eval p.2)) = some m'.toArray
  | [], l, l', m, _, hl, h => by simp only [fillL, Option.some.injEq] at h; subst h; exact ⟨m, hl, rfl⟩
  | (i, x) :: r, l, l', m, hg, hl, h => by
    simp only [List.all_cons, Bool.and_eq_true] at hg
    simp only [fillL] at h
    split at h
    · rename_i off sz v hq he
      obtain ⟨hk, h⟩ := cond_some h (by simp)
      simp only [Bool.and_eq_true, beq_true, len'_eq, blt_iff, decide_eq_true_iff] at hk
      obtain ⟨hk, hpos⟩ := hk
      split at h
      · rename_i l1 h1
        have hv := ev_den hT hG hg.1 he
        have hc := den_cells hv
        have hlen : (a.eval x).cells.size = sz := by rw [← hk, hc.length]; simp
        obtain ⟨e1, e2, e3⟩ := putL_spec l off v.cells l1 h1 (by omega)
        obtain ⟨f1, f2⟩ := fold_set (a.eval x).cells.toList 0 off m.toArray
        have hsz : m.length = l.length := hl.length.symm
        have hDL : DL ρ l1 (((a.eval x).cells.toList.zipIdx 0).foldl (fun cs (p : Value × Nat) => cs.setIfInBounds (off + p.2) p.1) m.toArray).toList := by
          refine .of ?_ fun k u hu => ?_
          · rw [e1, ← hsz]; exact f1.symm
          · rw [Array.getElem?_toList, f2 k]
            rw [e3 k] at hu
            by_cases hin : off ≤ k ∧ k < off + v.cells.length
            · rw [if_pos hin] at hu
              obtain ⟨y, hy1, hy2⟩ := hc.get hu
              refine ⟨y, ?_, hy2⟩
              rw [if_pos ⟨by omega, by rw [← hc.length]; omega, by simp; omega⟩]
              simpa using hy1
            · rw [if_neg hin] at hu
              obtain ⟨y, hy1, hy2⟩ := hl.get hu
              refine ⟨y, ?_, hy2⟩
              rw [if_neg (by rw [← hc.length]; omega)]
              simpa using hy1
        obtain ⟨m', hm', hf⟩ := fill_den hT hG plc place hp r l1 l' _ hg.2 hDL h
        refine ⟨m', hm', ?_⟩
        rw [List.map_cons, Instr.fill, hp i _ hq]
        have : ((a.eval x).cells.size ≠ sz || off + (a.eval x).cells.size > m.toArray.size) = false := by
          simp; exact ⟨hlen, by rw [hlen, hsz]; omega⟩
        simp only [this, Bool.false_eq_true, if_false]
        rw [← hf]
        congr 1
        rw [← Array.foldl_toList, Array.toList_zipIdx]
      · cases h
    · cases h
theorem mapM_places : ∀ (fs : List Field), fs.all (fun f => (szOf P f.type).isSome) = true → ∀ w, (fs.mapM (m := Sem) fun f => do pure (f.offset, ← sizeOf f.type)).run P w = .ok (fs.map fun f => (f.offset, (szOf P f.type).getD 0)) w
  | [], _, w => by simp
  | f :: fs, h, w => by
    simp only [List.all_cons, Bool.and_eq_true] at h
    obtain ⟨n, hn⟩ := Option.isSome_iff_exists.1 h.1
    rw [List.mapM_cons]
    simp only [Sem.run_bind, szOf_run hn, Result.andThen_ok, Sem.run_pure, mapM_places fs h.2, List.map_cons, hn, Option.getD_some]
theorem oBuild_p (o : Oper) (t : TypeId) (parts : Array (Nat × Operand)) (ho : o.op = .build t parts) (hT : TR ρ T a.tmps) (hG : GOK P ρ) (hx : parts.toList.all (fun p => gl P p.2) = true) (H : Heap) :
    OKp P o a ρ H (oBuild P t parts T H) := by
  intro v H' h
  unfold oBuild at h
  have hparts : (parts.map fun (p : Nat × Operand) => (p.1, a.eval p.2)).toList = parts.toList.map fun p => (p.1, a.eval p.2) := by simp
  split at h
  · rename_i fs z hu hz
    obtain ⟨hall, h⟩ := cond_some h (by simp)
    split at h
    · rename_i l hl
      injection h with h1 h2; subst h1
      obtain ⟨x, h3, h4, _⟩ := zeroOf_run hz
      have hc := den_cells (h3 ρ)
      have hpl : ∀ i q, structPlc P t i = some q → (fs.map fun f => (f.offset, (szOf P f.type).getD 0))[i]? = some q := fun i q hq => by
        unfold structPlc at hq
        split at hq
        · rename_i p hp
          injection hq with hq; subst hq
          obtain ⟨fs', y, e1, e2, e3, _, e5⟩ := fieldPlc_spec hp
          rw [hu] at e1; injection e1 with e1; injection e1 with e1; subst e1
          simp [e2, e3, e5]
        · cases hq
      obtain ⟨m', hm', hf⟩ := fill_den hT hG _ _ hpl parts.toList z.cells l _ hx hc hl
      refine ⟨h2.symm, .agg m'.toArray, by simp [den, show denL ρ l = some _ from hm'], fun w => ?_⟩
      have hmap : ∀ w, (fs.mapM (m := Sem) fun f => do pure (f.offset, ← sizeOf f.type)).run P w = .ok (fs.map fun f => (f.offset, (szOf P f.type).getD 0)) w := fun w => by
        rw [Array.mapM_eq_mapM_toList, Sem.run_map, mapM_places _ hall]
        simp
        apply Array.ext'; simp
      simp only [execOp, ho, Instr.build, Sem.run_bind, h4, Result.andThen_ok, run_und hu, hmap]
      rw [hparts]
      simp only [Array.toArray_toList] at hf
      rw [hf]
      rfl
    · cases h
  · rename_i n e z hu hz
    split at h
    · rename_i sz hsz
      split at h
      · rename_i l hl
        injection h with h1 h2; subst h1
        obtain ⟨x, h3, h4, _⟩ := zeroOf_run hz
        have hc := den_cells (h3 ρ)
        obtain ⟨m', hm', hf⟩ := fill_den hT hG (rowPlc sz) (fun i => some (i * sz, sz)) (fun i q hq => by simpa [rowPlc] using hq) parts.toList z.cells l _ hx hc hl
        refine ⟨h2.symm, .agg m'.toArray, by simp [den, show denL ρ l = some _ from hm'], fun w => ?_⟩
        simp only [execOp, ho, Instr.build, Sem.run_bind, h4, Result.andThen_ok, run_und hu, szOf_run hsz]
        rw [hparts]
        simp only [Array.toArray_toList] at hf
        rw [hf]
        rfl
      · cases h
    · cases h
  · cases h
end
end Eng
end Go.Proofs.YtlajkdbpmkodpaaGreatDoor
namespace Go.Proofs.YtlajkdbpmkodpaaGreatDoor
namespace Eng
open Go
section
variable {P : Program} {ρ : Rho} {T : Tm} {a : Act}
def glO (P : Program) (x : Option Operand) : Bool := match x with | some x => gl P x | none => true
theorem natOf_spec {v : Option AV} {n : Nat} (h : natOf v = some n) : ∃ k, v = some (.int k n) := by
  unfold natOf at h; split at h
  · rename_i k i; injection h with h; subst h; exact ⟨k, rfl⟩
  · cases h
theorem bound_run (hT : TR ρ T a.tmps) (hG : GOK P ρ) {x : Operand} {n y : Nat} {code : BoundsCode} (hx : gl P x = true) (h : natOf (ev x T) = some n) (hy : n ≤ y) (w : World) : (Instr.sliceBound (a.eval x) y code).run P w = .ok n w := by
  obtain ⟨k, hk⟩ := natOf_spec h
  have := den_int (ev_den hT hG hx hk)
  simp [Instr.sliceBound, this, asIntOf, hy]
theorem bnd_run (hT : TR ρ T a.tmps) (hG : GOK P ρ) (s : Bool) {lo hi mx : Option Operand} {len cap C l h m : Nat} (h1 : glO P lo = true) (h2 : glO P hi = true) (h3 : glO P mx = true)
    (hb : bnd3 lo hi mx T len cap = some (l, h, m)) (hC : cap ≤ C) :
    (∀ w, (Instr.sliceBounds s len C (lo.map a.eval) (hi.map a.eval) (mx.map a.eval)).run P w = .ok (l, h, if mx.isSome then m else C) w) ∧ l ≤ h ∧ h ≤ m ∧ m ≤ cap ∧ (mx = none → m = cap) := by
  unfold bnd3 at hb
  split at hb
  · rename_i l' h' m' e1 e2 e3
    obtain ⟨hc, hb⟩ := cond_some hb (by simp)
    simp only [Bool.and_eq_true, ble_iff, decide_eq_true_iff] at hc
    injection hb with hb
    simp only [Prod.mk.injEq] at hb
    obtain ⟨rfl, rfl, rfl⟩ := hb
    obtain ⟨⟨c1, c2⟩, c3⟩ := hc
    refine ⟨fun w => ?_, c1, c2, c3, fun hm => by subst hm; simp only [boundOf, Option.some.injEq] at e3; exact e3.symm⟩
    have elo : ∀ x, lo = some x → ∀ code w, (Instr.sliceBound (a.eval x) h' code).run P w = .ok l' w := fun x hl code w => by
      subst hl; exact bound_run hT hG h1 e1 c1 w
    have eln : lo = none → l' = 0 := fun hl => by subst hl; simp only [boundOf, Option.some.injEq] at e1; exact e1.symm
    cases mx with
    | none =>
      simp only [boundOf, Option.some.injEq] at e3; subst e3
      cases hi with
      | none =>
        simp only [boundOf, Option.some.injEq] at e2; subst e2
        cases lo with
        | none => rw [eln rfl]; simp [Instr.sliceBounds]
        | some x => simp [Instr.sliceBounds, elo x rfl]
      | some y =>
        have h4 := fun code => bound_run (y := C) (code := code) hT hG h2 e2 (by omega) w
        cases lo with
        | none => rw [eln rfl]; simp [Instr.sliceBounds, h4]
        | some x => simp [Instr.sliceBounds, elo x rfl, h4]
    | some z =>
      cases hi with
      | none => cases e2
      | some y =>
        have h5 := fun code => bound_run (y := C) (code := code) hT hG h3 e3 (by omega) w
        have h4 := fun code => bound_run (y := m') (code := code) hT hG h2 e2 c2 w
        cases lo with
        | none => rw [eln rfl]; simp [Instr.sliceBounds, h4, h5]
        | some x => simp [Instr.sliceBounds, elo x rfl, h4, h5]
  · cases hb

theorem extract_unpack {n s l h : Nat} (h1 : l ≤ h) (h2 : h ≤ n) : (unpack n s).extract l h = unpack (h - l) (s / 256 ^ l % 256 ^ (h - l)) := by
  have e : ∀ (a b : ByteArray), a.data.toList = b.data.toList → a = b := fun a b h => by
    cases a; cases b; congr 1; exact Array.ext' h
  apply e
  rw [ByteArray.data_extract, Array.toList_extract]
  simp only [unpack, List.extract_eq_take_drop]
  rw [unpackL_drop, unpackL_take _ _ _ (by omega)]
  exact unpackL_congr _ _ _ (by rw [Nat.mod_mod])
theorem shr8 (s l : Nat) : Nat.shiftRight s (Nat.mul 8 l) = s / 256 ^ l := by
  show s >>> (8 * l) = _
  rw [Nat.shiftRight_eq_div_pow, Nat.pow_mul]

/-- a slice expression over a row of which the capacity is known -/
theorem sliceR_ok {b o' z h l m : Nat} {H H' : Heap} {v : AV} (p : Pl) (hp : ρ b = some p) (hv : oSliceR b o' z (some (l, h, m)) H = .val v H') :
    H' = H ∧ den ρ v = some (.slice (some (if m = l then ⟨p.blk, p.off + o', none⟩ else (⟨p.blk, p.off + o', none⟩ : Addr).add (l * z))) (h - l) (m - l)) := by
  simp only [oSliceR, fN_eq] at hv
  injection hv with h1 h2; subst h1
  refine ⟨h2.symm, ?_⟩
  simp only [den, hp, beq_eq']
  by_cases e : m = l
  · subst e; simp
  · simp [e, add_none, Nat.add_assoc]
theorem oSlice_p (o : Oper) (t : TypeId) (x : Operand) (lo hi mx : Option Operand) (ho : o.op = .slice t x lo hi mx) (hcl : cls P o.op = .pure) (hT : TR ρ T a.tmps) (hG : GOK P ρ) (hx : gl P x = true)
    (h1 : glO P lo = true) (h2 : glO P hi = true) (h3 : glO P mx = true) (H : Heap) : OKp P o a ρ H (oSlice P t x lo hi mx T H) := by
  intro v H' h
  unfold oSlice at h
  rw [ho] at hcl
  simp only [cls] at hcl
  split at h
  · rename_i n s hu e
    unfold oSliceS at h
    split at h
    · cases h
    · split at h
      · rename_i l h' m hb
        simp only [fN_eq, shr8] at h
        injection h with e1 e2; subst e1
        have hs := den_str (ev_den hT hG hx e)
        obtain ⟨hr, c1, c2, c3, c4⟩ := bnd_run (mx := none) hT hG false h1 h2 rfl hb (Nat.le_refl _)
        refine ⟨e2.symm, .string (unpack (h' - l) (s / 256 ^ l % 256 ^ (h' - l))), rfl, fun w => ?_⟩
        have hr' := hr w
        simp only [Option.map_none] at hr'
        simp only [execOp, ho, Instr.sliceAt, Sem.run_bind, run_und hu, Result.andThen_ok, Instr.slice, hs, Option.map_none, Option.isSome_none, Bool.false_eq_true, if_false, unpack_size, hr']
        simp only [Sem.run_pure, Result.andThen_ok]
        rw [extract_unpack c1 (by omega)]
      · cases h
  · rename_i hu _; rw [hu] at hcl; cases hcl
  · rename_i hu _; rw [hu] at hcl; cases hcl
  · rename_i hu _; rw [hu] at hcl; cases hcl
  · rename_i n e b o' hu he
    split at h
    · rename_i z hz
      cases hb : bnd3 lo hi mx T n n with
      | none => rw [hb] at h; cases h
      | some B =>
        obtain ⟨l, h', m⟩ := B
        rw [hb] at h
        obtain ⟨p, hp, hpx⟩ := den_ptr (ev_den hT hG hx he)
        obtain ⟨e1, e2⟩ := sliceR_ok p hp h
        obtain ⟨hr, c1, c2, c3, c4⟩ := bnd_run hT hG false h1 h2 h3 hb (Nat.le_refl _)
        refine ⟨e1, _, e2, fun w => ?_⟩
        have hm : (if mx.isSome then m else n) = m := by
          cases mx with
          | none => simpa using (c4 rfl).symm
          | some _ => rfl
        simp only [execOp, ho, Instr.sliceAt, Sem.run_bind, run_und hu, Result.andThen_ok, hpx, Instr.sureAddr, Sem.run_pure, hr, hm, szOf_run hz]
    · cases h
  · cases h
theorem oSlice_r (o : Oper) (t : TypeId) (x : Operand) (lo hi mx : Option Operand) (ho : o.op = .slice t x lo hi mx) (hcl : cls P o.op = .read) {H : Heap} {w : World} (hH : VR ρ H w) (hT : TR ρ T a.tmps) (hG : GOK P ρ) (hx : gl P x = true)
    (h1 : glO P lo = true) (h2 : glO P hi = true) (h3 : glO P mx = true) {v : AV} {H' : Heap} (h : oSlice P t x lo hi mx T H = .val v H') : H' = H ∧ ∃ y, den ρ v = some y ∧ (execOp a.eval o).run P w = .ok (.value y) w := by
  unfold oSlice at h
  rw [ho] at hcl
  simp only [cls] at hcl
  split at h
  · rename_i hu _; rw [hu] at hcl; cases hcl
  · rename_i e hu he
    split at h
    · rename_i B z hb hz
      obtain ⟨l, h', m⟩ := B
      injection h with e1 e2; subst e1
      have hs : a.eval x = .slice none 0 0 := gp hT hG hx he rfl
      obtain ⟨hr, c1, c2, c3, c4⟩ := bnd_run hT hG true h1 h2 h3 hb (Nat.le_refl _)
      refine ⟨e2.symm, .slice none 0 0, rfl, ?_⟩
      have hl : l = 0 := by omega
      have hh : h' = 0 := by omega
      have hm : (if mx.isSome then m else 0) = 0 := by cases mx <;> simp; omega
      have hr := hr w
      rw [hm, hl, hh] at hr
      simp only [execOp, ho, Instr.sliceAt, Sem.run_bind, run_und hu, Result.andThen_ok, hs, Instr.slice, hr, szOf_run hz, Sem.run_pure]
      simp
    · cases h
  · rename_i e b o' n c hu he
    split at h
    · rename_i z hz
      cases hb : bnd3 lo hi mx T n c with
      | none => rw [hb] at h; cases h
      | some B =>
        obtain ⟨l, h', m⟩ := B
        rw [hb] at h
        obtain ⟨p, hp, hpx⟩ := den_sl (ev_den hT hG hx he)
        obtain ⟨e1, e2⟩ := sliceR_ok p hp h
        obtain ⟨hr, c1, c2, c3, c4⟩ := bnd_run hT hG true h1 h2 h3 hb (Nat.le_refl _)
        refine ⟨e1, _, e2, ?_⟩
        have hm : (if mx.isSome then m else c) = m := by
          cases mx with
          | none => simpa using (c4 rfl).symm
          | some _ => rfl
        simp only [execOp, ho, Instr.sliceAt, Sem.run_bind, run_und hu, Result.andThen_ok, hpx, Instr.slice, hr, hm, szOf_run hz, Sem.run_pure]
        by_cases e : m = l <;> simp [e]
    · cases h
  · rename_i e b o' n es hu he
    split at h
    · rename_i z kn hz hk
      have hcs := cond_some h (by simp)
      clear h
      obtain ⟨hzz, h⟩ := hcs
      have hzz := beq_true.1 hzz
      subst hzz
      obtain ⟨p, hp, hpx⟩ := den_so (ev_den hT hG hx he)
      have hkn : ∃ t sz tl ro, getB H b = some (.cells t sz tl ro) ∧ o' ≤ sz ∧ 0 < z ∧ kn = (sz - o') / z := by
        unfold knownC at hk
        split at hk
        · rename_i t sz tl ro hB
          obtain ⟨hc, hk⟩ := cond_some hk (by simp)
          simp only [Bool.and_eq_true, ble_iff, blt_iff, decide_eq_true_iff] at hc
          injection hk with hk
          exact ⟨t, sz, tl, ro, hB, hc.1, hc.2, hk.symm⟩
        · cases hk
      obtain ⟨t', sz, tl, ro, hB, hle, hpos, hkn⟩ := hkn
      obtain ⟨q, hq, hBO⟩ := hH.at hB hp
      rw [hp] at hq; injection hq with hq; subst hq
      obtain ⟨_, _, _, _, hlim, _⟩ := hBO
      have hC : kn ≤ (p.lim - o') / z := by rw [hkn]; exact Nat.div_le_div_right (by omega)
      split at h
      · cases hb : bnd3 lo hi none T n kn with
        | none => rw [hb] at h; cases h
        | some B =>
          obtain ⟨l, h', m⟩ := B
          rw [hb] at h
          obtain ⟨hr, c1, c2, c3, c4⟩ := bnd_run (mx := none) hT hG true h1 h2 rfl hb hC
          have hmk := c4 rfl
          have hr := hr w
          simp only [Option.map_none, Option.isSome_none, Bool.false_eq_true, if_false] at hr
          have run : (execOp a.eval o).run P w = .ok (.value (.slice (if (p.lim - o') / z = l then some ⟨p.blk, p.off + o', none⟩ else some ((⟨p.blk, p.off + o', none⟩ : Addr).add (l * z))) (h' - l) ((p.lim - o') / z - l))) w := by
            simp only [execOp, ho, Instr.sliceAt, Sem.run_bind, run_und hu, Result.andThen_ok, hpx, Instr.slice, Option.map_none, hr, szOf_run hz, Sem.run_pure]
            by_cases e : (p.lim - o') / z = l <;> simp [e]
          have hdiv : (p.lim - o') / z - l = (p.lim - (o' + l * z)) / z := by
            rw [← Nat.sub_sub, Nat.mul_comm l z, Nat.sub_mul_div]
          simp only [oSliceO] at h
          cases hlt : Nat.blt l kn with
          | true =>
            rw [hlt] at h
            simp only [cond_true, fN_eq] at h
            injection h with e1 e2; subst e1
            have hlt' : l < kn := by simpa [blt_iff] using hlt
            refine ⟨e2.symm, _, ?_, run⟩
            simp only [den, hp, if_neg (show ¬ (p.lim - o') / z = l by omega), add_none]
            congr 3
            all_goals first | exact hdiv.symm | (simp [Nat.add_assoc]; done) | rfl
          | false =>
            rw [hlt] at h
            simp only [cond_false, fN_eq] at h
            injection h with e1 e2; subst e1
            have hlt' : ¬ l < kn := by intro e; rw [blt_iff, decide_eq_false_iff_not] at hlt; exact hlt e
            have hl : l = kn := by omega
            have hh : h' - l = 0 := by omega
            refine ⟨e2.symm, _, ?_, run⟩
            simp only [den, hp, hh]
            by_cases e : (p.lim - o') / z = l
            · have : (p.lim - (o' + l * z)) / z = 0 := by rw [← hdiv]; omega
              simp [e, this]
            · have : ¬ (p.lim - (o' + l * z)) / z = 0 := by rw [← hdiv]; omega
              have e5 : Nat.add o' (Nat.mul l z) = o' + l * z := rfl
              rw [e5]
              simp only [e, this, if_false, add_none, Nat.add_assoc]
              rw [← Nat.add_assoc, ← hdiv]
      · rename_i mxv
        cases hb : bnd3 lo hi (some mxv) T n kn with
        | none => rw [hb] at h; cases h
        | some B =>
          obtain ⟨l, h', m⟩ := B
          rw [hb] at h
          obtain ⟨e1, e2⟩ := sliceR_ok p hp h
          obtain ⟨hr, c1, c2, c3, c4⟩ := bnd_run (mx := some mxv) hT hG true h1 h2 h3 hb hC
          have hr := hr w
          simp only [Option.isSome_some, if_true] at hr
          refine ⟨e1, _, e2, ?_⟩
          simp only [execOp, ho, Instr.sliceAt, Sem.run_bind, run_und hu, Result.andThen_ok, hpx, Instr.slice, hr, szOf_run hz, Sem.run_pure]
          by_cases e : m = l <;> simp [e]
    · cases h
  · rename_i hu _; rw [hu] at hcl; cases hcl
  · cases h
end
end Eng
end Go.Proofs.YtlajkdbpmkodpaaGreatDoor
namespace Go.Proofs.YtlajkdbpmkodpaaGreatDoor
namespace Eng
open Go
section
variable {P : Program} {ρ : Rho} {T : Tm} {a : Act}

theorem exec_builtin {o : Oper} {c : Call} {b : Builtin} (ho : o.op = .call c) (hb : c.callee = .builtin b) :
    ∃ cs, ∀ w, (execOp a.eval o).run P w = (builtin b c.argTypes o.type cs (c.args.map a.eval)).run P w :=
  ⟨_, fun w => by simp only [execOp, ho, resolve, hb, invoke, Sem.run_bind, Sem.run_pure, Result.andThen_ok]; rfl⟩
theorem args_eq {c : Call} : c.args.map a.eval = (c.args.toList.map a.eval).toArray := by apply Array.ext'; simp
theorem two_of_DL {x y : AV} {m : List Value} (h : DL ρ [x, y] m) : ∃ u v, m = [u, v] ∧ den ρ x = some u ∧ den ρ y = some v := by
  obtain ⟨u, r, rfl, h1, h2⟩ := h.uncons
  obtain ⟨v, r', rfl, h3, h4⟩ := h2.uncons
  rw [h4.eq_nil]; exact ⟨u, v, rfl, h1, h3⟩
theorem one_of_DL {x : AV} {m : List Value} (h : DL ρ [x] m) : ∃ u, m = [u] ∧ den ρ x = some u := by
  obtain ⟨u, r, rfl, h1, h2⟩ := h.uncons
  rw [h2.eq_nil]; exact ⟨u, rfl, h1⟩
theorem list1 {α : Type} {A : Array α} {x : α} (h : A.toList = [x]) : A = #[x] := Array.ext' (by simpa using h)
theorem list2 {α : Type} {A : Array α} {x y : α} (h : A.toList = [x, y]) : A = #[x, y] := Array.ext' (by simpa using h)

/-- a builtin of which the answer is known in every world -/
def BV (P : Program) (ρ : Rho) (b : Builtin) (ts : Array TypeId) (m : List Value) (v : AV) : Prop :=
  ∃ x, den ρ v = some x ∧ ∀ ty cs w, (builtin b ts ty cs m.toArray).run P w = .ok (.value x) w
theorem oMinMax_b (mx : Bool) {xs : List AV} {m : List Value} (hm : DL ρ xs m) {H H' : Heap} {v : AV} (ts : Array TypeId) (h : oMinMax mx xs H = .val v H') : H' = H ∧ BV P ρ (if mx then .max else .min) ts m v := by
  unfold oMinMax at h
  split at h
  · rename_i k x j y
    rw [fI_eq] at h
    injection h with h1 h2; subst h1
    obtain ⟨u, w, rfl, e1, e2⟩ := two_of_DL hm
    rw [den_int e1, den_int e2]
    refine ⟨h2.symm, _, rfl, fun ty cs w => ?_⟩
    cases mx <;> simp [builtin, Builtin.max_, Builtin.min_, Builtin.max2, Builtin.min2, ilt_eq] <;> (split <;> simp_all)
  · cases h
theorem oLen_b {ts : Array TypeId} {xs : List AV} {m : List Value} (hm : DL ρ xs m) {H H' : Heap} {w : World} (hH : (∃ k e, (ts[0]?).bind P.underlying = some (.map k e)) → VR ρ H w) {v : AV} (h : oLen P ts.toList xs H = .val v H') :
    H' = H ∧ (∃ x, den ρ v = some x ∧ ∀ ty cs, (builtin .len ts ty cs m.toArray).run P w = .ok (.value x) w) ∧ ((∀ k e, (ts[0]?).bind P.underlying ≠ some (.map k e)) → BV P ρ .len ts m v) := by
  unfold oLen at h
  split at h
  · rename_i t x hts
    have hts := list1 hts
    subst hts
    obtain ⟨u, rfl, e1⟩ := one_of_DL hm
    have fin : ∀ {y : Value}, v = v → den ρ v = some y → (∀ ty cs w, (builtin .len #[t] ty cs #[u]).run P w = .ok (.value y) w) → (∃ x, den ρ v = some x ∧ ∀ ty cs, (builtin .len #[t] ty cs [u].toArray).run P w = .ok (.value x) w) ∧ ((∀ k e, (#[t][0]?).bind P.underlying ≠ some (.map k e)) → BV P ρ .len #[t] [u] v) :=
      fun _ h1 h2 => ⟨⟨_, h1, fun ty cs => h2 ty cs w⟩, fun _ => ⟨_, h1, h2⟩⟩
    split at h
    · rename_i n s hu
      injection h with h1 h2; subst h1
      rw [den_str e1] at fin ⊢
      exact ⟨h2.symm, fin rfl rfl fun ty cs w => by simp [builtin, Builtin.len_, run_und hu, unpack_size, goInt]⟩
    · rename_i n e hu
      injection h with h1 h2; subst h1
      exact ⟨h2.symm, fin rfl rfl fun ty cs w => by simp [builtin, Builtin.len_, run_und hu, goInt]⟩
    · rename_i hu
      injection h with h1 h2; subst h1
      have : u = .slice none 0 0 := by simp [den] at e1; exact e1.symm
      subst this
      exact ⟨h2.symm, fin rfl rfl fun ty cs w => by simp [builtin, Builtin.len_, run_und hu, goInt]⟩
    · rename_i hu
      injection h with h1 h2; subst h1
      obtain ⟨p, _, rfl⟩ := den_se e1
      exact ⟨h2.symm, fin rfl rfl fun ty cs w => by simp [builtin, Builtin.len_, run_und hu, goInt]⟩
    · rename_i hu
      injection h with h1 h2; subst h1
      obtain rfl := den_sz e1
      exact ⟨h2.symm, fin rfl rfl fun ty cs w => by simp [builtin, Builtin.len_, run_und hu, goInt]⟩
    · rename_i hu
      injection h with h1 h2; subst h1
      obtain ⟨p, _, rfl⟩ := den_sl e1
      exact ⟨h2.symm, fin rfl rfl fun ty cs w => by simp [builtin, Builtin.len_, run_und hu, goInt]⟩
    · rename_i hu
      injection h with h1 h2; subst h1
      obtain ⟨p, _, rfl⟩ := den_so e1
      exact ⟨h2.symm, fin rfl rfl fun ty cs w => by simp [builtin, Builtin.len_, run_und hu, goInt]⟩
    · rename_i hu
      injection h with h1 h2; subst h1
      have : u = .map none := by simp [den] at e1; exact e1.symm
      subst this
      exact ⟨h2.symm, fin rfl rfl fun ty cs w => by simp [builtin, Builtin.len_, run_und hu, goInt]⟩
    · rename_i k e b hu
      split at h
      · rename_i es hB
        injection h with h1 h2; subst h1
        obtain ⟨p, hp, rfl⟩ := den_map e1
        obtain ⟨q, hq, es', ck, h3, h4, h5⟩ := (hH ⟨k, e, by simpa using hu⟩).at hB hp
        rw [hp] at hq; injection hq with hq; subst hq
        have hl := h4.length
        simp at hl
        refine ⟨h2.symm, ⟨_, rfl, fun ty cs => ?_⟩, fun hn => absurd (by simpa using hu) (hn k e)⟩
        simp [builtin, Builtin.len_, run_und hu, goInt, getObj, Sem.run, h3, hl]
      · cases h
    · cases h
  · cases h
theorem oCap_b {ts : Array TypeId} {xs : List AV} {m : List Value} (hm : DL ρ xs m) {H H' : Heap} {v : AV} (h : oCap P ts.toList xs H = .val v H') : H' = H ∧ BV P ρ .cap ts m v := by
  unfold oCap at h
  split at h
  · rename_i t x hts
    have hts := list1 hts
    subst hts
    obtain ⟨u, rfl, e1⟩ := one_of_DL hm
    split at h
    · rename_i hu
      injection h with h1 h2; subst h1
      have : u = .slice none 0 0 := by simp [den] at e1; exact e1.symm
      subst this
      exact ⟨h2.symm, _, rfl, fun ty cs w => by simp [builtin, Builtin.cap_, run_und hu, goInt]⟩
    · rename_i hu
      injection h with h1 h2; subst h1
      obtain ⟨p, _, rfl⟩ := den_sl e1
      exact ⟨h2.symm, _, rfl, fun ty cs w => by simp [builtin, Builtin.cap_, run_und hu, goInt]⟩
    · rename_i n e hu
      injection h with h1 h2; subst h1
      exact ⟨h2.symm, _, rfl, fun ty cs w => by simp [builtin, Builtin.cap_, run_und hu, goInt]⟩
    · cases h
  · cases h

/-! ### memory, read -/
theorem cell_of {H : Heap} {w : World} (hH : VR ρ H w) {b n : Nat} {t : Tr AV} {tl ro : Bool} {p : Pl} (hB : getB H b = some (.cells t n tl ro)) (hp : ρ b = some p) {i : Nat} {v : AV} (h : t.get (bits i) = some v) :
    ∃ x, den ρ v = some x ∧ w.cell? ⟨p.blk, p.off + i, none⟩ = some x := by
  obtain ⟨q, hq, c, e, fz, h1, _, _, _, h5⟩ := hH.at hB hp
  rw [hp] at hq; injection hq with hq; subst hq
  obtain ⟨_, x, h6, h7⟩ := h5 i v h
  exact ⟨x, h6, by simp [World.cell?, h1, h7]⟩
theorem take_of {H : Heap} {w : World} (hH : VR ρ H w) {b n : Nat} {t : Tr AV} {tl ro : Bool} {p : Pl} (hB : getB H b = some (.cells t n tl ro)) (hp : ρ b = some p) {k : Nat} : ∀ {i : Nat} {l : List AV}, takeC t i k = some l →
    ∃ xs, DL ρ l xs ∧ l.length = k ∧ ∀ j x, xs[j]? = some x → w.cell? ⟨p.blk, p.off + i + j, none⟩ = some x := by
  induction k with
  | zero => intro i l h; simp only [takeC, Option.some.injEq] at h; subst h; exact ⟨[], .nil, rfl, fun j x h => by simp at h⟩
  | succ k ih =>
    intro i l h
    simp only [takeC] at h
    split at h
    · rename_i v r hv hr
      injection h with h; subst h
      obtain ⟨xs, h1, h2, h3⟩ := ih hr
      obtain ⟨x, h4, h5⟩ := cell_of hH hB hp hv
      refine ⟨x :: xs, .cons h4 h1, by simp [h2], fun j y hj => ?_⟩
      cases j with
      | zero => simp at hj; subst hj; exact h5
      | succ j =>
        have := h3 j y (by simpa using hj)
        rw [show p.off + i + (j + 1) = p.off + (i + 1) + j by omega]; exact this
    · cases h
theorem run_takes {w : World} {b o : Nat} {xs : List Value} (h : ∀ j x, xs[j]? = some x → w.cell? ⟨b, o + j, none⟩ = some x) : (loadCells ⟨b, o, none⟩ xs.length).run P w = .ok xs.toArray w :=
  run_loadCells_list w _ xs fun j x hj => by rw [add_none]; exact h j x hj
theorem loadR_run {H H' : Heap} {w : World} (hH : VR ρ H w) {b i n : Nat} {ag : Bool} {v : AV} {p : Pl} (hp : ρ b = some p) (h : loadR H b i ag n = .val v H') {t : TypeId} (ha : aggOf P t = some ag) (hn : szOf P t = some n) :
    H' = H ∧ ∃ x, den ρ v = some x ∧ (loadVar t ⟨p.blk, p.off + i, none⟩).run P w = .ok x w := by
  unfold loadR at h
  split at h
  · rename_i tr sz tl ro hB
    cases ag with
    | true =>
      rw [cond_true] at h
      split at h
      · rename_i l hl
        injection h with h1 h2; subst h1
        obtain ⟨xs, h3, h4, h5⟩ := take_of hH hB hp hl
        have h6 := run_takes (P := P) h5
        rw [← h3.length, h4] at h6
        exact ⟨h2.symm, .agg xs.toArray, by simp [den, show denL ρ l = some _ from h3], by simp [loadVar, aggOf_run ha, szOf_run hn, h6]⟩
      · cases h
    | false =>
      rw [cond_false] at h
      split at h
      · rename_i u hu
        injection h with h1 h2; subst h1
        obtain ⟨x, h3, h4⟩ := cell_of hH hB hp hu
        exact ⟨h2.symm, x, h3, by simp [loadVar, aggOf_run ha, h4]⟩
      · cases h
  · cases h
/-- what an operation that only reads gives in this world -/
def GivesIn (P : Program) (o : Oper) (a : Act) (ρ : Rho) (w : World) (v : AV) : Prop := ∃ x, den ρ v = some x ∧ (execOp a.eval o).run P w = .ok (.value x) w
theorem oLoad_r (o : Oper) (t : TypeId) (x : Operand) (ho : o.op = .load t x) (hT : TR ρ T a.tmps) (hG : GOK P ρ) (hx : gl P x = true) {H H' : Heap} {w : World} (hH : VR ρ H w) {v : AV} (h : oLoad P t x T H = .val v H') :
    H' = H ∧ GivesIn P o a ρ w v := by
  unfold oLoad at h
  split at h
  · rename_i b i p he hp
    obtain ⟨q, hq, hqx⟩ := den_ptr (ev_den hT hG hx he)
    obtain ⟨_, h1, h2⟩ := plcOf_spec hp
    obtain ⟨e1, y, h3, h4⟩ := loadR_run (P := P) hH hq h h1 h2
    exact ⟨e1, y, h3, by simp [execOp, ho, Instr.loadAt, hqx, Instr.sureAddr, h4]⟩
  · cases h
theorem elemsOf_any {H : Heap} {w : World} (hH : VR ρ H w) {v : AV} {x : Value} {es n : Nat} {l : List AV} (hv : den ρ v = some x) (h : elemsOf H v es = some (n, l)) :
    ∃ xs, DL ρ l xs ∧ l.length = n * es ∧ ∀ w', (∀ k c, w'.cell? ⟨k, c, none⟩ = w.cell? ⟨k, c, none⟩) → (Builtin.lenOf x).run P w' = .ok n w' ∧ ∀ k, k ≤ n → (Builtin.firstCells es k x).run P w' = .ok (xs.take (k * es)).toArray w' := by
  have row : ∀ {b o' : Nat} {t : Tr AV} {sz : Nat} {tl ro : Bool} {p : Pl} {l : List AV} {cap : Nat}, getB H b = some (.cells t sz tl ro) → ρ b = some p → takeC t o' (Nat.mul n es) = some l →
      ∃ xs, DL ρ l xs ∧ l.length = n * es ∧ ∀ w', (∀ k c, w'.cell? ⟨k, c, none⟩ = w.cell? ⟨k, c, none⟩) → (Builtin.lenOf (.slice (some ⟨p.blk, p.off + o', none⟩) n cap)).run P w' = .ok n w' ∧
        ∀ k, k ≤ n → (Builtin.firstCells es k (.slice (some ⟨p.blk, p.off + o', none⟩) n cap)).run P w' = .ok (xs.take (k * es)).toArray w' := by
    intro b o' t sz tl ro p l cap hB hp hl
    obtain ⟨xs, h1, h2, h3⟩ := take_of hH hB hp hl
    refine ⟨xs, h1, h2, fun w' hw => ⟨rfl, fun k hk => ?_⟩⟩
    have h5 : xs.length = n * es := by rw [← h1.length, h2]; rfl
    have hke : k * es ≤ n * es := Nat.mul_le_mul_right _ hk
    have h4 := run_takes (P := P) (w := w') (b := p.blk) (o := p.off + o') (xs := xs.take (k * es)) fun j x hj => by
      rw [hw]
      rw [List.getElem?_take] at hj
      split at hj
      · exact h3 j x hj
      · cases hj
    rw [List.length_take, h5, Nat.min_eq_left hke] at h4
    exact h4
  unfold elemsOf at h
  split at h
  · injection h with h; injection h with h1 h2; subst h1; subst h2
    have : x = .slice none 0 0 := by simp [den] at hv; exact hv.symm
    subst this
    exact ⟨[], .nil, by simp, fun w' _ => ⟨rfl, fun k hk => by simp [Builtin.firstCells]⟩⟩
  · injection h with h; injection h with h1 h2; subst h1; subst h2
    obtain ⟨p, _, rfl⟩ := den_se hv
    refine ⟨[], .nil, by simp, fun w' _ => ⟨rfl, fun k hk => ?_⟩⟩
    have : k = 0 := by omega
    subst this
    simp [Builtin.firstCells, loadCells, loadCellsFrom]
  · injection h with h; injection h with h1 h2; subst h1; subst h2
    obtain rfl := den_sz hv
    refine ⟨[], .nil, by simp, fun w' _ => ⟨rfl, fun k hk => ?_⟩⟩
    have : k = 0 := by omega
    subst this
    simp [Builtin.firstCells, loadCells, loadCellsFrom]
  · rename_i m y
    obtain ⟨hc, h⟩ := cond_some h (by simp)
    have hc := beq_true.1 hc
    injection h with h; injection h with h1 h2; subst h1; subst h2; subst hc
    rw [den_str hv]
    have hs : ∀ (m y : Nat), (strCells m y).length = m ∧ DL ρ (strCells m y) ((unpackL m y).map fun b => Value.int .u8 b.toNat) := by
      intro m
      induction m with
      | zero => intro y; exact ⟨rfl, .nil⟩
      | succ m ih =>
        intro y
        obtain ⟨i1, i2⟩ := ih (y / 256)
        simp only [strCells, fN_eq, unpackL, List.map_cons]
        have e1 : Nat.div y 256 = y / 256 := rfl
        have e2 : Nat.mod y 256 = y % 256 := rfl
        rw [e1, e2]
        refine ⟨by simp [i1], .cons ?_ i2⟩
        simp [den]
    refine ⟨_, (hs m y).2, by simp [(hs m y).1], fun w' _ => ⟨by simp [Builtin.lenOf, unpack_size], fun k hk => ?_⟩⟩
    simp only [Builtin.firstCells]
    have : (unpack m y).extract 0 k = unpack k (y % 256 ^ k) := by
      have h := extract_unpack (n := m) (s := y) (l := 0) (h := k) (Nat.zero_le _) hk
      rw [h]; simp
    rw [this]
    have e2 : unpack k (y % 256 ^ k) = unpack k y := by
      unfold unpack
      rw [unpackL_congr k (y % 256 ^ k) y (Nat.mod_mod _ _)]
    rw [e2]
    simp only [Sem.run_pure, unpack, Nat.mul_one]
    congr 1
    apply Array.ext'
    rw [← List.map_take, unpackL_take k m y hk]
    simp
  · rename_i b o' m cap
    split at h
    · rename_i t sz tl ro hB
      split at h
      · rename_i l' hl
        injection h with h; injection h with h1 h2; subst h1; subst h2
        obtain ⟨p, hp, rfl⟩ := den_sl hv
        exact row hB hp hl
      · cases h
    · cases h
  · rename_i b o' m z
    obtain ⟨hc, h⟩ := cond_some h (by simp)
    split at h
    · rename_i t sz tl ro hB
      split at h
      · rename_i l' hl
        injection h with h; injection h with h1 h2; subst h1; subst h2
        obtain ⟨p, hp, rfl⟩ := den_so hv
        exact row hB hp hl
      · cases h
    · cases h
  · cases h
theorem elemsOf_spec {H : Heap} {w : World} (hH : VR ρ H w) {v : AV} {x : Value} {es n : Nat} {l : List AV} (hv : den ρ v = some x) (h : elemsOf H v es = some (n, l)) :
    ∃ xs, DL ρ l xs ∧ l.length = n * es ∧ ∀ w', (∀ k c, w'.cell? ⟨k, c, none⟩ = w.cell? ⟨k, c, none⟩) → (Builtin.lenOf x).run P w' = .ok n w' ∧ (Builtin.firstCells es n x).run P w' = .ok xs.toArray w' := by
  obtain ⟨xs, h1, h2, h3⟩ := elemsOf_any (P := P) hH hv h
  refine ⟨xs, h1, h2, fun w' hw => ⟨(h3 w' hw).1, ?_⟩⟩
  have := (h3 w' hw).2 n (Nat.le_refl _)
  rwa [List.take_of_length_le (by rw [← h1.length, h2]; exact Nat.le_refl _)] at this

/-! ### maps, read -/
theorem ofRes (b c : ByteArray) : (b == c) = (b.toList == c.toList) := beq_toListBytes b c
theorem keyEq_now {d : TypeDesc} {k a' : AV} {x y : Value} {c : Bool} (h : keyEq d k a' = some c) (hx : den ρ k = some x) (hy : den ρ a' = some y) : Instr.sameNow d x y = some c := by
  unfold keyEq at h
  split at h
  · obtain ⟨hk, h⟩ := cond_some h (by simp)
    injection h with h; subst h
    rw [den_int hx, den_int hy, ieq_eq]
    simp at hk
    simp [Instr.sameNow, hk]
  · injection h with h; subst h
    rw [den_str hx, den_str hy, strEq_eq]
    simp [Instr.sameNow, ofRes]
  · cases h
theorem findE_now {d : TypeDesc} {k : AV} {x : Value} (hx : den ρ k = some x) : ∀ (es : List (AV × AV)) (es' : List MapEntry) (i : Nat) (r : Option (Nat × AV)), DL ρ (es.map (·.1)) (es'.map (·.key)) → DL ρ (es.map (·.2)) (es'.map (·.val)) → findE d k es i = some r →
    match r with
    | none => Instr.findNow d x es' i = some none
    | some (j, v) => i ≤ j ∧ ∃ y, den ρ v = some y ∧ Instr.findNow d x es' i = some (some (j, y)) ∧ ∃ e, es'[j - i]? = some e ∧ ∃ k', es[j - i]? = some (k', v) ∧ keyEq d k k' = some true ∧ den ρ k' = some e.key
  | [], es', i, r, h1, _, h => by
    have : es' = [] := by simpa using h1.eq_nil
    subst this
    simp only [findE, Option.some.injEq] at h; subst h; rfl
  | (a', v) :: l, es', i, r, h1, h2, h => by
    obtain ⟨u, r1, e1, e2, e3⟩ := DL.uncons h1
    obtain ⟨u', r2, e4, e5, e6⟩ := DL.uncons h2
    cases es' with
    | nil => simp at e1
    | cons e es' =>
      simp only [List.map_cons, List.cons.injEq] at e1 e4
      obtain ⟨rfl, rfl⟩ := e1
      obtain ⟨rfl, rfl⟩ := e4
      simp only [findE] at h
      split at h
      · rename_i hk
        injection h with h; subst h
        exact ⟨Nat.le_refl _, e.val, e5, by simp [Instr.findNow, keyEq_now hk hx e2], e, by simp, a', by simp, hk, e2⟩
      · rename_i hk
        have ih := findE_now hx l es' (i + 1) r e3 e6 h
        cases r with
        | none => simp only at ih ⊢; rw [Instr.findNow, keyEq_now hk hx e2]; exact ih
        | some q =>
          obtain ⟨j, w⟩ := q
          obtain ⟨i0, y, i1, i2, e', i3, k', i4, i5, i6⟩ := ih
          refine ⟨by omega, y, i1, by rw [Instr.findNow, keyEq_now hk hx e2]; exact i2, e', ?_, k', ?_, i5, i6⟩
          · rw [show j - i = (j - (i + 1)) + 1 by omega]; simpa using i3
          · rw [show j - i = (j - (i + 1)) + 1 by omega]; simpa using i4
      · cases h
/-- a key's type is an integer's or a text's: nothing is asked of the key -/
theorem keyEq_plain {d : TypeDesc} {_k : AV} {x : Value} (kt : TypeId) (hu : P.underlying kt = some d) (hd : (∃ k, d = .int k) ∨ d = .string) (b : Bool) (w : World) : (Instr.checkKey b 10000 kt x).run P w = .ok () w := by
  rw [show (10000 : Nat) = 9999 + 1 from rfl, Instr.checkKey]
  rcases hd with ⟨k, rfl⟩ | rfl <;> simp [run_und hu]
/-! ### maps whose keys are structs -/
theorem keyS_now {kt : TypeId} {fs : Array Field} {ds : List TypeDesc} (_hu : P.underlying kt = some (.struct fs)) (hf : flatF P kt = some ds) {k a' : AV} {x y : Value} {c : Bool} (h : keyS ds k a' = some c) (hx : den ρ k = some x) (hy : den ρ a' = some y) (w : World) :
    (Op.equal kt x y).run P w = .ok c w ∧ Instr.sameNow (.struct fs) x y = none := by
  unfold keyS at h
  split at h
  · obtain ⟨xs, hxs, rfl⟩ := den_agg hx
    obtain ⟨ys, hys, rfl⟩ := den_agg hy
    exact ⟨flatF_run hf h hxs hys w, rfl⟩
  · cases h
theorem findS_now {kt : TypeId} {fs : Array Field} {ds : List TypeDesc} (hu : P.underlying kt = some (.struct fs)) (hf : flatF P kt = some ds) {k : AV} {x : Value} (hx : den ρ k = some x) : ∀ (es : List (AV × AV)) (es' : List MapEntry) (i : Nat) (r : Option (Nat × AV)), DL ρ (es.map (·.1)) (es'.map (·.key)) → DL ρ (es.map (·.2)) (es'.map (·.val)) → findS ds k es i = some r →
    match r with
    | none => ∀ w, (Instr.findAsking kt x es' i).run P w = .ok none w
    | some (j, v) => i ≤ j ∧ ∃ y, den ρ v = some y ∧ (∀ w, (Instr.findAsking kt x es' i).run P w = .ok (some (j, y)) w) ∧ ∃ e, es'[j - i]? = some e ∧ ∃ k', es[j - i]? = some (k', v) ∧ keyS ds k k' = some true ∧ den ρ k' = some e.key
  | [], es', i, r, h1, _, h => by
    have : es' = [] := by simpa using h1.eq_nil
    subst this
    simp only [findS, Option.some.injEq] at h; subst h; intro w; simp [Instr.findAsking]
  | (a', v) :: l, es', i, r, h1, h2, h => by
    obtain ⟨u, r1, e1, e2, e3⟩ := DL.uncons h1
    obtain ⟨u', r2, e4, e5, e6⟩ := DL.uncons h2
    cases es' with
    | nil => simp at e1
    | cons e es' =>
      simp only [List.map_cons, List.cons.injEq] at e1 e4
      obtain ⟨rfl, rfl⟩ := e1
      obtain ⟨rfl, rfl⟩ := e4
      simp only [findS] at h
      split at h
      · rename_i hk
        injection h with h; subst h
        exact ⟨Nat.le_refl _, e.val, e5, fun w => by simp [Instr.findAsking, (keyS_now hu hf hk hx e2 w).1], e, by simp, a', by simp, hk, e2⟩
      · rename_i hk
        have ih := findS_now hu hf hx l es' (i + 1) r e3 e6 h
        cases r with
        | none => simp only at ih ⊢; intro w; simp [Instr.findAsking, (keyS_now hu hf hk hx e2 w).1, ih]
        | some q =>
          obtain ⟨j, w⟩ := q
          obtain ⟨i0, y, i1, i2, e', i3, k', i4, i5, i6⟩ := ih
          refine ⟨by omega, y, i1, fun w => by simp [Instr.findAsking, (keyS_now hu hf hk hx e2 w).1, i2], e', ?_, k', ?_, i5, i6⟩
          · rw [show j - i = (j - (i + 1)) + 1 by omega]; simpa using i3
          · rw [show j - i = (j - (i + 1)) + 1 by omega]; simpa using i4
      · cases h
/-- what is asked of a struct's key -/
theorem checkFs (b : Bool) (n : Nat) : ∀ (fs : List Field) (i : Nat) (ds : List TypeDesc) (xs : List Value), flatFs P i fs = some ds → i + ds.length ≤ xs.length → ∀ (w : World),
    (forIn (m := Sem) fs PUnit.unit fun f _r => do
      if f.name ≠ "_" then do
        let v ← part f.type xs.toArray f.offset
        Instr.checkKey b (n + 1) f.type v
        pure (ForInStep.yield PUnit.unit)
      else pure (ForInStep.yield PUnit.unit)).run P w = .ok PUnit.unit w
  | [], _, _, _, _, _, w => by simp
  | f :: fs, i, ds, xs, h, hl, w => by
    simp only [flatFs] at h
    cases hn : (f.name != "_" && Nat.beq f.offset i) with
    | false => rw [hn] at h; cases h
    | true =>
      rw [hn, cond_true] at h
      simp only [Bool.and_eq_true, bne_iff_ne, beq_true] at hn
      obtain ⟨hn1, hn2⟩ := hn
      split at h
      · rename_i d r hd hr
        injection h with h; subst h
        simp only [List.length_cons] at hl
        obtain ⟨hu, hag⟩ := flat1_eq hd
        have hx : xs[i]? = some (xs[i]'(by omega)) := List.getElem?_eq_getElem (by omega)
        have px : ∀ w, (part f.type xs.toArray f.offset).run P w = .ok (xs[i]'(by omega)) w := fun w => by simp [part, aggOf_run hag, hn2, hx]
        have hc : ∀ w, (Instr.checkKey b (n + 1) f.type (xs[i]'(by omega))).run P w = .ok () w := fun w => by
          rw [Instr.checkKey]
          unfold flat1 at hd
          split at hd <;> first | (cases hd; done) | (rename_i hu'; simp [run_und hu'])
        have ih := checkFs b n fs (i + 1) r xs hr (by omega) w
        rw [List.forIn_cons]
        simp only [if_pos hn1, Sem.run_bind, px, hc, Result.andThen_ok, Sem.run_pure]
        exact ih
      · cases h
theorem checkS {kt : TypeId} {fs : Array Field} {ds : List TypeDesc} (hu : P.underlying kt = some (.struct fs)) (hf : flatF P kt = some ds) {k : AV} {x : Value} (hx : den ρ k = some x) (hl : isLen ds.length k = true) (b : Bool) (w : World) : (Instr.checkKey b 10000 kt x).run P w = .ok () w := by
  have hfs : flatFs P 0 fs.toList = some ds := by
    unfold flatF at hf
    rw [hu] at hf
    simp only at hf
    cases hs : P.stoodInHeld kt with
    | true => rw [hs] at hf; cases hf
    | false => rw [hs] at hf; exact hf
  unfold isLen at hl
  split at hl
  · obtain ⟨xs, hxs, rfl⟩ := den_agg hx
    rw [beq_true, len'_eq] at hl
    have := checkFs b 9998 fs.toList 0 ds xs hfs (by rw [← hxs.length]; omega) w
    rw [show (10000 : Nat) = 9998 + 1 + 1 from rfl, Instr.checkKey]
    simp only [Sem.run_bind, run_und hu, Result.andThen_ok]
    rw [← Array.forIn_toList]
    exact (congrArg (fun r => Result.andThen r _) this).trans rfl
  · cases hl
end
end Eng
end Go.Proofs.YtlajkdbpmkodpaaGreatDoor
namespace Go.Proofs.YtlajkdbpmkodpaaGreatDoor
namespace Eng
open Go
section
variable {P : Program} {ρ : Rho} {T : Tm} {a : Act}
theorem plainK_or {d : TypeDesc} (h : plainK d = true) : (∃ k, d = .int k) ∨ d = .string := by
  unfold plainK at h; split at h
  · exact .inl ⟨_, rfl⟩
  · exact .inr rfl
  · cases h
theorem structD_eq {kt : TypeId} {ds : List TypeDesc} (h : structD P kt = some ds) : ∃ fs, P.underlying kt = some (.struct fs) ∧ flatF P kt = some ds := by
  unfold structD at h
  split at h
  · rename_i fs hu; exact ⟨fs, hu, h⟩
  · cases h
theorem findS_key {kt : TypeId} {fs : Array Field} {ds : List TypeDesc} (hu : P.underlying kt = some (.struct fs)) (hf : flatF P kt = some ds) {k : AV} {x : Value} (hx : den ρ k = some x) {es : List (AV × AV)} {es' : List MapEntry} {r : Option (Nat × AV)}
    (h1 : DL ρ (es.map (·.1)) (es'.map (·.key))) (_h2 : DL ρ (es.map (·.2)) (es'.map (·.val))) (h : findS ds k es 0 = some r) (w : World) : (Instr.findKey kt x es').run P w = (Instr.findAsking kt x es' 0).run P w := by
  cases es' with
  | nil => simp [Instr.findKey, run_und hu, Instr.findNow, Instr.findAsking]
  | cons e es' =>
    cases es with
    | nil => have := h1.length; simp at this
    | cons p es =>
      obtain ⟨a', v⟩ := p
      obtain ⟨u, r1, e1, e2, e3⟩ := DL.uncons h1
      simp only [List.map_cons, List.cons.injEq] at e1
      obtain ⟨rfl, _⟩ := e1
      have hsn : Instr.sameNow (.struct fs) x e.key = none := by
        simp only [findS] at h
        split at h
        · rename_i hk; exact (keyS_now hu hf hk hx e2 w).2
        · rename_i hk; exact (keyS_now hu hf hk hx e2 w).2
        · cases h
      simp [Instr.findKey, run_und hu, Instr.findNow, hsn]
theorem oLookup_r (o : Oper) (t : TypeId) (m x : Operand) (ok : Bool) (ho : o.op = .lookup t m x ok) (hT : TR ρ T a.tmps) (hG : GOK P ρ) (hm : gl P m = true) (hx : gl P x = true) {H H' : Heap} {w : World} (hH : VR ρ H w) {v : AV}
    (h : oLookup P t m x ok T H = .val v H') : H' = H ∧ GivesIn P o a ρ w v := by
  unfold oLookup at h
  split at h
  · rename_i kt e b k hu hb hk
    split at h
    · rename_i d es z hd hB hz
      obtain ⟨p, hpb, hmx⟩ := den_map (ev_den hT hG hm hb)
      have hkx := ev_den hT hG hx hk
      obtain ⟨q, hq, es', ck, h3, h4, h5⟩ := hH.at hB hpb
      rw [hpb] at hq; injection hq with hq; subst hq
      have hget : ∀ (f : Obj → Sem Value), ((getObj p.blk).bind f).run P w = (f (.map es' ck)).run P w := fun f => by
        rw [Sem.run_bind']; simp [getObj, Sem.run, h3]
      obtain ⟨z', hz1, hz2, _⟩ := zeroOf_run hz
      have run : ∀ r, (∀ b w, (Instr.checkKey b 10000 kt (a.eval x)).run P w = .ok () w) → (∀ w, (Instr.findKey kt (a.eval x) es'.toList).run P w = .ok r w) → (execOp a.eval o).run P w = .ok (.value (match r with | some (_, y) => (if ok then .tuple #[y, .bool true] else y) | none => (if ok then .tuple #[z', .bool false] else z'))) w := fun r hck hfk => by
        simp only [execOp, ho, Instr.lookup, Sem.run_bind, run_und hu, Result.andThen_ok, hmx]
        simp only [getObj, Sem.run, h3, Result.andThen_ok, Sem.run_bind, Sem.run_pure, hck, hfk]
        cases r with
        | none => simp [hz2]
        | some r => simp
      cases hp : plainK d with
      | true =>
        rw [hp, cond_true] at h
        have hck := keyEq_plain (P := P) (x := a.eval x) (_k := k) kt hd (plainK_or hp)
        have hfk : ∀ r, Instr.findNow d (a.eval x) es'.toList 0 = some r → ∀ w, (Instr.findKey kt (a.eval x) es'.toList).run P w = .ok r w := fun r hr w => by simp [Instr.findKey, run_und hd, hr]
        split at h
        · rename_i i v' hf
          obtain ⟨_, y, hy, hf', _⟩ := findE_now hkx es es'.toList 0 _ h4 h5 hf
          cases ok with
          | true => injection h with h1 h2; subst h1; exact ⟨h2.symm, .tuple #[y, .bool true], by simp [den, denL, hy], run _ hck (hfk _ hf')⟩
          | false => injection h with h1 h2; subst h1; exact ⟨h2.symm, y, hy, run _ hck (hfk _ hf')⟩
        · rename_i hf
          have hf' := findE_now hkx es es'.toList 0 _ h4 h5 hf
          cases ok with
          | true => injection h with h1 h2; subst h1; exact ⟨h2.symm, .tuple #[z', .bool false], by simp [den, denL, hz1], run _ hck (hfk _ hf')⟩
          | false => injection h with h1 h2; subst h1; exact ⟨h2.symm, z', hz1 ρ, run _ hck (hfk _ hf')⟩
        · cases h
      | false =>
        rw [hp, cond_false] at h
        unfold lookS at h
        split at h
        · rename_i ds hsd
          obtain ⟨fs, hu2, hf⟩ := structD_eq hsd
          rw [hu2] at hd
          injection hd with hd
          subst hd
          unfold findKS at h
          cases hl : isLen ds.length k with
          | false => rw [hl] at h; cases h
          | true =>
            rw [hl, cond_true] at h
            have hck := fun b w => checkS hu2 hf hkx hl b w
            split at h
            · rename_i i v' hfs
              have hnow := findS_now hu2 hf hkx es es'.toList 0 _ h4 h5 hfs
              have hfk := findS_key hu2 hf hkx h4 h5 hfs
              obtain ⟨_, y, hy, hrun, _⟩ := hnow
              have hfk2 := fun w => (hfk w).trans (hrun w)
              cases ok with
              | true => injection h with h1 h2; subst h1; exact ⟨h2.symm, .tuple #[y, .bool true], by simp [den, denL, hy], run _ hck hfk2⟩
              | false => injection h with h1 h2; subst h1; exact ⟨h2.symm, y, hy, run _ hck hfk2⟩
            · rename_i hfs
              have hnow := findS_now hu2 hf hkx es es'.toList 0 _ h4 h5 hfs
              have hfk := findS_key hu2 hf hkx h4 h5 hfs
              have hfk2 := fun w => (hfk w).trans (hnow w)
              cases ok with
              | true => injection h with h1 h2; subst h1; exact ⟨h2.symm, .tuple #[z', .bool false], by simp [den, denL, hz1], run _ hck hfk2⟩
              | false => injection h with h1 h2; subst h1; exact ⟨h2.symm, z', hz1 ρ, run _ hck hfk2⟩
            · cases h
        · cases h
    · cases h
  · cases h

theorem packA_spec : ∀ (l : List AV) (x : Nat) (xs : List Value), packA l = some x → DL ρ l xs → ∃ ns : List Int, xs = ns.map (Value.int .u8) ∧ (ns.map fun n => UInt8.ofNat n.toNat) = unpackL l.length x
  | [], x, xs, h, hl => ⟨[], by simpa using hl.eq_nil, by simp [unpackL]⟩
  | v :: l, x, xs, h, hl => by
    obtain ⟨u, r, rfl, h1, h2⟩ := hl.uncons
    cases v with
    | int k n =>
      cases k with
      | u8 =>
        cases n with
        | ofNat c =>
          simp only [packA] at h
          split at h
          · rename_i y hy
            obtain ⟨hc, h⟩ := cond_some h (by simp)
            rw [blt_iff, decide_eq_true_iff] at hc
            injection h with h; subst h
            obtain ⟨ns, rfl, e⟩ := packA_spec l y r hy h2
            refine ⟨(c : Int) :: ns, by rw [den_int h1]; rfl, ?_⟩
            simp only [List.map_cons, List.length_cons, unpackL, Int.toNat_natCast]
            have e1 : Nat.add c (Nat.mul 256 y) = c + 256 * y := rfl
            rw [e1, show (c + 256 * y) % 256 = c by omega, show (c + 256 * y) / 256 = y by omega, e]
          · cases h
        | negSucc c => simp [packA] at h
      | _ => simp [packA] at h
    | _ => simp [packA] at h
theorem oConvert_r (o : Oper) (s d : TypeId) (x : Operand) (ho : o.op = .convert s d x) (hcl : cls P o.op = .read) (hT : TR ρ T a.tmps) (hG : GOK P ρ) (hx : gl P x = true) {H H' : Heap} {w : World} (hH : VR ρ H w) {v : AV}
    (h : oConvert P s d x T H = .val v H') : H' = H ∧ GivesIn P o a ρ w v := by
  unfold oConvert at h
  rw [ho] at hcl
  simp only [cls] at hcl
  split at h
  · rename_i hs hd _; rw [hs, hd] at hcl; cases hcl
  · rename_i hs hd _; rw [hs, hd] at hcl; cases hcl
  · rename_i hs hd _; rw [hs, hd] at hcl; cases hcl
  · rename_i e v' hs hd he
    split at h
    · rename_i hu
      have hcs := cond_some h
      cases hstr : isStr v' with
      | true => rw [hstr] at h; cases h
      | false =>
      rw [hstr, cond_false] at h
      clear hcs
      split at h
      · rename_i n l hel
        split at h
        · rename_i y hy
          rw [fN_eq, fN_eq] at h
          injection h with h1 h2; subst h1
          have hv := ev_den hT hG hx he
          obtain ⟨xs, e1, e2, e3⟩ := elemsOf_spec (P := P) hH hv hel
          obtain ⟨e4, e5⟩ := e3 w (fun _ _ => rfl)
          obtain ⟨ns, rfl, e6⟩ := packA_spec l y xs hy e1
          refine ⟨h2.symm, .string (unpack n y), rfl, ?_⟩
          have hn : l.length = n := by simpa using e2
          have hfold : ns.foldl (fun r n => r.push (UInt8.ofNat n.toNat)) ByteArray.empty = unpack n y := by
            have key : ∀ (ns : List Int) (b : ByteArray), (ns.foldl (fun r n => r.push (UInt8.ofNat n.toNat)) b).data.toList = b.data.toList ++ ns.map fun n => UInt8.ofNat n.toNat := by
              intro ns
              induction ns with
              | nil => intro b; simp
              | cons n ns ih => intro b; rw [List.foldl_cons, ih]; simp [ByteArray.push]
            have e : ∀ (a b : ByteArray), a.data.toList = b.data.toList → a = b := fun a b h => by
              cases a; cases b; congr 1; exact Array.ext' h
            apply e
            rw [key, e6, hn]
            show [] ++ unpackL n y = (unpackL n y).toArray.toList
            simp
          have conv : ∀ z, a.eval x = z → (∀ aa len cap, z = .slice (some aa) len cap → (Conv.bytesToString z).run P w = .ok (.string (unpack n y)) w) → (z = .slice none 0 0 → unpack n y = ByteArray.empty) → (∃ aa len cap, z = .slice aa len cap) → (∀ len cap, z = .slice none len cap → len = 0 ∧ cap = 0) → (execOp a.eval o).run P w = .ok (.value (.string (unpack n y))) w := by
            intro z hz h1 h2 ⟨aa, len, cap, h3⟩ h4
            subst h3
            simp only [execOp, ho, Sem.run_bind, hz, convert, run_und hs, run_und hd, run_und hu, Result.andThen_ok]
            cases aa with
            | none =>
              obtain ⟨rfl, rfl⟩ := h4 _ _ rfl
              simp [Conv.bytesToString, h2 rfl]
            | some aa => rw [h1 aa len cap rfl]; rfl
          have row : ∀ (ad : Addr) (m cap : Nat), a.eval x = .slice (some ad) m cap → m = n → (execOp a.eval o).run P w = .ok (.value (.string (unpack n y))) w := by
            intro ad m cap hz hmn
            subst hmn
            rw [hz, Builtin.firstCells, Nat.mul_one] at e5
            refine conv _ hz (fun aa len cap' hq => ?_) (fun hq => by cases hq) ⟨_, _, _, rfl⟩ (fun _ _ hq => by cases hq)
            injection hq with q1 q2 q3
            injection q1 with q1
            subst q1; subst q2; subst q3
            rw [run_bytesToString w _ _ _ ns e5, hfold]
          have hlen : ∀ {z : Value} {m cap : Nat} {aa : Option Addr}, a.eval x = z → z = .slice aa m cap → m = n := by
            intro z m cap aa h1 h2
            subst h2
            rw [h1] at e4
            simp [Builtin.lenOf] at e4
            exact e4
          cases v' with
          | sl b o' m c => obtain ⟨p, _, hz⟩ := den_sl hv; exact row _ _ _ hz (hlen hz rfl)
          | so b o' m c => obtain ⟨p, _, hz⟩ := den_so hv; exact row _ _ _ hz (hlen hz rfl)
          | se b o' m c => obtain ⟨p, _, hz⟩ := den_se hv; exact row _ _ _ hz (hlen hz rfl)
          | sz m => have hz := den_sz hv; exact row _ _ _ hz (hlen hz rfl)
          | nils =>
            have hz : a.eval x = .slice none 0 0 := by simp [den] at hv; exact hv.symm
            have hn0 := hlen hz rfl
            subst hn0
            exact conv _ hz (fun _ _ _ hq => by cases hq) (fun _ => by simp [unpack, unpackL]; rfl) ⟨_, _, _, rfl⟩ (fun _ _ hq => by injection hq with q1 q2 q3; exact ⟨q2.symm, q3.symm⟩)
          | str m c => cases hstr
          | _ => simp [elemsOf] at hel
        · cases h
      · cases h
    · cases h
  · cases h
end
end Eng
end Go.Proofs.YtlajkdbpmkodpaaGreatDoor
