/-
  THE ENGINE, part H: slice expressions; len, cap, min, max; what only reads.
-/
import Derived.Test.YtbdhainbcfobeaaGreatDoorEngG
namespace Go.Proofs.YtbdhainbcfobeaaGreatDoor
namespace Eng
open Go
section
variable {P : Program} {ρ : Rho} {T : Tm} {a : Act}
def glO (P : Program) (x : Option Operand) : Bool := match x with | some x => gl P x | none => true
theorem natOf_spec {v : Option AV} {n : Nat} (h : natOf v = some n) : ∃ k, v = some (.int k n) := by
  unfold natOf at h; split at h
  · rename_i k i; injection h with h; subst h; exact ⟨k, rfl⟩
  · cases h
theorem bound_run (hT : TR ρ T a.tmps) (hG : GOK P ρ) {x : Operand} {n y : Nat} {code : BoundsCode} (hx : gl P x = true) (h : natOf (ev x T) = some n) (hy : n ≤ y) (w : World) : (Instr.sliceBound (a.eval x) y code).run P w = .ok n w := by
  obtain ⟨k, hk⟩ := natOf_spec h
  have := den_int (ev_den hT hG hx hk)
  simp [Instr.sliceBound, this, asIntOf, hy]
theorem bnd_run (hT : TR ρ T a.tmps) (hG : GOK P ρ) (s : Bool) {lo hi mx : Option Operand} {len cap C l h m : Nat} (h1 : glO P lo = true) (h2 : glO P hi = true) (h3 : glO P mx = true)
    (hb : bnd3 lo hi mx T len cap = some (l, h, m)) (hC : cap ≤ C) :
    (∀ w, (Instr.sliceBounds s len C (lo.map a.eval) (hi.map a.eval) (mx.map a.eval)).run P w = .ok (l, h, if mx.isSome then m else C) w) ∧ l ≤ h ∧ h ≤ m ∧ m ≤ cap ∧ (mx = none → m = cap) := by
  unfold bnd3 at hb
  split at hb
  · rename_i l' h' m' e1 e2 e3
    obtain ⟨hc, hb⟩ := cond_some hb (by simp)
    simp only [Bool.and_eq_true, ble_iff, decide_eq_true_iff] at hc
    injection hb with hb
    simp only [Prod.mk.injEq] at hb
    obtain ⟨rfl, rfl, rfl⟩ := hb
    obtain ⟨⟨c1, c2⟩, c3⟩ := hc
    refine ⟨fun w => ?_, c1, c2, c3, fun hm => by subst hm; simp only [boundOf, Option.some.injEq] at e3; exact e3.symm⟩
    have elo : ∀ x, lo = some x → ∀ code w, (Instr.sliceBound (a.eval x) h' code).run P w = .ok l' w := fun x hl code w => by
      subst hl; exact bound_run hT hG h1 e1 c1 w
    have eln : lo = none → l' = 0 := fun hl => by subst hl; simp only [boundOf, Option.some.injEq] at e1; exact e1.symm
    cases mx with
    | none =>
      simp only [boundOf, Option.some.injEq] at e3; subst e3
      cases hi with
      | none =>
        simp only [boundOf, Option.some.injEq] at e2; subst e2
        cases lo with
        | none => rw [eln rfl]; simp [Instr.sliceBounds]
        | some x => simp [Instr.sliceBounds, elo x rfl]
      | some y =>
        have h4 := fun code => bound_run (y := C) (code := code) hT hG h2 e2 (by omega) w
        cases lo with
        | none => rw [eln rfl]; simp [Instr.sliceBounds, h4]
        | some x => simp [Instr.sliceBounds, elo x rfl, h4]
    | some z =>
      cases hi with
      | none => cases e2
      | some y =>
        have h5 := fun code => bound_run (y := C) (code := code) hT hG h3 e3 (by omega) w
        have h4 := fun code => bound_run (y := m') (code := code) hT hG h2 e2 c2 w
        cases lo with
        | none => rw [eln rfl]; simp [Instr.sliceBounds, h4, h5]
        | some x => simp [Instr.sliceBounds, elo x rfl, h4, h5]
  · cases hb

theorem extract_unpack {n s l h : Nat} (h1 : l ≤ h) (h2 : h ≤ n) : (unpack n s).extract l h = unpack (h - l) (s / 256 ^ l % 256 ^ (h - l)) := by
  have e : ∀ (a b : ByteArray), a.data.toList = b.data.toList → a = b := fun a b h => by
    cases a; cases b; congr 1; exact Array.ext' h
  apply e
  rw [ByteArray.data_extract, Array.toList_extract]
  simp only [unpack, List.extract_eq_take_drop]
  rw [unpackL_drop, unpackL_take _ _ _ (by omega)]
  exact unpackL_congr _ _ _ (by rw [Nat.mod_mod])
theorem shr8 (s l : Nat) : Nat.shiftRight s (Nat.mul 8 l) = s / 256 ^ l := by
  show s >>> (8 * l) = _
  rw [Nat.shiftRight_eq_div_pow, Nat.pow_mul]

/-- a slice expression over a row of which the capacity is known -/
theorem sliceR_ok {b o' z h l m : Nat} {H H' : Heap} {v : AV} (p : Pl) (hp : ρ b = some p) (hv : oSliceR b o' z (some (l, h, m)) H = .val v H') :
    H' = H ∧ den ρ v = some (.slice (some (if m = l then ⟨p.blk, p.off + o', none⟩ else (⟨p.blk, p.off + o', none⟩ : Addr).add (l * z))) (h - l) (m - l)) := by
  simp only [oSliceR, fN_eq] at hv
  injection hv with h1 h2; subst h1
  refine ⟨h2.symm, ?_⟩
  simp only [den, hp, beq_eq']
  by_cases e : m = l
  · subst e; simp
  · simp [e, add_none, Nat.add_assoc]
theorem oSlice_p (o : Oper) (t : TypeId) (x : Operand) (lo hi mx : Option Operand) (ho : o.op = .slice t x lo hi mx) (hcl : cls P o.op = .pure) (hT : TR ρ T a.tmps) (hG : GOK P ρ) (hx : gl P x = true)
    (h1 : glO P lo = true) (h2 : glO P hi = true) (h3 : glO P mx = true) (H : Heap) : OKp P o a ρ H (oSlice P t x lo hi mx T H) := by
  intro v H' h
  unfold oSlice at h
  rw [ho] at hcl
  simp only [cls] at hcl
  split at h
  · rename_i n s hu e
    unfold oSliceS at h
    split at h
    · cases h
    · split at h
      · rename_i l h' m hb
        simp only [fN_eq, shr8] at h
        injection h with e1 e2; subst e1
        have hs := den_str (ev_den hT hG hx e)
        obtain ⟨hr, c1, c2, c3, c4⟩ := bnd_run (mx := none) hT hG false h1 h2 rfl hb (Nat.le_refl _)
        refine ⟨e2.symm, .string (unpack (h' - l) (s / 256 ^ l % 256 ^ (h' - l))), rfl, fun w => ?_⟩
        have hr' := hr w
        simp only [Option.map_none] at hr'
        simp only [execOp, ho, Instr.sliceAt, Sem.run_bind, run_und hu, Result.andThen_ok, Instr.slice, hs, Option.map_none, Option.isSome_none, Bool.false_eq_true, if_false, unpack_size, hr']
        simp only [Sem.run_pure, Result.andThen_ok]
        rw [extract_unpack c1 (by omega)]
      · cases h
  · rename_i hu _; rw [hu] at hcl; cases hcl
  · rename_i hu _; rw [hu] at hcl; cases hcl
  · rename_i hu _; rw [hu] at hcl; cases hcl
  · rename_i n e b o' hu he
    split at h
    · rename_i z hz
      cases hb : bnd3 lo hi mx T n n with
      | none => rw [hb] at h; cases h
      | some B =>
        obtain ⟨l, h', m⟩ := B
        rw [hb] at h
        obtain ⟨p, hp, hpx⟩ := den_ptr (ev_den hT hG hx he)
        obtain ⟨e1, e2⟩ := sliceR_ok p hp h
        obtain ⟨hr, c1, c2, c3, c4⟩ := bnd_run hT hG false h1 h2 h3 hb (Nat.le_refl _)
        refine ⟨e1, _, e2, fun w => ?_⟩
        have hm : (if mx.isSome then m else n) = m := by
          cases mx with
          | none => simpa using (c4 rfl).symm
          | some _ => rfl
        simp only [execOp, ho, Instr.sliceAt, Sem.run_bind, run_und hu, Result.andThen_ok, hpx, Instr.sureAddr, Sem.run_pure, hr, hm, szOf_run hz]
    · cases h
  · cases h
theorem oSlice_r (o : Oper) (t : TypeId) (x : Operand) (lo hi mx : Option Operand) (ho : o.op = .slice t x lo hi mx) (hcl : cls P o.op = .read) {H : Heap} {w : World} (hH : VR ρ H w) (hT : TR ρ T a.tmps) (hG : GOK P ρ) (hx : gl P x = true)
    (h1 : glO P lo = true) (h2 : glO P hi = true) (h3 : glO P mx = true) {v : AV} {H' : Heap} (h : oSlice P t x lo hi mx T H = .val v H') : H' = H ∧ ∃ y, den ρ v = some y ∧ (execOp a.eval o).run P w = .ok (.value y) w := by
  unfold oSlice at h
  rw [ho] at hcl
  simp only [cls] at hcl
  split at h
  · rename_i hu _; rw [hu] at hcl; cases hcl
  · rename_i e hu he
    split at h
    · rename_i B z hb hz
      obtain ⟨l, h', m⟩ := B
      injection h with e1 e2; subst e1
      have hs : a.eval x = .slice none 0 0 := gp hT hG hx he rfl
      obtain ⟨hr, c1, c2, c3, c4⟩ := bnd_run hT hG true h1 h2 h3 hb (Nat.le_refl _)
      refine ⟨e2.symm, .slice none 0 0, rfl, ?_⟩
      have hl : l = 0 := by omega
      have hh : h' = 0 := by omega
      have hm : (if mx.isSome then m else 0) = 0 := by cases mx <;> simp; omega
      have hr := hr w
      rw [hm, hl, hh] at hr
      simp only [execOp, ho, Instr.sliceAt, Sem.run_bind, run_und hu, Result.andThen_ok, hs, Instr.slice, hr, szOf_run hz, Sem.run_pure]
      simp
    · cases h
  · rename_i e b o' n c hu he
    split at h
    · rename_i z hz
      cases hb : bnd3 lo hi mx T n c with
      | none => rw [hb] at h; cases h
      | some B =>
        obtain ⟨l, h', m⟩ := B
        rw [hb] at h
        obtain ⟨p, hp, hpx⟩ := den_sl (ev_den hT hG hx he)
        obtain ⟨e1, e2⟩ := sliceR_ok p hp h
        obtain ⟨hr, c1, c2, c3, c4⟩ := bnd_run hT hG true h1 h2 h3 hb (Nat.le_refl _)
        refine ⟨e1, _, e2, ?_⟩
        have hm : (if mx.isSome then m else c) = m := by
          cases mx with
          | none => simpa using (c4 rfl).symm
          | some _ => rfl
        simp only [execOp, ho, Instr.sliceAt, Sem.run_bind, run_und hu, Result.andThen_ok, hpx, Instr.slice, hr, hm, szOf_run hz, Sem.run_pure]
        by_cases e : m = l <;> simp [e]
    · cases h
  · rename_i e b o' n es hu he
    split at h
    · rename_i z kn hz hk
      have hcs := cond_some h (by simp)
      clear h
      obtain ⟨hzz, h⟩ := hcs
      have hzz := beq_true.1 hzz
      subst hzz
      obtain ⟨p, hp, hpx⟩ := den_so (ev_den hT hG hx he)
      have hkn : ∃ t sz tl ro, getB H b = some (.cells t sz tl ro) ∧ o' ≤ sz ∧ 0 < z ∧ kn = (sz - o') / z := by
        unfold knownC at hk
        split at hk
        · rename_i t sz tl ro hB
          obtain ⟨hc, hk⟩ := cond_some hk (by simp)
          simp only [Bool.and_eq_true, ble_iff, blt_iff, decide_eq_true_iff] at hc
          injection hk with hk
          exact ⟨t, sz, tl, ro, hB, hc.1, hc.2, hk.symm⟩
        · cases hk
      obtain ⟨t', sz, tl, ro, hB, hle, hpos, hkn⟩ := hkn
      obtain ⟨q, hq, hBO⟩ := hH.at hB hp
      rw [hp] at hq; injection hq with hq; subst hq
      obtain ⟨_, _, _, _, hlim, _⟩ := hBO
      have hC : kn ≤ (p.lim - o') / z := by rw [hkn]; exact Nat.div_le_div_right (by omega)
      split at h
      · cases hb : bnd3 lo hi none T n kn with
        | none => rw [hb] at h; cases h
        | some B =>
          obtain ⟨l, h', m⟩ := B
          rw [hb] at h
          obtain ⟨hr, c1, c2, c3, c4⟩ := bnd_run (mx := none) hT hG true h1 h2 rfl hb hC
          have hmk := c4 rfl
          have hr := hr w
          simp only [Option.map_none, Option.isSome_none, Bool.false_eq_true, if_false] at hr
          have run : (execOp a.eval o).run P w = .ok (.value (.slice (if (p.lim - o') / z = l then some ⟨p.blk, p.off + o', none⟩ else some ((⟨p.blk, p.off + o', none⟩ : Addr).add (l * z))) (h' - l) ((p.lim - o') / z - l))) w := by
            simp only [execOp, ho, Instr.sliceAt, Sem.run_bind, run_und hu, Result.andThen_ok, hpx, Instr.slice, Option.map_none, hr, szOf_run hz, Sem.run_pure]
            by_cases e : (p.lim - o') / z = l <;> simp [e]
          have hdiv : (p.lim - o') / z - l = (p.lim - (o' + l * z)) / z := by
            rw [← Nat.sub_sub, Nat.mul_comm l z, Nat.sub_mul_div]
          simp only [oSliceO] at h
          cases hlt : Nat.blt l kn with
          | true =>
            rw [hlt] at h
            simp only [cond_true, fN_eq] at h
            injection h with e1 e2; subst e1
            have hlt' : l < kn := by simpa [blt_iff] using hlt
            refine ⟨e2.symm, _, ?_, run⟩
            simp only [den, hp, if_neg (show ¬ (p.lim - o') / z = l by omega), add_none]
            congr 3
            all_goals first | exact hdiv.symm | (simp [Nat.add_assoc]; done) | rfl
          | false =>
            rw [hlt] at h
            simp only [cond_false, fN_eq] at h
            injection h with e1 e2; subst e1
            have hlt' : ¬ l < kn := by intro e; rw [blt_iff, decide_eq_false_iff_not] at hlt; exact hlt e
            have hl : l = kn := by omega
            have hh : h' - l = 0 := by omega
            refine ⟨e2.symm, _, ?_, run⟩
            simp only [den, hp, hh]
            by_cases e : (p.lim - o') / z = l
            · have : (p.lim - (o' + l * z)) / z = 0 := by rw [← hdiv]; omega
              simp [e, this]
            · have : ¬ (p.lim - (o' + l * z)) / z = 0 := by rw [← hdiv]; omega
              have e5 : Nat.add o' (Nat.mul l z) = o' + l * z := rfl
              rw [e5]
              simp only [e, this, if_false, add_none, Nat.add_assoc]
              rw [← Nat.add_assoc, ← hdiv]
      · rename_i mxv
        cases hb : bnd3 lo hi (some mxv) T n kn with
        | none => rw [hb] at h; cases h
        | some B =>
          obtain ⟨l, h', m⟩ := B
          rw [hb] at h
          obtain ⟨e1, e2⟩ := sliceR_ok p hp h
          obtain ⟨hr, c1, c2, c3, c4⟩ := bnd_run (mx := some mxv) hT hG true h1 h2 h3 hb hC
          have hr := hr w
          simp only [Option.isSome_some, if_true] at hr
          refine ⟨e1, _, e2, ?_⟩
          simp only [execOp, ho, Instr.sliceAt, Sem.run_bind, run_und hu, Result.andThen_ok, hpx, Instr.slice, hr, szOf_run hz, Sem.run_pure]
          by_cases e : m = l <;> simp [e]
    · cases h
  · rename_i hu _; rw [hu] at hcl; cases hcl
  · cases h
end
end Eng
end Go.Proofs.YtbdhainbcfobeaaGreatDoor
