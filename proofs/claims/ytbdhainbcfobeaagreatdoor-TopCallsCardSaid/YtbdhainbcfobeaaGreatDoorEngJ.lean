/-
  THE ENGINE, part J: reads, the rest; what makes memory.
-/
import Derived.Test.YtbdhainbcfobeaaGreatDoorEngI
import Derived.Laws.BytesString
namespace Go.Proofs.YtbdhainbcfobeaaGreatDoor
namespace Eng
open Go
section
variable {P : Program} {ρ : Rho} {T : Tm} {a : Act}
theorem plainK_or {d : TypeDesc} (h : plainK d = true) : (∃ k, d = .int k) ∨ d = .string := by
  unfold plainK at h; split at h
  · exact .inl ⟨_, rfl⟩
  · exact .inr rfl
  · cases h
theorem oLookup_r (o : Oper) (t : TypeId) (m x : Operand) (ok : Bool) (ho : o.op = .lookup t m x ok) (hT : TR ρ T a.tmps) (hG : GOK P ρ) (hm : gl P m = true) (hx : gl P x = true) {H H' : Heap} {w : World} (hH : VR ρ H w) {v : AV}
    (h : oLookup P t m x ok T H = .val v H') : H' = H ∧ GivesIn P o a ρ w v := by
  unfold oLookup at h
  split at h
  · rename_i kt e b k hu hb hk
    split at h
    · rename_i d es z hd hB hz
      obtain ⟨hp, h⟩ := cond_some h (by simp)
      obtain ⟨p, hpb, hmx⟩ := den_map (ev_den hT hG hm hb)
      have hkx := ev_den hT hG hx hk
      obtain ⟨q, hq, es', ck, h3, h4, h5⟩ := hH.at hB hpb
      rw [hpb] at hq; injection hq with hq; subst hq
      have hck := keyEq_plain (P := P) (x := a.eval x) (k := k) kt hd (plainK_or hp)
      have hget : ∀ (f : Obj → Sem Value), ((getObj p.blk).bind f).run P w = (f (.map es' ck)).run P w := fun f => by
        rw [Sem.run_bind']; simp [getObj, Sem.run, h3]
      obtain ⟨z', hz1, hz2, _⟩ := zeroOf_run hz
      have run : ∀ r, Instr.findNow d (a.eval x) es'.toList 0 = some r → (execOp a.eval o).run P w = .ok (.value (match r with | some (_, y) => (if ok then .tuple #[y, .bool true] else y) | none => (if ok then .tuple #[z', .bool false] else z'))) w := fun r hr => by
        have hfk : ∀ w, (Instr.findKey kt (a.eval x) es'.toList).run P w = .ok r w := fun w => by simp [Instr.findKey, run_und hd, hr]
        simp only [execOp, ho, Instr.lookup, Sem.run_bind, run_und hu, Result.andThen_ok, hmx]
        simp only [getObj, Sem.run, h3, Result.andThen_ok, Sem.run_bind, Sem.run_pure, hck, hfk]
        cases r with
        | none => simp [hz2]
        | some r => simp
      split at h
      · rename_i i v' hf
        obtain ⟨_, y, hy, hf', _⟩ := findE_now hkx es es'.toList 0 _ h4 h5 hf
        cases ok with
        | true => injection h with h1 h2; subst h1; exact ⟨h2.symm, .tuple #[y, .bool true], by simp [den, denL, hy], run _ hf'⟩
        | false => injection h with h1 h2; subst h1; exact ⟨h2.symm, y, hy, run _ hf'⟩
      · rename_i hf
        have hf' := findE_now hkx es es'.toList 0 _ h4 h5 hf
        cases ok with
        | true => injection h with h1 h2; subst h1; exact ⟨h2.symm, .tuple #[z', .bool false], by simp [den, denL, hz1], run _ hf'⟩
        | false => injection h with h1 h2; subst h1; exact ⟨h2.symm, z', hz1 ρ, run _ hf'⟩
      · cases h
    · cases h
  · cases h

theorem packA_spec : ∀ (l : List AV) (x : Nat) (xs : List Value), packA l = some x → DL ρ l xs → ∃ ns : List Int, xs = ns.map (Value.int .u8) ∧ (ns.map fun n => UInt8.ofNat n.toNat) = unpackL l.length x
  | [], x, xs, h, hl => ⟨[], by simpa using hl.eq_nil, by simp [unpackL]⟩
  | v :: l, x, xs, h, hl => by
    obtain ⟨u, r, rfl, h1, h2⟩ := hl.uncons
    cases v with
    | int k n =>
      cases k with
      | u8 =>
        cases n with
        | ofNat c =>
          simp only [packA] at h
          split at h
          · rename_i y hy
            obtain ⟨hc, h⟩ := cond_some h (by simp)
            rw [blt_iff, decide_eq_true_iff] at hc
            injection h with h; subst h
            obtain ⟨ns, rfl, e⟩ := packA_spec l y r hy h2
            refine ⟨(c : Int) :: ns, by rw [den_int h1]; rfl, ?_⟩
            simp only [List.map_cons, List.length_cons, unpackL, Int.toNat_natCast]
            have e1 : Nat.add c (Nat.mul 256 y) = c + 256 * y := rfl
            rw [e1, show (c + 256 * y) % 256 = c by omega, show (c + 256 * y) / 256 = y by omega, e]
          · cases h
        | negSucc c => simp [packA] at h
      | _ => simp [packA] at h
    | _ => simp [packA] at h
theorem oConvert_r (o : Oper) (s d : TypeId) (x : Operand) (ho : o.op = .convert s d x) (hcl : cls P o.op = .read) (hT : TR ρ T a.tmps) (hG : GOK P ρ) (hx : gl P x = true) {H H' : Heap} {w : World} (hH : VR ρ H w) {v : AV}
    (h : oConvert P s d x T H = .val v H') : H' = H ∧ GivesIn P o a ρ w v := by
  unfold oConvert at h
  rw [ho] at hcl
  simp only [cls] at hcl
  split at h
  · rename_i hs hd _; rw [hs, hd] at hcl; cases hcl
  · rename_i hs hd _; rw [hs, hd] at hcl; cases hcl
  · rename_i hs hd _; rw [hs, hd] at hcl; cases hcl
  · rename_i e v' hs hd he
    split at h
    · rename_i hu
      have hcs := cond_some h
      cases hstr : isStr v' with
      | true => rw [hstr] at h; cases h
      | false =>
      rw [hstr, cond_false] at h
      clear hcs
      split at h
      · rename_i n l hel
        split at h
        · rename_i y hy
          rw [fN_eq, fN_eq] at h
          injection h with h1 h2; subst h1
          have hv := ev_den hT hG hx he
          obtain ⟨xs, e1, e2, e3⟩ := elemsOf_spec (P := P) hH hv hel
          obtain ⟨e4, e5⟩ := e3 w (fun _ _ => rfl)
          obtain ⟨ns, rfl, e6⟩ := packA_spec l y xs hy e1
          refine ⟨h2.symm, .string (unpack n y), rfl, ?_⟩
          have hn : l.length = n := by simpa using e2
          have hfold : ns.foldl (fun r n => r.push (UInt8.ofNat n.toNat)) ByteArray.empty = unpack n y := by
            have key : ∀ (ns : List Int) (b : ByteArray), (ns.foldl (fun r n => r.push (UInt8.ofNat n.toNat)) b).data.toList = b.data.toList ++ ns.map fun n => UInt8.ofNat n.toNat := by
              intro ns
              induction ns with
              | nil => intro b; simp
              | cons n ns ih => intro b; rw [List.foldl_cons, ih]; simp [ByteArray.push]
            have e : ∀ (a b : ByteArray), a.data.toList = b.data.toList → a = b := fun a b h => by
              cases a; cases b; congr 1; exact Array.ext' h
            apply e
            rw [key, e6, hn]
            show [] ++ unpackL n y = (unpackL n y).toArray.toList
            simp
          have conv : ∀ z, a.eval x = z → (∀ aa len cap, z = .slice (some aa) len cap → (Conv.bytesToString z).run P w = .ok (.string (unpack n y)) w) → (z = .slice none 0 0 → unpack n y = ByteArray.empty) → (∃ aa len cap, z = .slice aa len cap) → (∀ len cap, z = .slice none len cap → len = 0 ∧ cap = 0) → (execOp a.eval o).run P w = .ok (.value (.string (unpack n y))) w := by
            intro z hz h1 h2 ⟨aa, len, cap, h3⟩ h4
            subst h3
            simp only [execOp, ho, Sem.run_bind, hz, convert, run_und hs, run_und hd, run_und hu, Result.andThen_ok]
            cases aa with
            | none =>
              obtain ⟨rfl, rfl⟩ := h4 _ _ rfl
              simp [Conv.bytesToString, h2 rfl]
            | some aa => rw [h1 aa len cap rfl]; rfl
          have row : ∀ (b oo m cap : Nat), a.eval x = .slice (some ⟨b, oo, none⟩) m cap → m = n → (execOp a.eval o).run P w = .ok (.value (.string (unpack n y))) w := by
            intro b oo m cap hz hmn
            subst hmn
            rw [hz, Builtin.firstCells, Nat.mul_one] at e5
            refine conv _ hz (fun aa len cap' hq => ?_) (fun hq => by cases hq) ⟨_, _, _, rfl⟩ (fun _ _ hq => by cases hq)
            injection hq with q1 q2 q3
            injection q1 with q1
            subst q1; subst q2; subst q3
            rw [run_bytesToString w _ _ _ ns e5, hfold]
          have hlen : ∀ {z : Value} {m cap : Nat} {aa : Option Addr}, a.eval x = z → z = .slice aa m cap → m = n := by
            intro z m cap aa h1 h2
            subst h2
            rw [h1] at e4
            simp [Builtin.lenOf] at e4
            exact e4
          cases v' with
          | sl b o' m c => obtain ⟨p, _, hz⟩ := den_sl hv; exact row _ _ _ _ hz (hlen hz rfl)
          | so b o' m c => obtain ⟨p, _, hz⟩ := den_so hv; exact row _ _ _ _ hz (hlen hz rfl)
          | se b o' m c => obtain ⟨p, _, hz⟩ := den_se hv; exact row _ _ _ _ hz (hlen hz rfl)
          | nils =>
            have hz : a.eval x = .slice none 0 0 := by simp [den] at hv; exact hv.symm
            have hn0 := hlen hz rfl
            subst hn0
            exact conv _ hz (fun _ _ _ hq => by cases hq) (fun _ => by simp [unpack, unpackL]; rfl) ⟨_, _, _, rfl⟩ (fun _ _ hq => by injection hq with q1 q2 q3; exact ⟨q2.symm, q3.symm⟩)
          | str m c => cases hstr
          | _ => simp [elemsOf] at hel
        · cases h
      · cases h
    · cases h
  · cases h
end
end Eng
end Go.Proofs.YtbdhainbcfobeaaGreatDoor
