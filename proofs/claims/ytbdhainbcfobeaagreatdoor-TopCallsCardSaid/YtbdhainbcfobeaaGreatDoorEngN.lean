/-
  THE ENGINE, part N: copy, clear, maps written; all operations together.
-/
import Derived.Test.YtbdhainbcfobeaaGreatDoorEngM
namespace Go.Proofs.YtbdhainbcfobeaaGreatDoor
namespace Eng
open Go
section
variable {P : Program} {ρ : Rho} {T : Tm} {a : Act}

theorem exec_b2 {o : Oper} {c : Call} {b : Builtin} (ho : o.op = .call c) (hb : c.callee = .builtin b) {m : List Value} (hm : c.args.toList.map a.eval = m) {w w' : World} {r : Value}
    (h : ∀ cs, (builtin b c.argTypes o.type cs m.toArray).run P w = .ok (.value r) w') : (execOp a.eval o).run P w = .ok (.value r) w' := by
  obtain ⟨cs, hcs⟩ := exec_builtin (P := P) (a := a) ho hb
  rw [hcs w, args_eq, hm]
  exact h cs
theorem oCopy_w {o : Oper} {c : Call} (ho : o.op = .call c) (hb : c.callee = .builtin .copy) {xs : List AV} {m : List Value} (hm : DL ρ xs m) (hme : c.args.toList.map a.eval = m) {H H' : Heap} {w : World} (hH : HR ρ H w) {v : AV}
    (h : oCopy P c.argTypes.toList xs H = .val v H') : Wr P o a ρ H w v H' := by
  unfold oCopy at h
  split at h
  · rename_i t u d x hts
    have hts := list2 hts
    obtain ⟨dv, xv, rfl, hd, hx⟩ := two_of_DL hm
    split at h
    · rename_i E hE
      obtain ⟨hut, hpos, hsz, hz, hzl, i, hi, hiz, hib, z, hx0, hxd, hxs⟩ := elemI_spec hE
      have row : ∀ {b o' n C mm : Nat} {l : List AV} {p : Pl}, ρ b = some p → dv = .slice (some ⟨p.blk, p.off + o', none⟩) n C → elemsOf H x E.z = some (mm, l) → copyR H b o' n E.z mm l = .val v H' → Wr P o a ρ H w v H' := by
        intro b o' n C mm l p hp hdv hel hc
        subst hdv
        obtain ⟨ys, e1, e2, e3⟩ := elemsOf_any (P := P) hH.vr hx hel
        obtain ⟨hlen, hfc⟩ := e3 w (fun _ _ => rfl)
        unfold copyR at hc
        split at hc
        · rename_i tr sz tl hB
          rw [fN_eq] at hc
          have hk : Nat.min mm n ≤ mm := Nat.min_le_left _ _
          have hfc := hfc _ hk
          rcases putC_eq (l.take (Nat.mul (Nat.min mm n) E.z)) tr o' OR.bad (fun t => setB H b (some (.cells t sz tl false)) fun H => .val (.int .i64 (.ofNat (Nat.min mm n))) H) with ⟨e, hin, hs⟩ | e
          · rw [e, setB_eq] at hc
            injection hc with h1 h2; subst h1
            obtain ⟨k1, k2, k3⟩ := write_ok (P := P) hH hB hp (e1.take (Nat.mul (Nat.min mm n) E.z)) hin hs
            refine ⟨.int .i64 (Nat.min mm n : Nat), _, ρ, .inl (exec_b2 ho hb hme fun cs => ?_), rfl, h2 ▸ k2, h2 ▸ k3⟩
            have k1' : (storeCells ⟨p.blk, p.off + o', none⟩ (ys.take (Nat.min mm n * E.z))).run P w = _ := k1
            rw [hts]
            simp [builtin, Builtin.copy_, run_und hut, szOf_run hsz, hlen, hfc, k1', goInt]
          · rw [e] at hc; cases hc
        · cases hc
      split at h
      · rename_i mm l b o' n C hel
        obtain ⟨p, hp, hdv⟩ := den_sl hd
        exact row hp hdv hel h
      · rename_i mm l b o' n z' hel
        have hcs := cond_some h (by simp)
        clear h
        obtain ⟨hzz, h⟩ := hcs
        have hzz : z' = E.z := beq_true.1 hzz
        subst hzz
        obtain ⟨p, hp, hdv⟩ := den_so hd
        exact row hp hdv hel h
      · rename_i mm l hel
        injection h with h1 h2; subst h1; subst h2
        have hdv : dv = .slice none 0 0 := by simp [den] at hd; exact hd.symm
        subst hdv
        obtain ⟨ys, e1, e2, e3⟩ := elemsOf_any (P := P) hH.vr hx hel
        obtain ⟨hlen, hfc⟩ := e3 w (fun _ _ => rfl)
        refine ⟨.int .i64 0, w, ρ, .inl (exec_b2 ho hb hme fun cs => ?_), rfl, hH, .refl _ _ _⟩
        have h0 := hfc 0 (Nat.zero_le _)
        rw [hts]
        have hmin : Nat.min mm 0 = 0 := Nat.min_zero mm
        simp [builtin, Builtin.copy_, run_und hut, szOf_run hsz, hlen, hmin, h0, goInt]
      · cases h
    · cases h
  · cases h
theorem zeroCells_DL {v : AV} {x : Value} (hv : den ρ v = some x) (n : Nat) (hpos : 0 < v.cells.length) : DL ρ (repL n v.cells) (Builtin.zeroCells x.cells n).toList := by
  have h := zeros_DL hv n hpos
  have hs : x.cells.size = v.cells.length := by rw [(den_cells hv).length]; simp
  unfold Builtin.zeroCells
  rw [hs]
  rw [hs] at h
  exact h
theorem oClear_w {o : Oper} {c : Call} (ho : o.op = .call c) (hb : c.callee = .builtin .clear) {xs : List AV} {m : List Value} (hm : DL ρ xs m) (hme : c.args.toList.map a.eval = m) {H H' : Heap} {w : World} (hH : HR ρ H w) {v : AV}
    (h : oClear P c.argTypes.toList xs H = .val v H') : Wr P o a ρ H w v H' := by
  unfold oClear at h
  split at h
  · rename_i t d hts
    have hts := list1 hts
    obtain ⟨dv, rfl, hd⟩ := one_of_DL hm
    split at h
    · rename_i E hE
      obtain ⟨hut, hpos, hsz, hz, hzl, i, hi, hiz, hib, z, hx0, hxd, hxs⟩ := elemI_spec hE
      have row : ∀ {b o' n C : Nat} {p : Pl}, ρ b = some p → dv = .slice (some ⟨p.blk, p.off + o', none⟩) n C → clearR H b o' n E.zero.cells = .val v H' → Wr P o a ρ H w v H' := by
        intro b o' n C p hp hdv hc
        subst hdv
        have hzc := zeroCells_DL (hxd ρ) n (by omega)
        unfold clearR at hc
        split at hc
        · rename_i tr sz tl hB
          rcases putC_eq (repL n E.zero.cells) tr o' OR.bad (fun t => setB H b (some (.cells t sz tl false)) fun H => .val undefA H) with ⟨e, hin, hs⟩ | e
          · rw [e, setB_eq] at hc
            injection hc with h1 h2; subst h1
            obtain ⟨k1, k2, k3⟩ := write_ok (P := P) hH hB hp hzc hin hs
            cases n with
            | zero =>
              have hnil : (Builtin.zeroCells z.cells 0).toList = [] := by simp [Builtin.zeroCells]
              rw [hnil] at k2 k3
              refine ⟨.tuple #[], w, ρ, .inl (exec_b2 ho hb hme fun cs => ?_), rfl, h2 ▸ k2, h2 ▸ k3⟩
              rw [hts]
              simp [builtin, Builtin.clear_, run_und hut]
            | succ n =>
              refine ⟨.tuple #[], _, ρ, .inl (exec_b2 ho hb hme fun cs => ?_), rfl, h2 ▸ k2, h2 ▸ k3⟩
              rw [hts]
              simp [builtin, Builtin.clear_, run_und hut, zeroValue, typeInfo, hi, hx0, k1]
          · rw [e] at hc; cases hc
        · cases hc
      split at h
      · injection h with h1 h2; subst h1; subst h2
        have hdv : dv = .slice none 0 0 := by simp [den] at hd; exact hd.symm
        subst hdv
        refine ⟨.tuple #[], w, ρ, .inl (exec_b2 ho hb hme fun cs => ?_), rfl, hH, .refl _ _ _⟩
        rw [hts]
        simp [builtin, Builtin.clear_, run_und hut]
      · obtain ⟨p, hp, hdv⟩ := den_sl hd
        exact row hp hdv h
      · rename_i y
        have hcs := cond_some h (by simp)
        clear h
        obtain ⟨_, h⟩ := hcs
        obtain ⟨p, hp, hdv⟩ := den_so hd
        exact row hp hdv h
      · cases h
    · cases h
  · cases h
theorem setE_map : ∀ (es : List (AV × AV)) (i : Nat) (k v : AV), (setE es i k v).map (·.1) = (es.map (·.1)).set i k ∧ (setE es i k v).map (·.2) = (es.map (·.2)).set i v
  | [], i, k, v => by simp [setE]
  | x :: l, 0, k, v => by simp [setE]
  | x :: l, i + 1, k, v => by simp [setE, setE_map l i k v]
theorem DL.set {l : List AV} {m : List Value} (h : DL ρ l m) (i : Nat) {v : AV} {x : Value} (hv : den ρ v = some x) : DL ρ (l.set i v) (m.set i x) :=
  .of (by simp [h.length]) fun j u hu => by
    rw [List.getElem?_set] at hu ⊢
    have hl := h.length
    by_cases e : i = j
    · rw [if_pos e] at hu ⊢
      split at hu
      · injection hu with hu; subst hu
        rw [if_pos (by omega)]
        exact ⟨x, rfl, hv⟩
      · cases hu
    · rw [if_neg e] at hu ⊢
      exact h.get hu
theorem same_bits {d : TypeDesc} {k k' : AV} {x y : Value} (h : keyEq d k k' = some true) (hx : den ρ k = some x) (hy : den ρ k' = some y) : Instr.sameBits 10000 y x = true := by
  unfold keyEq at h
  split at h
  · have hcs := cond_some h (by simp)
    clear h
    obtain ⟨hk, h⟩ := hcs
    injection h with h
    rw [ieq_eq] at h
    rw [den_int hx, den_int hy]
    simp at hk h
    simp [Instr.sameBits, hk, h]
  · injection h with h
    rw [strEq_eq] at h
    have h := eq_of_beq h
    rw [den_str hx, den_str hy]
    simp only [Instr.sameBits]
    rw [beq_toListBytes, h]; simp
  · cases h
theorem oMapUpdate_w (o : Oper) (t : TypeId) (mx k x : Operand) (ho : o.op = .mapUpdate t mx k x) (hT : TR ρ T a.tmps) (hG : GOK P ρ) (hm : gl P mx = true) (hk : gl P k = true) (hx : gl P x = true) {H H' : Heap} {w : World} (hH : HR ρ H w) {v : AV}
    (h : oMapUpdate P t mx k x T H = .val v H') : Wr P o a ρ H w v H' := by
  unfold oMapUpdate at h
  split at h
  · rename_i kt e b kv xv hu eb ek ex
    split at h
    · rename_i d es hd hB
      have hcs := cond_some h (by simp)
      clear h
      obtain ⟨hpl, h⟩ := hcs
      obtain ⟨p, hp, hmx⟩ := den_map (ev_den hT hG hm eb)
      have hkx := ev_den hT hG hk ek
      have hxx := ev_den hT hG hx ex
      obtain ⟨q, hq, es', ck, h3, h4, h5⟩ := hH.blk b _ hB
      rw [hp] at hq; injection hq with hq; subst hq
      have hck := keyEq_plain (P := P) (x := a.eval k) (k := kv) kt hd (plainK_or hpl)
      have hlt := lt_of_some h3
      have fin : ∀ (nes : List (AV × AV)) (nes' : Array MapEntry) (nck : Nat), DL ρ (nes.map (·.1)) (nes'.toList.map (·.key)) → DL ρ (nes.map (·.2)) (nes'.toList.map (·.val)) →
          (execOp a.eval o).run P w = .ok .skip { w with heap := w.heap.setIfInBounds p.blk (.map nes' nck) } → H' = ⟨H.bl.set (bits b) (some (.mp nes)), H.nx⟩ → Wr P o a ρ H w undefA H' := by
        intro nes nes' nck d1 d2 hrun hH'
        subst hH'
        have hset : ({ w with heap := w.heap.setIfInBounds p.blk (.map nes' nck) } : World).heap[p.blk]? = some (.map nes' nck) := by simp [hlt]
        have hoth : ∀ j, j ≠ p.blk → ({ w with heap := w.heap.setIfInBounds p.blk (.map nes' nck) } : World).heap[j]? = w.heap[j]? := fun j hj => by
          show (w.heap.setIfInBounds p.blk _)[j]? = _
          rw [Array.getElem?_setIfInBounds, if_neg (fun e => hj e.symm)]
        -- the other blocks stay: none of them lies there
        have hkeep : ∀ c C q, c ≠ b → getB H c = some C → ρ c = some q → BlkOK ρ w q C → BlkOK ρ { w with heap := w.heap.setIfInBounds p.blk (.map nes' nck) } q C := by
          intro c C q hne hC hq hok
          have hqb : q.blk ≠ p.blk := by
            intro e
            cases C with
            | mp es2 => exact hH.apart c b _ _ q p p.blk 0 hne hC hB hq hp e rfl
            | cells t2 n2 tl2 ro2 =>
              obtain ⟨_, _, _, g1, _⟩ := hok
              rw [e, h3] at g1; cases g1
          cases C with
          | mp es2 =>
            obtain ⟨e1, e2, g1, g2, g3⟩ := hok
            exact ⟨e1, e2, by rw [hoth _ hqb]; exact g1, g2, g3⟩
          | cells t2 n2 tl2 ro2 =>
            obtain ⟨e1, e2, e3, g1, g2⟩ := hok
            exact ⟨e1, e2, e3, by rw [hoth _ hqb]; exact g1, g2⟩
        refine ⟨undef, _, ρ, .inr ⟨rfl, hrun⟩, rfl, ⟨?_, ?_, ?_⟩, ⟨.refl ρ, fun _ _ => rfl, Nat.le_refl _, by simp, ?_, ?_, ?_, rfl, rfl, rfl⟩⟩
        · intro c C hC
          rw [getB_upd] at hC
          by_cases e : c = b
          · subst e; rw [if_pos rfl] at hC; injection hC with hC; subst hC
            exact ⟨p, hp, nes', nck, hset, d1, d2⟩
          · rw [if_neg e] at hC
            obtain ⟨q, hq, hok⟩ := hH.blk c C hC
            exact ⟨q, hq, hkeep c C q e hC hq hok⟩
        · intro c c' C C' q q' k2 i2 hne hC hC' hq hq' h1 h2
          rw [getB_upd] at hC hC'
          have old : ∀ c C, (if c = b then some (Blk.mp nes) else getB H c) = some C → ∃ C0, getB H c = some C0 ∧ ∀ q k i, claims q C k i → claims q C0 k i := fun c C hC => by
            by_cases e : c = b
            · subst e; rw [if_pos rfl] at hC; injection hC with hC; subst hC; exact ⟨_, hB, fun _ _ _ h => h⟩
            · rw [if_neg e] at hC; exact ⟨C, hC, fun _ _ _ h => h⟩
          obtain ⟨C0, g1, g2⟩ := old c C hC
          obtain ⟨C0', g3, g4⟩ := old c' C' hC'
          exact hH.apart c c' C0 C0' q q' k2 i2 hne g1 g3 hq hq' (g2 _ _ _ h1) (g4 _ _ _ h2)
        · intro c C hC
          rw [getB_upd] at hC
          by_cases e : c = b
          · subst e; exact hH.lt c _ hB
          · rw [if_neg e] at hC; exact hH.lt c C hC
        · intro c _ hno
          exact hoth c fun e => hno ⟨b, _, p, hB, hp, e.symm, trivial⟩
        · rintro c ⟨c2, C, q, hC, hq, hqc, hwC⟩
          rw [getB_upd] at hC
          by_cases e : c2 = b
          · subst e; rw [hp] at hq; injection hq with hq; subst hq; exact .inl ⟨c2, _, p, hB, hp, hqc, trivial⟩
          · rw [if_neg e] at hC; exact .inl ⟨c2, C, q, hC, hq, hqc, hwC⟩
        · intro c C hC hwC
          rw [getB_upd] at hC
          by_cases e : c = b
          · subst e; rw [if_pos rfl] at hC; injection hC with hC; subst hC; exact absurd trivial hwC
          · rwa [if_neg e] at hC
      have pre : ∀ r, Instr.findNow d (a.eval k) es'.toList 0 = some r → (execOp a.eval o).run P w = ((match r with
          | some (i, _) => (do
              let key ← Instr.keyThatStays (((es'[i]?).map fun (e : MapEntry) => e.key).getD (a.eval k)) (a.eval k)
              setObj p.blk (.map (es'.modify i fun e => { e with key, val := a.eval x }) ck) : Sem Unit)
          | none => setObj p.blk (.map (es'.push { key := a.eval k, val := a.eval x, born := ck }) (ck + 1))).run P w).andThen fun _ w' => .ok .skip w' := by
        intro r hr
        have hfk : ∀ w, (Instr.findKey kt (a.eval k) es'.toList).run P w = .ok r w := fun w => by simp [Instr.findKey, run_und hd, hr]
        simp only [execOp, ho, Instr.mapUpdate, Sem.run_bind, run_und hu, Result.andThen_ok, hmx]
        simp only [getObj, Sem.run, h3, Result.andThen_ok, Sem.run_bind, Sem.run_pure, hck, hfk]
        cases r <;> rfl
      have hso : ∀ (ob : Obj), (setObj p.blk ob).run P w = .ok () { w with heap := w.heap.setIfInBounds p.blk ob } := fun ob => by simp [setObj, Sem.run, h3]
      split at h
      · rename_i i v' hf
        rw [setB_eq] at h
        injection h with h1 h2; subst h1
        obtain ⟨_, y, hy, hf', ent, he', k', hk', hkk, hkd⟩ := findE_now hkx es es'.toList 0 _ h4 h5 hf
        simp only [Nat.sub_zero] at he' hk'
        have hsb := same_bits hkk hkx hkd
        obtain ⟨m1, m2⟩ := setE_map es i kv xv
        refine fin (setE es i kv xv) (es'.modify i fun e => { e with key := a.eval k, val := a.eval x }) ck ?_ ?_ ?_ h2.symm
        · rw [m1]
          have : (es'.modify i fun e => { e with key := a.eval k, val := a.eval x }).toList.map (·.key) = (es'.toList.map (·.key)).set i (a.eval k) := by
            apply List.ext_getElem?
            intro j
            simp [Array.getElem?_modify, List.getElem?_set]
            by_cases e : i = j
            · subst e; simp; by_cases hq : i < es'.size <;> simp [hq]
            · simp [e]
          rw [this]; exact h4.set i hkx
        · rw [m2]
          have : (es'.modify i fun e => { e with key := a.eval k, val := a.eval x }).toList.map (·.val) = (es'.toList.map (·.val)).set i (a.eval x) := by
            apply List.ext_getElem?
            intro j
            simp [Array.getElem?_modify, List.getElem?_set]
            by_cases e : i = j
            · subst e; simp; by_cases hq : i < es'.size <;> simp [hq]
            · simp [e]
          rw [this]; exact h5.set i hxx
        · rw [pre _ hf']
          have hget : es'[i]? = some ent := by simpa using he'
          simp [hget, Instr.keyThatStays, hsb, hso]
      · rename_i hf
        rw [setB_eq] at h
        injection h with h1 h2; subst h1
        have hf' := findE_now hkx es es'.toList 0 _ h4 h5 hf
        refine fin (es ++ [(kv, xv)]) (es'.push { key := a.eval k, val := a.eval x, born := ck }) (ck + 1) ?_ ?_ ?_ h2.symm
        · simp only [List.map_append, List.map_cons, List.map_nil, Array.toList_push]
          exact h4.append (.cons hkx .nil)
        · simp only [List.map_append, List.map_cons, List.map_nil, Array.toList_push]
          exact h5.append (.cons hxx .nil)
        · rw [pre _ hf']
          simp [hso]
      · cases h
    · cases h
  · cases h
end
end Eng
end Go.Proofs.YtbdhainbcfobeaaGreatDoor
