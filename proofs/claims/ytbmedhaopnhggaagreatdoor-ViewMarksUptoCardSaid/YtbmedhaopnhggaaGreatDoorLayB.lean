/-
  Programs as arguments: how many statements there are, by the bulk of what is read (for an '..UptoSaid' statement).
-/
import Derived.Test.YtbmedhaopnhggaaGreatDoorLiS
import Derived.Test.YtbmedhaopnhggaaGreatDoorRows
namespace Go.Proofs.YtbmedhaopnhggaaGreatDoor
open Go Eng
theorem zc3 {H : Type} (d : DataW H) : 1 ≤ Rows.uptoBulk d := by
 cases d with
 | lit l => cases l <;> simp [Rows.uptoBulk]
 | nil => simp [Rows.uptoBulk]
 | ptr d => simp [Rows.uptoBulk]
 | slice elems spare => simp [Rows.uptoBulk]
 | agg parts => simp [Rows.uptoBulk]
 | iface t d => simp [Rows.uptoBulk]
 | map entries => simp [Rows.uptoBulk]
 | held h => simp [Rows.uptoBulk]
theorem zjm {H : Type} {l : List Stm} {ds : List (DataW H)} (h : F2 (fun e d => 8 * cS e ≤ Rows.uptoBulk d) l ds) : 8 * cSs l ≤ Rows.uptoBulkAll ds := by
 induction h with
 | nil => simp [cSs]
 | cons h _ ih => simp only [cSs, Rows.uptoBulkAll]; omega
theorem zoo {α H : Type} {l : List α} {ds : List (DataW H)} (h : F2 (fun _ d => 3 ≤ Rows.uptoBulk d) l ds) : 3 * l.length ≤ Rows.uptoBulkAll ds := by
 induction h with
 | nil => simp
 | cons h _ ih => simp only [List.length_cons, Rows.uptoBulkAll]; omega
section
variable {P : Program} {W : World} {tE tEs tS tSs tM tMs tC tCs tG ti tn ts : TypeId} {H0 : Type} {enc : TypeId × Value → H0} {base : Nat} {held : Bool}
theorem lay_stmB (T : PgT P tE tEs tS tSs tM tMs tC tCs tG ti tn ts) : ∀ (fuel : Nat) (cs : List Value) (x : DataW H0 × List MemPlace), DataW.trod enc P W base (fun _ => true) held fuel tS cs = some x → (∀ k ∈ x.1.weights P tS, k ≤ rB) → ∃ e, 8 * cS e ≤ Rows.uptoBulk x.1 ∧ Lays W (IsS Non) cs e := by
 intro fuel
 induction fuel using Nat.strongRecOn with
 | ind fuel ih =>
  intro cs x h hB
  obtain ⟨xs, m, rfl, hx, hlen, hxl, hel⟩ := zdr T.s h
  match cs, hlen, xs, hxl with
  | [c0, c1, c2, c3, c4, c5, c6], _, [x0, x1, x2, x3, x4, x5, x6], _ =>
   obtain ⟨f0, _⟩ := hel 0 _ _ _ rfl
   obtain ⟨f1, w1⟩ := hel 1 _ _ _ rfl
   obtain ⟨f2, w2⟩ := hel 2 _ _ _ rfl
   obtain ⟨f3, _⟩ := hel 3 _ _ _ rfl
   obtain ⟨f4, w4⟩ := hel 4 _ _ _ rfl
   obtain ⟨f5, w5⟩ := hel 5 _ _ _ rfl
   obtain ⟨f6, w6⟩ := hel 6 _ _ _ rfl
   obtain ⟨k, hk, rfl⟩ := zgd T.i (show DataW.trod enc P W base (fun _ => true) held m ti [c0] = some x0 from f0)
   obtain ⟨s, hs, hd⟩ := zht T.str (show DataW.trod enc P W base (fun _ => true) held m ts [c1] = some x1 from f1) fun k hk => hB k (w1 x1 rfl k hk)
   obtain ⟨p, hp, hdp⟩ := zht T.str (show DataW.trod enc P W base (fun _ => true) held m ts [c2] = some x2 from f2) fun k hk => hB k (w2 x2 rfl k hk)
   obtain ⟨n, hn, rfl⟩ := zgd T.n (show DataW.trod enc P W base (fun _ => true) held m tn [c3] = some x3 from f3)
   obtain ⟨l, hl, hL⟩ := lay_exps T (show DataW.trod enc P W base (fun _ => true) held m tEs [c4] = some x4 from f4) fun k hk => hB k (w4 x4 rfl k hk)
   obtain ⟨b, b1, hb, hM⟩ := zea (R := IsS Non) (T := fun e d => 8 * cS e ≤ Rows.uptoBulk d) (fun _ _ _ _ h k => h.keep k) T.ss (ze1 T.s) (by decide) T.by4.2.1 (show DataW.trod enc P W base (fun _ => true) held m tSs [c5] = some x5 from f5) (fun k hk => hB k (w5 x5 rfl k hk))
    fun n ds y hn hy hw => ih n (by omega) ds y hy hw
   obtain ⟨d, d1, hdl, hN⟩ := zea (R := IsS Non) (T := fun e d => 8 * cS e ≤ Rows.uptoBulk d) (fun _ _ _ _ h k => h.keep k) T.ss (ze1 T.s) (by decide) T.by4.2.1 (show DataW.trod enc P W base (fun _ => true) held m tSs [c6] = some x6 from f6) (fun k hk => hB k (w6 x6 rfl k hk))
    fun n ds y hn hy hw => ih n (by omega) ds y hy hw
   have g5 : 8 * cSs b + 1 ≤ Rows.uptoBulk x5.1 := by
    rcases b1 with rfl | ⟨ds, sp, he, hf⟩
    ·have := zc3 x5.1; simp only [cSs]; omega
    ·rw [he]; have := zjm hf; simp only [Rows.uptoBulk]; omega
   have g6 : 8 * cSs d + 1 ≤ Rows.uptoBulk x6.1 := by
    rcases d1 with rfl | ⟨ds, sp, he, hf⟩
    ·have := zc3 x6.1; simp only [cSs]; omega
    ·rw [he]; have := zjm hf; simp only [Rows.uptoBulk]; omega
   have h56 : Lays W (fun H c (_ : Unit) => ∃ w u, c = [w, u] ∧ IsLs Non (IsS Non) 7 H w b ∧ IsLs Non (IsS Non) 7 H u d) ([c5] ++ [c6]) () := hM.append hN (fun _ _ _ ⟨v, h, h1⟩ k => ⟨v, h, h1.keep k fun _ _ _ h => h.keep k⟩) fun H c e ⟨v, h1, h2⟩ ⟨u, h3, h4⟩ => by subst h1 h3; exact ⟨v, u, rfl, h2, h4⟩
   have h456 : Lays W (fun H c (_ : Unit) => ∃ v w u, c = [v, w, u] ∧ IsLs Non (IsE Non) 4 H v l ∧ IsLs Non (IsS Non) 7 H w b ∧ IsLs Non (IsS Non) 7 H u d) ([c4] ++ ([c5] ++ [c6])) () := hL.append h56 (fun _ _ _ ⟨v, h, h1⟩ k => ⟨v, h, h1.keep k fun _ _ _ h => h.keep k⟩) fun H c e ⟨v, h1, h2⟩ ⟨w, u, h3, h4⟩ => by subst h1 h3; exact ⟨v, w, u, rfl, h2, h4⟩
   refine ⟨.mk k s p n l b d, ?_, Lays.append (R := fun _ c (_ : Unit) => c = [.int .i64 k, S s, S p, .int .i64 n]) (a := ()) (cs := [.int .i64 k, c1, c2, .int .i64 n]) (ds := [c4] ++ ([c5] ++ [c6]))
    (zgv (fun ρ => DL.cons rfl (.cons (hd ρ) (.cons (hdp ρ) (.cons rfl .nil)))) fun _ => rfl) h456 (fun _ _ _ h _ => h) fun H c e h1 ⟨v, w, u, h2, h3, h4, h5⟩ => by subst h1 h2; exact .of hk hn hs hp hl hb hdl h3 h4 h5⟩
   have a0 := zc3 x0.1
   have a1 := zc3 x1.1
   have a2 := zc3 x2.1
   have a3 := zc3 x3.1
   have a4 := zc3 x4.1
   rw [hx]
   simp only [cS, List.map_cons, List.map_nil, Rows.uptoBulk, Rows.uptoBulkAll]
   omega
theorem lay_prcB (T : PgT P tE tEs tS tSs tM tMs tC tCs tG ti tn ts) {fuel : Nat} {cs : List Value} {x : DataW H0 × List MemPlace} (h : DataW.trod enc P W base (fun _ => true) held fuel tC cs = some x) (hB : ∀ k ∈ x.1.weights P tC, k ≤ rB) : ∃ p, 8 * cSs p.body + 3 * p.params.length ≤ Rows.uptoBulk x.1 ∧ Lays W (IsPc Non) cs p := by
 obtain ⟨xs, m, rfl, hx, hlen, hxl, hel⟩ := zdr T.c h
 match cs, hlen, xs, hxl with
 | [c0, c1, c2, c3], _, [x0, x1, x2, x3], _ =>
  obtain ⟨f0, w0⟩ := hel 0 _ _ _ rfl
  obtain ⟨f1, w1⟩ := hel 1 _ _ _ rfl
  obtain ⟨f2, _⟩ := hel 2 _ _ _ rfl
  obtain ⟨f3, w3⟩ := hel 3 _ _ _ rfl
  obtain ⟨s, hs, hd⟩ := zht T.str (show DataW.trod enc P W base (fun _ => true) held m ts [c0] = some x0 from f0) fun k hk => hB k (w0 x0 rfl k hk)
  obtain ⟨l, l1, hl, hL⟩ := zea (R := IsPm) (T := fun _ d => 3 ≤ Rows.uptoBulk d) (fun _ _ _ _ h _ => h) T.ms (ze1 T.m) (by decide) T.by4.2.2.1 (show DataW.trod enc P W base (fun _ => true) held m tMs [c1] = some x1 from f1) (fun k hk => hB k (w1 x1 rfl k hk)) fun n ds y _ hy hw => by
   obtain ⟨xs, m, rfl, hx, hlen, hxl, hel⟩ := zdr T.m hy
   match ds, hlen, xs, hxl with
   | [c0, c1], _, [x0, x1], _ =>
    obtain ⟨f0, w0⟩ := hel 0 _ _ _ rfl
    obtain ⟨f1, _⟩ := hel 1 _ _ _ rfl
    obtain ⟨s, hs, hd⟩ := zht T.str (show DataW.trod enc P W base (fun _ => true) held m ts [c0] = some x0 from f0) fun k hk => hw k (w0 x0 rfl k hk)
    obtain ⟨k, hk, rfl⟩ := zgd T.i (show DataW.trod enc P W base (fun _ => true) held m ti [c1] = some x1 from f1)
    exact ⟨⟨s, k⟩, by
     have a0 := zc3 x0.1
     have a1 := zc3 x1.1
     rw [hx]
     simp only [List.map_cons, List.map_nil, Rows.uptoBulk, Rows.uptoBulkAll]
     omega, zgv (c := [S s, .int .i64 k]) (fun ρ => DL.cons (hd ρ) (.cons rfl .nil)) fun _ => ⟨rfl, hs, hk⟩⟩
  obtain ⟨k, hk, rfl⟩ := zgd T.i (show DataW.trod enc P W base (fun _ => true) held m ti [c2] = some x2 from f2)
  obtain ⟨b, b1, hb, hM⟩ := zea (R := IsS Non) (T := fun e d => 8 * cS e ≤ Rows.uptoBulk d) (fun _ _ _ _ h k => h.keep k) T.ss (ze1 T.s) (by decide) T.by4.2.1 (show DataW.trod enc P W base (fun _ => true) held m tSs [c3] = some x3 from f3) (fun k hk => hB k (w3 x3 rfl k hk))
   fun n ds y hn hy hw => lay_stmB T n ds y hy hw
  have h23 : Lays W (fun H c (_ : Unit) => ∃ w, c = [.int .i64 k, w] ∧ IsLs Non (IsS Non) 7 H w b) ([.int .i64 k] ++ [c3]) () := Lays.append (R := fun _ c (_ : Unit) => c = [.int .i64 k]) (a := ()) (zgv (fun ρ => DL.cons rfl .nil) fun _ => rfl) hM (fun _ _ _ h _ => h) fun H c e h1 ⟨v, h2, h3⟩ => by subst h1 h2; exact ⟨v, rfl, h3⟩
  have h123 : Lays W (fun H c (_ : Unit) => ∃ v w, c = [v, .int .i64 k, w] ∧ IsLs Non IsPm 2 H v l ∧ IsLs Non (IsS Non) 7 H w b) ([c1] ++ ([.int .i64 k] ++ [c3])) () := hL.append h23 (fun _ _ _ ⟨v, h, h1⟩ k => ⟨v, h, h1.keep k fun _ _ _ h => h⟩) fun H c e ⟨v, h1, h2⟩ ⟨w, h3, h4⟩ => by subst h1 h3; exact ⟨v, w, rfl, h2, h4⟩
  refine ⟨⟨s, l, k, b⟩, ?_, Lays.append (R := fun _ c (_ : Unit) => c = [S s]) (a := ()) (cs := [c0]) (ds := [c1] ++ ([.int .i64 k] ++ [c3])) (zgv (fun ρ => DL.cons (hd ρ) .nil) fun _ => rfl) h123 (fun _ _ _ h _ => h) fun H c e h1 ⟨v, w, h2, h3, h4⟩ => by subst h1 h2; exact ⟨v, w, rfl, hs, hk, hl, hb, h3, h4⟩⟩
  have g1 : 3 * l.length + 1 ≤ Rows.uptoBulk x1.1 := by
   rcases l1 with rfl | ⟨ds, sp, he, hf⟩
   ·have := zc3 x1.1; simpa using this
   ·rw [he]; have := zoo hf; simp only [Rows.uptoBulk]; omega
  have g3 : 8 * cSs b + 1 ≤ Rows.uptoBulk x3.1 := by
   rcases b1 with rfl | ⟨ds, sp, he, hf⟩
   ·have := zc3 x3.1; simp only [cSs]; omega
   ·rw [he]; have := zjm hf; simp only [Rows.uptoBulk]; omega
  have a0 := zc3 x0.1
  rw [hx]
  simp only [List.map_cons, List.map_nil, Rows.uptoBulk, Rows.uptoBulkAll]
  omega
theorem zto (T : PgT P tE tEs tS tSs tM tMs tC tCs tG ti tn ts) {fuel b : Nat} {v : Value} {x : DataW H0 × List MemPlace} (h : DataW.trod enc P W base (fun _ => true) held fuel tG v.cells.toList = some x) (hok : Value.okWide P W .any b tG v) (hB : ∀ k ∈ x.1.weights P tG, k ≤ rB) :
  ∃ p : List Prc, (∀ q ∈ p, 8 * cSs q.body + 3 * q.params.length ≤ Rows.uptoBulk x.1) ∧ ∀ ρ H, HR ρ H W → AllRo H → Frees ρ H → ∃ ρ' H' u, HR ρ' H' W ∧ AllRo H' ∧ Frees ρ' H' ∧ Sub ρ ρ' ∧ Keep Non H H' ∧ den ρ' u = some v ∧ IsPg Non H' u p := by
 obtain ⟨cs, rfl⟩ := agg_of T.g hok
 obtain ⟨xs, m, rfl, hx, hlen, hxl, hel⟩ := zdr T.g h
 obtain ⟨cs⟩ := cs
 match cs, hlen, xs, hxl with
 | [c0], _, [x0], _ =>
  obtain ⟨f0, w0⟩ := hel 0 _ _ _ rfl
  obtain ⟨p, p1, hp, hL⟩ := zea (R := IsPc Non) (T := fun q d => 8 * cSs q.body + 3 * q.params.length ≤ Rows.uptoBulk d) (fun _ _ _ _ h k => h.keep k) T.cs (ze1 T.c) (by decide) T.by4.2.2.2 (show DataW.trod enc P W base (fun _ => true) held m tCs [c0] = some x0 from f0) (fun k hk => hB k (w0 x0 rfl k hk))
   fun n ds y _ hy hw => lay_prcB T hy hw
  refine ⟨p, fun q hq => ?_, fun ρ H h1 h2 h3 => ?_⟩
  ·rcases p1 with rfl | ⟨ds, sp, he, hf⟩
   ·cases hq
   ·obtain ⟨i, hi⟩ := List.getElem?_of_mem hq
    obtain ⟨d, hd, hr⟩ := hf.get i q hi
    have hm : ∀ {l : List (DataW H0)} {d : DataW H0}, d ∈ l → Rows.uptoBulk d ≤ Rows.uptoBulkAll l := by
     intro l d hd
     induction l with
     | nil => cases hd
     | cons y l ih =>
      simp only [Rows.uptoBulkAll]
      rcases List.mem_cons.1 hd with rfl | hd
      ·omega
      ·have := ih hd; omega
    have := hm (List.mem_of_getElem? hd)
    rw [hx]
    simp only [List.map_cons, List.map_nil, Rows.uptoBulk, Rows.uptoBulkAll]
    rw [he]
    simp only [Rows.uptoBulk]
    omega
  ·obtain ⟨ρ1, H1, c, g1, g2, g3, g4, g5, g6, v, rfl, g7⟩ := hL ρ H h1 h2 h3
   refine ⟨ρ1, H1, .agg [v], g1, g2, g3, g4, g5, ?_, hp, v, rfl, g7⟩
   simp only [den, show denL ρ1 [v] = some [c0] from g6]
end
end Go.Proofs.YtbmedhaopnhggaaGreatDoor
