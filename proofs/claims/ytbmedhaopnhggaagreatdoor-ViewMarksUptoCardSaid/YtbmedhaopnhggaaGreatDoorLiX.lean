/-
  A program's rows (view.lister.stmt, block, view.List), walked. Conditions: how large the program is.
-/
import Derived.Test.YtbmedhaopnhggaaGreatDoorLiW
namespace Go.Proofs.YtbmedhaopnhggaaGreatDoor
open Go Eng Tryz
set_option maxHeartbeats 0
def lstS (s : Ls) (x : Stm) : Ls := ⟨s.proc, s.mark + cS x, s.deep, s.rows ++ lS s.proc x s.deep s.mark⟩
def lstB (s : Ls) (l : List Stm) : Ls := ⟨s.proc, s.mark + cSs l, s.deep, s.rows ++ lSs s.proc l (s.deep + 1) s.mark⟩
def lstL (s : Ls) (l : List Stm) : Ls := ⟨s.proc, s.mark + cSs l, s.deep, s.rows ++ lSs s.proc l s.deep s.mark⟩
theorem zts (s : Ls) (l : List Stm) (x : Stm) : lstL s (l ++ [x]) = lstS (lstL s l) x := by
 simp only [lstL, lstS, zp8, zit, List.append_assoc, Nat.add_assoc]
theorem zi6 (s : Ls) (ws : Ws) (mk : Int) : (s.put ws mk).rows.length = s.rows.length + 1 := by simp [Ls.put]
section
variable {tb : List FuncId} {gl : List (List AV)} {A : Nat → Prop} {H : Heap} {u v w : AV} {b : Nat} {s : Ls} {Q : AV → Heap → Prop}
def LstOK (tb : List FuncId) (gl : List (List AV)) (k : Nat) : Prop := ∀ (A : Nat → Prop) (x : Stm) (c : List AV) (b : Nat) (H : Heap) (u : AV) (s : Ls) (Q : AV → Heap → Prop), szS x < k → IsS A H c x → (∀ a, A a → Off b H u a) → KeysIn H → Li b H u s → okS x = true → dpS x s.deep ≤ 60 → 1 ≤ s.deep → sizS x < 900 →
 s.mark + sizS x < 100000 → s.rows.length + 3 * sizS x < 100000 → (∀ u' H', Wk b H u H' u' → Li b H' u' (lstS s x) → Q (.tup []) H') → WpF prog tb gl 61 [.ptr b 0, .agg c] H Q
theorem znj {k : Nat} (ih : LstOK tb gl k) {l : List Stm} (hk : szSs l ≤ k) (hL : IsLs A (IsS A) 7 H v l) (hA : ∀ a, A a → Off b H u a) (hK : KeysIn H) (hW : Li b H u s) (ho : okSs l = true) (hd : dpSs l (s.deep + 1) ≤ 60) (hd2 : s.deep ≤ 60) (hz : sizSs l < 900)
  (hm : s.mark + sizSs l < 100000) (hn : s.rows.length + 3 * sizSs l < 100000) (hll : l.length ≤ rB) (hQ : ∀ u' H', Wk b H u H' u' → Li b H' u' (lstB s l) → Q (.tup []) H') : WpF prog tb gl 22 [.ptr b 0, v] H Q := by
 have hrB : rB = 140737488351232 := rfl
 refine fa func22 b22_eq v22_eq r22_eq (.inr (by simp)) ?_
 refine zac ?_
 refine zae rfl ?_; (repeat ((refine zaa ?_; first | refine za5 rfl ?_ | refine zad FpF.h (by decide) rfl ?_ | refine zaf PlF.h rfl hW.row rfl ?_); refine zae rfl ?_))
 refine zaa (za0 (c := ((s.deep + 1 : Nat) : Int)) rfl rfl Ju ?_)
 refine zae rfl ?_; (repeat ((refine zaa ?_; first | refine za5 rfl ?_ | refine zad FpF.h (by decide) rfl ?_); refine zae rfl ?_))
 refine zaa (zcc SzF.h rfl rfl rfl hW.row (by simp) fun H1 hk1 hn1 hr1 => ?_)
 obtain ⟨s1, hs1⟩ : ∃ s1 : Ls, s1 = { s with deep := s.deep + 1 } := ⟨_, rfl⟩
 have W1 : Li b H1 u s1 := by rw [hs1]; exact ⟨hr1, hW.own.keep hk1 fun c hc h => hW.ne (h ▸ hc), hW.ne⟩
 have k1 : Wk b H u H1 u := ⟨hk1.wide fun c hc => Or.inl hc, fun c hc => .inl hc⟩
 have e1 : s1.proc = s.proc ∧ s1.mark = s.mark ∧ s1.deep = s.deep + 1 ∧ s1.rows = s.rows := by rw [hs1]; exact ⟨rfl, rfl, rfl, rfl⟩
 obtain ⟨els, hsl, _⟩ := zbc (k1.stms hA hL)
 refine zab (zak (zac ?_))
 refine zae rfl ?_
 refine zaa (za8 rfl rfl rfl UnF.h rfl hsl ?_)
 refine zae rfl ?_
 refine zab (zam ?_)
 refine zbw (fun (i : Nat) => [(0, .ptr b 0), (15, v), (16, .int .i64 (l.length : Int)), (17, .int .i64 (i : Int))]) (fun i H' => i ≤ l.length ∧ ∃ u', Wk b H u H' u' ∧ Li b H' u' (lstL s1 (l.take i))) (fun i => l.length - i) ?_ 0 _ H1 ⟨rfl, rfl, rfl, rfl, trivial⟩
  ⟨Nat.zero_le _, u, k1, by simpa [lstL, lSs, cSs] using W1⟩
 rintro i H3 ⟨hle, u3, kk3, W3⟩
 have hlen := ze5 s1.proc (l.take i) s1.deep s1.mark
 have hcs := zjn (l.take i)
 have htk := zex l i
 refine zac ?_
 by_cases hi : i < l.length
 rotate_left
 ·refine zaa (zcb rfl rfl (decide_eq_false (by omega)) (zab (zak (zag rfl (zbn (zaw ?_))))))
  rw [List.take_of_length_le (by omega)] at W3
  have hr3 := W3.row
  refine zae rfl ?_; (repeat ((refine zaa ?_; first | refine za5 rfl ?_ | refine zad FpF.h (by decide) rfl ?_ | refine zaf PlF.h rfl hr3 rfl ?_); refine zae rfl ?_))
  have hdd : (lstL s1 l).deep = s.deep + 1 := e1.2.2.1
  refine zaa (zc8 (c := (s.deep : Int)) rfl rfl (zap (by rw [hdd]; omega) (by omega) (by omega)) ?_)
  refine zae rfl ?_; (repeat ((refine zaa ?_; first | refine za5 rfl ?_ | refine zad FpF.h (by decide) rfl ?_); refine zae rfl ?_))
  refine zaa (zcc SzF.h rfl rfl rfl hr3 (by simp) fun H4 hk4 hn4 hr4 => ?_)
  have W4 : Li b H4 u3 (lstB s l) := by
   have h1 : lstB s l = { lstL s1 l with deep := s.deep } := by simp only [lstB, lstL, e1.1, e1.2.1, e1.2.2.1, e1.2.2.2]
   rw [h1]
   exact ⟨hr4, W3.own.keep hk4 fun c hc h => W3.ne (h ▸ hc), W3.ne⟩
  exact zab ⟨_, rfl, hQ u3 H4 (kk3.trans ⟨hk4.wide fun c hc => Or.inl hc, fun c hc => .inl hc⟩) W4⟩
 obtain ⟨x, hx⟩ : ∃ x, l[i]? = some x := ⟨_, List.getElem?_eq_getElem hi⟩
 have hxm := List.mem_of_getElem? hx
 refine zaa (zcb rfl rfl (decide_eq_true (by omega)) (zab (zak (zah rfl (zan (zak (zam (zac ?_))))))))
 obtain ⟨els3, hsl3, hel3⟩ := zbc (kk3.stms hA hL)
 obtain ⟨cx, hcx, hEx⟩ := hel3 i x hx
 have hcx7 : cx.length = 7 := by obtain ⟨_, _, _, h, _⟩ := hEx.out; rw [h]; rfl
 have hsx : szS x < szSs l ∧ sizSs (l.take i) + sizS x ≤ sizSs l := by
  refine ⟨zfe hxm, ?_⟩
  have := zex l (i + 1)
  rw [zbt hx, zgb] at this
  exact this
 have hdx := zpy (d := s.deep + 1) hxm
 refine zae rfl ?_
 refine zaa (za3 UnF.h SzF.h rfl hsl3 rfl rfl hi fun q0 hq0 => ?_)
 rw [hcx] at hq0
 refine zaa (zaq (k := 7) PlF.h hcx7 (by decide) rfl hq0 ?_)
 refine zaa (zci ZeF.h fun H4 hk4 hr4 => ?_)
 refine zae rfl ?_
 obtain ⟨bx, hbx⟩ : ∃ b, b = H3.nx := ⟨_, rfl⟩
 rw [← hbx] at hr4 ⊢
 refine zaa (zbv (k := 7) SzF.h hcx7 rfl rfl (zi3 hEx) hr4 hcx7 fun H5 hk5 hn5 hr5 => ?_)
 have hk35 : Keep Non H3 H5 := (hk4.trans hk5 fun c hc => .inr (by rw [hc, hbx]; exact Nat.le_refl _)).wide fun _ h => h
 have W5 := W3.keep0 hk35
 have kk5 : Wk b H u H5 u3 := kk3.trans (.of hk35)
 have hE5 := hEx.keep hk35
 refine zab (zaw ?_)
 refine zae rfl ?_
 refine zaa (zaq (k := 7) PlF.h hcx7 (by decide) rfl hr5.pts ?_)
 have f1 : (lstL s1 (l.take i)).deep = s.deep + 1 := e1.2.2.1
 have f2 : (lstL s1 (l.take i)).mark = s.mark + cSs (l.take i) := by simp only [lstL, e1.2.1]
 have f3 : (lstL s1 (l.take i)).rows.length ≤ s.rows.length + 3 * sizSs (l.take i) := by simp only [lstL, List.length_append, e1.2.2.2]; omega
 refine zaa (zaj rfl rfl rfl (ih A x cx b H5 u3 _ _ (by omega) hE5 (fun a ha => kk5.off (hA a ha)) (hK.keep kk5.keep) W5 (zql ho hxm) (by rw [f1]; omega) (by rw [f1]; omega) (by omega) (by rw [f2]; omega) (by omega) fun u7 H7 k7 W7 => ?_))
 refine zab (zaw ?_)
 refine zaa (za0 (c := ((i + 1 : Nat) : Int)) rfl rfl Ju ?_)
 refine zae rfl ?_
 refine zab ⟨i + 1, ?_, ⟨rfl, rfl, rfl, rfl, trivial⟩, by omega, u7, kk5.trans k7, ?_⟩
 ·show l.length - (i + 1) < l.length - i
  omega
 ·rw [zbt hx, zts]
  exact W7
theorem zp3 {a : List UInt8} {ws : Ws} (h : ws ≠ []) : joinW ([a, [40]] ++ ws ++ [[41], [123]]) = a ++ [32, 40, 32] ++ joinW ws ++ [32, 41, 32, 123] := by
 rw [List.append_assoc, zfs (by simp) (by simp), zfs h (by simp)]
 simp [joinW]
theorem zqd : ∀ k, LstOK tb gl k
 | 0 => fun _ _ _ _ _ _ _ _ h => by omega
 | k + 1 => by
  intro A x c b H u s Q hk hE hA hK hW ho hd hd1 hz hm hn hQ
  have ih : LstOK tb gl k := zqd k
  have hrB : rB = 140737488351232 := rfl
  have hnums := zmc hE
  have hE0 := hE
  obtain ⟨ve, vb, vf, hc, hkd, hnu, hnl, hpl, hll, hbl, hfl, hLe, hLb, hLf⟩ := hE.out
  have hc7 : c.length = 7 := by rw [hc]; rfl
  have hsz := zpd x
  have hszS : szS x = szSs x.body + szSs x.els + 1 := by cases x; simp only [szS]; rfl
  have hdp := dpS_eq x s.deep
  obtain ⟨hfit, hoe, hob, hof⟩ := zqk ho
  have f45 := (zd9 hfit).1
  have hcs := cS_eq x
  have hcle := cS_le x
  have hcb := zjn x.body
  have hcf := zjn x.els
  unfold lstS at hQ
  rw [lS_eq] at hQ
  refine fa func61 b61_eq v61_eq r61_eq (.inr (by simp)) ?_
  refine zac ?_
  refine zaa (zcd rfl fun H1 hk1 hr1 => ?_)
  have hW1 := hW.keep0 hk1
  obtain ⟨bx, hbx⟩ : ∃ b, b = H.nx := ⟨_, rfl⟩
  have hoff : Off b H1 u bx := by
   have := hr1.1
   rw [hbx]
   exact hW.fresh this
  rw [← hbx] at hr1 ⊢
  have hr1 : IsRow H1 bx c false false := hr1
  refine zab (zac ?_)
  refine zae rfl ?_
  refine zaa (zaj rfl rfl rfl (zty hW1 (by omega) fun H2 k2 W2 => ?_))
  obtain ⟨s2, hs2⟩ : ∃ s2 : Ls, s2 = { s with mark := s.mark + 1 } := ⟨_, rfl⟩
  rw [← hs2] at W2
  have e2 : s2.proc = s.proc ∧ s2.mark = s.mark + 1 ∧ s2.deep = s.deep ∧ s2.rows = s.rows := by rw [hs2]; exact ⟨rfl, rfl, rfl, rfl⟩
  have kk : Wk b H u H2 u := (Wk.of hk1).trans k2
  have hoff2 := k2.off hoff
  have hrc := k2.row hoff hr1
  have hr2 : IsRow H2 bx [.int .i64 x.kind, S x.name, S x.proc, .int .i64 x.num, ve, vb, vf] false false := hc ▸ hrc
  have hA2 : ∀ a, A a → Off b H2 u a := fun a ha => kk.off (hA a ha)
  have hK2 := hK.keep kk.keep
  refine zae rfl ?_
  refine zab (zac ?_)
  refine zae rfl ?_; (repeat ((refine zaa ?_; first | refine zad FpF.h (by decide) rfl ?_ | refine zaf PlF.h rfl hr2 rfl ?_); refine zae rfl ?_))
  refine zab (zam (zac ?_))
  -- a row of an if or a while
  have hlenE : ∀ a, x.e = [a] → okE a = true ∧ dpE a 1 ≤ 60 ∧ sizE a + sizSs x.body + sizSs x.els + 1 ≤ sizS x ∧ (joinW (wdE a)).length < 1000000 := by
   intro a ha
   rw [ha] at hoe hsz hdp
   simp only [okEs, Bool.and_true] at hoe
   simp only [sizEs] at hsz
   simp only [dpEs] at hdp
   have h1 := ziv a (show 1 ≤ s.deep + 1 by omega)
   obtain ⟨cc, hcc⟩ := zi1 hLe (show a ∈ x.e by rw [ha]; simp)
   have h2 := zft (wdE_sh' hoe (zmb hcc))
   have h3 := wE_len' a 1 ⟨[], false, 0⟩
   rw [(wE_eff' a 1).yes ⟨[], false, 0⟩ rfl hoe] at h3
   simp only [List.nil_append, List.length_nil] at h3
   exact ⟨hoe, by omega, by omega, by omega⟩
  have blk : ∀ (H' : Heap) (u' : AV) (s' : Ls), Wk b H2 u H' u' → Li b H' u' s' → ∀ (l : List Stm) (v : AV), IsLs A (IsS A) 7 H v l → szSs l < szS x → okSs l = true → dpSs l (s.deep + 1) ≤ 60 → sizSs l ≤ sizS x → s'.deep = s.deep → s'.mark + sizSs l < 100000 → s'.rows.length + 3 * sizSs l < 100000 → l.length ≤ rB → ∀ Q', (∀ u'' H'', Wk b H2 u H'' u'' → Li b H'' u'' (lstB s' l) → Q' (.tup []) H'') →
    WpF prog tb gl 22 [.ptr b 0, v] H' Q' := by
   intro H' u' s' k' W' l v hl h1 h2 h3 h4 h5 h6 h7 h8 Q' hq
   refine znj ih (by omega) ((kk.trans k').stms hA hl) (fun a ha => k'.off (hA2 a ha)) (hK2.keep k'.keep) W' h2 (by rw [h5]; exact h3) (by rw [h5]; omega) (by omega) h6 h7 h8 fun u'' H'' k'' W'' => hq u'' H'' (k'.trans k'') W''
  by_cases e4 : x.kind = 4
  ·rw [if_pos e4] at hQ
   obtain ⟨a, hxa⟩ := f45 (.inl e4)
   obtain ⟨ha1, ha2, ha3, ha4⟩ := hlenE a hxa
   (repeat ((refine zaa ?_; first | refine zai rfl ?_ | refine zax rfl rfl (by omega) ?_)))
   refine zab (zah rfl (zac ?_))
   obtain ⟨els, hsl, hel⟩ := zbc (kk.exps hA hLe)
   obtain ⟨ca, hca, hEa⟩ := hel 0 a (by rw [hxa]; rfl)
   have hca4 : ca.length = 4 := by obtain ⟨_, h, _⟩ := hEa.out; rw [h]; rfl
   refine zae rfl ?_; (repeat ((refine zaa ?_; first | refine zad FpF.h (by decide) rfl ?_ | refine zaf PlF.h rfl hr2 rfl ?_); refine zae rfl ?_))
   refine zaa (za3 (j := 0) UnF.h SzF.h rfl hsl rfl rfl (by rw [hxa]; simp) fun q0 hq0 => ?_)
   rw [hca] at hq0
   refine zaa (zaq (k := 4) PlF.h hca4 (by decide) rfl hq0 ?_)
   refine zaa (zaj rfl rfl rfl (zra hEa (fun a ha => (hA2 a ha).1) hK2 (by omega) ha1 ha2 fun H3 hk3 => ?_))
   refine zaa (zkd rfl rfl (by simp only [List.length_cons, List.length_nil, pow63]; omega) ?_)
   refine zaa (zkd rfl rfl (by simp only [List.length_append, List.length_cons, List.length_nil, pow63]; omega) ?_)
   refine zae rfl ?_
   refine zaa (zaj rfl rfl rfl (zfu (ws := [[105, 102], [40]] ++ wdE a ++ [[41], [123]]) (W2.keep0 hk3) (by rw [zp3 (wdE_ne ha1)]; rfl) (by rw [e2.2.2.1]; omega) (by simp only [List.length_append, List.length_cons, List.length_nil]; omega) (by rw [e2.2.2.2]; omega) fun u4 H4 k4 W4 => ?_))
   have k24 : Wk b H2 u H4 u4 := (Wk.of hk3).trans k4
   have hr4 := k24.row hoff2 hr2
   refine zab (zac ?_)
   refine zae rfl ?_; (repeat ((refine zaa ?_; first | refine zad FpF.h (by decide) rfl ?_ | refine zaf PlF.h rfl hr4 rfl ?_); refine zae rfl ?_))
   refine zaa (zaj rfl rfl rfl (blk H4 u4 _ k24 W4 x.body vb hLb (by omega) hob (by omega) (by omega) e2.2.2.1 (by simp only [Ls.put, e2.2.1]; omega) (by rw [zi6, e2.2.2.2]; omega) hbl _ fun u5 H5 k25 W5 => ?_))
   have hr5 := k25.row hoff2 hr2
   obtain ⟨els5, hsl5, _⟩ := zbc ((kk.trans k25).stms hA hLf)
   have hl5 := ze5 s.proc x.body (s.deep + 1) (s.mark + 1)
   obtain ⟨s5, hs5⟩ : ∃ s5, s5 = lstB (s2.put ([[105, 102], [40]] ++ wdE a ++ [[41], [123]]) ((s.mark + 1 : Nat) : Int)) x.body := ⟨_, rfl⟩
   have e5 : s5.proc = s.proc ∧ s5.mark = s.mark + 1 + cSs x.body ∧ s5.deep = s.deep ∧ s5.rows = s.rows ++ ⟨s.deep, [[105, 102], [40]] ++ wdE a ++ [[41], [123]], s.proc, (s.mark : Int) + 1⟩ :: lSs s.proc x.body (s.deep + 1) (s.mark + 1) := by
    rw [hs5]
    simp [lstB, Ls.put, e2.1, e2.2.1, e2.2.2.1, e2.2.2.2]
   rw [← hs5] at W5
   have hl6 : s5.rows.length ≤ s.rows.length + 1 + 3 * sizSs x.body := by rw [e5.2.2.2]; simp only [List.length_append, List.length_cons]; omega
   refine zab (zak ?_)
   refine zgj (fun l' H' => ∃ u6 s6, Wk b H2 u H' u6 ∧ Li b H' u6 s6 ∧ s6.rows.length ≤ s.rows.length + 2 + 3 * sizSs x.body + 3 * sizSs x.els ∧ s6.put [[125]] (-1) = ⟨s.proc, s.mark + cS x, s.deep, s.rows ++ (⟨s.deep, [[105, 102], [40]] ++ wdE0 x.e ++ [[41], [123]], s.proc, (s.mark : Int) + 1⟩ :: (lSs s.proc x.body (s.deep + 1) (s.mark + 1) ++ (if x.els.length = 0 then [] else ⟨s.deep, [[125], [101, 108, 115, 101], [123]], s.proc, -1⟩ :: lSs s.proc x.els (s.deep + 1) (s.mark + 1 + cSs x.body)) ++ [⟨s.deep, [[125]], s.proc, -1⟩]))⟩ ∧ s6.deep = s.deep ∧ Sb [(0, .ptr b 0)] l') ?_ ?_
   ·refine zac ?_
    refine zae rfl ?_; (repeat ((refine zaa ?_; first | refine zad FpF.h (by decide) rfl ?_ | refine zaf PlF.h rfl hr5 rfl ?_ | refine za8 rfl rfl rfl UnF.h rfl hsl5 ?_); refine zae rfl ?_))
    by_cases e0 : x.els.length = 0
    ·refine zaa (zb9 rfl rfl (by omega) (zab (zag rfl (zan ⟨u5, s5, k25, W5, by omega, ?_, e5.2.2.1, rfl, trivial⟩))))
     have he0 : x.els = [] := List.length_eq_zero_iff.1 e0
     simp only [Ls.put, e5.1, e5.2.1, e5.2.2.1, e5.2.2.2, if_pos e0, hxa, wdE0, hcs, he0, cSs, List.length_nil, if_true, List.append_nil, List.append_assoc, List.cons_append, Nat.add_zero]
     rw [show s.mark + (1 + cSs x.body) = s.mark + 1 + cSs x.body by omega]
    ·refine zaa (zcu rfl rfl (by omega) (zab (zah rfl (zac ?_))))
     refine zae rfl ?_
     refine zaa (zaj rfl rfl rfl (zfu (ws := [[125], [101, 108, 115, 101], [123]]) W5 rfl (by rw [e5.2.2.1]; omega) (by decide) (by omega) fun u6 H6 k6 W6 => ?_))
     have k26 := k25.trans k6
     have hr6 := k26.row hoff2 hr2
     refine zab (zaw ?_)
     refine zae rfl ?_; (repeat ((refine zaa ?_; first | refine zad FpF.h (by decide) rfl ?_ | refine zaf PlF.h rfl hr6 rfl ?_); refine zae rfl ?_))
     refine zaa (zaj rfl rfl rfl (blk H6 u6 _ k26 W6 x.els vf hLf (by omega) hof (by omega) (by omega) e5.2.2.1 (by simp only [Ls.put, e5.2.1]; omega) (by rw [zi6]; omega) hfl _ fun u7 H7 k27 W7 => ?_))
     have hl7 := ze5 s.proc x.els (s.deep + 1) (s.mark + 1 + cSs x.body)
     refine zab ⟨u7, _, k27, W7, ?_, ?_, e5.2.2.1, rfl, trivial⟩
     ·simp only [lstB, Ls.put, List.length_append, List.length_cons, List.length_nil, e5.1, e5.2.1, e5.2.2.1]; omega
     ·simp only [lstB, Ls.put, e5.1, e5.2.1, e5.2.2.1, e5.2.2.2, if_neg e0, hxa, wdE0, hcs, List.append_nil, List.append_assoc, List.cons_append, List.nil_append]
      rw [show s.mark + (1 + cSs x.body + cSs x.els) = s.mark + 1 + cSs x.body + cSs x.els by omega]
   rintro l7 H7 ⟨u6, s6, k26, W6, h6, hp6, hd6, hs7⟩
   refine VA.sub hs7 (zaw ?_)
   refine zae rfl ?_
   refine zaa (zaj rfl rfl rfl (zfu (ws := [[125]]) W6 rfl (by rw [hd6]; omega) (by decide) (by omega) fun u8 H8 k8 W8 => ?_))
   rw [hp6] at W8
   exact zab ⟨_, rfl, hQ u8 H8 (kk.trans (k26.trans k8)) W8⟩
  rw [if_neg e4] at hQ
  (repeat ((refine zaa ?_; first | refine zai rfl ?_ | refine zat rfl rfl (by omega) ?_)))
  refine zab (zag rfl (zac ?_))
  by_cases e5 : x.kind = 5
  ·rw [if_pos e5] at hQ
   obtain ⟨a, hxa⟩ := f45 (.inr e5)
   obtain ⟨ha1, ha2, ha3, ha4⟩ := hlenE a hxa
   (repeat ((refine zaa ?_; first | refine zai rfl ?_ | refine zax rfl rfl (by omega) ?_)))
   refine zab (zah rfl (zac ?_))
   obtain ⟨els, hsl, hel⟩ := zbc (kk.exps hA hLe)
   obtain ⟨ca, hca, hEa⟩ := hel 0 a (by rw [hxa]; rfl)
   have hca4 : ca.length = 4 := by obtain ⟨_, h, _⟩ := hEa.out; rw [h]; rfl
   refine zae rfl ?_; (repeat ((refine zaa ?_; first | refine zad FpF.h (by decide) rfl ?_ | refine zaf PlF.h rfl hr2 rfl ?_); refine zae rfl ?_))
   refine zaa (za3 (j := 0) UnF.h SzF.h rfl hsl rfl rfl (by rw [hxa]; simp) fun q0 hq0 => ?_)
   rw [hca] at hq0
   refine zaa (zaq (k := 4) PlF.h hca4 (by decide) rfl hq0 ?_)
   refine zaa (zaj rfl rfl rfl (zra hEa (fun a ha => (hA2 a ha).1) hK2 (by omega) ha1 ha2 fun H3 hk3 => ?_))
   refine zaa (zkd rfl rfl (by simp only [List.length_cons, List.length_nil, pow63]; omega) ?_)
   refine zaa (zkd rfl rfl (by simp only [List.length_append, List.length_cons, List.length_nil, pow63]; omega) ?_)
   refine zae rfl ?_
   refine zaa (zaj rfl rfl rfl (zfu (ws := [[119, 104, 105, 108, 101], [40]] ++ wdE a ++ [[41], [123]]) (W2.keep0 hk3) (by rw [zp3 (wdE_ne ha1)]; rfl) (by rw [e2.2.2.1]; omega) (by simp only [List.length_append, List.length_cons, List.length_nil]; omega) (by rw [e2.2.2.2]; omega) fun u4 H4 k4 W4 => ?_))
   have k24 : Wk b H2 u H4 u4 := (Wk.of hk3).trans k4
   have hr4 := k24.row hoff2 hr2
   refine zab (zac ?_)
   refine zae rfl ?_; (repeat ((refine zaa ?_; first | refine zad FpF.h (by decide) rfl ?_ | refine zaf PlF.h rfl hr4 rfl ?_); refine zae rfl ?_))
   refine zaa (zaj rfl rfl rfl (blk H4 u4 _ k24 W4 x.body vb hLb (by omega) hob (by omega) (by omega) e2.2.2.1 (by simp only [Ls.put, e2.2.1]; omega) (by rw [zi6, e2.2.2.2]; omega) hbl _ fun u5 H5 k25 W5 => ?_))
   have hl5 := ze5 s.proc x.body (s.deep + 1) (s.mark + 1)
   obtain ⟨s5, hs5⟩ : ∃ s5, s5 = lstB (s2.put ([[119, 104, 105, 108, 101], [40]] ++ wdE a ++ [[41], [123]]) ((s.mark + 1 : Nat) : Int)) x.body := ⟨_, rfl⟩
   have e6 : s5.proc = s.proc ∧ s5.mark = s.mark + 1 + cSs x.body ∧ s5.deep = s.deep ∧ s5.rows = s.rows ++ ⟨s.deep, [[119, 104, 105, 108, 101], [40]] ++ wdE a ++ [[41], [123]], s.proc, (s.mark : Int) + 1⟩ :: lSs s.proc x.body (s.deep + 1) (s.mark + 1) := by
    rw [hs5]
    simp [lstB, Ls.put, e2.1, e2.2.1, e2.2.2.1, e2.2.2.2]
   rw [← hs5] at W5
   have hl6 : s5.rows.length ≤ s.rows.length + 1 + 3 * sizSs x.body := by rw [e6.2.2.2]; simp only [List.length_append, List.length_cons]; omega
   refine zab (zaw ?_)
   refine zae rfl ?_
   refine zaa (zaj rfl rfl rfl (zfu (ws := [[125]]) W5 rfl (by rw [e6.2.2.1]; omega) (by decide) (by omega) fun u8 H8 k8 W8 => ?_))
   have he0 : x.els = [] := by
    exact (zd9 hfit).2.2.2.2.1 e4
   have hp : s5.put [[125]] (-1) = ⟨s.proc, s.mark + cS x, s.deep, s.rows ++ (⟨s.deep, [[119, 104, 105, 108, 101], [40]] ++ wdE0 x.e ++ [[41], [123]], s.proc, (s.mark : Int) + 1⟩ :: (lSs s.proc x.body (s.deep + 1) (s.mark + 1) ++ [⟨s.deep, [[125]], s.proc, -1⟩]))⟩ := by
    simp only [Ls.put, e6.1, e6.2.1, e6.2.2.1, e6.2.2.2, hxa, wdE0, hcs, he0, cSs, List.append_assoc, List.cons_append, Nat.add_zero]
    rw [show s.mark + (1 + cSs x.body) = s.mark + 1 + cSs x.body by omega]
   rw [hp] at W8
   exact zab ⟨_, rfl, hQ u8 H8 (kk.trans (k25.trans k8)) W8⟩
  rw [if_neg e5] at hQ
  (repeat ((refine zaa ?_; first | refine zai rfl ?_ | refine zat rfl rfl (by omega) ?_)))
  refine zab (zag rfl (zaw ?_))
  refine zae rfl ?_
  refine zaa (zaq (k := 7) PlF.h hc7 (by decide) rfl hrc.pts ?_)
  have hE2 := kk.stm hA hE0
  have hd0 := zpx x (show 1 ≤ s.deep by omega)
  have hlen : (joinW (wdS x)).length < 10000000 := by
   have h1 := zft (zvo ho hnums)
   have h2 := zpk x 1 ⟨[], false, 0⟩
   rw [(zpj x 1).yes ⟨[], false, 0⟩ rfl ho] at h2
   simp only [List.nil_append, List.length_nil] at h2
   omega
  refine zaa (zaj rfl rfl rfl (zva hE2 (fun a ha => (hA2 a ha).1) hK2 hz ho (by omega) fun H3 hk3 => ?_))
  refine zae rfl ?_
  refine zaa (zaj rfl rfl rfl (zfu (ws := wdS x) (W2.keep0 hk3) rfl (by rw [e2.2.2.1]; omega) hlen (by rw [e2.2.2.2]; omega) fun u4 H4 k4 W4 => ?_))
  have hp : s2.put (wdS x) ((s.mark + 1 : Nat) : Int) = ⟨s.proc, s.mark + cS x, s.deep, s.rows ++ [⟨s.deep, wdS x, s.proc, (s.mark : Int) + 1⟩]⟩ := by
   have g5 : x.els = [] := (zd9 hfit).2.2.2.2.1 e4
   have g6 : x.body = [] := (zd9 hfit).2.2.2.2.2.1 ⟨e4, e5⟩
   simp only [Ls.put, e2.1, e2.2.1, e2.2.2.1, e2.2.2.2, hcs, g5, g6, cSs, Nat.add_zero]
   rfl
  rw [hp] at W4
  exact zab ⟨_, rfl, hQ u4 H4 (kk.trans ((Wk.of hk3).trans k4)) W4⟩
end
end Go.Proofs.YtbmedhaopnhggaaGreatDoor
