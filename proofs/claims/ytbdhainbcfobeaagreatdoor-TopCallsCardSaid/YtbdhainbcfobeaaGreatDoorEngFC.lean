/-
  THE ENGINE, part FC: what the kernel's steps mean: the plain ones.
-/
import Derived.Test.YtbdhainbcfobeaaGreatDoorEngFB
import Derived.Test.YtbdhainbcfobeaaGreatDoorEngC
namespace Go.Proofs.YtbdhainbcfobeaaGreatDoor
namespace Eng
open Go
variable {α β : Type}

@[simp] theorem runB_mk (f : α) : runB (.mk f) = f := rfl
@[simp] theorem bindB_mk (f : α) (k : α → Bx β) : bindB (.mk f) k = k f := rfl
theorem bindB_eq (b : Bx α) (k : α → Bx β) : bindB b k = k (runB b) := by cases b; rfl
@[simp] theorem tk_eq (x : Ans) : tk x = x := rfl
@[simp] theorem fN'_eq (n : Nat) (k : Nat → β) : fN' n k = k n := rfl
@[simp] theorem fB'_eq (b : Bool) (k : Bool → β) : fB' b k = k b := by cases b <;> rfl
@[simp] theorem fI'_eq (n : Int) (k : Int → β) : fI' n k = k n := by cases n <;> rfl
@[simp] theorem fV_eq (v : AV) (k : AV → β) : fV v k = k v := by cases v <;> simp [fV]
@[simp] theorem fVL_eq : ∀ (l : List AV) (k : List AV → β), fVL l k = k l
  | [], _ => rfl
  | v :: l, k => by
    show fV v (fun v => fVL l fun r => k (v :: r)) = _
    rw [fV_eq, fVL_eq l]
@[simp] theorem fVA_eq (v : AV) (k : AV → β) : fVA v k = k v := by cases v <;> simp [fVA]
@[simp] theorem ifB_true (x y : Bx β) : ifB true x y = x := rfl
@[simp] theorem ifB_false (x y : Bx β) : ifB false x y = y := rfl
@[simp] theorem optB_none (d : β) (k : α → Bx β) : optB none d k = .mk d := rfl
@[simp] theorem optB_some (v : α) (d : β) (k : α → Bx β) : optB (some v) d k = k v := rfl
@[simp] theorem optK_none (k : α → Ans) : optK none k = .no := rfl
@[simp] theorem optK_some (v : α) (k : α → Ans) : optK (some v) k = k v := rfl
theorem optK_yes {o : Option α} {k : α → Ans} : optK o k = .yes ↔ ∃ v, o = some v ∧ k v = .yes := by cases o <;> simp
@[simp] theorem ifK_true (x y : Ans) : ifK true x y = x := rfl
@[simp] theorem ifK_false (x y : Ans) : ifK false x y = y := rfl
theorem ifK_yes {b : Bool} {x : Ans} : ifK b x .no = .yes ↔ b = true ∧ x = .yes := by cases b <;> simp
theorem ifK_no {b : Bool} {x : Ans} : ifK b .no x = .yes ↔ b = false ∧ x = .yes := by cases b <;> simp

/-! ### paths, tries -/
theorem bitsF_fuel : ∀ (f g n : Nat), n < f → n < g → bitsF f n = bitsF g n
  | 0, _, n, h, _ => by omega
  | _, 0, n, _, h => by omega
  | f + 1, g + 1, n, hf, hg => by
    simp only [bitsF]
    by_cases h0 : n = 0
    · simp [h0]
    · rw [beq_false h0]
      simp only [cond_false, List.cons.injEq, true_and]
      have : Nat.div (Nat.pred n) 2 < n := by
        show (n - 1) / 2 < n
        omega
      exact bitsF_fuel f g _ (by omega) (by omega)
theorem bits_step (n : Nat) : bits n = bif Nat.beq n 0 then [] else Nat.beq (Nat.mod n 2) 0 :: bits (Nat.div (Nat.pred n) 2) := by
  by_cases h0 : n = 0
  · subst h0; rfl
  · show bitsF (n + 1) n = _
    simp only [bitsF]
    rw [beq_false h0]
    simp only [cond_false, List.cons.injEq, true_and]
    have : Nat.div (Nat.pred n) 2 < n := by
      show (n - 1) / 2 < n
      omega
    exact bitsF_fuel _ _ _ this (by omega)
theorem pathT_eq : ∀ (f n : Nat), pathT f n = bits n
  | 0, _ => rfl
  | f + 1, n => by
    rw [bits_step n]
    show (Bool.rec (motive := fun _ => List Bool) (fN' (Nat.div (Nat.pred n) 2) fun m => fB' (Nat.beq (Nat.mod n 2) 0) fun b => b :: pathT f m) [] (Nat.beq n 0)) = _
    cases Nat.beq n 0
    · simp [pathT_eq f]
    · rfl
@[simp] theorem path_eq (n : Nat) : path n = bits n := pathT_eq 20 n
@[simp] theorem getK_eq : ∀ (p : List Bool) (t : Tr α) (k : α → Ans), getK p t k = optK (t.get p) k
  | [], .lf, _ => rfl
  | [], .nd v l r, k => by cases v <;> rfl
  | b :: p, .lf, k => by cases b <;> rfl
  | true :: p, .nd v l r, k => getK_eq p l k
  | false :: p, .nd v l r, k => getK_eq p r k
@[simp] theorem setF_eq : ∀ (p : List Bool) (w : Option α) (t : Tr α) (k : Tr α → Ans), setF p w t k = k (t.set p w)
  | [], w, .lf, _ => rfl
  | [], w, .nd v l r, k => rfl
  | true :: p, w, .lf, k => setF_eq p w .lf _
  | false :: p, w, .lf, k => setF_eq p w .lf _
  | true :: p, w, .nd v l r, k => setF_eq p w l _
  | false :: p, w, .nd v l r, k => setF_eq p w r _

/-! ### frames -/
def encN {γ : Type} (e : γ → α) (p : D8 → γ) : Nd α := fun k => k (e (p .d0)) (e (p .d1)) (e (p .d2)) (e (p .d3)) (e (p .d4)) (e (p .d5)) (e (p .d6)) (e (p .d7))
def enc0 (o : Option AV) : L0 := match o with | some v => fun q => q v | none => lf0
def encF (p : D8 → D8 → D8 → Option AV) : Fr := encN (encN (encN enc0)) p
def updD {γ : Type} (p : D8 → γ) (d : D8) (x : γ) : D8 → γ := fun e => match d, e with
  | .d0, .d0 | .d1, .d1 | .d2, .d2 | .d3, .d3 | .d4, .d4 | .d5, .d5 | .d6, .d6 | .d7, .d7 => x
  | _, e => p e
theorem updD_same {γ : Type} (p : D8 → γ) (d : D8) (x : γ) : updD p d x d = x := by cases d <;> rfl
theorem updD_other {γ : Type} (p : D8 → γ) {d e : D8} (h : d ≠ e) (x : γ) : updD p d x e = p e := by cases d <;> cases e <;> first | rfl | exact absurd rfl h
theorem getN_enc {γ : Type} (d : D8) (e : γ → α) (p : D8 → γ) (k : α → Ans) : runB (getN d) (encN e p) k = k (e (p d)) := by cases d <;> rfl
theorem modN_enc {γ : Type} (d : D8) (e : γ → α) (p : D8 → γ) (f : α → (α → Ans) → Ans) (k : Nd α → Ans) (x : γ) (hf : ∀ g : α → Ans, f (e (p d)) g = g (e x)) :
    runB (modN d) (encN e p) f k = k (encN e (updD p d x)) := by
  cases d <;> exact hf _
theorem enc0_k (o : Option AV) (k : KV) : enc0 o k = optK o k := by cases o <;> rfl
/-- what a frame says, the slots say (they may say more) -/
def Rep (F : Fr) (T : Tm) : Prop := ∃ p, F = encF p ∧ ∀ t v, t < 512 → p (dg8 (t / 64)) (dg8 (t / 8 % 8)) (dg8 (t % 8)) = some v → T.get (bits t) = some v
theorem dg8_inj {a b : Nat} (ha : a < 8) (hb : b < 8) (h : dg8 a = dg8 b) : a = b := by
  revert h
  have : ∀ a b : Fin 8, dg8 a.1 = dg8 b.1 → a = b := by decide
  intro h
  have := this ⟨a, ha⟩ ⟨b, hb⟩ h
  simpa using this
theorem blt_true {a b : Nat} : Nat.blt a b = true ↔ a < b := by rw [blt_iff]; simp
theorem tmpG_ok {F : Fr} {T : Tm} (h : Rep F T) (t : Nat) {k : KV} (hy : runB (tmpG t) F k = .yes) : ∃ v, T.get (bits t) = some v ∧ k v = .yes := by
  obtain ⟨p, rfl, hp⟩ := h
  unfold tmpG at hy
  cases hb : Nat.blt t 512 with
  | false => rw [hb] at hy; exact absurd hy (by simp [noG])
  | true =>
    rw [hb] at hy
    simp only [bindB_eq, runB_mk, encF, getN_enc, enc0_k, optK_yes] at hy
    obtain ⟨v, hv, hy⟩ := hy
    exact ⟨v, hp t v (blt_true.1 hb) hv, hy⟩
theorem tmpS_ok {F : Fr} {T : Tm} (h : Rep F T) (t : Nat) (v : AV) {k : Fr → Ans} (hy : runB (tmpS t) v F k = .yes) : ∃ F', Rep F' (T.set (bits t) (some v)) ∧ k F' = .yes := by
  obtain ⟨p, rfl, hp⟩ := h
  unfold tmpS at hy
  cases hb : Nat.blt t 512 with
  | false => rw [hb] at hy; exact absurd hy (by simp [noS])
  | true =>
    rw [hb] at hy
    simp only [bindB_eq, runB_mk, encF] at hy
    have ht := blt_true.1 hb
    let i := dg8 (t / 64)
    let j := dg8 (t / 8 % 8)
    let l := dg8 (t % 8)
    rw [modN_enc _ _ _ _ _ (updD (p i) j (updD (p i j) l (some v)))] at hy
    · refine ⟨_, ⟨_, rfl, ?_⟩, hy⟩
      intro s u hs hu
      rw [Tr.get_set_bits]
      by_cases hts : t = s
      · subst hts
        rw [if_pos rfl, ← hu]
        show _ = updD p i _ i j l
        rw [updD_same, updD_same, updD_same]
      · rw [if_neg hts]
        refine hp s u hs ?_
        rw [← hu]
        by_cases h1 : t / 64 = s / 64
        · by_cases h2 : t / 8 % 8 = s / 8 % 8
          · have h3 : t % 8 ≠ s % 8 := by omega
            have h3' : dg8 (t % 8) ≠ dg8 (s % 8) := fun h => h3 (dg8_inj (by omega) (by omega) h)
            show _ = updD p i _ (dg8 (s / 64)) (dg8 (s / 8 % 8)) (dg8 (s % 8))
            rw [← h1, ← h2]
            show _ = updD p i _ i j (dg8 (s % 8))
            rw [updD_same, updD_same, updD_other _ h3']
          · have h2' : dg8 (t / 8 % 8) ≠ dg8 (s / 8 % 8) := fun h => h2 (dg8_inj (by omega) (by omega) h)
            show _ = updD p i _ (dg8 (s / 64)) (dg8 (s / 8 % 8)) (dg8 (s % 8))
            rw [← h1]
            show _ = updD p i _ i (dg8 (s / 8 % 8)) (dg8 (s % 8))
            rw [updD_same, updD_other _ h2']
        · have h1' : dg8 (t / 64) ≠ dg8 (s / 64) := fun h => h1 (dg8_inj (by omega) (by omega) h)
          show _ = updD p i _ (dg8 (s / 64)) (dg8 (s / 8 % 8)) (dg8 (s % 8))
          rw [updD_other _ h1']
    · intro g
      rw [modN_enc _ _ _ _ _ (updD (p i j) l (some v))]
      · rfl
      · intro g
        rw [modN_enc _ _ _ _ _ (some v)]
        · rfl
        · intro g
          rfl
theorem Rep.fr0 (T : Tm) : Rep fr0 T := ⟨fun _ _ _ => none, rfl, fun t v _ h => by cases h⟩

theorem opnd_ok {F : Fr} {T : Tm} (h : Rep F T) (x : Operand) {k : KV} (hy : runB (opnd x) F k = .yes) : ∃ v, ev x T = some v ∧ k v = .yes := by
  cases x with
  | tmp t => exact tmpG_ok h t hy
  | const v =>
    simp only [opnd] at hy
    simp only [ev]
    cases hv : aConst v with
    | none => rw [hv] at hy; exact absurd hy (by simp [noG])
    | some a => rw [hv] at hy; simp only [optB_some, fVA_eq, runB_mk] at hy; exact ⟨a, rfl, hy⟩
  | global g => exact ⟨_, rfl, hy⟩
  | func f => exact ⟨_, rfl, hy⟩
theorem opndL_ok {F : Fr} {T : Tm} (h : Rep F T) : ∀ (l : List Operand) {k : List AV → Ans}, runB (opndL l) F k = .yes → ∃ vs, evL l T = some vs ∧ k vs = .yes
  | [], k, hy => ⟨[], rfl, hy⟩
  | x :: l, k, hy => by
    have e : opndL (x :: l) = bindB (opnd x) fun g => bindB (opndL l) fun gl => .mk fun T k => g T fun v => gl T fun r => k (v :: r) := rfl
    rw [e] at hy
    simp only [bindB_eq, runB_mk] at hy
    obtain ⟨v, hv, hy⟩ := opnd_ok h x hy
    obtain ⟨r, hr, hy⟩ := opndL_ok h l hy
    exact ⟨v :: r, by simp [evL, hv, hr], hy⟩

/-! ### looks at values -/
theorem ptrK_yes {v : AV} {k : Nat → Nat → Ans} : ptrK v k = .yes ↔ ∃ b i, v = .ptr b i ∧ k b i = .yes := by cases v <;> (constructor <;> intro h <;> first | exact ⟨_, _, rfl, h⟩ | (obtain ⟨_, _, e, h⟩ := h; cases e <;> exact h) | (cases h; done))
theorem boolK_yes {v : AV} {k : Bool → Ans} : boolK v k = .yes ↔ ∃ b, v = .bool b ∧ k b = .yes := by cases v <;> (constructor <;> intro h <;> first | exact ⟨_, rfl, h⟩ | (obtain ⟨_, e, h⟩ := h; cases e <;> exact h) | (cases h; done))
theorem intK_yes {v : AV} {k : IntKind → Int → Ans} : intK v k = .yes ↔ ∃ j n, v = .int j n ∧ k j n = .yes := by cases v <;> (constructor <;> intro h <;> first | exact ⟨_, _, rfl, h⟩ | (obtain ⟨_, _, e, h⟩ := h; cases e <;> exact h) | (cases h; done))
theorem strK_yes {v : AV} {k : Nat → Nat → Ans} : strK v k = .yes ↔ ∃ l x, v = .str l x ∧ k l x = .yes := by cases v <;> (constructor <;> intro h <;> first | exact ⟨_, _, rfl, h⟩ | (obtain ⟨_, _, e, h⟩ := h; cases e <;> exact h) | (cases h; done))
theorem natK_yes {i : Int} {k : Nat → Ans} : natK i k = .yes ↔ ∃ n, i = .ofNat n ∧ k n = .yes := by cases i <;> (constructor <;> intro h <;> first | exact ⟨_, rfl, h⟩ | (obtain ⟨_, e, h⟩ := h; cases e <;> exact h) | (cases h; done))
theorem aggK_yes {v : AV} {k : List AV → Ans} : aggK v k = .yes ↔ ∃ l, v = .agg l ∧ k l = .yes := by cases v <;> (constructor <;> intro h <;> first | exact ⟨_, rfl, h⟩ | (obtain ⟨_, e, h⟩ := h; cases e <;> exact h) | (cases h; done))
theorem tupK_yes {v : AV} {k : List AV → Ans} : tupK v k = .yes ↔ ∃ l, v = .tup l ∧ k l = .yes := by cases v <;> (constructor <;> intro h <;> first | exact ⟨_, rfl, h⟩ | (obtain ⟨_, e, h⟩ := h; cases e <;> exact h) | (cases h; done))
theorem ifcK_yes {v : AV} {k : TypeId → AV → Ans} : ifcK v k = .yes ↔ ∃ t w, v = .ifc t w ∧ k t w = .yes := by cases v <;> (constructor <;> intro h <;> first | exact ⟨_, _, rfl, h⟩ | (obtain ⟨_, _, e, h⟩ := h; cases e <;> exact h) | (cases h; done))
theorem mapK_yes {v : AV} {k : Nat → Ans} : mapK v k = .yes ↔ ∃ b, v = .map b ∧ k b = .yes := by cases v <;> (constructor <;> intro h <;> first | exact ⟨_, rfl, h⟩ | (obtain ⟨_, e, h⟩ := h; cases e <;> exact h) | (cases h; done))
theorem fnK_yes {v : AV} {k : FuncId → List AV → Ans} : fnK v k = .yes ↔ ∃ f l, v = .fn f l ∧ k f l = .yes := by cases v <;> (constructor <;> intro h <;> first | exact ⟨_, _, rfl, h⟩ | (obtain ⟨_, _, e, h⟩ := h; cases e <;> exact h) | (cases h; done))
theorem cellsK_yes {K : Blk} {k : Tr AV → Nat → Bool → Bool → Ans} : cellsK K k = .yes ↔ ∃ t n tl ro, K = .cells t n tl ro ∧ k t n tl ro = .yes := by cases K <;> (constructor <;> intro h <;> first | exact ⟨_, _, _, _, rfl, h⟩ | (obtain ⟨_, _, _, _, e, h⟩ := h; cases e <;> exact h) | (cases h; done))
theorem mpK_yes {K : Blk} {k : List (AV × AV) → Ans} : mpK K k = .yes ↔ ∃ es, K = .mp es ∧ k es = .yes := by cases K <;> (constructor <;> intro h <;> first | exact ⟨_, rfl, h⟩ | (obtain ⟨_, e, h⟩ := h; cases e <;> exact h) | (cases h; done))
theorem orV_yes {r : OR} {k : KV} : orV r k = .yes ↔ ∃ v H, r = .val v H ∧ k v = .yes := by cases r <;> (constructor <;> intro h <;> first | exact ⟨_, _, rfl, h⟩ | (obtain ⟨_, _, e, h⟩ := h; cases e <;> exact h) | (cases h; done))
theorem scalK_yes {v : AV} {x : Ans} : scalK v x = .yes ↔ scal v = true ∧ x = .yes := by cases v <;> simp [scalK, scal]
@[simp] theorem cellsOf_eq (v : AV) (k : List AV → Ans) : cellsOf v k = k v.cells := by cases v <;> rfl
theorem natV_yes {v : AV} {k : Nat → Ans} : natV v k = .yes ↔ ∃ n, natOf (some v) = some n ∧ k n = .yes := by
  simp only [natV, intK_yes, natK_yes]
  constructor
  · rintro ⟨j, n, rfl, i, rfl, h⟩; exact ⟨i, rfl, h⟩
  · rintro ⟨n, hn, h⟩
    cases v with
    | int j i => cases i with
      | ofNat m => simp [natOf] at hn; subst hn; exact ⟨_, _, rfl, _, rfl, h⟩
      | negSucc m => simp [natOf] at hn
    | _ => simp [natOf] at hn

/-! ### lists -/
@[simp] theorem lenK_eq : ∀ (l : List AV) (n : Nat) (k : Nat → Ans), lenK l n k = k (n + len' l)
  | [], n, k => rfl
  | v :: l, n, k => by
    show lenK l (n + 1) k = _
    rw [lenK_eq l, len'_eq, len'_eq, List.length_cons]
    congr 1
    omega
@[simp] theorem appK_eq : ∀ (l m : List AV) (k : List AV → Ans), appK l m k = k (l ++ m)
  | [], m, k => rfl
  | v :: l, m, k => appK_eq l m _
@[simp] theorem nthK_eq : ∀ (i : Nat) (l : List AV) (k : KV), nthK i l k = optK l[i]? k
  | 0, [], k => rfl
  | 0, v :: l, k => rfl
  | i + 1, [], k => rfl
  | i + 1, v :: l, k => (nthK_eq i l k).trans (by simp)
@[simp] theorem dropK_eq : ∀ (i : Nat) (l : List AV) (k : List AV → Ans), dropK i l k = k (l.drop i)
  | 0, l, k => rfl
  | i + 1, [], k => rfl
  | i + 1, v :: l, k => dropK_eq i l k
@[simp] theorem takeLK_eq : ∀ (i : Nat) (l : List AV) (k : List AV → Ans), takeLK i l k = k (l.take i)
  | 0, l, k => rfl
  | i + 1, [], k => rfl
  | i + 1, v :: l, k => takeLK_eq i l _
theorem putHd_eq : ∀ (vs l : List AV) (k : List AV → Ans), putHd vs l k = optK (putL l 0 vs) k
  | [], l, k => by cases l <;> rfl
  | v :: vs, [], k => rfl
  | v :: vs, x :: l, k => by
    show putHd vs l _ = _
    rw [putHd_eq vs l]
    simp only [putL]
    cases putL l 0 vs <;> rfl
theorem putLK_ok : ∀ (i : Nat) (vs l : List AV) {k : List AV → Ans}, putLK vs i l k = .yes → ∃ r, putL l i vs = some r ∧ k r = .yes
  | 0, vs, l, k, h => by
    have h : putHd vs l k = .yes := h
    rw [putHd_eq, optK_yes] at h
    exact h
  | i + 1, vs, [], k, h => by cases h
  | i + 1, [], x :: l, k, h => by
    have h : putLK [] i l (fun r => k (x :: r)) = .yes := h
    obtain ⟨r, hr, h⟩ := putLK_ok i [] l h
    have : putL l i [] = some l := by cases l <;> cases i <;> rfl
    rw [this] at hr
    injection hr with hr
    subst hr
    exact ⟨x :: l, rfl, h⟩
  | i + 1, v :: vs, x :: l, k, h => by
    have h : putLK (v :: vs) i l (fun r => k (x :: r)) = .yes := h
    obtain ⟨r, hr, h⟩ := putLK_ok i (v :: vs) l h
    exact ⟨x :: r, by simp [putL, hr], h⟩
theorem scalLK_yes : ∀ {l : List AV} {x : Ans}, scalLK l x = .yes ↔ scalL l = true ∧ x = .yes
  | [], x => by simp [scalLK, scalL]
  | v :: l, x => by
    show scalK v (scalLK l x) = .yes ↔ _
    rw [scalK_yes, scalLK_yes]
    simp only [scalL]
    cases scal v <;> simp

/-! ### memory -/
theorem blkK_eq (B : Bl) (b n : Nat) (k : Blk → Ans) : blkK B b k = optK (getB ⟨B, n⟩ b) k := by simp [blkK, getB]
theorem blkK_yes {B : Bl} {b : Nat} {k : Blk → Ans} (h : blkK B b k = .yes) : ∃ K, (∀ n, getB ⟨B, n⟩ b = some K) ∧ k K = .yes := by
  rw [blkK_eq B b 0, optK_yes] at h
  obtain ⟨K, hK, h⟩ := h
  exact ⟨K, fun _ => hK, h⟩
theorem takeK_eq : ∀ (n : Nat) (t : Tr AV) (i : Nat) (k : List AV → Ans), takeK n t i k = optK (takeC t i n) k
  | 0, t, i, k => rfl
  | n + 1, t, i, k => by
    show getK (path i) t (fun v => fN' (Nat.succ i) fun i => takeK n t i fun l => k (v :: l)) = _
    simp only [path_eq, getK_eq, fN'_eq, takeC]
    cases t.get (bits i) with
    | none => rfl
    | some v =>
      simp only [optK_some]
      rw [takeK_eq n]
      cases takeC t (Nat.succ i) n <;> rfl
theorem takeK_yes {n : Nat} {t : Tr AV} {i : Nat} {k : List AV → Ans} : takeK n t i k = .yes ↔ ∃ l, takeC t i n = some l ∧ k l = .yes := by rw [takeK_eq, optK_yes]
theorem putK_ok : ∀ (l : List AV) (t : Tr AV) (i : Nat) {k : Tr AV → Ans}, putK l t i k = .yes → ∃ t', (∀ (z : OR) (k' : Tr AV → OR), putC t i l z k' = k' t') ∧ k t' = .yes
  | [], t, i, k, h => ⟨t, fun _ _ => rfl, h⟩
  | v :: l, t, i, k, h => by
    have h : getK (path i) t (fun _ => scalK v (setF (path i) (some v) t fun t => fN' (Nat.succ i) fun i => putK l t i k)) = .yes := h
    simp only [path_eq, getK_eq, setF_eq, fN'_eq, optK_yes, scalK_yes] at h
    obtain ⟨u, hu, hs, h⟩ := h
    obtain ⟨t', ht, h⟩ := putK_ok l _ _ h
    refine ⟨t', fun z k' => ?_, h⟩
    simp only [putC, hu, hs, Tr.setK_eq]
    exact ht z k'
@[simp] theorem layK_eq : ∀ (l : List AV) (t : Tr AV) (i : Nat) (k : Tr AV → Ans), layK l t i k = k (layT t i l)
  | [], t, i, k => rfl
  | v :: l, t, i, k => by
    show setF (path i) (some v) t (fun t => fN' (Nat.succ i) fun i => layK l t i k) = _
    simp only [path_eq, setF_eq, fN'_eq]
    rw [layK_eq l]
    rfl
@[simp] theorem pushK_eq (K : Blk) (B : Bl) (n : Nat) (k : Nat → Bl → Nat → Ans) : pushK K B n k = k n (B.set (bits n) (some K)) (n + 1) := by simp [pushK]
@[simp] theorem setBK_eq (K : Blk) (b : Nat) (B : Bl) (k : Bl → Ans) : setBK K b B k = k (B.set (bits b) (some K)) := by simp [setBK]
@[simp] theorem goneK_eq (b : Nat) (B : Bl) (k : Bl → Ans) : goneK b B k = k (B.set (bits b) (some (.cells .lf 0 false false))) := by simp [goneK]

/-! ### numbers -/
theorem okI_eq (j : IntKind) (n : Int) (x y : Ans) : okI j n x y = ifK (inK j n) x y := by
  have e : ∀ m, Nat.blt m pow63 = Nat.ble m 9223372036854775807 := fun m => rfl
  have e2 : ∀ m, Nat.blt m pow64 = Nat.ble m 18446744073709551615 := fun m => rfl
  cases j <;> cases n <;> rfl
@[simp] theorem wrapK_eq (j : IntKind) (n : Int) (k : KV) : wrapK j n k = k (.int j (wrapF j n)) := by
  simp only [wrapK, fI'_eq, okI_eq, wrapF]
  cases inK j n <;> rfl
@[simp] theorem addK_eq (a b : Int) (k : Int → Ans) : addK a b k = k (iadd a b) := by
  cases a <;> cases b <;> simp only [addK, iadd, fN'_eq, fI'_eq]
@[simp] theorem negK_eq (a : Int) (k : Int → Ans) : negK a k = k (ineg a) := by
  rcases a with (_ | m) | m <;> rfl
@[simp] theorem ieqK_eq (a b : Int) (k : Bool → Ans) : ieqK a b k = k (ieq a b) := by
  cases a <;> cases b <;> simp only [ieqK, ieq, fB'_eq]
@[simp] theorem iltK_eq (a b : Int) (k : Bool → Ans) : iltK a b k = k (ilt a b) := by
  cases a <;> cases b <;> simp only [iltK, ilt, fB'_eq] <;> rfl
@[simp] theorem ileK_eq (a b : Int) (k : Bool → Ans) : ileK a b k = k (ile a b) := by
  cases a <;> cases b <;> simp only [ileK, ile, fB'_eq]
@[simp] theorem notK_eq (b : Bool) (k : Bool → Ans) : notK b k = k (!b) := by cases b <;> rfl
@[simp] theorem strEqK_eq (l x m y : Nat) (k : Bool → Ans) : strEqK l x m y k = k (strEq l x m y) := by
  simp only [strEqK, strEq, fB'_eq]
  cases Nat.beq l m <;> rfl
theorem kindK_yes {j i : IntKind} {x : Ans} : kindK j i x = .yes ↔ j = i ∧ x = .yes := by simp [kindK, ifK_yes]
theorem intOp_heap {op : BinOp} {j : IntKind} {a b : Int} {H H1 : Heap} {v : AV} (h : intOp op j a b H = .val v H1) (H2 : Heap) : intOp op j a b H2 = .val v H2 := by
  cases op <;> simp only [intOp, fI_eq, fB_eq, fN_eq] at h ⊢ <;> first
    | (injection h with h1 h2; rw [h1])
    | (cases h; done)
    | (cases hb : ieq b (.ofNat 0) <;> simp only [hb, cond_true, cond_false] at h ⊢ <;> first | (injection h with h1 h2; rw [h1]) | (cases h; done))
    | (cases a <;> cases b <;> first
        | (cases h; done)
        | (simp only at h ⊢; split at h <;> first | (injection h with h1 h2; simp_all; done) | (cases h; done))
        | (simp only [fN_eq] at h ⊢; rename_i m n; cases hc : (inK j (Int.ofNat m) && inK j (Int.ofNat n)) <;> simp only [hc, cond_true, cond_false] at h ⊢ <;> first | (injection h with h1 h2; rw [h1]) | (cases h; done)))
theorem shiftOp_heap {op : BinOp} {j : IntKind} {a b : Int} {H H1 : Heap} {v : AV} (h : shiftOp op j a b H = .val v H1) (H2 : Heap) : shiftOp op j a b H2 = .val v H2 := by
  cases op <;> cases a <;> cases b <;> simp only [shiftOp, fI_eq, fN_eq] at h ⊢ <;> first | (injection h with h1 h2; rw [h1]) | (cases h; done)
theorem strOp_heap {op : BinOp} {l x m y : Nat} {H H1 : Heap} {v : AV} (h : strOp op l x m y H = .val v H1) (H2 : Heap) : strOp op l x m y H2 = .val v H2 := by
  cases op <;> simp only [strOp, fB_eq, fN_eq] at h ⊢ <;> first
    | (injection h with h1 h2; rw [h1])
    | (cases h; done)
    | (cases hc : Nat.blt (Nat.add l m) pow63 <;> simp only [hc, cond_true, cond_false] at h ⊢ <;> first | (injection h with h1 h2; rw [h1]) | (cases h; done))
theorem intOpC_ok {op : BinOp} {j : IntKind} {a b : Int} {k : KV} (hs : isShift op = false) (h : runB (intOpC op) j a b k = .yes) : ∃ v, (∀ H, intOp op j a b H = .val v H) ∧ k v = .yes := by
  cases op <;> simp only [isShift] at hs <;> simp only [intOpC, runB_mk, addK_eq, negK_eq, wrapK_eq, ieqK_eq, iltK_eq, ileK_eq, notK_eq, orV_yes] at h <;> first
    | (cases hs; done)
    | exact ⟨_, fun H => by simp only [intOp, fI_eq, fB_eq], h⟩
    | (obtain ⟨v, H1, h1, h⟩ := h; exact ⟨v, fun H => intOp_heap h1 H, h⟩)
theorem intOpC_sh {op : BinOp} {j : IntKind} {a b : Int} {k : KV} (hs : isShift op = true) (h : runB (intOpC op) j a b k = .yes) : ∃ v, (∀ H, shiftOp op j a b H = .val v H) ∧ k v = .yes := by
  cases op <;> simp only [isShift] at hs <;> simp only [intOpC, runB_mk, orV_yes] at h <;> first
    | (cases hs; done)
    | (obtain ⟨v, H1, h1, h⟩ := h; exact ⟨v, fun H => shiftOp_heap h1 H, h⟩)
theorem strOpC_ok {op : BinOp} {l x m y : Nat} {k : KV} (h : runB (strOpC op) l x m y k = .yes) : ∃ v, (∀ H, strOp op l x m y H = .val v H) ∧ k v = .yes := by
  cases op <;> simp only [strOpC, runB_mk, strEqK_eq, notK_eq, orV_yes] at h <;> first
    | exact ⟨_, fun H => by simp only [strOp, fB_eq], h⟩
    | (obtain ⟨v, H1, h1, h⟩ := h; exact ⟨v, fun H => strOp_heap h1 H, h⟩)
end Eng
end Go.Proofs.YtbdhainbcfobeaaGreatDoor
