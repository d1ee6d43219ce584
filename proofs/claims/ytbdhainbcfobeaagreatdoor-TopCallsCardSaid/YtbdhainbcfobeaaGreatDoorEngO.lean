/-
  THE ENGINE, part O: all operations, by their class; what they look at.
-/
import Derived.Test.YtbdhainbcfobeaaGreatDoorEngN
namespace Go.Proofs.YtbdhainbcfobeaaGreatDoor
namespace Eng
open Go
section
variable {P : Program} {ρ : Rho} {T : Tm} {a : Act}

/-- all global names in an operation's operands are of variables -/
def opG (P : Program) (o : Op) : Bool := o.operands.toList.all (gl P)

def w₀ : World := { heap := #[], tape := fun _ _ => 0, drawn := 0, os := Os.initial #[] #[] ByteArray.empty, output := #[] }
theorem callArgs {c : Call} (h : c.operands.toList.all (gl P) = true) : c.args.toList.all (gl P) = true := by
  unfold Call.operands at h
  simp only [Array.toList_append, List.all_append, Bool.and_eq_true] at h
  exact h.2
theorem callFn {c : Call} {f : Operand} (hc : c.callee = .value f) (h : c.operands.toList.all (gl P) = true) : gl P f = true := by
  unfold Call.operands at h
  simp only [hc, Array.toList_append, List.all_append, Bool.and_eq_true] at h
  simpa using h.1

theorem oper_pure {call : CallF} {o : Oper} (hcl : cls P o.op = .pure) (hg : opG P o.op = true) (hT : TR ρ T a.tmps) (hG : GOK P ρ) (H : Heap) : OKp P o a ρ H (oper P call o.op T H) := by
  obtain ⟨dst, op, ty, pos, af, gd⟩ := o
  cases op <;> simp only [cls] at hcl <;> simp only [opG, Op.operands] at hg <;> simp only [oper]
  case move x => exact oMove_p _ x (.inl rfl) hT hG (by simpa using hg) H
  case assign x => exact oMove_p _ x (.inr rfl) hT hG (by simpa using hg) H
  case pick c x y => simp only [List.all_cons, List.all_nil, Bool.and_eq_true, Bool.and_true] at hg; exact oPick_p _ c x y rfl hT hG hg.1 hg.2.1 hg.2.2 H
  case build t ps => exact oBuild_p _ t ps rfl hT hG (by simpa [List.all_map] using hg) H
  case nilCheck x => exact oNilCheck_p _ x rfl hT hG (by simpa using hg) H
  case binOp op t x y yt => simp only [List.all_cons, List.all_nil, Bool.and_eq_true, Bool.and_true] at hg; exact oBin_p _ op t yt x y rfl hT hG hg.1 hg.2 H
  case unOp op t x => exact oUn_p _ op t x rfl hT hG (by simpa using hg) H
  case convert s d x => exact oConvert_p _ s d x rfl (by simpa [cls] using hcl) hT hG (by simpa using hg) H
  case makeInterface t x => exact oMakeIface_p _ t x rfl hT hG (by simpa using hg) H
  case makeFunc fn f c => exact oMakeFunc_p _ fn f c rfl hT hG (by simp only [Array.toList_append, List.all_append, Bool.and_eq_true] at hg; exact hg.2) H
  case slice t x lo hi mx =>
    simp only [Array.toList_append, List.all_append, Bool.and_eq_true] at hg
    refine oSlice_p _ t x lo hi mx rfl (by simpa [cls] using hcl) hT hG (by simpa using hg.1.1.1) ?_ ?_ ?_ H
    · cases lo <;> simp_all [glO]
    · cases hi <;> simp_all [glO]
    · cases mx <;> simp_all [glO]
  case fieldAddr t x f => exact oFieldAddr_p _ t x f rfl hT hG (by simpa using hg) H
  case field t x f => exact oField_p _ t x f rfl hT hG (by simpa using hg) H
  case indexAddr t x i => simp only [List.all_cons, List.all_nil, Bool.and_eq_true, Bool.and_true] at hg; exact oIndexAddr_p _ t x i rfl hT hG hg.1 hg.2 H
  case index t x i => simp only [List.all_cons, List.all_nil, Bool.and_eq_true, Bool.and_true] at hg; exact oIndex_p _ t x i rfl hT hG hg.1 hg.2 H
  case typeAssert x xt t ok => exact oAssert_p _ x xt t ok rfl hT hG (by simpa using hg) H
  case extract x i => exact oExtract_p _ x i rfl hT hG (by simpa using hg) H
  case call c =>
    intro v H' h
    simp only [oCall] at h
    split at h
    · rename_i xs hxs
      have hm := evL_den hT hG (callArgs hg) hxs
      split at h
      · rename_i b hb
        have fin : ∀ {b' : Builtin}, b = b' → BV P ρ b' c.argTypes (c.args.toList.map a.eval) v → Gives P ⟨dst, .call c, ty, pos, af, gd⟩ a ρ v := fun e ⟨y, h1, h2⟩ =>
          ⟨y, h1, fun w => exec_b2 (o := ⟨dst, .call c, ty, pos, af, gd⟩) rfl (e ▸ hb) rfl fun cs => h2 _ cs w⟩
        obtain ⟨ca, cb, cc⟩ := c
        simp only at hb hm
        subst hb
        cases b <;> simp only [cls] at hcl <;> (try cases hcl) <;> simp only [oBuiltin] at h
        · obtain ⟨h1, h2⟩ := oCap_b (P := P) hm h; exact ⟨h1, fin rfl h2⟩
        · have hno : ∀ k e, (cc[0]?).bind P.underlying ≠ some (.map k e) := fun k e he => by rw [he] at hcl; cases hcl
          obtain ⟨h1, _, h3⟩ := oLen_b (P := P) (w := w₀) hm (fun ⟨k, e, he⟩ => absurd he (hno k e)) h
          exact ⟨h1, fin rfl (h3 hno)⟩
        · obtain ⟨h1, h2⟩ := oMinMax_b (P := P) true hm _ h; exact ⟨h1, fin rfl h2⟩
        · obtain ⟨h1, h2⟩ := oMinMax_b (P := P) false hm _ h; exact ⟨h1, fin rfl h2⟩
      · rename_i f hf
        obtain ⟨ca, cb, cc⟩ := c
        simp only at hf; subst hf; simp only [cls] at hcl; cases hcl
      · cases h
    · cases h
  all_goals first | cases hcl | (simp at hcl; done)
theorem oper_read {call : CallF} {o : Oper} (hcl : cls P o.op = .read) (hg : opG P o.op = true) (hT : TR ρ T a.tmps) (hG : GOK P ρ) {H H' : Heap} {w : World} (hH : VR ρ H w) {v : AV}
    (h : oper P call o.op T H = .val v H') : H' = H ∧ GivesIn P o a ρ w v := by
  obtain ⟨dst, op, ty, pos, af, gd⟩ := o
  cases op <;> simp only [cls] at hcl <;> simp only [opG, Op.operands] at hg <;> simp only [oper] at h
  case load t x => exact oLoad_r _ t x rfl hT hG (by simpa using hg) hH h
  case lookup t m x ok => simp only [List.all_cons, List.all_nil, Bool.and_eq_true, Bool.and_true] at hg; exact oLookup_r _ t m x ok rfl hT hG hg.1 hg.2 hH h
  case convert s d x => exact oConvert_r _ s d x rfl (by simpa [cls] using hcl) hT hG (by simpa using hg) hH h
  case slice t x lo hi mx =>
    simp only [Array.toList_append, List.all_append, Bool.and_eq_true] at hg
    refine oSlice_r _ t x lo hi mx rfl (by simpa [cls] using hcl) hH hT hG (by simpa using hg.1.1.1) ?_ ?_ ?_ h
    · cases lo <;> simp_all [glO]
    · cases hi <;> simp_all [glO]
    · cases mx <;> simp_all [glO]
  case call c =>
    simp only [oCall] at h
    split at h
    · rename_i xs hxs
      have hm := evL_den hT hG (callArgs hg) hxs
      split at h
      · rename_i b hb
        obtain ⟨ca, cb, cc⟩ := c
        simp only at hb hm
        subst hb
        cases b <;> simp only [cls] at hcl <;> (try cases hcl) <;> simp only [oBuiltin] at h
        · obtain ⟨h1, y, h2, h3⟩ := oCap_b (P := P) hm h
          exact ⟨h1, y, h2, exec_b2 (o := ⟨dst, .call ⟨.builtin .cap, cb, cc⟩, ty, pos, af, gd⟩) rfl rfl rfl fun cs => h3 _ cs w⟩
        · obtain ⟨h1, ⟨y, h2, h3⟩, _⟩ := oLen_b (P := P) hm (fun _ => hH) h
          exact ⟨h1, y, h2, exec_b2 (o := ⟨dst, .call ⟨.builtin .len, cb, cc⟩, ty, pos, af, gd⟩) rfl rfl rfl fun cs => h3 _ cs⟩
      · rename_i f hf
        obtain ⟨ca, cb, cc⟩ := c
        simp only at hf; subst hf; simp only [cls] at hcl; cases hcl
      · cases h
    · cases h
  all_goals first | cases hcl | (simp at hcl; done)
theorem oper_make {call : CallF} {o : Oper} (hcl : cls P o.op = .make) (hg : opG P o.op = true) (hT : TR ρ T a.tmps) (hG : GOK P ρ) {H H' : Heap} {v : AV}
    (h : oper P call o.op T H = .val v H') : Mk P o a ρ H v H' := by
  obtain ⟨dst, op, ty, pos, af, gd⟩ := o
  cases op <;> simp only [cls] at hcl <;> simp only [opG, Op.operands] at hg <;> simp only [oper] at h
  case alloc t => exact oAlloc_m _ t rfl h
  case box t x => exact oBox_m _ t x rfl hT hG (by simpa using hg) h
  case buildSlice t n ps => exact oBuildSlice_m _ t n ps rfl hT hG (by simpa [List.all_map] using hg) h
  case makeMap t r => exact oMakeMap_m _ t r rfl h
  case makeSlice t l c => simp only [List.all_cons, List.all_nil, Bool.and_eq_true, Bool.and_true] at hg; exact oMakeSlice_m _ t l c rfl hT hG hg.1 hg.2 h
  case convert s d x => exact oConvert_m _ s d x rfl (by simpa [cls] using hcl) hT hG (by simpa using hg) h
  case slice t x lo hi mx => split at hcl <;> cases hcl
  case call c =>
    obtain ⟨ca, cb, cc⟩ := c
    cases ca <;> simp only [cls] at hcl
    · cases hcl
    · cases hcl
    · split at hcl <;> first | cases hcl | (split at hcl <;> cases hcl)
  all_goals first | cases hcl | (simp at hcl; done)
/-- what is loud and calls nothing -/
theorem oper_loud {call : CallF} {o : Oper} (hcl : cls P o.op = .loud) (hno : ∀ c f, o.op = .call c → c.callee ≠ .value f) (hg : opG P o.op = true) (hT : TR ρ T a.tmps) (hG : GOK P ρ) {H H' : Heap} {w : World} (hH : HR ρ H w) (hf : H'.nx = H.nx + 1 → ρ H.nx = none) {v : AV}
    (h : oper P call o.op T H = .val v H') : Wr P o a ρ H w v H' := by
  obtain ⟨dst, op, ty, pos, af, gd⟩ := o
  cases op <;> simp only [cls] at hcl <;> simp only [opG, Op.operands] at hg <;> simp only [oper] at h
  case store t x y => simp only [List.all_cons, List.all_nil, Bool.and_eq_true, Bool.and_true] at hg; exact oStore_w _ t x y rfl hT hG hg.1 hg.2 hH h
  case mapUpdate t m k x => simp only [List.all_cons, List.all_nil, Bool.and_eq_true, Bool.and_true] at hg; exact oMapUpdate_w _ t m k x rfl hT hG hg.1 hg.2.1 hg.2.2 hH h
  case defer c =>
    simp only [oDefer] at h
    split at h
    · split at h
      · split at h <;> cases h
      · cases h
    · cases h
  case panic x => simp only [oPanic] at h; split at h <;> cases h
  case convert s d x => split at hcl <;> cases hcl
  case slice t x lo hi mx => split at hcl <;> cases hcl
  case call c =>
    simp only [oCall] at h
    split at h
    · rename_i xs hxs
      have hm := evL_den hT hG (callArgs hg) hxs
      split at h
      · rename_i b hb
        obtain ⟨ca, cb, cc⟩ := c
        simp only at hb hm hxs
        subst hb
        cases b <;> simp only [cls] at hcl <;> (try cases hcl) <;> simp only [oBuiltin] at h
        all_goals first
          | (split at hcl <;> cases hcl; done)
          | (cases h; done)
          | exact oCopy_w (o := ⟨dst, .call ⟨.builtin .copy, cb, cc⟩, ty, pos, af, gd⟩) rfl rfl hm rfl hH h
          | exact oClear_w (o := ⟨dst, .call ⟨.builtin .clear, cb, cc⟩, ty, pos, af, gd⟩) rfl rfl hm rfl hH h
          | (split at h <;> cases h; done)
          | skip
        -- append
        unfold oAppend at h
        split at h
        · rename_i t u s x hts
          have hcb : ∃ sx xx, cb.toList = [sx, xx] := by
            have hl : cb.toList.length = 2 := by
              have := hm.length
              simp at this
              simp [← this]
            match cb.toList, hl with
            | [p, q], _ => exact ⟨p, q, rfl⟩
          obtain ⟨sx, xx, hsx⟩ := hcb
          rw [hsx] at hm
          obtain ⟨uu, vv, e, e1, e2⟩ := two_of_DL hm
          simp only [List.map_cons, List.map_nil, List.cons.injEq, and_true] at e
          obtain ⟨rfl, rfl⟩ := e
          split at h
          · rename_i E y hE hu
            exact appS_w (o := ⟨dst, .call ⟨.builtin .append, cb, cc⟩, ty, pos, af, gd⟩) rfl rfl hsx hts hE hu (.inl ⟨_, rfl⟩) e1 e2 hH hf h
          · rename_i E hE hu
            exact appS_w (o := ⟨dst, .call ⟨.builtin .append, cb, cc⟩, ty, pos, af, gd⟩) rfl rfl hsx hts hE hu (.inr rfl) e1 e2 hH hf h
          · cases h
        · cases h
      · rename_i f hf
        exact absurd hf (hno c f rfl)
      · cases h
    · cases h
  all_goals first | cases hcl | (simp at hcl; done)
end
end Eng
end Go.Proofs.YtbdhainbcfobeaaGreatDoor
