/-
  ViewBack: for every input the law returns true and the input reads as it did; conditions: the listed variables are as the program's text lays them.
-/
import Derived.Test.YtniflgldgnmiaaaGreatDoorLiW
import Derived.Test.YtniflgldgnmiaaaGreatDoorLaid
import Derived.Test.YtniflgldgnmiaaaGreatDoorTie
import Derived.Test.YtniflgldgnmiaaaGreatDoorCards
import Derived.Stop.Joined
namespace Go.Proofs.YtniflgldgnmiaaaGreatDoor
open Go Eng Go.ChangeShapes Go.WideShapes Go.ChangeAt Go.RowKit
namespace ViewBack
theorem zvt:closedT Tryz.prog [24,22,69,66,82,67,148,165,146,3,9,2]=true:=by kernel_rfl
theorem keys0:KeysIn (H0 gl 4):=by
 have h0:gl[0]? = some (keysL.map S):=by kernel_rfl
 refine ⟨by rw [H0,zfw];decide,layT .lf 0 (keysL.map S),?_,.lay _⟩;cases hc:keysL.map S with
 |nil=>exact absurd hc (by decide)
 |cons v l=>
  rw [hc] at h0;simp only [H0,zfc,Nat.zero_le,if_true,Nat.sub_zero,h0]
section
variable {w:World}{base:Nat}{spare:Nat→Bool}{held:Bool}{H:Type}{enc:TypeId×Value→H}
theorem one {P:Program}{t0:TypeId}{args:Array Value}{ds:List (DataW H)}{ps:List MemPlace}(h:DataW.TrodAll enc P w base spare held [t0] args.toList ds ps):
  ∃v0 d0 p0,args = #[v0]∧ds=[d0]∧DataW.Trod enc P w base spare held t0 v0 d0 p0:=by
 obtain ⟨v0,vs0,d0,ds0,p0,q0,hargs,rfl,rfl,h0,hr0⟩:=trodAll_cons h;obtain ⟨rfl,rfl,rfl⟩:=trodAll_nil hr0;exact ⟨v0,d0,p0,by cases args;simp_all,rfl,h0⟩
end
set_option maxRecDepth 100000 in
theorem lifted (os:Os) (started:os.Started) (H:Type) (enc:TypeId×Value→H):
  ReturnsInHanded {} Tryz.checked os 3 .any (fun w args=>(Rows.viewBackSpec.pre enc Tryz.prog Tryz.f3 [] false w args∧laidMetH Tryz.prog laidL w)∧sizedMet enc Tryz.prog Tryz.f3 (OpenSpec.ofChange Rows.viewBackSpec) false w args)
   (Rows.viewBackSpec.post enc Tryz.prog Tryz.f3 false true false false):=by
 refine returnsInHanded_of_change_and (C:=Tryz.checked) (X:=fun w _=>laidMetH Tryz.prog laidL w) (fun _ _ _ hh h=>h.of_heap hh) own started (by kernel_rfl) Tryz.func3
  (ChangeSpec.witness_shaped (enc:=enc) (C:=Tryz.checked) (os:=os) (X:=fun w _=>laidMetH Tryz.prog laidL w) false (World.doorLaid Tryz.prog 400 os) #[.agg #[.slice none 0 0]] 8 rfl (World.shaped_of_RefB (by kernel_rfl) (by kernel_rfl)) (by kernel_rfl) (by kernel_rfl) (by kernel_rfl) (door_met os _)) ?_
 intro W base args ds gs before hval0 hW _ hwt hL _;have hval:∀(j:Nat) t v,Tryz.f3.params[j]? = some t→args[j]? = some v→Value.okWide Tryz.prog W .any base t v:=hval0;have hW':=hW;obtain ⟨p,q,hA0,hV,rfl,hfz,hnd⟩:=hW;have hA:DataW.TrodAll enc Tryz.prog W 0 (fun _=>true) true Tryz.f3.params.toList args.toList ds p:=hA0;rw [Tryz.params3] at hA hval hwt;have hA2:=hA;obtain ⟨v0,d0,p0,rfl,rfl,h0⟩:=one hA;obtain ⟨rfl,rfl⟩:=trodVars_none hV;clear hA0 hval0;simp only [List.append_nil] at hW';have hok:=hval 0 24 v0 rfl rfl;obtain ⟨fuel,h0⟩:=h0;have hbound:∀k∈d0.weights Tryz.prog 24,k≤rB:=by
  intro k hk;have:=List.all_eq_true.1 hwt k (zeu (i:=0) (t:=24) (d:=d0) rfl rfl hk);have hrb:reachBytes=rB:=rfl;rw [←hrb];simpa using this
 obtain ⟨pg,hlay⟩:=lay_prog pgT h0 hok hbound;have hLW:=laid_W hL;obtain ⟨ρ',H',u,g1,g2,g3,g4,g5,g6,hpg⟩:=hlay (rho0 W 4) (H0 gl 4) (H0_HR' (Jz _) hLW) H0_ro' zun;have hrun:=back_ok (Q:=fun r _=>r=.bool true) (laid0.keep g5) (keys0.keep g5) hpg (fun _=>rfl);have hG:GOK Tryz.prog ρ':=(rho0_G (by rw [zge];exact Jz _)).mono g4;refine (contractG zjy zic ground zwg zwt hrun (DL.cons g6 .nil) g1 hG g2 g3 (x:=.bool true) (fun _=>rfl)).mono fun e W' ⟨he,hs⟩=>?_;subst he;have e1:Rows.viewBackSpec.fn H ([d0]++[])={ results:=[.lit (.bool true)],args:=[d0] }:=by simp [Rows.viewBackSpec]
 refine ⟨_,rfl,_,_,_,[],p,[],hW',?_,?_,?_,World.keptBut_mono (fun _ h=>h.elim) hs.keptBut,fun h=>by cases h⟩
 ·rw [e1];exact trodAll_mk1 (shut_bool Tryz.underlying4 true)
 ·rw [e1];exact zjz hs.keep zvt (by simp) hA2 fun x hx=>by simpa using hW'.lt x hx
 ·rw [e1];rfl
end ViewBack
end Go.Proofs.YtniflgldgnmiaaaGreatDoor
