/-
  ViewBack: for every input the law returns true and the input reads as it did; conditions: the listed variables are as the program's text lays them (tied by the card).
-/
import Derived.Test.YtniflgldgnmiaaaGreatDoorBckRow
namespace Go.Proofs.YtniflgldgnmiaaaGreatDoor
open Go Eng Go.ChangeShapes Go.WideShapes Go.ChangeAt Go.RowKit
namespace ViewBack
theorem card_holds:Rows.ViewBackCardSaid:=
 Claim7.holds_tied_plain_at .later [] [.data, .data, .data] true (true, "08d057708722403f376505fcebb8447848c3c8c440e5d72d22d0441b20ad5626") true
  said (fun _ h=>by cases h) (by kernel_rfl) (fun _ h=>by cases h) viewBack_row_tie rfl ⟨rfl,rfl⟩ (by kernel_rfl) rfl
  (fun f fn hf hfn=>by
   obtain rfl : f = 3 := Option.some.inj ((show Tryz.prog.funcNamed "parallax/parallaxlaw17.ViewBack" = some 3 by kernel_rfl).symm.trans hf) |>.symm
   obtain rfl:fn=Tryz.f3:=(Option.some.inj (Tryz.func3.symm.trans hfn)).symm;exact ⟨by kernel_rfl,fun j t ht=>by
    rw [Tryz.params3] at ht;have hm:t∈[24]:=by simpa using Array.mem_of_getElem? ht
    have hall:([24].all fun u=>!Tryz.prog.wantsStandIn u)=true:=by kernel_rfl
    exact (show Tryz.prog.wantsStandIn t=false by simpa using List.all_eq_true.1 hall t hm)⟩)
  (by kernel_rfl)
#print axioms card_holds
end ViewBack
end Go.Proofs.YtniflgldgnmiaaaGreatDoor
