/-
  The place of a byte in a text (internal/stringslite.IndexByte): what the call answers. No conditions.
-/
import Derived.Test.YtlajkdbpmkodpaaGreatDoorLaid
import Derived.WalkKit
import Derived.Lib.Walk
import Derived.Lib.Bytealg
import Derived.BigCall
import Derived.BigGuard
import Derived.Laws.Strings3
namespace Go.Proofs.YtlajkdbpmkodpaaGreatDoor
open Go Go.Proofs.YtlajkdbpmkodpaaGreatDoor.Eng Go.RowKit
namespace TopWatches
set_option maxHeartbeats 1000000 in
set_option maxRecDepth 100000 in
theorem ix_call (s : ByteArray) (c : Int) (w : World) : Calls Tryz.prog 233 #[.string s, .int .u8 c] w fun e w' => e = .returned (.int .i64 (Lib.indexByte s.data.toList c.toNat.toUInt8)) ∧ w' = w := by
  go_enter Tryz.func233, Tryz.ntmps233
  go_wp2
  rw [run_callFunc_extern Tryz.func305 (by kernel_rfl) (by kernel_rfl) (by kernel_rfl) (e := Extern.BytealgIndexByte.indexByte) (by kernel_rfl), Lib.run_indexByteString]
  simp only [Result.andThen]
  rw [Oper.upon_value]
  go_wp2
  go_ret
  exact ⟨rfl, rfl⟩
noncomputable def ixF : Func := (Tryz.prog.funcs[233]?).getD default
theorem ixF_eq : Tryz.prog.funcs[233]? = some ixF := by kernel_rfl
theorem ixF_body : ixF.body = some (ixF.body.getD .skip) := by kernel_rfl
theorem ix_ok : IxOK Tryz.prog 233 := ⟨⟨_, _, ixF_eq, ixF_body⟩, ix_call⟩
end TopWatches
end Go.Proofs.YtlajkdbpmkodpaaGreatDoor
