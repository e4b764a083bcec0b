/-
  Package chars: the contract of Bad.
-/
import Derived.Test.YtdpnahojhmkemaaGreatDoorCharsA
namespace Go.Proofs.YtdpnahojhmkemaaGreatDoor
open Go Go.RowKit
set_option linter.unusedVariables false
set_option maxRecDepth 100000

set_option maxHeartbeats 400000 in
theorem bad_any (c : UInt8) (w : World) :
    Calls Tryz.prog 166 #[.int .u8 c.toNat] w fun e w' => e = .returned (.bool (isBad c)) ∧ w = w' := by
  go_enter Tryz.func166, Tryz.ntmps166
  go_wp2
  all_goals
    go_ret
    refine ⟨ret_bool ?_, rfl⟩
    rw [isBad_iff, Bool.eq_iff_iff]
    simp
    omega

end Go.Proofs.YtdpnahojhmkemaaGreatDoor
