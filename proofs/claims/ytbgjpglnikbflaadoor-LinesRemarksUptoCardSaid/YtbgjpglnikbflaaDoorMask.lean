/-
  int's & with a small mask: a number from 0 to the mask, whatever the int.
-/
import Derived.WalkKit
import Derived.Laws.BitsAllLaws
namespace Go.Proofs.YtbgjpglnikbflaaDoor
open Go
set_option linter.unusedVariables false

theorem mask_i64 (a : Int) (m : Nat) (hm : m < 9223372036854775808) : ∃ x : Nat, x ≤ m ∧ bits .and .i64 a (m : Int) = (x : Int) := by
  refine ⟨(BitVec.ofInt 64 a &&& BitVec.ofInt 64 (m : Int)).toNat, ?_, ?_⟩
  · rw [BitVec.toNat_and, ofInt_u64 m (by omega)]
    exact Nat.and_le_right
  · have h : (BitVec.ofInt 64 a &&& BitVec.ofInt 64 (m : Int)).toNat ≤ m := by
      rw [BitVec.toNat_and, ofInt_u64 m (by omega)]
      exact Nat.and_le_right
    show IntKind.i64.wrap ((BitVec.ofInt 64 a &&& BitVec.ofInt 64 (m : Int)).toNat : Int) = _
    exact IntWalk.i64_in _ (by omega)
end Go.Proofs.YtbgjpglnikbflaaDoor
