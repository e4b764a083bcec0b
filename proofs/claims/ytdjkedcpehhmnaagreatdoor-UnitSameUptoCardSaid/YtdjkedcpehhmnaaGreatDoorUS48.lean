import Derived.Deep.LoopGhost
import Derived.Deep.CutRange
import Derived.Test.YtdjkedcpehhmnaaGreatDoorUS33
import Derived.Test.YtdjkedcpehhmnaaGreatDoorUS40
import Derived.Test.YtdjkedcpehhmnaaGreatDoorUS44
import Derived.Test.YtdjkedcpehhmnaaGreatDoorUS47
namespace Go.Proofs.YtdjkedcpehhmnaaGreatDoor
open Go Go.RowKit
set_option linter.unusedVariables false
set_option linter.unusedSimpArgs false
set_option maxRecDepth 100000
theorem and_smallU (x : Int) (m : Nat) (hm : m < 9223372036854775808) : ∃ n : Nat, n ≤ m ∧ bits BinOp.and IntKind.i64 x (m : Int) = (n : Int) := by
 have h1 : (BitVec.ofInt 64 (m : Int)).toNat = m := by
  rw [BitVec.ofInt_natCast, BitVec.toNat_ofNat]; exact Nat.mod_eq_of_lt (by omega)
 have h2 : (BitVec.ofInt 64 x &&& BitVec.ofInt 64 (m : Int)).toNat ≤ m := by
  rw [BitVec.toNat_and, h1]; exact Nat.and_le_right
 refine ⟨_, h2, ?_⟩
 show IntKind.i64.wrap ((BitVec.ofInt 64 x &&& BitVec.ofInt 64 (m : Int)).toNat : Int) = _
 generalize (BitVec.ofInt 64 x &&& BitVec.ofInt 64 (m : Int)).toNat = q at *
 rw [IntKind.wrap_i64]
 omega
end Go.Proofs.YtdjkedcpehhmnaaGreatDoor
