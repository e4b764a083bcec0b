/-
  UnitMake: any lines as a unit of any name, or what is wrong first, and where.
  Condition: what the arguments hold is together of bulk at most 1048576 (the second form). The card ties the two tables of package utf8 that the row lists.
-/
import Derived.Test.YtgoooebfhdbbkaaGreatDoorCards
import Derived.Test.YtgoooebfhdbbkaaGreatDoorTie
import Derived.SevenTiedAt
import Derived.Test.YtgoooebfhdbbkaaGreatDoorUM3
import Derived.Test.YtgoooebfhdbbkaaGreatDoorUM51
namespace Go.Proofs.YtgoooebfhdbbkaaGreatDoor.lawUnitMake
open Go Go.RowKit Go.ChangeShapes Go.WideShapes Go.ChangeAt
open Go.ChangeMaps (open_string shut_string)
set_option linter.unusedVariables false
set_option maxRecDepth 100000
theorem proved:Rows.UnitMakeUptoCardSaid:=
 Claim7.holds_tied_plain_at .later [] _ _ _ _ said (fun _ h=>by cases h) (by kernel_rfl) (fun _ h=>by cases h) unitMakeUpto_row_tie rfl ⟨rfl,rfl⟩ (by kernel_rfl) rfl
  (ZoZ (by kernel_rfl) Tryz.func3 (by kernel_rfl) [9,22] (by rw [Tryz.params3]) (by kernel_rfl)) (ZnS (by kernel_rfl) _)
end Go.Proofs.YtgoooebfhdbbkaaGreatDoor.lawUnitMake
