import Derived.Deep.LoopGhost
import Derived.Lib.SmallJoins
import Derived.IntWalk
import Derived.Test.YtdjkedcpehhmnaaGreatDoorUS6
import Derived.Test.YtdjkedcpehhmnaaGreatDoorUS9
import Derived.Test.YtdjkedcpehhmnaaGreatDoorUS10
namespace Go.Proofs.YtdjkedcpehhmnaaGreatDoor
open Go Go.RowKit
set_option linter.unusedVariables false
set_option maxRecDepth 100000
set_option linter.unusedSimpArgs false
end Go.Proofs.YtdjkedcpehhmnaaGreatDoor
