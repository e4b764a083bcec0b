import Derived.Deep.LoopGhost
import Derived.Lib.SmallJoins
import Derived.IntWalk
import Derived.Test.YtmgmbeipbeknaaaGreatDoorRF8
import Derived.Test.YtmgmbeipbeknaaaGreatDoorRF9
import Derived.Test.YtmgmbeipbeknaaaGreatDoorRF10
namespace Go.Proofs.YtmgmbeipbeknaaaGreatDoor
open Go Go.RowKit
set_option linter.unusedVariables false
set_option linter.unusedSimpArgs false
set_option maxHeartbeats 16000000
set_option maxRecDepth 100000
end Go.Proofs.YtmgmbeipbeknaaaGreatDoor
