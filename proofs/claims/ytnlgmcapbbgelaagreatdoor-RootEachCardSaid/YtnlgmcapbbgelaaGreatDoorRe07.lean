/- The contract of slices.Equal of texts. -/
import Derived.Test.YtnlgmcapbbgelaaGreatDoorRe06
import Derived.Test.YtnlgmcapbbgelaaGreatDoorRe02

namespace Go.Proofs.YtnlgmcapbbgelaaGreatDoor
open Go.RowKit
end Go.Proofs.YtnlgmcapbbgelaaGreatDoor
