/- The contract of slices.Equal of texts. -/
import Derived.Test.YtnlgmcapbbgelaaGreatDoorRn06
import Derived.Test.YtnlgmcapbbgelaaGreatDoorRn02

namespace Go.Proofs.YtnlgmcapbbgelaaGreatDoor
open Go.RowKit
end Go.Proofs.YtnlgmcapbbgelaaGreatDoor
