/- The contracts of legateref14.text and legateref14.Value. -/
import Derived.Test.YtnlgmcapbbgelaaGreatDoorRn19
import Derived.Test.YtnlgmcapbbgelaaGreatDoorRn22

namespace Go.Proofs.YtnlgmcapbbgelaaGreatDoor
open Go.RowKit
end Go.Proofs.YtnlgmcapbbgelaaGreatDoor
