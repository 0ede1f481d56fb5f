/- The contracts of legateref14.text and legateref14.Value. -/
import Derived.Test.YtnlgmcapbbgelaaGreatDoorRb19
import Derived.Test.YtnlgmcapbbgelaaGreatDoorRb14
import Derived.Test.YtnlgmcapbbgelaaGreatDoorRb22

namespace Go.Proofs.YtnlgmcapbbgelaaGreatDoor
open Go.RowKit
end Go.Proofs.YtnlgmcapbbgelaaGreatDoor
