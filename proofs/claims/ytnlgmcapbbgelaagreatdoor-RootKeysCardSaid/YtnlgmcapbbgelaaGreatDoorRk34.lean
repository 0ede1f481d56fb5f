/- The contracts of legateref14.text and legateref14.Value. -/
import Derived.Test.YtnlgmcapbbgelaaGreatDoorRk19
import Derived.Test.YtnlgmcapbbgelaaGreatDoorRk14
import Derived.Test.YtnlgmcapbbgelaaGreatDoorRk22

namespace Go.Proofs.YtnlgmcapbbgelaaGreatDoor
open Go.RowKit
end Go.Proofs.YtnlgmcapbbgelaaGreatDoor
