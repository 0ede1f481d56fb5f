/- The contracts of key.Find and legateref14.Find. -/
import Derived.Test.YtnlgmcapbbgelaaGreatDoorRx34

namespace Go.Proofs.YtnlgmcapbbgelaaGreatDoor
open Go.RowKit
end Go.Proofs.YtnlgmcapbbgelaaGreatDoor
