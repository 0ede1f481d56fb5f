/- The contracts of key.Find and legateref14.Find. -/
import Derived.Test.YtnlgmcapbbgelaaGreatDoorRn32

namespace Go.Proofs.YtnlgmcapbbgelaaGreatDoor
open Go.RowKit
end Go.Proofs.YtnlgmcapbbgelaaGreatDoor
