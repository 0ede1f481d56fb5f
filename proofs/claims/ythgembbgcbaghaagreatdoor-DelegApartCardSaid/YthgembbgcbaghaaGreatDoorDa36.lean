/- The contracts of legateref14.text and legateref14.Value. -/
import Derived.Test.YthgembbgcbaghaaGreatDoorDa21
import Derived.Test.YthgembbgcbaghaaGreatDoorDa27

namespace Go.Proofs.YthgembbgcbaghaaGreatDoor
open Go.RowKit
end Go.Proofs.YthgembbgcbaghaaGreatDoor
