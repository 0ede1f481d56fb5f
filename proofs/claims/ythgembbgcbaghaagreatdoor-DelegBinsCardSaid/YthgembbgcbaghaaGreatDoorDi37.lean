/- The contracts of legateref14.text and legateref14.Value. -/
import Derived.Test.YthgembbgcbaghaaGreatDoorDi21
import Derived.Test.YthgembbgcbaghaaGreatDoorDi27

namespace Go.Proofs.YthgembbgcbaghaaGreatDoor
open Go.RowKit
end Go.Proofs.YthgembbgcbaghaaGreatDoor
