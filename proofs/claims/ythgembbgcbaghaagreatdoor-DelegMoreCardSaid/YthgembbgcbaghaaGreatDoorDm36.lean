/- The contracts of legateref14.text and legateref14.Value. -/
import Derived.Test.YthgembbgcbaghaaGreatDoorDm21
import Derived.Test.YthgembbgcbaghaaGreatDoorDm27

namespace Go.Proofs.YthgembbgcbaghaaGreatDoor
open Go.RowKit
end Go.Proofs.YthgembbgcbaghaaGreatDoor
