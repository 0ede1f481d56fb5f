/- The contracts of legateref14.text and legateref14.Value. -/
import Derived.Test.YthgembbgcbaghaaGreatDoorDr21
import Derived.Test.YthgembbgcbaghaaGreatDoorDr27

namespace Go.Proofs.YthgembbgcbaghaaGreatDoor
open Go.RowKit
end Go.Proofs.YthgembbgcbaghaaGreatDoor
