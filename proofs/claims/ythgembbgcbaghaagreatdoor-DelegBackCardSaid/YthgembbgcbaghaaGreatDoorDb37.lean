/- The contracts of legateref14.text and legateref14.Value. -/
import Derived.Test.YthgembbgcbaghaaGreatDoorDb21
import Derived.Test.YthgembbgcbaghaaGreatDoorDb27

namespace Go.Proofs.YthgembbgcbaghaaGreatDoor
open Go.RowKit
end Go.Proofs.YthgembbgcbaghaaGreatDoor
