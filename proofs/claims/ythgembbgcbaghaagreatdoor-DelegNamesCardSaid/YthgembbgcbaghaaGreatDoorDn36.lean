import Derived.Test.YthgembbgcbaghaaGreatDoorDn23

namespace Go.Proofs.YthgembbgcbaghaaGreatDoor
open Go.RowKit
