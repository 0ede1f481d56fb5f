import Derived.Test.YtkllbdlebjomkaaGreatDoorTn28
set_option maxRecDepth 100000

namespace Go.Proofs.YtkllbdlebjomkaaGreatDoor.targNames
open Go.ChangeShapes Go.WideShapes Go.ChangeAt Go.RowKit Go.Joins
theorem facts:joinedFacts Tryz.prog 3 Tryz.f3 (OpenSpec.ofChange Rows.targNamesSpec).bare Rows.targNamesRow=true:=by kernel_rfl
end Go.Proofs.YtkllbdlebjomkaaGreatDoor.targNames
