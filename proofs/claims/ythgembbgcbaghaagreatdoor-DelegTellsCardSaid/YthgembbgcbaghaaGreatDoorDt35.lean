import Derived.Test.YthgembbgcbaghaaGreatDoorDt30
set_option maxRecDepth 100000

namespace Go.Proofs.YthgembbgcbaghaaGreatDoor.delegTells
open Go.ChangeShapes Go.WideShapes Go.ChangeAt Go.RowKit Go.Joins
theorem facts:joinedFacts Tryz.prog 9 Tryz.f9 (OpenSpec.ofChange Rows.delegTellsSpec).bare Rows.delegTellsRow=true:=by kernel_rfl
end Go.Proofs.YthgembbgcbaghaaGreatDoor.delegTells
