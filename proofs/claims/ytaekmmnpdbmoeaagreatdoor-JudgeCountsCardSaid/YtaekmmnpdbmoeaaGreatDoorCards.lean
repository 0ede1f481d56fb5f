/-
  DERIVED. GIVEN WITH THE SEED: THE CARDS: each row of YtaekmmnpdbmoeaaGreatDoorRows.lean that lists a variable, with what it lists TIED to the program's text (the seventh form; the later family's looks); each row that meets fmt, with fmt's text TOLD by the authors' own Lean function (tested against real Go, not proved from fmt's source: count such statements apart). THE CARD IS WHAT COUNTS. Prove the row's statement (the work); the ties are given (YtaekmmnpdbmoeaaGreatDoorTie.lean); close each card by the builder's one call (the guide's Derived/Test/ToyasCard.lean, 'card_holds'). Laid BY PROGRAM, IN A SANDBOX (cutbox-door.mjs). By AI agents, Wed Nov 11 2026. No macro, syntax, notation, axiom, sorry.
-/
import Derived.Test.YtaekmmnpdbmoeaaGreatDoorRows
import GoSem.ClaimSeven
namespace Go.Proofs.YtaekmmnpdbmoeaaGreatDoor
namespace Rows

/-- THE TIED CARD OF 'legatelaw17.JudgeGood'. -/
def judgeGoodCard : Claim7 := { stood := { row := judgeGoodRow, standIns := [], harness := (true, "c0ebaf668c9b2d42568b72f8247d468ecc90b570ce159a2c80b8282ad23d1da5"), looks := false }, kinds := [], alts := [], laidByText := true, laidKinds := [.data, .data, .data, .data, .data, .data], laidTests := true, laidLooks := .later }
def JudgeGoodCardSaid : Prop := Claim7.holds Tryz.pinned (.plain (OpenSpec.ofChange judgeGoodSpec)) judgeGoodCard

/-- THE TIED CARD OF 'legatelaw17.JudgeCounts'. -/
def judgeCountsCard : Claim7 := { stood := { row := judgeCountsRow, standIns := [], harness := (true, "c0ebaf668c9b2d42568b72f8247d468ecc90b570ce159a2c80b8282ad23d1da5"), looks := false }, kinds := [], alts := [], laidByText := true, laidKinds := [.data, .data, .data, .data, .data, .data], laidTests := true, laidLooks := .later }
def JudgeCountsCardSaid : Prop := Claim7.holds Tryz.pinned (.plain (OpenSpec.ofChange judgeCountsSpec)) judgeCountsCard

/-- THE TIED CARD OF 'legatelaw17.JudgeNames'. -/
def judgeNamesCard : Claim7 := { stood := { row := judgeNamesRow, standIns := [], harness := (true, "c0ebaf668c9b2d42568b72f8247d468ecc90b570ce159a2c80b8282ad23d1da5"), looks := false }, kinds := [], alts := [], laidByText := true, laidKinds := [.data, .data, .data, .data, .data, .data], laidTests := true, laidLooks := .later }
def JudgeNamesCardSaid : Prop := Claim7.holds Tryz.pinned (.plain (OpenSpec.ofChange judgeNamesSpec)) judgeNamesCard

/-- THE TIED CARD OF 'legatelaw17.JudgeEnough'. -/
def judgeEnoughCard : Claim7 := { stood := { row := judgeEnoughRow, standIns := [], harness := (true, "c0ebaf668c9b2d42568b72f8247d468ecc90b570ce159a2c80b8282ad23d1da5"), looks := false }, kinds := [], alts := [], laidByText := true, laidKinds := [.data, .data, .data, .data, .data, .data], laidTests := true, laidLooks := .later }
def JudgeEnoughCardSaid : Prop := Claim7.holds Tryz.pinned (.plain (OpenSpec.ofChange judgeEnoughSpec)) judgeEnoughCard

/-- THE TIED CARD OF 'legatelaw17.JudgeRows'. -/
def judgeRowsCard : Claim7 := { stood := { row := judgeRowsRow, standIns := [], harness := (true, "c0ebaf668c9b2d42568b72f8247d468ecc90b570ce159a2c80b8282ad23d1da5"), looks := false }, kinds := [], alts := [], laidByText := true, laidKinds := [.data, .data, .data, .data, .data, .data], laidTests := true, laidLooks := .later }
def JudgeRowsCardSaid : Prop := Claim7.holds Tryz.pinned (.plain (OpenSpec.ofChange judgeRowsSpec)) judgeRowsCard

/-- THE TIED CARD OF 'legatelaw17.JudgeTable'. -/
def judgeTableCard : Claim7 := { stood := { row := judgeTableRow, standIns := [], harness := (true, "c0ebaf668c9b2d42568b72f8247d468ecc90b570ce159a2c80b8282ad23d1da5"), looks := false }, kinds := [], alts := [], laidByText := true, laidKinds := [.data, .data, .data, .data, .data, .data], laidTests := true, laidLooks := .later }
def JudgeTableCardSaid : Prop := Claim7.holds Tryz.pinned (.plain (OpenSpec.ofChange judgeTableSpec)) judgeTableCard

/-- THE TIED CARD OF 'legatelaw17.JudgeApart'. -/
def judgeApartCard : Claim7 := { stood := { row := judgeApartRow, standIns := [], harness := (true, "c0ebaf668c9b2d42568b72f8247d468ecc90b570ce159a2c80b8282ad23d1da5"), looks := false }, kinds := [], alts := [], laidByText := true, laidKinds := [.data, .data, .data, .data, .data, .data], laidTests := true, laidLooks := .later }
def JudgeApartCardSaid : Prop := Claim7.holds Tryz.pinned (.plain (OpenSpec.ofChange judgeApartSpec)) judgeApartCard

/-- THE TIED CARD OF 'legatelaw17.JudgeMore'. -/
def judgeMoreCard : Claim7 := { stood := { row := judgeMoreRow, standIns := [], harness := (true, "c0ebaf668c9b2d42568b72f8247d468ecc90b570ce159a2c80b8282ad23d1da5"), looks := false }, kinds := [], alts := [], laidByText := true, laidKinds := [.data, .data, .data, .data, .data, .data], laidTests := true, laidLooks := .later }
def JudgeMoreCardSaid : Prop := Claim7.holds Tryz.pinned (.plain (OpenSpec.ofChange judgeMoreSpec)) judgeMoreCard

/-- THE TIED CARD OF 'legatelaw17.JudgeWho'. -/
def judgeWhoCard : Claim7 := { stood := { row := judgeWhoRow, standIns := [], harness := (true, "c0ebaf668c9b2d42568b72f8247d468ecc90b570ce159a2c80b8282ad23d1da5"), looks := false }, kinds := [], alts := [], laidByText := true, laidKinds := [.data, .data, .data, .data, .data, .data], laidTests := true, laidLooks := .later }
def JudgeWhoCardSaid : Prop := Claim7.holds Tryz.pinned (.plain (OpenSpec.ofChange judgeWhoSpec)) judgeWhoCard

/-- THE SECOND FORM's CARD OF 'legatelaw17.JudgeGood'. -/
def judgeGoodUptoCard : Claim7 := { stood := { row := judgeGoodUptoRow, standIns := [], harness := (true, "c0ebaf668c9b2d42568b72f8247d468ecc90b570ce159a2c80b8282ad23d1da5"), looks := false }, kinds := [], alts := [], laidByText := true, laidKinds := [.data, .data, .data, .data, .data, .data], laidTests := true, laidLooks := .later }
def JudgeGoodUptoCardSaid : Prop := Claim7.holds Tryz.pinned (.plain (OpenSpec.upto judgeGoodSpec)) judgeGoodUptoCard

/-- THE SECOND FORM's CARD OF 'legatelaw17.JudgeCounts'. -/
def judgeCountsUptoCard : Claim7 := { stood := { row := judgeCountsUptoRow, standIns := [], harness := (true, "c0ebaf668c9b2d42568b72f8247d468ecc90b570ce159a2c80b8282ad23d1da5"), looks := false }, kinds := [], alts := [], laidByText := true, laidKinds := [.data, .data, .data, .data, .data, .data], laidTests := true, laidLooks := .later }
def JudgeCountsUptoCardSaid : Prop := Claim7.holds Tryz.pinned (.plain (OpenSpec.upto judgeCountsSpec)) judgeCountsUptoCard

/-- THE SECOND FORM's CARD OF 'legatelaw17.JudgeNames'. -/
def judgeNamesUptoCard : Claim7 := { stood := { row := judgeNamesUptoRow, standIns := [], harness := (true, "c0ebaf668c9b2d42568b72f8247d468ecc90b570ce159a2c80b8282ad23d1da5"), looks := false }, kinds := [], alts := [], laidByText := true, laidKinds := [.data, .data, .data, .data, .data, .data], laidTests := true, laidLooks := .later }
def JudgeNamesUptoCardSaid : Prop := Claim7.holds Tryz.pinned (.plain (OpenSpec.upto judgeNamesSpec)) judgeNamesUptoCard

/-- THE SECOND FORM's CARD OF 'legatelaw17.JudgeEnough'. -/
def judgeEnoughUptoCard : Claim7 := { stood := { row := judgeEnoughUptoRow, standIns := [], harness := (true, "c0ebaf668c9b2d42568b72f8247d468ecc90b570ce159a2c80b8282ad23d1da5"), looks := false }, kinds := [], alts := [], laidByText := true, laidKinds := [.data, .data, .data, .data, .data, .data], laidTests := true, laidLooks := .later }
def JudgeEnoughUptoCardSaid : Prop := Claim7.holds Tryz.pinned (.plain (OpenSpec.upto judgeEnoughSpec)) judgeEnoughUptoCard

/-- THE SECOND FORM's CARD OF 'legatelaw17.JudgeRows'. -/
def judgeRowsUptoCard : Claim7 := { stood := { row := judgeRowsUptoRow, standIns := [], harness := (true, "c0ebaf668c9b2d42568b72f8247d468ecc90b570ce159a2c80b8282ad23d1da5"), looks := false }, kinds := [], alts := [], laidByText := true, laidKinds := [.data, .data, .data, .data, .data, .data], laidTests := true, laidLooks := .later }
def JudgeRowsUptoCardSaid : Prop := Claim7.holds Tryz.pinned (.plain (OpenSpec.upto judgeRowsSpec)) judgeRowsUptoCard

/-- THE SECOND FORM's CARD OF 'legatelaw17.JudgeTable'. -/
def judgeTableUptoCard : Claim7 := { stood := { row := judgeTableUptoRow, standIns := [], harness := (true, "c0ebaf668c9b2d42568b72f8247d468ecc90b570ce159a2c80b8282ad23d1da5"), looks := false }, kinds := [], alts := [], laidByText := true, laidKinds := [.data, .data, .data, .data, .data, .data], laidTests := true, laidLooks := .later }
def JudgeTableUptoCardSaid : Prop := Claim7.holds Tryz.pinned (.plain (OpenSpec.upto judgeTableSpec)) judgeTableUptoCard

/-- THE SECOND FORM's CARD OF 'legatelaw17.JudgeApart'. -/
def judgeApartUptoCard : Claim7 := { stood := { row := judgeApartUptoRow, standIns := [], harness := (true, "c0ebaf668c9b2d42568b72f8247d468ecc90b570ce159a2c80b8282ad23d1da5"), looks := false }, kinds := [], alts := [], laidByText := true, laidKinds := [.data, .data, .data, .data, .data, .data], laidTests := true, laidLooks := .later }
def JudgeApartUptoCardSaid : Prop := Claim7.holds Tryz.pinned (.plain (OpenSpec.upto judgeApartSpec)) judgeApartUptoCard

/-- THE SECOND FORM's CARD OF 'legatelaw17.JudgeMore'. -/
def judgeMoreUptoCard : Claim7 := { stood := { row := judgeMoreUptoRow, standIns := [], harness := (true, "c0ebaf668c9b2d42568b72f8247d468ecc90b570ce159a2c80b8282ad23d1da5"), looks := false }, kinds := [], alts := [], laidByText := true, laidKinds := [.data, .data, .data, .data, .data, .data], laidTests := true, laidLooks := .later }
def JudgeMoreUptoCardSaid : Prop := Claim7.holds Tryz.pinned (.plain (OpenSpec.upto judgeMoreSpec)) judgeMoreUptoCard

/-- THE SECOND FORM's CARD OF 'legatelaw17.JudgeWho'. -/
def judgeWhoUptoCard : Claim7 := { stood := { row := judgeWhoUptoRow, standIns := [], harness := (true, "c0ebaf668c9b2d42568b72f8247d468ecc90b570ce159a2c80b8282ad23d1da5"), looks := false }, kinds := [], alts := [], laidByText := true, laidKinds := [.data, .data, .data, .data, .data, .data], laidTests := true, laidLooks := .later }
def JudgeWhoUptoCardSaid : Prop := Claim7.holds Tryz.pinned (.plain (OpenSpec.upto judgeWhoSpec)) judgeWhoUptoCard
end Rows
end Go.Proofs.YtaekmmnpdbmoeaaGreatDoor
