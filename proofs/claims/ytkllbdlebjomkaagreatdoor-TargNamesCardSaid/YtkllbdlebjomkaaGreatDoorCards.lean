/-
  DERIVED. GIVEN WITH THE SEED: THE CARDS: each row of YtkllbdlebjomkaaGreatDoorRows.lean that lists a variable, with what it lists TIED to the program's text (the seventh form; the later family's looks); each row that meets fmt, with fmt's text TOLD by the authors' own Lean function (tested against real Go, not proved from fmt's source: count such statements apart). THE CARD IS WHAT COUNTS. Prove the row's statement (the work); the ties are given (YtkllbdlebjomkaaGreatDoorTie.lean); close each card by the builder's one call (the guide's Derived/Test/ToyasCard.lean, 'card_holds'). Laid BY PROGRAM, IN A SANDBOX (cutbox-door.mjs). By AI agents, Wed Nov 11 2026. No macro, syntax, notation, axiom, sorry.
-/
import Derived.Test.YtkllbdlebjomkaaGreatDoorRows
import GoSem.ClaimSeven
namespace Go.Proofs.YtkllbdlebjomkaaGreatDoor
namespace Rows

/-- THE TIED CARD OF 'legatelaw24.TargNames'. -/
def targNamesCard : Claim7 := { stood := { row := targNamesRow, standIns := [], harness := (true, "333ec0f7ed5a1bfc87375c20152c9e1c0eb1f29da9843fe1abade7ae73cc0b35"), looks := false }, kinds := [], alts := [], laidByText := true, laidKinds := [.data, .data, .data, .data, .data, .data, .data], laidTests := true, laidLooks := .later }
def TargNamesCardSaid : Prop := Claim7.holds Tryz.pinned (.plain (OpenSpec.ofChange targNamesSpec)) targNamesCard

/-- THE SECOND FORM's CARD OF 'legatelaw24.TargNames'. -/
def targNamesUptoCard : Claim7 := { stood := { row := targNamesUptoRow, standIns := [], harness := (true, "333ec0f7ed5a1bfc87375c20152c9e1c0eb1f29da9843fe1abade7ae73cc0b35"), looks := false }, kinds := [], alts := [], laidByText := true, laidKinds := [.data, .data, .data, .data, .data, .data, .data], laidTests := true, laidLooks := .later }
def TargNamesUptoCardSaid : Prop := Claim7.holds Tryz.pinned (.plain (OpenSpec.upto targNamesSpec)) targNamesUptoCard
end Rows
end Go.Proofs.YtkllbdlebjomkaaGreatDoor
