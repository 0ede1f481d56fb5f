/-
  DERIVED. GIVEN WITH THE SEED: THE CARDS: each row of YtnlgmcapbbgelaaGreatDoorRows.lean that lists a variable, with what it lists TIED to the program's text (the seventh form; the later family's looks); each row that meets fmt, with fmt's text TOLD by the authors' own Lean function (tested against real Go, not proved from fmt's source: count such statements apart). THE CARD IS WHAT COUNTS. Prove the row's statement (the work); the ties are given (YtnlgmcapbbgelaaGreatDoorTie.lean); close each card by the builder's one call (the guide's Derived/Test/ToyasCard.lean, 'card_holds'). Laid BY PROGRAM, IN A SANDBOX (cutbox-door.mjs). By AI agents, Wed Nov 11 2026. No macro, syntax, notation, axiom, sorry.
-/
import Derived.Test.YtnlgmcapbbgelaaGreatDoorRows
import GoSem.ClaimSeven
namespace Go.Proofs.YtnlgmcapbbgelaaGreatDoor
namespace Rows

/-- THE TIED CARD OF 'legatelaw22.RootReads'. -/
def rootReadsCard : Claim7 := { stood := { row := rootReadsRow, standIns := [], harness := (true, "e6c454868544d65369a0ccf16e94485133aa260d62499ddedef89bc9ab2c71bc"), looks := false }, kinds := [], alts := [], laidByText := true, laidKinds := [.data, .data, .data, .data, .data, .data, .data, .data], laidTests := true, laidLooks := .later }
def RootReadsCardSaid : Prop := Claim7.holds Tryz.pinned (.plain (OpenSpec.ofChange rootReadsSpec)) rootReadsCard

/-- THE TIED CARD OF 'legatelaw22.RootNames'. -/
def rootNamesCard : Claim7 := { stood := { row := rootNamesRow, standIns := [], harness := (true, "e6c454868544d65369a0ccf16e94485133aa260d62499ddedef89bc9ab2c71bc"), looks := false }, kinds := [], alts := [], laidByText := true, laidKinds := [.data, .data, .data, .data, .data, .data, .data, .data], laidTests := true, laidLooks := .later }
def RootNamesCardSaid : Prop := Claim7.holds Tryz.pinned (.plain (OpenSpec.ofChange rootNamesSpec)) rootNamesCard

/-- THE TIED CARD OF 'legatelaw22.RootEach'. -/
def rootEachCard : Claim7 := { stood := { row := rootEachRow, standIns := [], harness := (true, "e6c454868544d65369a0ccf16e94485133aa260d62499ddedef89bc9ab2c71bc"), looks := false }, kinds := [], alts := [], laidByText := true, laidKinds := [.data, .data, .data, .data, .data, .data, .data, .data], laidTests := true, laidLooks := .later }
def RootEachCardSaid : Prop := Claim7.holds Tryz.pinned (.plain (OpenSpec.ofChange rootEachSpec)) rootEachCard

/-- THE TIED CARD OF 'legatelaw22.RootNothing'. -/
def rootNothingCard : Claim7 := { stood := { row := rootNothingRow, standIns := [], harness := (true, "e6c454868544d65369a0ccf16e94485133aa260d62499ddedef89bc9ab2c71bc"), looks := false }, kinds := [], alts := [], laidByText := true, laidKinds := [.data, .data, .data, .data, .data, .data, .data, .data], laidTests := true, laidLooks := .later }
def RootNothingCardSaid : Prop := Claim7.holds Tryz.pinned (.plain (OpenSpec.ofChange rootNothingSpec)) rootNothingCard

/-- THE TIED CARD OF 'legatelaw22.RootTells'. -/
def rootTellsCard : Claim7 := { stood := { row := rootTellsRow, standIns := [], harness := (true, "e6c454868544d65369a0ccf16e94485133aa260d62499ddedef89bc9ab2c71bc"), looks := false }, kinds := [], alts := [], laidByText := true, laidKinds := [.data, .data, .data, .data, .data, .data, .data, .data], laidTests := true, laidLooks := .later }
def RootTellsCardSaid : Prop := Claim7.holds Tryz.pinned (.plain (OpenSpec.ofChange rootTellsSpec)) rootTellsCard

/-- THE TIED CARD OF 'legatelaw22.RootBack'. -/
def rootBackCard : Claim7 := { stood := { row := rootBackRow, standIns := [], harness := (true, "e6c454868544d65369a0ccf16e94485133aa260d62499ddedef89bc9ab2c71bc"), looks := false }, kinds := [], alts := [], laidByText := true, laidKinds := [.data, .data, .data, .data, .data, .data, .data, .data], laidTests := true, laidLooks := .later }
def RootBackCardSaid : Prop := Claim7.holds Tryz.pinned (.plain (OpenSpec.ofChange rootBackSpec)) rootBackCard

/-- THE TIED CARD OF 'legatelaw22.RootKeys'. -/
def rootKeysCard : Claim7 := { stood := { row := rootKeysRow, standIns := [], harness := (true, "e6c454868544d65369a0ccf16e94485133aa260d62499ddedef89bc9ab2c71bc"), looks := false }, kinds := [], alts := [], laidByText := true, laidKinds := [.data, .data, .data, .data, .data, .data, .data, .data], laidTests := true, laidLooks := .later }
def RootKeysCardSaid : Prop := Claim7.holds Tryz.pinned (.plain (OpenSpec.ofChange rootKeysSpec)) rootKeysCard

/-- THE SECOND FORM's CARD OF 'legatelaw22.RootReads'. -/
def rootReadsUptoCard : Claim7 := { stood := { row := rootReadsUptoRow, standIns := [], harness := (true, "e6c454868544d65369a0ccf16e94485133aa260d62499ddedef89bc9ab2c71bc"), looks := false }, kinds := [], alts := [], laidByText := true, laidKinds := [.data, .data, .data, .data, .data, .data, .data, .data], laidTests := true, laidLooks := .later }
def RootReadsUptoCardSaid : Prop := Claim7.holds Tryz.pinned (.plain (OpenSpec.upto rootReadsSpec)) rootReadsUptoCard

/-- THE SECOND FORM's CARD OF 'legatelaw22.RootNames'. -/
def rootNamesUptoCard : Claim7 := { stood := { row := rootNamesUptoRow, standIns := [], harness := (true, "e6c454868544d65369a0ccf16e94485133aa260d62499ddedef89bc9ab2c71bc"), looks := false }, kinds := [], alts := [], laidByText := true, laidKinds := [.data, .data, .data, .data, .data, .data, .data, .data], laidTests := true, laidLooks := .later }
def RootNamesUptoCardSaid : Prop := Claim7.holds Tryz.pinned (.plain (OpenSpec.upto rootNamesSpec)) rootNamesUptoCard

/-- THE SECOND FORM's CARD OF 'legatelaw22.RootEach'. -/
def rootEachUptoCard : Claim7 := { stood := { row := rootEachUptoRow, standIns := [], harness := (true, "e6c454868544d65369a0ccf16e94485133aa260d62499ddedef89bc9ab2c71bc"), looks := false }, kinds := [], alts := [], laidByText := true, laidKinds := [.data, .data, .data, .data, .data, .data, .data, .data], laidTests := true, laidLooks := .later }
def RootEachUptoCardSaid : Prop := Claim7.holds Tryz.pinned (.plain (OpenSpec.upto rootEachSpec)) rootEachUptoCard

/-- THE SECOND FORM's CARD OF 'legatelaw22.RootNothing'. -/
def rootNothingUptoCard : Claim7 := { stood := { row := rootNothingUptoRow, standIns := [], harness := (true, "e6c454868544d65369a0ccf16e94485133aa260d62499ddedef89bc9ab2c71bc"), looks := false }, kinds := [], alts := [], laidByText := true, laidKinds := [.data, .data, .data, .data, .data, .data, .data, .data], laidTests := true, laidLooks := .later }
def RootNothingUptoCardSaid : Prop := Claim7.holds Tryz.pinned (.plain (OpenSpec.upto rootNothingSpec)) rootNothingUptoCard

/-- THE SECOND FORM's CARD OF 'legatelaw22.RootTells'. -/
def rootTellsUptoCard : Claim7 := { stood := { row := rootTellsUptoRow, standIns := [], harness := (true, "e6c454868544d65369a0ccf16e94485133aa260d62499ddedef89bc9ab2c71bc"), looks := false }, kinds := [], alts := [], laidByText := true, laidKinds := [.data, .data, .data, .data, .data, .data, .data, .data], laidTests := true, laidLooks := .later }
def RootTellsUptoCardSaid : Prop := Claim7.holds Tryz.pinned (.plain (OpenSpec.upto rootTellsSpec)) rootTellsUptoCard

/-- THE SECOND FORM's CARD OF 'legatelaw22.RootBack'. -/
def rootBackUptoCard : Claim7 := { stood := { row := rootBackUptoRow, standIns := [], harness := (true, "e6c454868544d65369a0ccf16e94485133aa260d62499ddedef89bc9ab2c71bc"), looks := false }, kinds := [], alts := [], laidByText := true, laidKinds := [.data, .data, .data, .data, .data, .data, .data, .data], laidTests := true, laidLooks := .later }
def RootBackUptoCardSaid : Prop := Claim7.holds Tryz.pinned (.plain (OpenSpec.upto rootBackSpec)) rootBackUptoCard

/-- THE SECOND FORM's CARD OF 'legatelaw22.RootKeys'. -/
def rootKeysUptoCard : Claim7 := { stood := { row := rootKeysUptoRow, standIns := [], harness := (true, "e6c454868544d65369a0ccf16e94485133aa260d62499ddedef89bc9ab2c71bc"), looks := false }, kinds := [], alts := [], laidByText := true, laidKinds := [.data, .data, .data, .data, .data, .data, .data, .data], laidTests := true, laidLooks := .later }
def RootKeysUptoCardSaid : Prop := Claim7.holds Tryz.pinned (.plain (OpenSpec.upto rootKeysSpec)) rootKeysUptoCard
end Rows
end Go.Proofs.YtnlgmcapbbgelaaGreatDoor
