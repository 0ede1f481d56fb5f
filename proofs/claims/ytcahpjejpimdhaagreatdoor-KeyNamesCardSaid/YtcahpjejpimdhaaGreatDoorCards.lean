/-
  DERIVED. GIVEN WITH THE SEED: THE CARDS: each row of YtcahpjejpimdhaaGreatDoorRows.lean that lists a variable, with what it lists TIED to the program's text (the seventh form; the later family's looks); each row that meets fmt, with fmt's text TOLD by the authors' own Lean function (tested against real Go, not proved from fmt's source: count such statements apart). THE CARD IS WHAT COUNTS. Prove the row's statement (the work); the ties are given (YtcahpjejpimdhaaGreatDoorTie.lean); close each card by the builder's one call (the guide's Derived/Test/ToyasCard.lean, 'card_holds'). Laid BY PROGRAM, IN A SANDBOX (cutbox-door.mjs). By AI agents, Wed Nov 11 2026. No macro, syntax, notation, axiom, sorry.
-/
import Derived.Test.YtcahpjejpimdhaaGreatDoorRows
import GoSem.ClaimSeven
namespace Go.Proofs.YtcahpjejpimdhaaGreatDoor
namespace Rows

/-- THE TIED CARD OF 'legatelaw14.KeyTells'. -/
def keyTellsCard : Claim7 := { stood := { row := keyTellsRow, standIns := [], harness := (true, "5d00c22e3fcebc7013ca05569eb87b75099a43bb55b0addbdc76135edadc6b32"), looks := false }, kinds := [], alts := [], laidByText := true, laidKinds := [.data, .data, .data, .data, .data, .data], laidTests := true, laidLooks := .later }
def KeyTellsCardSaid : Prop := Claim7.holds Tryz.pinned (.plain (OpenSpec.ofChange keyTellsSpec)) keyTellsCard

/-- THE TIED CARD OF 'legatelaw14.KeyReads'. -/
def keyReadsCard : Claim7 := { stood := { row := keyReadsRow, standIns := [], harness := (true, "5d00c22e3fcebc7013ca05569eb87b75099a43bb55b0addbdc76135edadc6b32"), looks := false }, kinds := [], alts := [], laidByText := true, laidKinds := [.data, .data, .data, .data, .data, .data], laidTests := true, laidLooks := .later }
def KeyReadsCardSaid : Prop := Claim7.holds Tryz.pinned (.plain (OpenSpec.ofChange keyReadsSpec)) keyReadsCard

/-- THE TIED CARD OF 'legatelaw14.KeyForm'. -/
def keyFormCard : Claim7 := { stood := { row := keyFormRow, standIns := [], harness := (true, "5d00c22e3fcebc7013ca05569eb87b75099a43bb55b0addbdc76135edadc6b32"), looks := false }, kinds := [], alts := [], laidByText := true, laidKinds := [.data, .data, .data, .data, .data, .data], laidTests := true, laidLooks := .later }
def KeyFormCardSaid : Prop := Claim7.holds Tryz.pinned (.plain (OpenSpec.ofChange keyFormSpec)) keyFormCard

/-- THE TIED CARD OF 'legatelaw14.KeyFinds'. -/
def keyFindsCard : Claim7 := { stood := { row := keyFindsRow, standIns := [], harness := (true, "5d00c22e3fcebc7013ca05569eb87b75099a43bb55b0addbdc76135edadc6b32"), looks := false }, kinds := [], alts := [], laidByText := true, laidKinds := [.data, .data, .data, .data, .data, .data], laidTests := true, laidLooks := .later }
def KeyFindsCardSaid : Prop := Claim7.holds Tryz.pinned (.plain (OpenSpec.ofChange keyFindsSpec)) keyFindsCard

/-- THE TIED CARD OF 'legatelaw14.KeyUnlike'. -/
def keyUnlikeCard : Claim7 := { stood := { row := keyUnlikeRow, standIns := [], harness := (true, "5d00c22e3fcebc7013ca05569eb87b75099a43bb55b0addbdc76135edadc6b32"), looks := false }, kinds := [], alts := [], laidByText := true, laidKinds := [.data, .data, .data, .data, .data, .data], laidTests := true, laidLooks := .later }
def KeyUnlikeCardSaid : Prop := Claim7.holds Tryz.pinned (.plain (OpenSpec.ofChange keyUnlikeSpec)) keyUnlikeCard

/-- THE TIED CARD OF 'legatelaw14.KeyRows'. -/
def keyRowsCard : Claim7 := { stood := { row := keyRowsRow, standIns := [], harness := (true, "5d00c22e3fcebc7013ca05569eb87b75099a43bb55b0addbdc76135edadc6b32"), looks := false }, kinds := [], alts := [], laidByText := true, laidKinds := [.data, .data, .data, .data, .data, .data], laidTests := true, laidLooks := .later }
def KeyRowsCardSaid : Prop := Claim7.holds Tryz.pinned (.plain (OpenSpec.ofChange keyRowsSpec)) keyRowsCard

/-- THE TIED CARD OF 'legatelaw14.KeyTables'. -/
def keyTablesCard : Claim7 := { stood := { row := keyTablesRow, standIns := [], harness := (true, "5d00c22e3fcebc7013ca05569eb87b75099a43bb55b0addbdc76135edadc6b32"), looks := false }, kinds := [], alts := [], laidByText := true, laidKinds := [.data, .data, .data, .data, .data, .data], laidTests := true, laidLooks := .later }
def KeyTablesCardSaid : Prop := Claim7.holds Tryz.pinned (.plain (OpenSpec.ofChange keyTablesSpec)) keyTablesCard

/-- THE TIED CARD OF 'legatelaw14.KeyBack'. -/
def keyBackCard : Claim7 := { stood := { row := keyBackRow, standIns := [], harness := (true, "5d00c22e3fcebc7013ca05569eb87b75099a43bb55b0addbdc76135edadc6b32"), looks := false }, kinds := [], alts := [], laidByText := true, laidKinds := [.data, .data, .data, .data, .data, .data], laidTests := true, laidLooks := .later }
def KeyBackCardSaid : Prop := Claim7.holds Tryz.pinned (.plain (OpenSpec.ofChange keyBackSpec)) keyBackCard

/-- THE TIED CARD OF 'legatelaw14.KeyNothing'. -/
def keyNothingCard : Claim7 := { stood := { row := keyNothingRow, standIns := [], harness := (true, "5d00c22e3fcebc7013ca05569eb87b75099a43bb55b0addbdc76135edadc6b32"), looks := false }, kinds := [], alts := [], laidByText := true, laidKinds := [.data, .data, .data, .data, .data, .data], laidTests := true, laidLooks := .later }
def KeyNothingCardSaid : Prop := Claim7.holds Tryz.pinned (.plain (OpenSpec.ofChange keyNothingSpec)) keyNothingCard

/-- THE TIED CARD OF 'legatelaw14.KeyNames'. -/
def keyNamesCard : Claim7 := { stood := { row := keyNamesRow, standIns := [], harness := (true, "5d00c22e3fcebc7013ca05569eb87b75099a43bb55b0addbdc76135edadc6b32"), looks := false }, kinds := [], alts := [], laidByText := true, laidKinds := [.data, .data, .data, .data, .data, .data], laidTests := true, laidLooks := .later }
def KeyNamesCardSaid : Prop := Claim7.holds Tryz.pinned (.plain (OpenSpec.ofChange keyNamesSpec)) keyNamesCard

/-- THE SECOND FORM's CARD OF 'legatelaw14.KeyTells'. -/
def keyTellsUptoCard : Claim7 := { stood := { row := keyTellsUptoRow, standIns := [], harness := (true, "5d00c22e3fcebc7013ca05569eb87b75099a43bb55b0addbdc76135edadc6b32"), looks := false }, kinds := [], alts := [], laidByText := true, laidKinds := [.data, .data, .data, .data, .data, .data], laidTests := true, laidLooks := .later }
def KeyTellsUptoCardSaid : Prop := Claim7.holds Tryz.pinned (.plain (OpenSpec.upto keyTellsSpec)) keyTellsUptoCard

/-- THE SECOND FORM's CARD OF 'legatelaw14.KeyReads'. -/
def keyReadsUptoCard : Claim7 := { stood := { row := keyReadsUptoRow, standIns := [], harness := (true, "5d00c22e3fcebc7013ca05569eb87b75099a43bb55b0addbdc76135edadc6b32"), looks := false }, kinds := [], alts := [], laidByText := true, laidKinds := [.data, .data, .data, .data, .data, .data], laidTests := true, laidLooks := .later }
def KeyReadsUptoCardSaid : Prop := Claim7.holds Tryz.pinned (.plain (OpenSpec.upto keyReadsSpec)) keyReadsUptoCard

/-- THE SECOND FORM's CARD OF 'legatelaw14.KeyForm'. -/
def keyFormUptoCard : Claim7 := { stood := { row := keyFormUptoRow, standIns := [], harness := (true, "5d00c22e3fcebc7013ca05569eb87b75099a43bb55b0addbdc76135edadc6b32"), looks := false }, kinds := [], alts := [], laidByText := true, laidKinds := [.data, .data, .data, .data, .data, .data], laidTests := true, laidLooks := .later }
def KeyFormUptoCardSaid : Prop := Claim7.holds Tryz.pinned (.plain (OpenSpec.upto keyFormSpec)) keyFormUptoCard

/-- THE SECOND FORM's CARD OF 'legatelaw14.KeyFinds'. -/
def keyFindsUptoCard : Claim7 := { stood := { row := keyFindsUptoRow, standIns := [], harness := (true, "5d00c22e3fcebc7013ca05569eb87b75099a43bb55b0addbdc76135edadc6b32"), looks := false }, kinds := [], alts := [], laidByText := true, laidKinds := [.data, .data, .data, .data, .data, .data], laidTests := true, laidLooks := .later }
def KeyFindsUptoCardSaid : Prop := Claim7.holds Tryz.pinned (.plain (OpenSpec.upto keyFindsSpec)) keyFindsUptoCard

/-- THE SECOND FORM's CARD OF 'legatelaw14.KeyUnlike'. -/
def keyUnlikeUptoCard : Claim7 := { stood := { row := keyUnlikeUptoRow, standIns := [], harness := (true, "5d00c22e3fcebc7013ca05569eb87b75099a43bb55b0addbdc76135edadc6b32"), looks := false }, kinds := [], alts := [], laidByText := true, laidKinds := [.data, .data, .data, .data, .data, .data], laidTests := true, laidLooks := .later }
def KeyUnlikeUptoCardSaid : Prop := Claim7.holds Tryz.pinned (.plain (OpenSpec.upto keyUnlikeSpec)) keyUnlikeUptoCard

/-- THE SECOND FORM's CARD OF 'legatelaw14.KeyRows'. -/
def keyRowsUptoCard : Claim7 := { stood := { row := keyRowsUptoRow, standIns := [], harness := (true, "5d00c22e3fcebc7013ca05569eb87b75099a43bb55b0addbdc76135edadc6b32"), looks := false }, kinds := [], alts := [], laidByText := true, laidKinds := [.data, .data, .data, .data, .data, .data], laidTests := true, laidLooks := .later }
def KeyRowsUptoCardSaid : Prop := Claim7.holds Tryz.pinned (.plain (OpenSpec.upto keyRowsSpec)) keyRowsUptoCard

/-- THE SECOND FORM's CARD OF 'legatelaw14.KeyTables'. -/
def keyTablesUptoCard : Claim7 := { stood := { row := keyTablesUptoRow, standIns := [], harness := (true, "5d00c22e3fcebc7013ca05569eb87b75099a43bb55b0addbdc76135edadc6b32"), looks := false }, kinds := [], alts := [], laidByText := true, laidKinds := [.data, .data, .data, .data, .data, .data], laidTests := true, laidLooks := .later }
def KeyTablesUptoCardSaid : Prop := Claim7.holds Tryz.pinned (.plain (OpenSpec.upto keyTablesSpec)) keyTablesUptoCard

/-- THE SECOND FORM's CARD OF 'legatelaw14.KeyBack'. -/
def keyBackUptoCard : Claim7 := { stood := { row := keyBackUptoRow, standIns := [], harness := (true, "5d00c22e3fcebc7013ca05569eb87b75099a43bb55b0addbdc76135edadc6b32"), looks := false }, kinds := [], alts := [], laidByText := true, laidKinds := [.data, .data, .data, .data, .data, .data], laidTests := true, laidLooks := .later }
def KeyBackUptoCardSaid : Prop := Claim7.holds Tryz.pinned (.plain (OpenSpec.upto keyBackSpec)) keyBackUptoCard

/-- THE SECOND FORM's CARD OF 'legatelaw14.KeyNothing'. -/
def keyNothingUptoCard : Claim7 := { stood := { row := keyNothingUptoRow, standIns := [], harness := (true, "5d00c22e3fcebc7013ca05569eb87b75099a43bb55b0addbdc76135edadc6b32"), looks := false }, kinds := [], alts := [], laidByText := true, laidKinds := [.data, .data, .data, .data, .data, .data], laidTests := true, laidLooks := .later }
def KeyNothingUptoCardSaid : Prop := Claim7.holds Tryz.pinned (.plain (OpenSpec.upto keyNothingSpec)) keyNothingUptoCard

/-- THE SECOND FORM's CARD OF 'legatelaw14.KeyNames'. -/
def keyNamesUptoCard : Claim7 := { stood := { row := keyNamesUptoRow, standIns := [], harness := (true, "5d00c22e3fcebc7013ca05569eb87b75099a43bb55b0addbdc76135edadc6b32"), looks := false }, kinds := [], alts := [], laidByText := true, laidKinds := [.data, .data, .data, .data, .data, .data], laidTests := true, laidLooks := .later }
def KeyNamesUptoCardSaid : Prop := Claim7.holds Tryz.pinned (.plain (OpenSpec.upto keyNamesSpec)) keyNamesUptoCard
end Rows
end Go.Proofs.YtcahpjejpimdhaaGreatDoor
