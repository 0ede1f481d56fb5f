/-
  DERIVED. GIVEN WITH THE SEED: THE CARDS: each row of YthgembbgcbaghaaGreatDoorRows.lean that lists a variable, with what it lists TIED to the program's text (the seventh form; the later family's looks); each row that meets fmt, with fmt's text TOLD by the authors' own Lean function (tested against real Go, not proved from fmt's source: count such statements apart). THE CARD IS WHAT COUNTS. Prove the row's statement (the work); the ties are given (YthgembbgcbaghaaGreatDoorTie.lean); close each card by the builder's one call (the guide's Derived/Test/ToyasCard.lean, 'card_holds'). Laid BY PROGRAM, IN A SANDBOX (cutbox-door.mjs). By AI agents, Wed Nov 11 2026. No macro, syntax, notation, axiom, sorry.
-/
import Derived.Test.YthgembbgcbaghaaGreatDoorRows
import GoSem.ClaimSeven
namespace Go.Proofs.YthgembbgcbaghaaGreatDoor
namespace Rows

/-- THE TIED CARD OF 'legatelaw20.DelegReads'. -/
def delegReadsCard : Claim7 := { stood := { row := delegReadsRow, standIns := [], harness := (true, "1d28e246993a0d35cce52038d98b49e80642a3708b2f1d9cf137c53f76891b76"), looks := false }, kinds := [], alts := [], laidByText := true, laidKinds := [.data, .data, .data, .data, .data, .data], laidTests := true, laidLooks := .later }
def DelegReadsCardSaid : Prop := Claim7.holds Tryz.pinned (.plain (OpenSpec.ofChange delegReadsSpec)) delegReadsCard

/-- THE TIED CARD OF 'legatelaw20.DelegGoes'. -/
def delegGoesCard : Claim7 := { stood := { row := delegGoesRow, standIns := [], harness := (true, "1d28e246993a0d35cce52038d98b49e80642a3708b2f1d9cf137c53f76891b76"), looks := false }, kinds := [], alts := [], laidByText := true, laidKinds := [.data, .data, .data, .data, .data, .data], laidTests := true, laidLooks := .later }
def DelegGoesCardSaid : Prop := Claim7.holds Tryz.pinned (.plain (OpenSpec.ofChange delegGoesSpec)) delegGoesCard

/-- THE TIED CARD OF 'legatelaw20.DelegNames'. -/
def delegNamesCard : Claim7 := { stood := { row := delegNamesRow, standIns := [], harness := (true, "1d28e246993a0d35cce52038d98b49e80642a3708b2f1d9cf137c53f76891b76"), looks := false }, kinds := [], alts := [], laidByText := true, laidKinds := [.data, .data, .data, .data, .data, .data], laidTests := true, laidLooks := .later }
def DelegNamesCardSaid : Prop := Claim7.holds Tryz.pinned (.plain (OpenSpec.ofChange delegNamesSpec)) delegNamesCard

/-- THE TIED CARD OF 'legatelaw20.DelegRow'. -/
def delegRowCard : Claim7 := { stood := { row := delegRowRow, standIns := [], harness := (true, "1d28e246993a0d35cce52038d98b49e80642a3708b2f1d9cf137c53f76891b76"), looks := false }, kinds := [], alts := [], laidByText := true, laidKinds := [.data, .data, .data, .data, .data, .data], laidTests := true, laidLooks := .later }
def DelegRowCardSaid : Prop := Claim7.holds Tryz.pinned (.plain (OpenSpec.ofChange delegRowSpec)) delegRowCard

/-- THE TIED CARD OF 'legatelaw20.DelegMore'. -/
def delegMoreCard : Claim7 := { stood := { row := delegMoreRow, standIns := [], harness := (true, "1d28e246993a0d35cce52038d98b49e80642a3708b2f1d9cf137c53f76891b76"), looks := false }, kinds := [], alts := [], laidByText := true, laidKinds := [.data, .data, .data, .data, .data, .data], laidTests := true, laidLooks := .later }
def DelegMoreCardSaid : Prop := Claim7.holds Tryz.pinned (.plain (OpenSpec.ofChange delegMoreSpec)) delegMoreCard

/-- THE TIED CARD OF 'legatelaw20.DelegApart'. -/
def delegApartCard : Claim7 := { stood := { row := delegApartRow, standIns := [], harness := (true, "1d28e246993a0d35cce52038d98b49e80642a3708b2f1d9cf137c53f76891b76"), looks := false }, kinds := [], alts := [], laidByText := true, laidKinds := [.data, .data, .data, .data, .data, .data], laidTests := true, laidLooks := .later }
def DelegApartCardSaid : Prop := Claim7.holds Tryz.pinned (.plain (OpenSpec.ofChange delegApartSpec)) delegApartCard

/-- THE TIED CARD OF 'legatelaw20.DelegTells'. -/
def delegTellsCard : Claim7 := { stood := { row := delegTellsRow, standIns := [], harness := (true, "1d28e246993a0d35cce52038d98b49e80642a3708b2f1d9cf137c53f76891b76"), looks := false }, kinds := [], alts := [], laidByText := true, laidKinds := [.data, .data, .data, .data, .data, .data], laidTests := true, laidLooks := .later }
def DelegTellsCardSaid : Prop := Claim7.holds Tryz.pinned (.plain (OpenSpec.ofChange delegTellsSpec)) delegTellsCard

/-- THE TIED CARD OF 'legatelaw20.DelegBack'. -/
def delegBackCard : Claim7 := { stood := { row := delegBackRow, standIns := [], harness := (true, "1d28e246993a0d35cce52038d98b49e80642a3708b2f1d9cf137c53f76891b76"), looks := false }, kinds := [], alts := [], laidByText := true, laidKinds := [.data, .data, .data, .data, .data, .data], laidTests := true, laidLooks := .later }
def DelegBackCardSaid : Prop := Claim7.holds Tryz.pinned (.plain (OpenSpec.ofChange delegBackSpec)) delegBackCard

/-- THE TIED CARD OF 'legatelaw20.DelegBins'. -/
def delegBinsCard : Claim7 := { stood := { row := delegBinsRow, standIns := [], harness := (true, "1d28e246993a0d35cce52038d98b49e80642a3708b2f1d9cf137c53f76891b76"), looks := false }, kinds := [], alts := [], laidByText := true, laidKinds := [.data, .data, .data, .data, .data, .data], laidTests := true, laidLooks := .later }
def DelegBinsCardSaid : Prop := Claim7.holds Tryz.pinned (.plain (OpenSpec.ofChange delegBinsSpec)) delegBinsCard

/-- THE TIED CARD OF 'legatelaw20.DelegNothing'. -/
def delegNothingCard : Claim7 := { stood := { row := delegNothingRow, standIns := [], harness := (true, "1d28e246993a0d35cce52038d98b49e80642a3708b2f1d9cf137c53f76891b76"), looks := false }, kinds := [], alts := [], laidByText := true, laidKinds := [.data, .data, .data, .data, .data, .data], laidTests := true, laidLooks := .later }
def DelegNothingCardSaid : Prop := Claim7.holds Tryz.pinned (.plain (OpenSpec.ofChange delegNothingSpec)) delegNothingCard

/-- THE SECOND FORM's CARD OF 'legatelaw20.DelegReads'. -/
def delegReadsUptoCard : Claim7 := { stood := { row := delegReadsUptoRow, standIns := [], harness := (true, "1d28e246993a0d35cce52038d98b49e80642a3708b2f1d9cf137c53f76891b76"), looks := false }, kinds := [], alts := [], laidByText := true, laidKinds := [.data, .data, .data, .data, .data, .data], laidTests := true, laidLooks := .later }
def DelegReadsUptoCardSaid : Prop := Claim7.holds Tryz.pinned (.plain (OpenSpec.upto delegReadsSpec)) delegReadsUptoCard

/-- THE SECOND FORM's CARD OF 'legatelaw20.DelegGoes'. -/
def delegGoesUptoCard : Claim7 := { stood := { row := delegGoesUptoRow, standIns := [], harness := (true, "1d28e246993a0d35cce52038d98b49e80642a3708b2f1d9cf137c53f76891b76"), looks := false }, kinds := [], alts := [], laidByText := true, laidKinds := [.data, .data, .data, .data, .data, .data], laidTests := true, laidLooks := .later }
def DelegGoesUptoCardSaid : Prop := Claim7.holds Tryz.pinned (.plain (OpenSpec.upto delegGoesSpec)) delegGoesUptoCard

/-- THE SECOND FORM's CARD OF 'legatelaw20.DelegNames'. -/
def delegNamesUptoCard : Claim7 := { stood := { row := delegNamesUptoRow, standIns := [], harness := (true, "1d28e246993a0d35cce52038d98b49e80642a3708b2f1d9cf137c53f76891b76"), looks := false }, kinds := [], alts := [], laidByText := true, laidKinds := [.data, .data, .data, .data, .data, .data], laidTests := true, laidLooks := .later }
def DelegNamesUptoCardSaid : Prop := Claim7.holds Tryz.pinned (.plain (OpenSpec.upto delegNamesSpec)) delegNamesUptoCard

/-- THE SECOND FORM's CARD OF 'legatelaw20.DelegRow'. -/
def delegRowUptoCard : Claim7 := { stood := { row := delegRowUptoRow, standIns := [], harness := (true, "1d28e246993a0d35cce52038d98b49e80642a3708b2f1d9cf137c53f76891b76"), looks := false }, kinds := [], alts := [], laidByText := true, laidKinds := [.data, .data, .data, .data, .data, .data], laidTests := true, laidLooks := .later }
def DelegRowUptoCardSaid : Prop := Claim7.holds Tryz.pinned (.plain (OpenSpec.upto delegRowSpec)) delegRowUptoCard

/-- THE SECOND FORM's CARD OF 'legatelaw20.DelegMore'. -/
def delegMoreUptoCard : Claim7 := { stood := { row := delegMoreUptoRow, standIns := [], harness := (true, "1d28e246993a0d35cce52038d98b49e80642a3708b2f1d9cf137c53f76891b76"), looks := false }, kinds := [], alts := [], laidByText := true, laidKinds := [.data, .data, .data, .data, .data, .data], laidTests := true, laidLooks := .later }
def DelegMoreUptoCardSaid : Prop := Claim7.holds Tryz.pinned (.plain (OpenSpec.upto delegMoreSpec)) delegMoreUptoCard

/-- THE SECOND FORM's CARD OF 'legatelaw20.DelegApart'. -/
def delegApartUptoCard : Claim7 := { stood := { row := delegApartUptoRow, standIns := [], harness := (true, "1d28e246993a0d35cce52038d98b49e80642a3708b2f1d9cf137c53f76891b76"), looks := false }, kinds := [], alts := [], laidByText := true, laidKinds := [.data, .data, .data, .data, .data, .data], laidTests := true, laidLooks := .later }
def DelegApartUptoCardSaid : Prop := Claim7.holds Tryz.pinned (.plain (OpenSpec.upto delegApartSpec)) delegApartUptoCard

/-- THE SECOND FORM's CARD OF 'legatelaw20.DelegTells'. -/
def delegTellsUptoCard : Claim7 := { stood := { row := delegTellsUptoRow, standIns := [], harness := (true, "1d28e246993a0d35cce52038d98b49e80642a3708b2f1d9cf137c53f76891b76"), looks := false }, kinds := [], alts := [], laidByText := true, laidKinds := [.data, .data, .data, .data, .data, .data], laidTests := true, laidLooks := .later }
def DelegTellsUptoCardSaid : Prop := Claim7.holds Tryz.pinned (.plain (OpenSpec.upto delegTellsSpec)) delegTellsUptoCard

/-- THE SECOND FORM's CARD OF 'legatelaw20.DelegBack'. -/
def delegBackUptoCard : Claim7 := { stood := { row := delegBackUptoRow, standIns := [], harness := (true, "1d28e246993a0d35cce52038d98b49e80642a3708b2f1d9cf137c53f76891b76"), looks := false }, kinds := [], alts := [], laidByText := true, laidKinds := [.data, .data, .data, .data, .data, .data], laidTests := true, laidLooks := .later }
def DelegBackUptoCardSaid : Prop := Claim7.holds Tryz.pinned (.plain (OpenSpec.upto delegBackSpec)) delegBackUptoCard

/-- THE SECOND FORM's CARD OF 'legatelaw20.DelegBins'. -/
def delegBinsUptoCard : Claim7 := { stood := { row := delegBinsUptoRow, standIns := [], harness := (true, "1d28e246993a0d35cce52038d98b49e80642a3708b2f1d9cf137c53f76891b76"), looks := false }, kinds := [], alts := [], laidByText := true, laidKinds := [.data, .data, .data, .data, .data, .data], laidTests := true, laidLooks := .later }
def DelegBinsUptoCardSaid : Prop := Claim7.holds Tryz.pinned (.plain (OpenSpec.upto delegBinsSpec)) delegBinsUptoCard

/-- THE SECOND FORM's CARD OF 'legatelaw20.DelegNothing'. -/
def delegNothingUptoCard : Claim7 := { stood := { row := delegNothingUptoRow, standIns := [], harness := (true, "1d28e246993a0d35cce52038d98b49e80642a3708b2f1d9cf137c53f76891b76"), looks := false }, kinds := [], alts := [], laidByText := true, laidKinds := [.data, .data, .data, .data, .data, .data], laidTests := true, laidLooks := .later }
def DelegNothingUptoCardSaid : Prop := Claim7.holds Tryz.pinned (.plain (OpenSpec.upto delegNothingSpec)) delegNothingUptoCard
end Rows
end Go.Proofs.YthgembbgcbaghaaGreatDoor
