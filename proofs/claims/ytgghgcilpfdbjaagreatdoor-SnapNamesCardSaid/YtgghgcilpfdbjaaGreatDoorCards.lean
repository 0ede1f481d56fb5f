/-
  DERIVED. GIVEN WITH THE SEED: THE CARDS: each row of YtgghgcilpfdbjaaGreatDoorRows.lean that lists a variable, with what it lists TIED to the program's text (the seventh form; the later family's looks); each row that meets fmt, with fmt's text TOLD by the authors' own Lean function (tested against real Go, not proved from fmt's source: count such statements apart). THE CARD IS WHAT COUNTS. Prove the row's statement (the work); the ties are given (YtgghgcilpfdbjaaGreatDoorTie.lean); close each card by the builder's one call (the guide's Derived/Test/ToyasCard.lean, 'card_holds'). Laid BY PROGRAM, IN A SANDBOX (cutbox-door.mjs). By AI agents, Wed Nov 11 2026. No macro, syntax, notation, axiom, sorry.
-/
import Derived.Test.YtgghgcilpfdbjaaGreatDoorRows
import GoSem.ClaimSeven
namespace Go.Proofs.YtgghgcilpfdbjaaGreatDoor
namespace Rows

/-- THE TIED CARD OF 'legatelaw23.SnapTells'. -/
def snapTellsCard : Claim7 := { stood := { row := snapTellsRow, standIns := [], harness := (true, "06d456e891ac5ba50ad747c97e1caf44a24f099dd7984817ae1c73e82ea8a154"), looks := false }, kinds := [], alts := [], laidByText := true, laidKinds := [.data, .data, .data, .data], laidTests := true, laidLooks := .later }
def SnapTellsCardSaid : Prop := Claim7.holds Tryz.pinned (.plain (OpenSpec.ofChange snapTellsSpec)) snapTellsCard

/-- THE TIED CARD OF 'legatelaw23.SnapPins'. -/
def snapPinsCard : Claim7 := { stood := { row := snapPinsRow, standIns := [], harness := (true, "06d456e891ac5ba50ad747c97e1caf44a24f099dd7984817ae1c73e82ea8a154"), looks := false }, kinds := [], alts := [], laidByText := true, laidKinds := [.data, .data, .data, .data], laidTests := true, laidLooks := .later }
def SnapPinsCardSaid : Prop := Claim7.holds Tryz.pinned (.plain (OpenSpec.ofChange snapPinsSpec)) snapPinsCard

/-- THE TIED CARD OF 'legatelaw23.SnapReads'. -/
def snapReadsCard : Claim7 := { stood := { row := snapReadsRow, standIns := [], harness := (true, "06d456e891ac5ba50ad747c97e1caf44a24f099dd7984817ae1c73e82ea8a154"), looks := false }, kinds := [], alts := [], laidByText := true, laidKinds := [.data, .data, .data, .data], laidTests := true, laidLooks := .later }
def SnapReadsCardSaid : Prop := Claim7.holds Tryz.pinned (.plain (OpenSpec.ofChange snapReadsSpec)) snapReadsCard

/-- THE TIED CARD OF 'legatelaw23.SnapNames'. -/
def snapNamesCard : Claim7 := { stood := { row := snapNamesRow, standIns := [], harness := (true, "06d456e891ac5ba50ad747c97e1caf44a24f099dd7984817ae1c73e82ea8a154"), looks := false }, kinds := [], alts := [], laidByText := true, laidKinds := [.data, .data, .data, .data], laidTests := true, laidLooks := .later }
def SnapNamesCardSaid : Prop := Claim7.holds Tryz.pinned (.plain (OpenSpec.ofChange snapNamesSpec)) snapNamesCard

/-- THE TIED CARD OF 'legatelaw23.SnapBack'. -/
def snapBackCard : Claim7 := { stood := { row := snapBackRow, standIns := [], harness := (true, "06d456e891ac5ba50ad747c97e1caf44a24f099dd7984817ae1c73e82ea8a154"), looks := false }, kinds := [], alts := [], laidByText := true, laidKinds := [.data, .data, .data, .data], laidTests := true, laidLooks := .later }
def SnapBackCardSaid : Prop := Claim7.holds Tryz.pinned (.plain (OpenSpec.ofChange snapBackSpec)) snapBackCard

/-- THE TIED CARD OF 'legatelaw23.SnapRoles'. -/
def snapRolesCard : Claim7 := { stood := { row := snapRolesRow, standIns := [], harness := (true, "06d456e891ac5ba50ad747c97e1caf44a24f099dd7984817ae1c73e82ea8a154"), looks := false }, kinds := [], alts := [], laidByText := true, laidKinds := [.data, .data, .data, .data], laidTests := true, laidLooks := .later }
def SnapRolesCardSaid : Prop := Claim7.holds Tryz.pinned (.plain (OpenSpec.ofChange snapRolesSpec)) snapRolesCard

/-- THE TIED CARD OF 'legatelaw23.SnapLess'. -/
def snapLessCard : Claim7 := { stood := { row := snapLessRow, standIns := [], harness := (true, "06d456e891ac5ba50ad747c97e1caf44a24f099dd7984817ae1c73e82ea8a154"), looks := false }, kinds := [], alts := [], laidByText := true, laidKinds := [.data, .data, .data, .data], laidTests := true, laidLooks := .later }
def SnapLessCardSaid : Prop := Claim7.holds Tryz.pinned (.plain (OpenSpec.ofChange snapLessSpec)) snapLessCard

/-- THE TIED CARD OF 'legatelaw23.SnapElse'. -/
def snapElseCard : Claim7 := { stood := { row := snapElseRow, standIns := [], harness := (true, "06d456e891ac5ba50ad747c97e1caf44a24f099dd7984817ae1c73e82ea8a154"), looks := false }, kinds := [], alts := [], laidByText := true, laidKinds := [.data, .data, .data, .data], laidTests := true, laidLooks := .later }
def SnapElseCardSaid : Prop := Claim7.holds Tryz.pinned (.plain (OpenSpec.ofChange snapElseSpec)) snapElseCard

/-- THE TIED CARD OF 'legatelaw23.SnapRow'. -/
def snapRowCard : Claim7 := { stood := { row := snapRowRow, standIns := [], harness := (true, "06d456e891ac5ba50ad747c97e1caf44a24f099dd7984817ae1c73e82ea8a154"), looks := false }, kinds := [], alts := [], laidByText := true, laidKinds := [.data, .data, .data, .data], laidTests := true, laidLooks := .later }
def SnapRowCardSaid : Prop := Claim7.holds Tryz.pinned (.plain (OpenSpec.ofChange snapRowSpec)) snapRowCard

/-- THE TIED CARD OF 'legatelaw23.SnapApart'. -/
def snapApartCard : Claim7 := { stood := { row := snapApartRow, standIns := [], harness := (true, "06d456e891ac5ba50ad747c97e1caf44a24f099dd7984817ae1c73e82ea8a154"), looks := false }, kinds := [], alts := [], laidByText := true, laidKinds := [.data, .data, .data, .data], laidTests := true, laidLooks := .later }
def SnapApartCardSaid : Prop := Claim7.holds Tryz.pinned (.plain (OpenSpec.ofChange snapApartSpec)) snapApartCard

/-- THE SECOND FORM's CARD OF 'legatelaw23.SnapTells'. -/
def snapTellsUptoCard : Claim7 := { stood := { row := snapTellsUptoRow, standIns := [], harness := (true, "06d456e891ac5ba50ad747c97e1caf44a24f099dd7984817ae1c73e82ea8a154"), looks := false }, kinds := [], alts := [], laidByText := true, laidKinds := [.data, .data, .data, .data], laidTests := true, laidLooks := .later }
def SnapTellsUptoCardSaid : Prop := Claim7.holds Tryz.pinned (.plain (OpenSpec.upto snapTellsSpec)) snapTellsUptoCard

/-- THE SECOND FORM's CARD OF 'legatelaw23.SnapPins'. -/
def snapPinsUptoCard : Claim7 := { stood := { row := snapPinsUptoRow, standIns := [], harness := (true, "06d456e891ac5ba50ad747c97e1caf44a24f099dd7984817ae1c73e82ea8a154"), looks := false }, kinds := [], alts := [], laidByText := true, laidKinds := [.data, .data, .data, .data], laidTests := true, laidLooks := .later }
def SnapPinsUptoCardSaid : Prop := Claim7.holds Tryz.pinned (.plain (OpenSpec.upto snapPinsSpec)) snapPinsUptoCard

/-- THE SECOND FORM's CARD OF 'legatelaw23.SnapReads'. -/
def snapReadsUptoCard : Claim7 := { stood := { row := snapReadsUptoRow, standIns := [], harness := (true, "06d456e891ac5ba50ad747c97e1caf44a24f099dd7984817ae1c73e82ea8a154"), looks := false }, kinds := [], alts := [], laidByText := true, laidKinds := [.data, .data, .data, .data], laidTests := true, laidLooks := .later }
def SnapReadsUptoCardSaid : Prop := Claim7.holds Tryz.pinned (.plain (OpenSpec.upto snapReadsSpec)) snapReadsUptoCard

/-- THE SECOND FORM's CARD OF 'legatelaw23.SnapNames'. -/
def snapNamesUptoCard : Claim7 := { stood := { row := snapNamesUptoRow, standIns := [], harness := (true, "06d456e891ac5ba50ad747c97e1caf44a24f099dd7984817ae1c73e82ea8a154"), looks := false }, kinds := [], alts := [], laidByText := true, laidKinds := [.data, .data, .data, .data], laidTests := true, laidLooks := .later }
def SnapNamesUptoCardSaid : Prop := Claim7.holds Tryz.pinned (.plain (OpenSpec.upto snapNamesSpec)) snapNamesUptoCard

/-- THE SECOND FORM's CARD OF 'legatelaw23.SnapBack'. -/
def snapBackUptoCard : Claim7 := { stood := { row := snapBackUptoRow, standIns := [], harness := (true, "06d456e891ac5ba50ad747c97e1caf44a24f099dd7984817ae1c73e82ea8a154"), looks := false }, kinds := [], alts := [], laidByText := true, laidKinds := [.data, .data, .data, .data], laidTests := true, laidLooks := .later }
def SnapBackUptoCardSaid : Prop := Claim7.holds Tryz.pinned (.plain (OpenSpec.upto snapBackSpec)) snapBackUptoCard

/-- THE SECOND FORM's CARD OF 'legatelaw23.SnapRoles'. -/
def snapRolesUptoCard : Claim7 := { stood := { row := snapRolesUptoRow, standIns := [], harness := (true, "06d456e891ac5ba50ad747c97e1caf44a24f099dd7984817ae1c73e82ea8a154"), looks := false }, kinds := [], alts := [], laidByText := true, laidKinds := [.data, .data, .data, .data], laidTests := true, laidLooks := .later }
def SnapRolesUptoCardSaid : Prop := Claim7.holds Tryz.pinned (.plain (OpenSpec.upto snapRolesSpec)) snapRolesUptoCard

/-- THE SECOND FORM's CARD OF 'legatelaw23.SnapLess'. -/
def snapLessUptoCard : Claim7 := { stood := { row := snapLessUptoRow, standIns := [], harness := (true, "06d456e891ac5ba50ad747c97e1caf44a24f099dd7984817ae1c73e82ea8a154"), looks := false }, kinds := [], alts := [], laidByText := true, laidKinds := [.data, .data, .data, .data], laidTests := true, laidLooks := .later }
def SnapLessUptoCardSaid : Prop := Claim7.holds Tryz.pinned (.plain (OpenSpec.upto snapLessSpec)) snapLessUptoCard

/-- THE SECOND FORM's CARD OF 'legatelaw23.SnapElse'. -/
def snapElseUptoCard : Claim7 := { stood := { row := snapElseUptoRow, standIns := [], harness := (true, "06d456e891ac5ba50ad747c97e1caf44a24f099dd7984817ae1c73e82ea8a154"), looks := false }, kinds := [], alts := [], laidByText := true, laidKinds := [.data, .data, .data, .data], laidTests := true, laidLooks := .later }
def SnapElseUptoCardSaid : Prop := Claim7.holds Tryz.pinned (.plain (OpenSpec.upto snapElseSpec)) snapElseUptoCard

/-- THE SECOND FORM's CARD OF 'legatelaw23.SnapRow'. -/
def snapRowUptoCard : Claim7 := { stood := { row := snapRowUptoRow, standIns := [], harness := (true, "06d456e891ac5ba50ad747c97e1caf44a24f099dd7984817ae1c73e82ea8a154"), looks := false }, kinds := [], alts := [], laidByText := true, laidKinds := [.data, .data, .data, .data], laidTests := true, laidLooks := .later }
def SnapRowUptoCardSaid : Prop := Claim7.holds Tryz.pinned (.plain (OpenSpec.upto snapRowSpec)) snapRowUptoCard

/-- THE SECOND FORM's CARD OF 'legatelaw23.SnapApart'. -/
def snapApartUptoCard : Claim7 := { stood := { row := snapApartUptoRow, standIns := [], harness := (true, "06d456e891ac5ba50ad747c97e1caf44a24f099dd7984817ae1c73e82ea8a154"), looks := false }, kinds := [], alts := [], laidByText := true, laidKinds := [.data, .data, .data, .data], laidTests := true, laidLooks := .later }
def SnapApartUptoCardSaid : Prop := Claim7.holds Tryz.pinned (.plain (OpenSpec.upto snapApartSpec)) snapApartUptoCard
end Rows
end Go.Proofs.YtgghgcilpfdbjaaGreatDoor
