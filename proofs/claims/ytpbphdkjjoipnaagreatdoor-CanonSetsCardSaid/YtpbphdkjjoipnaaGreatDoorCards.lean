/-
  DERIVED. GIVEN WITH THE SEED: THE CARDS: each row of YtpbphdkjjoipnaaGreatDoorRows.lean that lists a variable, with what it lists TIED to the program's text (the seventh form; the later family's looks); each row that meets fmt, with fmt's text TOLD by the authors' own Lean function (tested against real Go, not proved from fmt's source: count such statements apart). THE CARD IS WHAT COUNTS. Prove the row's statement (the work); the ties are given (YtpbphdkjjoipnaaGreatDoorTie.lean); close each card by the builder's one call (the guide's Derived/Test/ToyasCard.lean, 'card_holds'). Laid BY PROGRAM, IN A SANDBOX (cutbox-door.mjs). By AI agents, Wed Nov 11 2026. No macro, syntax, notation, axiom, sorry.
-/
import Derived.Test.YtpbphdkjjoipnaaGreatDoorRows
import GoSem.ClaimSeven
namespace Go.Proofs.YtpbphdkjjoipnaaGreatDoor
namespace Rows

/-- THE TIED CARD OF 'pursuivantlaw06.CanonEncodes'. -/
def canonEncodesCard : Claim7 := { stood := { row := canonEncodesRow, standIns := [], harness := (true, "2d7dc3d20f9f026166fbbd4f33e041de1d309c8d4dd75b69ca1b9abf9e4afbf9"), looks := true }, kinds := [], alts := [], laidByText := true, laidKinds := [.data, .data, .data, .data, .pinned, .pinned], laidTests := true, laidLooks := .later }
def CanonEncodesCardSaid : Prop := Claim7.holds Tryz.pinned (.plain (OpenSpec.ofChange canonEncodesSpec)) canonEncodesCard

/-- THE TIED CARD OF 'pursuivantlaw06.CanonDecodes'. -/
def canonDecodesCard : Claim7 := { stood := { row := canonDecodesRow, standIns := [], harness := (true, "2d7dc3d20f9f026166fbbd4f33e041de1d309c8d4dd75b69ca1b9abf9e4afbf9"), looks := true }, kinds := [], alts := [], laidByText := true, laidKinds := [.data, .data, .data, .data, .pinned, .pinned], laidTests := true, laidLooks := .later }
def CanonDecodesCardSaid : Prop := Claim7.holds Tryz.pinned (.plain (OpenSpec.ofChange canonDecodesSpec)) canonDecodesCard

/-- THE TIED CARD OF 'pursuivantlaw06.CanonApart'. -/
def canonApartCard : Claim7 := { stood := { row := canonApartRow, standIns := [], harness := (true, "2d7dc3d20f9f026166fbbd4f33e041de1d309c8d4dd75b69ca1b9abf9e4afbf9"), looks := true }, kinds := [], alts := [], laidByText := true, laidKinds := [.data, .data, .data, .data, .pinned, .pinned], laidTests := true, laidLooks := .later }
def CanonApartCardSaid : Prop := Claim7.holds Tryz.pinned (.plain (OpenSpec.ofChange canonApartSpec)) canonApartCard

/-- THE TIED CARD OF 'pursuivantlaw06.CanonDiffs'. -/
def canonDiffsCard : Claim7 := { stood := { row := canonDiffsRow, standIns := [], harness := (true, "2d7dc3d20f9f026166fbbd4f33e041de1d309c8d4dd75b69ca1b9abf9e4afbf9"), looks := true }, kinds := [], alts := [], laidByText := true, laidKinds := [.data, .data, .data, .data, .pinned, .pinned], laidTests := true, laidLooks := .later }
def CanonDiffsCardSaid : Prop := Claim7.holds Tryz.pinned (.plain (OpenSpec.ofChange canonDiffsSpec)) canonDiffsCard

/-- THE TIED CARD OF 'pursuivantlaw06.CanonOnce'. -/
def canonOnceCard : Claim7 := { stood := { row := canonOnceRow, standIns := [], harness := (true, "2d7dc3d20f9f026166fbbd4f33e041de1d309c8d4dd75b69ca1b9abf9e4afbf9"), looks := true }, kinds := [], alts := [], laidByText := true, laidKinds := [.data, .data, .data, .data, .pinned, .pinned], laidTests := true, laidLooks := .later }
def CanonOnceCardSaid : Prop := Claim7.holds Tryz.pinned (.plain (OpenSpec.ofChange canonOnceSpec)) canonOnceCard

/-- THE TIED CARD OF 'pursuivantlaw06.CanonPointers'. -/
def canonPointersCard : Claim7 := { stood := { row := canonPointersRow, standIns := [], harness := (true, "2d7dc3d20f9f026166fbbd4f33e041de1d309c8d4dd75b69ca1b9abf9e4afbf9"), looks := true }, kinds := [], alts := [], laidByText := true, laidKinds := [.data, .data, .data, .data, .pinned, .pinned], laidTests := true, laidLooks := .later }
def CanonPointersCardSaid : Prop := Claim7.holds Tryz.pinned (.plain (OpenSpec.ofChange canonPointersSpec)) canonPointersCard

/-- THE TIED CARD OF 'pursuivantlaw06.CanonSets'. -/
def canonSetsCard : Claim7 := { stood := { row := canonSetsRow, standIns := [], harness := (true, "2d7dc3d20f9f026166fbbd4f33e041de1d309c8d4dd75b69ca1b9abf9e4afbf9"), looks := true }, kinds := [], alts := [], laidByText := true, laidKinds := [.data, .data, .data, .data, .sentinel, .sentinel, .pinned, .pinned], laidTests := true, laidLooks := .later }
def CanonSetsCardSaid : Prop := Claim7.holds Tryz.pinned (.plain (OpenSpec.ofChange canonSetsSpec)) canonSetsCard

/-- THE TIED CARD OF 'pursuivantlaw06.CanonPlaces'. -/
def canonPlacesCard : Claim7 := { stood := { row := canonPlacesRow, standIns := [], harness := (true, "2d7dc3d20f9f026166fbbd4f33e041de1d309c8d4dd75b69ca1b9abf9e4afbf9"), looks := true }, kinds := [], alts := [], laidByText := true, laidKinds := [.data, .data, .data, .data, .sentinel, .sentinel, .pinned, .pinned], laidTests := true, laidLooks := .later }
def CanonPlacesCardSaid : Prop := Claim7.holds Tryz.pinned (.plain (OpenSpec.ofChange canonPlacesSpec)) canonPlacesCard

/-- THE SECOND FORM's CARD OF 'pursuivantlaw06.CanonEncodes'. -/
def canonEncodesUptoCard : Claim7 := { stood := { row := canonEncodesUptoRow, standIns := [], harness := (true, "2d7dc3d20f9f026166fbbd4f33e041de1d309c8d4dd75b69ca1b9abf9e4afbf9"), looks := true }, kinds := [], alts := [], laidByText := true, laidKinds := [.data, .data, .data, .data, .pinned, .pinned], laidTests := true, laidLooks := .later }
def CanonEncodesUptoCardSaid : Prop := Claim7.holds Tryz.pinned (.plain (OpenSpec.upto canonEncodesSpec)) canonEncodesUptoCard

/-- THE SECOND FORM's CARD OF 'pursuivantlaw06.CanonDecodes'. -/
def canonDecodesUptoCard : Claim7 := { stood := { row := canonDecodesUptoRow, standIns := [], harness := (true, "2d7dc3d20f9f026166fbbd4f33e041de1d309c8d4dd75b69ca1b9abf9e4afbf9"), looks := true }, kinds := [], alts := [], laidByText := true, laidKinds := [.data, .data, .data, .data, .pinned, .pinned], laidTests := true, laidLooks := .later }
def CanonDecodesUptoCardSaid : Prop := Claim7.holds Tryz.pinned (.plain (OpenSpec.upto canonDecodesSpec)) canonDecodesUptoCard

/-- THE SECOND FORM's CARD OF 'pursuivantlaw06.CanonApart'. -/
def canonApartUptoCard : Claim7 := { stood := { row := canonApartUptoRow, standIns := [], harness := (true, "2d7dc3d20f9f026166fbbd4f33e041de1d309c8d4dd75b69ca1b9abf9e4afbf9"), looks := true }, kinds := [], alts := [], laidByText := true, laidKinds := [.data, .data, .data, .data, .pinned, .pinned], laidTests := true, laidLooks := .later }
def CanonApartUptoCardSaid : Prop := Claim7.holds Tryz.pinned (.plain (OpenSpec.upto canonApartSpec)) canonApartUptoCard

/-- THE SECOND FORM's CARD OF 'pursuivantlaw06.CanonDiffs'. -/
def canonDiffsUptoCard : Claim7 := { stood := { row := canonDiffsUptoRow, standIns := [], harness := (true, "2d7dc3d20f9f026166fbbd4f33e041de1d309c8d4dd75b69ca1b9abf9e4afbf9"), looks := true }, kinds := [], alts := [], laidByText := true, laidKinds := [.data, .data, .data, .data, .pinned, .pinned], laidTests := true, laidLooks := .later }
def CanonDiffsUptoCardSaid : Prop := Claim7.holds Tryz.pinned (.plain (OpenSpec.upto canonDiffsSpec)) canonDiffsUptoCard

/-- THE SECOND FORM's CARD OF 'pursuivantlaw06.CanonOnce'. -/
def canonOnceUptoCard : Claim7 := { stood := { row := canonOnceUptoRow, standIns := [], harness := (true, "2d7dc3d20f9f026166fbbd4f33e041de1d309c8d4dd75b69ca1b9abf9e4afbf9"), looks := true }, kinds := [], alts := [], laidByText := true, laidKinds := [.data, .data, .data, .data, .pinned, .pinned], laidTests := true, laidLooks := .later }
def CanonOnceUptoCardSaid : Prop := Claim7.holds Tryz.pinned (.plain (OpenSpec.upto canonOnceSpec)) canonOnceUptoCard

/-- THE SECOND FORM's CARD OF 'pursuivantlaw06.CanonPointers'. -/
def canonPointersUptoCard : Claim7 := { stood := { row := canonPointersUptoRow, standIns := [], harness := (true, "2d7dc3d20f9f026166fbbd4f33e041de1d309c8d4dd75b69ca1b9abf9e4afbf9"), looks := true }, kinds := [], alts := [], laidByText := true, laidKinds := [.data, .data, .data, .data, .pinned, .pinned], laidTests := true, laidLooks := .later }
def CanonPointersUptoCardSaid : Prop := Claim7.holds Tryz.pinned (.plain (OpenSpec.upto canonPointersSpec)) canonPointersUptoCard

/-- THE SECOND FORM's CARD OF 'pursuivantlaw06.CanonSets'. -/
def canonSetsUptoCard : Claim7 := { stood := { row := canonSetsUptoRow, standIns := [], harness := (true, "2d7dc3d20f9f026166fbbd4f33e041de1d309c8d4dd75b69ca1b9abf9e4afbf9"), looks := true }, kinds := [], alts := [], laidByText := true, laidKinds := [.data, .data, .data, .data, .sentinel, .sentinel, .pinned, .pinned], laidTests := true, laidLooks := .later }
def CanonSetsUptoCardSaid : Prop := Claim7.holds Tryz.pinned (.plain (OpenSpec.upto canonSetsSpec)) canonSetsUptoCard

/-- THE SECOND FORM's CARD OF 'pursuivantlaw06.CanonPlaces'. -/
def canonPlacesUptoCard : Claim7 := { stood := { row := canonPlacesUptoRow, standIns := [], harness := (true, "2d7dc3d20f9f026166fbbd4f33e041de1d309c8d4dd75b69ca1b9abf9e4afbf9"), looks := true }, kinds := [], alts := [], laidByText := true, laidKinds := [.data, .data, .data, .data, .sentinel, .sentinel, .pinned, .pinned], laidTests := true, laidLooks := .later }
def CanonPlacesUptoCardSaid : Prop := Claim7.holds Tryz.pinned (.plain (OpenSpec.upto canonPlacesSpec)) canonPlacesUptoCard
end Rows
end Go.Proofs.YtpbphdkjjoipnaaGreatDoor
