/-
  DERIVED. GIVEN WITH THE SEED: THE CARDS: each row of YtjccecajigmfkaaGreatDoorRows.lean that lists a variable, with what it lists TIED to the program's text (the seventh form; the later family's looks); each row that meets fmt, with fmt's text TOLD by the authors' own Lean function (tested against real Go, not proved from fmt's source: count such statements apart). THE CARD IS WHAT COUNTS. Prove the row's statement (the work); the ties are given (YtjccecajigmfkaaGreatDoorTie.lean); close each card by the builder's one call (the guide's Derived/Test/ToyasCard.lean, 'card_holds'). Laid BY PROGRAM, IN A SANDBOX (cutbox-door.mjs). By AI agents, Wed Nov 11 2026. No macro, syntax, notation, axiom, sorry.
-/
import Derived.Test.YtjccecajigmfkaaGreatDoorRows
import GoSem.ClaimSeven
namespace Go.Proofs.YtjccecajigmfkaaGreatDoor
namespace Rows

/-- THE TIED CARD OF 'pursuivantlaw17.SignedSames'. -/
def signedSamesCard : Claim7 := { stood := { row := signedSamesRow, standIns := [], harness := (true, "3a9960d5939262b2d2c45eb731f02e5c0115a9ec0f15106effaf6119b3353c1f"), looks := false }, kinds := [], alts := [], laidByText := true, laidKinds := [.data, .data, .data, .data, .data, .pinned, .pinned], laidTests := true, laidLooks := .later }
def SignedSamesCardSaid : Prop := Claim7.holds Tryz.pinned (.plain (OpenSpec.ofChange signedSamesSpec)) signedSamesCard

/-- THE TIED CARD OF 'pursuivantlaw17.SignedDecodes'. -/
def signedDecodesCard : Claim7 := { stood := { row := signedDecodesRow, standIns := [], harness := (true, "3a9960d5939262b2d2c45eb731f02e5c0115a9ec0f15106effaf6119b3353c1f"), looks := false }, kinds := [], alts := [], laidByText := true, laidKinds := [.data, .data, .data, .data, .data, .pinned, .pinned], laidTests := true, laidLooks := .later }
def SignedDecodesCardSaid : Prop := Claim7.holds Tryz.pinned (.plain (OpenSpec.ofChange signedDecodesSpec)) signedDecodesCard

/-- THE SECOND FORM's CARD OF 'pursuivantlaw17.SignedSames'. -/
def signedSamesUptoCard : Claim7 := { stood := { row := signedSamesUptoRow, standIns := [], harness := (true, "3a9960d5939262b2d2c45eb731f02e5c0115a9ec0f15106effaf6119b3353c1f"), looks := false }, kinds := [], alts := [], laidByText := true, laidKinds := [.data, .data, .data, .data, .data, .pinned, .pinned], laidTests := true, laidLooks := .later }
def SignedSamesUptoCardSaid : Prop := Claim7.holds Tryz.pinned (.plain (OpenSpec.upto signedSamesSpec)) signedSamesUptoCard

/-- THE SECOND FORM's CARD OF 'pursuivantlaw17.SignedDecodes'. -/
def signedDecodesUptoCard : Claim7 := { stood := { row := signedDecodesUptoRow, standIns := [], harness := (true, "3a9960d5939262b2d2c45eb731f02e5c0115a9ec0f15106effaf6119b3353c1f"), looks := false }, kinds := [], alts := [], laidByText := true, laidKinds := [.data, .data, .data, .data, .data, .pinned, .pinned], laidTests := true, laidLooks := .later }
def SignedDecodesUptoCardSaid : Prop := Claim7.holds Tryz.pinned (.plain (OpenSpec.upto signedDecodesSpec)) signedDecodesUptoCard
end Rows
end Go.Proofs.YtjccecajigmfkaaGreatDoor
