/-
  DERIVED. GIVEN WITH THE SEED: THE CARDS: each row of YtibnfbglanpoiaaGreatDoorRows.lean that lists a variable, with what it lists TIED to the program's text (the seventh form; the later family's looks); each row that meets fmt, with fmt's text TOLD by the authors' own Lean function (tested against real Go, not proved from fmt's source: count such statements apart). THE CARD IS WHAT COUNTS. Prove the row's statement (the work); the ties are given (YtibnfbglanpoiaaGreatDoorTie.lean); close each card by the builder's one call (the guide's Derived/Test/ToyasCard.lean, 'card_holds'). Laid BY PROGRAM, IN A SANDBOX (cutbox-door.mjs). By AI agents, Wed Nov 11 2026. No macro, syntax, notation, axiom, sorry.
-/
import Derived.Test.YtibnfbglanpoiaaGreatDoorRows
import GoSem.ClaimSeven
namespace Go.Proofs.YtibnfbglanpoiaaGreatDoor
namespace Rows

/-- THE TIED CARD OF 'pursuivantlaw18.QuorumBoth'. -/
def quorumBothCard : Claim7 := { stood := { row := quorumBothRow, standIns := [], harness := (true, "52662b244b4a5b8dfe05cf26fd23017f609ec661c2e2e4ef9c30f8a23e274dc0"), looks := false }, kinds := [], alts := [], laidByText := true, laidKinds := [.data, .data, .data, .data, .data, .pinned], laidTests := true, laidLooks := .later }
def QuorumBothCardSaid : Prop := Claim7.holds Tryz.pinned (.plain (OpenSpec.ofChange quorumBothSpec)) quorumBothCard

/-- THE TIED CARD OF 'pursuivantlaw18.QuorumOnce'. -/
def quorumOnceCard : Claim7 := { stood := { row := quorumOnceRow, standIns := [], harness := (true, "52662b244b4a5b8dfe05cf26fd23017f609ec661c2e2e4ef9c30f8a23e274dc0"), looks := false }, kinds := [], alts := [], laidByText := true, laidKinds := [.data, .data, .data, .data, .data, .pinned], laidTests := true, laidLooks := .later }
def QuorumOnceCardSaid : Prop := Claim7.holds Tryz.pinned (.plain (OpenSpec.ofChange quorumOnceSpec)) quorumOnceCard

/-- THE TIED CARD OF 'pursuivantlaw18.QuorumMore'. -/
def quorumMoreCard : Claim7 := { stood := { row := quorumMoreRow, standIns := [], harness := (true, "52662b244b4a5b8dfe05cf26fd23017f609ec661c2e2e4ef9c30f8a23e274dc0"), looks := false }, kinds := [], alts := [], laidByText := true, laidKinds := [.data, .data, .data, .data, .data, .pinned], laidTests := true, laidLooks := .later }
def QuorumMoreCardSaid : Prop := Claim7.holds Tryz.pinned (.plain (OpenSpec.ofChange quorumMoreSpec)) quorumMoreCard

/-- THE TIED CARD OF 'pursuivantlaw18.QuorumOrder'. -/
def quorumOrderCard : Claim7 := { stood := { row := quorumOrderRow, standIns := [], harness := (true, "52662b244b4a5b8dfe05cf26fd23017f609ec661c2e2e4ef9c30f8a23e274dc0"), looks := false }, kinds := [], alts := [], laidByText := true, laidKinds := [.data, .data, .data, .data, .data, .pinned], laidTests := true, laidLooks := .later }
def QuorumOrderCardSaid : Prop := Claim7.holds Tryz.pinned (.plain (OpenSpec.ofChange quorumOrderSpec)) quorumOrderCard

/-- THE SECOND FORM's CARD OF 'pursuivantlaw18.QuorumBoth'. -/
def quorumBothUptoCard : Claim7 := { stood := { row := quorumBothUptoRow, standIns := [], harness := (true, "52662b244b4a5b8dfe05cf26fd23017f609ec661c2e2e4ef9c30f8a23e274dc0"), looks := false }, kinds := [], alts := [], laidByText := true, laidKinds := [.data, .data, .data, .data, .data, .pinned], laidTests := true, laidLooks := .later }
def QuorumBothUptoCardSaid : Prop := Claim7.holds Tryz.pinned (.plain (OpenSpec.upto quorumBothSpec)) quorumBothUptoCard

/-- THE SECOND FORM's CARD OF 'pursuivantlaw18.QuorumOnce'. -/
def quorumOnceUptoCard : Claim7 := { stood := { row := quorumOnceUptoRow, standIns := [], harness := (true, "52662b244b4a5b8dfe05cf26fd23017f609ec661c2e2e4ef9c30f8a23e274dc0"), looks := false }, kinds := [], alts := [], laidByText := true, laidKinds := [.data, .data, .data, .data, .data, .pinned], laidTests := true, laidLooks := .later }
def QuorumOnceUptoCardSaid : Prop := Claim7.holds Tryz.pinned (.plain (OpenSpec.upto quorumOnceSpec)) quorumOnceUptoCard

/-- THE SECOND FORM's CARD OF 'pursuivantlaw18.QuorumMore'. -/
def quorumMoreUptoCard : Claim7 := { stood := { row := quorumMoreUptoRow, standIns := [], harness := (true, "52662b244b4a5b8dfe05cf26fd23017f609ec661c2e2e4ef9c30f8a23e274dc0"), looks := false }, kinds := [], alts := [], laidByText := true, laidKinds := [.data, .data, .data, .data, .data, .pinned], laidTests := true, laidLooks := .later }
def QuorumMoreUptoCardSaid : Prop := Claim7.holds Tryz.pinned (.plain (OpenSpec.upto quorumMoreSpec)) quorumMoreUptoCard

/-- THE SECOND FORM's CARD OF 'pursuivantlaw18.QuorumOrder'. -/
def quorumOrderUptoCard : Claim7 := { stood := { row := quorumOrderUptoRow, standIns := [], harness := (true, "52662b244b4a5b8dfe05cf26fd23017f609ec661c2e2e4ef9c30f8a23e274dc0"), looks := false }, kinds := [], alts := [], laidByText := true, laidKinds := [.data, .data, .data, .data, .data, .pinned], laidTests := true, laidLooks := .later }
def QuorumOrderUptoCardSaid : Prop := Claim7.holds Tryz.pinned (.plain (OpenSpec.upto quorumOrderSpec)) quorumOrderUptoCard
end Rows
end Go.Proofs.YtibnfbglanpoiaaGreatDoor
