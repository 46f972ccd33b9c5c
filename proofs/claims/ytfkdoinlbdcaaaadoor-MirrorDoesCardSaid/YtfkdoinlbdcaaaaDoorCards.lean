/-
  DERIVED. GIVEN WITH THE SEED: THE CARDS: each row of YtfkdoinlbdcaaaaDoorRows.lean that lists a variable, with what it lists TIED to the program's text (the seventh form; the later family's looks); each row that meets fmt, with fmt's text TOLD by the authors' own Lean function (tested against real Go, not proved from fmt's source: count such statements apart). THE CARD IS WHAT COUNTS. Prove the row's statement (the work); the ties are given (YtfkdoinlbdcaaaaDoorTie.lean); close each card by the builder's one call (the guide's Derived/Test/ToyasCard.lean, 'card_holds'). Laid BY PROGRAM, IN A SANDBOX (cutbox-door.mjs). By AI agents, Wed Nov 11 2026. No macro, syntax, notation, axiom, sorry.
-/
import Derived.Test.YtfkdoinlbdcaaaaDoorRows
import GoSem.ClaimSeven
namespace Go.Proofs.YtfkdoinlbdcaaaaDoor
namespace Rows

/-- THE TIED CARD OF 'pursuivantlaw24.MirrorFull'. -/
def mirrorFullCard : Claim7 := { stood := { row := mirrorFullRow, standIns := [], harness := (true, "e63ae6af4b3efa1863887e85de4aaeca493f818ab4f3d56fe97cdf85911095d2"), looks := false }, kinds := [], alts := [], laidByText := true, laidKinds := [.data, .data, .data], laidTests := true, laidLooks := .later }
def MirrorFullCardSaid : Prop := Claim7.holds Tryd.pinned (.plain (OpenSpec.ofChange mirrorFullSpec)) mirrorFullCard

/-- THE TIED CARD OF 'pursuivantlaw24.MirrorNames'. -/
def mirrorNamesCard : Claim7 := { stood := { row := mirrorNamesRow, standIns := [], harness := (true, "e63ae6af4b3efa1863887e85de4aaeca493f818ab4f3d56fe97cdf85911095d2"), looks := false }, kinds := [], alts := [], laidByText := true, laidKinds := [.data, .data, .data], laidTests := true, laidLooks := .later }
def MirrorNamesCardSaid : Prop := Claim7.holds Tryd.pinned (.plain (OpenSpec.ofChange mirrorNamesSpec)) mirrorNamesCard

/-- THE TIED CARD OF 'pursuivantlaw24.MirrorDoes'. -/
def mirrorDoesCard : Claim7 := { stood := { row := mirrorDoesRow, standIns := [], harness := (true, "e63ae6af4b3efa1863887e85de4aaeca493f818ab4f3d56fe97cdf85911095d2"), looks := false }, kinds := [], alts := [], laidByText := true, laidKinds := [.data, .data, .data], laidTests := true, laidLooks := .later }
def MirrorDoesCardSaid : Prop := Claim7.holds Tryd.pinned (.plain (OpenSpec.ofChange mirrorDoesSpec)) mirrorDoesCard

/-- THE TIED CARD OF 'pursuivantlaw24.MirrorNobody'. -/
def mirrorNobodyCard : Claim7 := { stood := { row := mirrorNobodyRow, standIns := [], harness := (true, "e63ae6af4b3efa1863887e85de4aaeca493f818ab4f3d56fe97cdf85911095d2"), looks := false }, kinds := [], alts := [], laidByText := true, laidKinds := [.data, .data, .data], laidTests := true, laidLooks := .later }
def MirrorNobodyCardSaid : Prop := Claim7.holds Tryd.pinned (.plain (OpenSpec.ofChange mirrorNobodySpec)) mirrorNobodyCard

/-- THE SECOND FORM's CARD OF 'pursuivantlaw24.MirrorFull'. -/
def mirrorFullUptoCard : Claim7 := { stood := { row := mirrorFullUptoRow, standIns := [], harness := (true, "e63ae6af4b3efa1863887e85de4aaeca493f818ab4f3d56fe97cdf85911095d2"), looks := false }, kinds := [], alts := [], laidByText := true, laidKinds := [.data, .data, .data], laidTests := true, laidLooks := .later }
def MirrorFullUptoCardSaid : Prop := Claim7.holds Tryd.pinned (.plain (OpenSpec.upto mirrorFullSpec)) mirrorFullUptoCard

/-- THE SECOND FORM's CARD OF 'pursuivantlaw24.MirrorNames'. -/
def mirrorNamesUptoCard : Claim7 := { stood := { row := mirrorNamesUptoRow, standIns := [], harness := (true, "e63ae6af4b3efa1863887e85de4aaeca493f818ab4f3d56fe97cdf85911095d2"), looks := false }, kinds := [], alts := [], laidByText := true, laidKinds := [.data, .data, .data], laidTests := true, laidLooks := .later }
def MirrorNamesUptoCardSaid : Prop := Claim7.holds Tryd.pinned (.plain (OpenSpec.upto mirrorNamesSpec)) mirrorNamesUptoCard

/-- THE SECOND FORM's CARD OF 'pursuivantlaw24.MirrorDoes'. -/
def mirrorDoesUptoCard : Claim7 := { stood := { row := mirrorDoesUptoRow, standIns := [], harness := (true, "e63ae6af4b3efa1863887e85de4aaeca493f818ab4f3d56fe97cdf85911095d2"), looks := false }, kinds := [], alts := [], laidByText := true, laidKinds := [.data, .data, .data], laidTests := true, laidLooks := .later }
def MirrorDoesUptoCardSaid : Prop := Claim7.holds Tryd.pinned (.plain (OpenSpec.upto mirrorDoesSpec)) mirrorDoesUptoCard

/-- THE SECOND FORM's CARD OF 'pursuivantlaw24.MirrorNobody'. -/
def mirrorNobodyUptoCard : Claim7 := { stood := { row := mirrorNobodyUptoRow, standIns := [], harness := (true, "e63ae6af4b3efa1863887e85de4aaeca493f818ab4f3d56fe97cdf85911095d2"), looks := false }, kinds := [], alts := [], laidByText := true, laidKinds := [.data, .data, .data], laidTests := true, laidLooks := .later }
def MirrorNobodyUptoCardSaid : Prop := Claim7.holds Tryd.pinned (.plain (OpenSpec.upto mirrorNobodySpec)) mirrorNobodyUptoCard
end Rows
end Go.Proofs.YtfkdoinlbdcaaaaDoor
