/-
  DERIVED. GIVEN WITH THE SEED: THE CARDS: each row of YtckbnjipecclaaaGreatDoorRows.lean that lists a variable, with what it lists TIED to the program's text (the seventh form; the later family's looks); each row that meets fmt, with fmt's text TOLD by the authors' own Lean function (tested against real Go, not proved from fmt's source: count such statements apart). THE CARD IS WHAT COUNTS. Prove the row's statement (the work); the ties are given (YtckbnjipecclaaaGreatDoorTie.lean); close each card by the builder's one call (the guide's Derived/Test/ToyasCard.lean, 'card_holds'). Laid BY PROGRAM, IN A SANDBOX (cutbox-door.mjs). By AI agents, Wed Nov 11 2026. No macro, syntax, notation, axiom, sorry.
-/
import Derived.Test.YtckbnjipecclaaaGreatDoorRows
import GoSem.ClaimSeven
namespace Go.Proofs.YtckbnjipecclaaaGreatDoor
namespace Rows

/-- THE TIED CARD OF 'pursuivantlaw13.RoleKeys'. -/
def roleKeysCard : Claim7 := { stood := { row := roleKeysRow, standIns := [], harness := (true, "f5290c8537b5b34fc11b615dd1d802bb94c8f816076d34f25044d82f42f2fd71"), looks := false }, kinds := [], alts := [], laidByText := true, laidKinds := [.data, .data, .data, .data, .data, .pinned], laidTests := true, laidLooks := .later }
def RoleKeysCardSaid : Prop := Claim7.holds Tryz.pinned (.plain (OpenSpec.ofChange roleKeysSpec)) roleKeysCard

/-- THE TIED CARD OF 'pursuivantlaw13.RoleRoles'. -/
def roleRolesCard : Claim7 := { stood := { row := roleRolesRow, standIns := [], harness := (true, "f5290c8537b5b34fc11b615dd1d802bb94c8f816076d34f25044d82f42f2fd71"), looks := false }, kinds := [], alts := [], laidByText := true, laidKinds := [.data, .data, .data, .data, .data, .pinned], laidTests := true, laidLooks := .later }
def RoleRolesCardSaid : Prop := Claim7.holds Tryz.pinned (.plain (OpenSpec.ofChange roleRolesSpec)) roleRolesCard

/-- THE TIED CARD OF 'pursuivantlaw13.RoleNobody'. -/
def roleNobodyCard : Claim7 := { stood := { row := roleNobodyRow, standIns := [], harness := (true, "f5290c8537b5b34fc11b615dd1d802bb94c8f816076d34f25044d82f42f2fd71"), looks := false }, kinds := [], alts := [], laidByText := true, laidKinds := [.data, .data, .data, .data, .data, .pinned], laidTests := true, laidLooks := .later }
def RoleNobodyCardSaid : Prop := Claim7.holds Tryz.pinned (.plain (OpenSpec.ofChange roleNobodySpec)) roleNobodyCard

/-- THE SECOND FORM's CARD OF 'pursuivantlaw13.RoleKeys'. -/
def roleKeysUptoCard : Claim7 := { stood := { row := roleKeysUptoRow, standIns := [], harness := (true, "f5290c8537b5b34fc11b615dd1d802bb94c8f816076d34f25044d82f42f2fd71"), looks := false }, kinds := [], alts := [], laidByText := true, laidKinds := [.data, .data, .data, .data, .data, .pinned], laidTests := true, laidLooks := .later }
def RoleKeysUptoCardSaid : Prop := Claim7.holds Tryz.pinned (.plain (OpenSpec.upto roleKeysSpec)) roleKeysUptoCard

/-- THE SECOND FORM's CARD OF 'pursuivantlaw13.RoleRoles'. -/
def roleRolesUptoCard : Claim7 := { stood := { row := roleRolesUptoRow, standIns := [], harness := (true, "f5290c8537b5b34fc11b615dd1d802bb94c8f816076d34f25044d82f42f2fd71"), looks := false }, kinds := [], alts := [], laidByText := true, laidKinds := [.data, .data, .data, .data, .data, .pinned], laidTests := true, laidLooks := .later }
def RoleRolesUptoCardSaid : Prop := Claim7.holds Tryz.pinned (.plain (OpenSpec.upto roleRolesSpec)) roleRolesUptoCard

/-- THE SECOND FORM's CARD OF 'pursuivantlaw13.RoleNobody'. -/
def roleNobodyUptoCard : Claim7 := { stood := { row := roleNobodyUptoRow, standIns := [], harness := (true, "f5290c8537b5b34fc11b615dd1d802bb94c8f816076d34f25044d82f42f2fd71"), looks := false }, kinds := [], alts := [], laidByText := true, laidKinds := [.data, .data, .data, .data, .data, .pinned], laidTests := true, laidLooks := .later }
def RoleNobodyUptoCardSaid : Prop := Claim7.holds Tryz.pinned (.plain (OpenSpec.upto roleNobodySpec)) roleNobodyUptoCard
end Rows
end Go.Proofs.YtckbnjipecclaaaGreatDoor
