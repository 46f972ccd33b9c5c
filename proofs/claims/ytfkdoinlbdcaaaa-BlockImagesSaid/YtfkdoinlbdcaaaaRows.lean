/-
  No cell of these rows narrows 'for every input' (looked for: loops, veiled, ifaces, maps, wideKeys, modest, calm, conditions, laid).
  DERIVED. THE GIVEN ROWS OF THIS SEAT. 6 by the template 'for every input the law returns true; each argument reads behind the call as it read before'; 0 by the template 'total and deterministic' (their statements: YtfkdoinlbdcaaaaTotals.lean).
  GIVEN WITH THE SEED: the statements are not yours to turn. If you find one false, say at which input.
  Laid BY PROGRAM, IN A SANDBOX (cutbox-rows.mjs): the forced cells as the released guide's own fill.sh prints them over the translation e2e220d6da1a732f… (all of the seat's roots in one cut). By AI agents, Wed Nov 11 2026. No macro, syntax, notation, axiom, sorry.
-/
import Derived.Test.YtfkdoinlbdcaaaaChecked
import GoSem.Claim
import GoSem.ClaimJoined
import GoSem.ClaimMapViews
import Derived.JoinedTies
import Derived.KernelRfl
namespace Go.Proofs.Ytfkdoinlbdcaaaa
/- THE CELL 'sum', in the pinned program and in every row, IS THE sha256 OF THE DUMP (.gsa) THAT YtfkdoinlbdcaaaaProg.lean LOADS. Nothing in Lean hashes anything: it is a label: what it is worth is what the hold of that sum in a sandbox is worth. -/
noncomputable def Try.pinned : Pinned := { name := "ytfkdoinlbdcaaaa", sum := "e2e220d6da1a732fbb912fc087de4fb0137cc24b18341b23b658d09e4c09f1ea", checked := Try.checked }
namespace Rows
def none {H : Type} : Left H := { results := [], args := [] }

/-- 'pursuivantlaw21.BlockKeeps': WHATEVER THE INPUT: true; the input reads as it did. -/
def blockKeepsSpec : ChangeSpec := { name := "blockKeeps", fn := fun _ => fun
  | [d1, d2, d3] => { results := [.lit (.bool true)], args := [d1, d2, d3] }
  | _ => none }
def blockKeepsRow : OpenClaim := { program := "ytfkdoinlbdcaaaa", sum := "e2e220d6da1a732fbb912fc087de4fb0137cc24b18341b23b658d09e4c09f1ea", func := "pursuivant/pursuivantlaw21.BlockKeeps", spec := "blockKeeps", inPlace := ["maps.clone"], unfollowed := true, recurses := true, apart := false }
def BlockKeepsSaid : Prop := blockKeepsRow.holds Try.pinned (OpenSpec.ofChange blockKeepsSpec)

/-- ITS FALSE NEIGHBOUR: 'it returns false'. Refute it at one input. -/
def blockKeepsWrong : ChangeSpec := { name := "blockKeeps", fn := fun _ => fun
  | [d1, d2, d3] => { results := [.lit (.bool false)], args := [d1, d2, d3] }
  | _ => none }
def BlockKeepsWrongFalsely : Prop := blockKeepsRow.holds Try.pinned (OpenSpec.ofChange blockKeepsWrong)

/-- 'pursuivantlaw21.BlockSyncs': WHATEVER THE INPUT: true; the input reads as it did. -/
def blockSyncsSpec : ChangeSpec := { name := "blockSyncs", fn := fun _ => fun
  | [d] => { results := [.lit (.bool true)], args := [d] }
  | _ => none }
def blockSyncsRow : OpenClaim := { program := "ytfkdoinlbdcaaaa", sum := "e2e220d6da1a732fbb912fc087de4fb0137cc24b18341b23b658d09e4c09f1ea", func := "pursuivant/pursuivantlaw21.BlockSyncs", spec := "blockSyncs", inPlace := ["maps.clone"], unfollowed := true, recurses := true, apart := false }
def BlockSyncsSaid : Prop := blockSyncsRow.holds Try.pinned (OpenSpec.ofChange blockSyncsSpec)

/-- ITS FALSE NEIGHBOUR: 'it returns false'. Refute it at one input. -/
def blockSyncsWrong : ChangeSpec := { name := "blockSyncs", fn := fun _ => fun
  | [d] => { results := [.lit (.bool false)], args := [d] }
  | _ => none }
def BlockSyncsWrongFalsely : Prop := blockSyncsRow.holds Try.pinned (OpenSpec.ofChange blockSyncsWrong)

/-- 'pursuivantlaw21.BlockDoes': WHATEVER THE INPUT: true; the input reads as it did. -/
def blockDoesSpec : ChangeSpec := { name := "blockDoes", fn := fun _ => fun
  | [d1, d2] => { results := [.lit (.bool true)], args := [d1, d2] }
  | _ => none }
def blockDoesRow : OpenClaim := { program := "ytfkdoinlbdcaaaa", sum := "e2e220d6da1a732fbb912fc087de4fb0137cc24b18341b23b658d09e4c09f1ea", func := "pursuivant/pursuivantlaw21.BlockDoes", spec := "blockDoes", inPlace := ["maps.clone"], unfollowed := true, recurses := true, apart := false }
def BlockDoesSaid : Prop := blockDoesRow.holds Try.pinned (OpenSpec.ofChange blockDoesSpec)

/-- ITS FALSE NEIGHBOUR: 'it returns false'. Refute it at one input. -/
def blockDoesWrong : ChangeSpec := { name := "blockDoes", fn := fun _ => fun
  | [d1, d2] => { results := [.lit (.bool false)], args := [d1, d2] }
  | _ => none }
def BlockDoesWrongFalsely : Prop := blockDoesRow.holds Try.pinned (OpenSpec.ofChange blockDoesWrong)

/-- 'pursuivantlaw21.BlockNobody': WHATEVER THE INPUT: true; the input reads as it did. -/
def blockNobodySpec : ChangeSpec := { name := "blockNobody", fn := fun _ => fun
  | [d] => { results := [.lit (.bool true)], args := [d] }
  | _ => none }
def blockNobodyRow : OpenClaim := { program := "ytfkdoinlbdcaaaa", sum := "e2e220d6da1a732fbb912fc087de4fb0137cc24b18341b23b658d09e4c09f1ea", func := "pursuivant/pursuivantlaw21.BlockNobody", spec := "blockNobody", inPlace := ["maps.clone"], unfollowed := true, recurses := true, apart := false }
def BlockNobodySaid : Prop := blockNobodyRow.holds Try.pinned (OpenSpec.ofChange blockNobodySpec)

/-- ITS FALSE NEIGHBOUR: 'it returns false'. Refute it at one input. -/
def blockNobodyWrong : ChangeSpec := { name := "blockNobody", fn := fun _ => fun
  | [d] => { results := [.lit (.bool false)], args := [d] }
  | _ => none }
def BlockNobodyWrongFalsely : Prop := blockNobodyRow.holds Try.pinned (OpenSpec.ofChange blockNobodyWrong)

/-- 'pursuivantlaw21.BlockLoads': WHATEVER THE INPUT: true; the input reads as it did. -/
def blockLoadsSpec : ChangeSpec := { name := "blockLoads", fn := fun _ => fun
  | [d] => { results := [.lit (.bool true)], args := [d] }
  | _ => none }
def blockLoadsRow : OpenClaim := { program := "ytfkdoinlbdcaaaa", sum := "e2e220d6da1a732fbb912fc087de4fb0137cc24b18341b23b658d09e4c09f1ea", func := "pursuivant/pursuivantlaw21.BlockLoads", spec := "blockLoads", inPlace := ["maps.clone"], unfollowed := true, recurses := true, apart := false }
def BlockLoadsSaid : Prop := blockLoadsRow.holds Try.pinned (OpenSpec.ofChange blockLoadsSpec)

/-- ITS FALSE NEIGHBOUR: 'it returns false'. Refute it at one input. -/
def blockLoadsWrong : ChangeSpec := { name := "blockLoads", fn := fun _ => fun
  | [d] => { results := [.lit (.bool false)], args := [d] }
  | _ => none }
def BlockLoadsWrongFalsely : Prop := blockLoadsRow.holds Try.pinned (OpenSpec.ofChange blockLoadsWrong)

/-- 'pursuivantlaw21.BlockImages': WHATEVER THE INPUT: true; the input reads as it did. -/
def blockImagesSpec : ChangeSpec := { name := "blockImages", fn := fun _ => fun
  | [d1, d2] => { results := [.lit (.bool true)], args := [d1, d2] }
  | _ => none }
def blockImagesRow : OpenClaim := { program := "ytfkdoinlbdcaaaa", sum := "e2e220d6da1a732fbb912fc087de4fb0137cc24b18341b23b658d09e4c09f1ea", func := "pursuivant/pursuivantlaw21.BlockImages", spec := "blockImages", inPlace := ["maps.clone"], unfollowed := true, recurses := true, apart := false }
def BlockImagesSaid : Prop := blockImagesRow.holds Try.pinned (OpenSpec.ofChange blockImagesSpec)

/-- ITS FALSE NEIGHBOUR: 'it returns false'. Refute it at one input. -/
def blockImagesWrong : ChangeSpec := { name := "blockImages", fn := fun _ => fun
  | [d1, d2] => { results := [.lit (.bool false)], args := [d1, d2] }
  | _ => none }
def BlockImagesWrongFalsely : Prop := blockImagesRow.holds Try.pinned (OpenSpec.ofChange blockImagesWrong)

/- THE SECOND FORM. 'bulk': how many values and letters a reading holds, each counted each time it is reached (what is shared counts as often as it is met; a slice's spare places count too). A statement '..UptoSaid' is the law's where the arguments, and the package variables that the reading takes, are together of bulk at most 1048576: NARROWER than '..Said'. Prove '..Said' where nothing that the law and all that it calls make is longer than what came in: it says more and counts as full. Else prove '..UptoSaid'. A law counts once. -/
mutual
def uptoBulk {H : Type} : DataW H → Nat
  | .lit (.string bytes) => bytes.length + 1
  | .lit _ => 1
  | .nil => 1
  | .ptr d => uptoBulk d + 1
  | .slice elems spare => uptoBulkAll elems + uptoBulkAll spare + 1
  | .agg parts => uptoBulkAll parts + 1
  | .iface _ d => uptoBulk d + 1
  | .map entries => uptoBulkEntries entries + 1
  | .held _ => 1
def uptoBulkAll {H : Type} : List (DataW H) → Nat
  | [] => 0
  | d :: r => uptoBulk d + uptoBulkAll r
def uptoBulkEntries {H : Type} : List (Lit × DataW H) → Nat
  | [] => 0
  | x :: r => uptoBulkEntry x + uptoBulkEntries r
def uptoBulkEntry {H : Type} : Lit × DataW H → Nat
  | (.string bytes, d) => bytes.length + uptoBulk d + 1
  | (_, d) => uptoBulk d + 1
 end
def uptoSmall : (H : Type) → List (DataW H) → Bool := fun _ ds => decide (uptoBulkAll ds ≤ 1048576)
def OpenSpec.upto (s : _root_.Go.ChangeSpec) : _root_.Go.OpenSpec := { _root_.Go.OpenSpec.ofChange s with cond := some uptoSmall }

/-- 'pursuivantlaw21.BlockKeeps', WHERE WHAT IT READS IS OF BULK AT MOST 1048576: true; the input reads as it did. -/
def blockKeepsUptoRow : OpenClaim := { program := "ytfkdoinlbdcaaaa", sum := "e2e220d6da1a732fbb912fc087de4fb0137cc24b18341b23b658d09e4c09f1ea", func := "pursuivant/pursuivantlaw21.BlockKeeps", spec := "blockKeeps", inPlace := ["maps.clone"], unfollowed := true, recurses := true, apart := false, narrowed := true }
def BlockKeepsUptoSaid : Prop := blockKeepsUptoRow.holds Try.pinned (OpenSpec.upto blockKeepsSpec)

/-- 'pursuivantlaw21.BlockSyncs', WHERE WHAT IT READS IS OF BULK AT MOST 1048576: true; the input reads as it did. -/
def blockSyncsUptoRow : OpenClaim := { program := "ytfkdoinlbdcaaaa", sum := "e2e220d6da1a732fbb912fc087de4fb0137cc24b18341b23b658d09e4c09f1ea", func := "pursuivant/pursuivantlaw21.BlockSyncs", spec := "blockSyncs", inPlace := ["maps.clone"], unfollowed := true, recurses := true, apart := false, narrowed := true }
def BlockSyncsUptoSaid : Prop := blockSyncsUptoRow.holds Try.pinned (OpenSpec.upto blockSyncsSpec)

/-- 'pursuivantlaw21.BlockDoes', WHERE WHAT IT READS IS OF BULK AT MOST 1048576: true; the input reads as it did. -/
def blockDoesUptoRow : OpenClaim := { program := "ytfkdoinlbdcaaaa", sum := "e2e220d6da1a732fbb912fc087de4fb0137cc24b18341b23b658d09e4c09f1ea", func := "pursuivant/pursuivantlaw21.BlockDoes", spec := "blockDoes", inPlace := ["maps.clone"], unfollowed := true, recurses := true, apart := false, narrowed := true }
def BlockDoesUptoSaid : Prop := blockDoesUptoRow.holds Try.pinned (OpenSpec.upto blockDoesSpec)

/-- 'pursuivantlaw21.BlockNobody', WHERE WHAT IT READS IS OF BULK AT MOST 1048576: true; the input reads as it did. -/
def blockNobodyUptoRow : OpenClaim := { program := "ytfkdoinlbdcaaaa", sum := "e2e220d6da1a732fbb912fc087de4fb0137cc24b18341b23b658d09e4c09f1ea", func := "pursuivant/pursuivantlaw21.BlockNobody", spec := "blockNobody", inPlace := ["maps.clone"], unfollowed := true, recurses := true, apart := false, narrowed := true }
def BlockNobodyUptoSaid : Prop := blockNobodyUptoRow.holds Try.pinned (OpenSpec.upto blockNobodySpec)

/-- 'pursuivantlaw21.BlockLoads', WHERE WHAT IT READS IS OF BULK AT MOST 1048576: true; the input reads as it did. -/
def blockLoadsUptoRow : OpenClaim := { program := "ytfkdoinlbdcaaaa", sum := "e2e220d6da1a732fbb912fc087de4fb0137cc24b18341b23b658d09e4c09f1ea", func := "pursuivant/pursuivantlaw21.BlockLoads", spec := "blockLoads", inPlace := ["maps.clone"], unfollowed := true, recurses := true, apart := false, narrowed := true }
def BlockLoadsUptoSaid : Prop := blockLoadsUptoRow.holds Try.pinned (OpenSpec.upto blockLoadsSpec)

/-- 'pursuivantlaw21.BlockImages', WHERE WHAT IT READS IS OF BULK AT MOST 1048576: true; the input reads as it did. -/
def blockImagesUptoRow : OpenClaim := { program := "ytfkdoinlbdcaaaa", sum := "e2e220d6da1a732fbb912fc087de4fb0137cc24b18341b23b658d09e4c09f1ea", func := "pursuivant/pursuivantlaw21.BlockImages", spec := "blockImages", inPlace := ["maps.clone"], unfollowed := true, recurses := true, apart := false, narrowed := true }
def BlockImagesUptoSaid : Prop := blockImagesUptoRow.holds Try.pinned (OpenSpec.upto blockImagesSpec)

end Rows
end Go.Proofs.Ytfkdoinlbdcaaaa
