/-
  No cell of these rows narrows 'for every input' (looked for: loops, veiled, ifaces, maps, wideKeys, modest, calm, conditions, laid).
  DERIVED. THE GIVEN ROWS OF THIS SEAT. 6 by the template 'for every input the law returns true; each argument reads behind the call as it read before'; 0 by the template 'total and deterministic' (their statements: YthojedbhcieopaaTotals.lean).
  GIVEN WITH THE SEED: the statements are not yours to turn. If you find one false, say at which input.
  Laid BY PROGRAM, IN A SANDBOX (cutbox-rows.mjs): the forced cells as the released guide's own fill.sh prints them over the translation e5e2caa9acf0f075… (all of the seat's roots in one cut). By AI agents, Wed Nov 11 2026. No macro, syntax, notation, axiom, sorry.
-/
import Derived.Test.YthojedbhcieopaaChecked
import GoSem.Claim
import GoSem.ClaimJoined
import GoSem.ClaimMapViews
import Derived.JoinedTies
import Derived.KernelRfl
namespace Go.Proofs.Ythojedbhcieopaa
/- THE CELL 'sum', in the pinned program and in every row, IS THE sha256 OF THE DUMP (.gsa) THAT YthojedbhcieopaaProg.lean LOADS. Nothing in Lean hashes anything: it is a label: what it is worth is what the hold of that sum in a sandbox is worth. -/
noncomputable def Try.pinned : Pinned := { name := "ythojedbhcieopaa", sum := "e5e2caa9acf0f075e538451aa2a3b1658c91b0132344d16d8bcfd82a06bffc12", checked := Try.checked }
namespace Rows
def none {H : Type} : Left H := { results := [], args := [] }

/-- 'laws.FnExactConstants': WHATEVER THE INPUT: true; the input reads as it did. -/
def fnExactConstantsSpec : ChangeSpec := { name := "fnExactConstants", fn := fun _ => fun
  | [] => { results := [.lit (.bool true)], args := [] }
  | _ => none }
def fnExactConstantsRow : OpenClaim := { program := "ythojedbhcieopaa", sum := "e5e2caa9acf0f075e538451aa2a3b1658c91b0132344d16d8bcfd82a06bffc12", func := "loop.example/g00398/laws.FnExactConstants", spec := "fnExactConstants", apart := false }
def FnExactConstantsSaid : Prop := fnExactConstantsRow.holds Try.pinned (OpenSpec.ofChange fnExactConstantsSpec)

/-- ITS FALSE NEIGHBOUR: 'it returns false'. Refute it at one input. -/
def fnExactConstantsWrong : ChangeSpec := { name := "fnExactConstants", fn := fun _ => fun
  | [] => { results := [.lit (.bool false)], args := [] }
  | _ => none }
def FnExactConstantsWrongFalsely : Prop := fnExactConstantsRow.holds Try.pinned (OpenSpec.ofChange fnExactConstantsWrong)

/-- 'laws.FnExactGeoOk': WHATEVER THE INPUT: true; the input reads as it did. -/
def fnExactGeoOkSpec : ChangeSpec := { name := "fnExactGeoOk", fn := fun _ => fun
  | [d] => { results := [.lit (.bool true)], args := [d] }
  | _ => none }
def fnExactGeoOkRow : OpenClaim := { program := "ythojedbhcieopaa", sum := "e5e2caa9acf0f075e538451aa2a3b1658c91b0132344d16d8bcfd82a06bffc12", func := "loop.example/g00398/laws.FnExactGeoOk", spec := "fnExactGeoOk", apart := false }
def FnExactGeoOkSaid : Prop := fnExactGeoOkRow.holds Try.pinned (OpenSpec.ofChange fnExactGeoOkSpec)

/-- ITS FALSE NEIGHBOUR: 'it returns false'. Refute it at one input. -/
def fnExactGeoOkWrong : ChangeSpec := { name := "fnExactGeoOk", fn := fun _ => fun
  | [d] => { results := [.lit (.bool false)], args := [d] }
  | _ => none }
def FnExactGeoOkWrongFalsely : Prop := fnExactGeoOkRow.holds Try.pinned (OpenSpec.ofChange fnExactGeoOkWrong)

/-- 'laws.FnExactSlotOf': WHATEVER THE INPUT: true; the input reads as it did. -/
def fnExactSlotOfSpec : ChangeSpec := { name := "fnExactSlotOf", fn := fun _ => fun
  | [d] => { results := [.lit (.bool true)], args := [d] }
  | _ => none }
def fnExactSlotOfRow : OpenClaim := { program := "ythojedbhcieopaa", sum := "e5e2caa9acf0f075e538451aa2a3b1658c91b0132344d16d8bcfd82a06bffc12", func := "loop.example/g00398/laws.FnExactSlotOf", spec := "fnExactSlotOf", apart := false }
def FnExactSlotOfSaid : Prop := fnExactSlotOfRow.holds Try.pinned (OpenSpec.ofChange fnExactSlotOfSpec)

/-- ITS FALSE NEIGHBOUR: 'it returns false'. Refute it at one input. -/
def fnExactSlotOfWrong : ChangeSpec := { name := "fnExactSlotOf", fn := fun _ => fun
  | [d] => { results := [.lit (.bool false)], args := [d] }
  | _ => none }
def FnExactSlotOfWrongFalsely : Prop := fnExactSlotOfRow.holds Try.pinned (OpenSpec.ofChange fnExactSlotOfWrong)

/-- 'laws.FnExactDataAt': WHATEVER THE INPUT: true; the input reads as it did. -/
def fnExactDataAtSpec : ChangeSpec := { name := "fnExactDataAt", fn := fun _ => fun
  | [d] => { results := [.lit (.bool true)], args := [d] }
  | _ => none }
def fnExactDataAtRow : OpenClaim := { program := "ythojedbhcieopaa", sum := "e5e2caa9acf0f075e538451aa2a3b1658c91b0132344d16d8bcfd82a06bffc12", func := "loop.example/g00398/laws.FnExactDataAt", spec := "fnExactDataAt", apart := false }
def FnExactDataAtSaid : Prop := fnExactDataAtRow.holds Try.pinned (OpenSpec.ofChange fnExactDataAtSpec)

/-- ITS FALSE NEIGHBOUR: 'it returns false'. Refute it at one input. -/
def fnExactDataAtWrong : ChangeSpec := { name := "fnExactDataAt", fn := fun _ => fun
  | [d] => { results := [.lit (.bool false)], args := [d] }
  | _ => none }
def FnExactDataAtWrongFalsely : Prop := fnExactDataAtRow.holds Try.pinned (OpenSpec.ofChange fnExactDataAtWrong)

/-- 'laws.FnExactBlocks': WHATEVER THE INPUT: true; the input reads as it did. -/
def fnExactBlocksSpec : ChangeSpec := { name := "fnExactBlocks", fn := fun _ => fun
  | [d] => { results := [.lit (.bool true)], args := [d] }
  | _ => none }
def fnExactBlocksRow : OpenClaim := { program := "ythojedbhcieopaa", sum := "e5e2caa9acf0f075e538451aa2a3b1658c91b0132344d16d8bcfd82a06bffc12", func := "loop.example/g00398/laws.FnExactBlocks", spec := "fnExactBlocks", apart := false }
def FnExactBlocksSaid : Prop := fnExactBlocksRow.holds Try.pinned (OpenSpec.ofChange fnExactBlocksSpec)

/-- ITS FALSE NEIGHBOUR: 'it returns false'. Refute it at one input. -/
def fnExactBlocksWrong : ChangeSpec := { name := "fnExactBlocks", fn := fun _ => fun
  | [d] => { results := [.lit (.bool false)], args := [d] }
  | _ => none }
def FnExactBlocksWrongFalsely : Prop := fnExactBlocksRow.holds Try.pinned (OpenSpec.ofChange fnExactBlocksWrong)

/-- 'laws.FnExactBlockAt': WHATEVER THE INPUT: true; the input reads as it did. -/
def fnExactBlockAtSpec : ChangeSpec := { name := "fnExactBlockAt", fn := fun _ => fun
  | [d1, d2, d3] => { results := [.lit (.bool true)], args := [d1, d2, d3] }
  | _ => none }
def fnExactBlockAtRow : OpenClaim := { program := "ythojedbhcieopaa", sum := "e5e2caa9acf0f075e538451aa2a3b1658c91b0132344d16d8bcfd82a06bffc12", func := "loop.example/g00398/laws.FnExactBlockAt", spec := "fnExactBlockAt", apart := false }
def FnExactBlockAtSaid : Prop := fnExactBlockAtRow.holds Try.pinned (OpenSpec.ofChange fnExactBlockAtSpec)

/-- ITS FALSE NEIGHBOUR: 'it returns false'. Refute it at one input. -/
def fnExactBlockAtWrong : ChangeSpec := { name := "fnExactBlockAt", fn := fun _ => fun
  | [d1, d2, d3] => { results := [.lit (.bool false)], args := [d1, d2, d3] }
  | _ => none }
def FnExactBlockAtWrongFalsely : Prop := fnExactBlockAtRow.holds Try.pinned (OpenSpec.ofChange fnExactBlockAtWrong)

/- THE SECOND FORM. 'bulk': how many values and letters a reading holds, each counted each time it is reached (what is shared counts as often as it is met; a slice's spare places count too). A statement '..UptoSaid' is the law's where the arguments, and the package variables that the reading takes, are together of bulk at most 1048576: NARROWER than '..Said'. Prove '..Said' where nothing that the law and all that it calls make is longer than what came in: it says more and counts as full. Else prove '..UptoSaid'. A law counts once. -/
mutual
def uptoBulk {H : Type} : DataW H → Nat
  | .lit (.string bytes) => bytes.length + 1
  | .lit _ => 1
  | .nil => 1
  | .ptr d => uptoBulk d + 1
  | .slice elems spare => uptoBulkAll elems + uptoBulkAll spare + 1
  | .agg parts => uptoBulkAll parts + 1
  | .iface _ d => uptoBulk d + 1
  | .map entries => uptoBulkEntries entries + 1
  | .held _ => 1
def uptoBulkAll {H : Type} : List (DataW H) → Nat
  | [] => 0
  | d :: r => uptoBulk d + uptoBulkAll r
def uptoBulkEntries {H : Type} : List (Lit × DataW H) → Nat
  | [] => 0
  | x :: r => uptoBulkEntry x + uptoBulkEntries r
def uptoBulkEntry {H : Type} : Lit × DataW H → Nat
  | (.string bytes, d) => bytes.length + uptoBulk d + 1
  | (_, d) => uptoBulk d + 1
 end
def uptoSmall : (H : Type) → List (DataW H) → Bool := fun _ ds => decide (uptoBulkAll ds ≤ 1048576)
def OpenSpec.upto (s : _root_.Go.ChangeSpec) : _root_.Go.OpenSpec := { _root_.Go.OpenSpec.ofChange s with cond := some uptoSmall }

/-- 'laws.FnExactConstants', WHERE WHAT IT READS IS OF BULK AT MOST 1048576: true; the input reads as it did. -/
def fnExactConstantsUptoRow : OpenClaim := { program := "ythojedbhcieopaa", sum := "e5e2caa9acf0f075e538451aa2a3b1658c91b0132344d16d8bcfd82a06bffc12", func := "loop.example/g00398/laws.FnExactConstants", spec := "fnExactConstants", apart := false, narrowed := true }
def FnExactConstantsUptoSaid : Prop := fnExactConstantsUptoRow.holds Try.pinned (OpenSpec.upto fnExactConstantsSpec)

/-- 'laws.FnExactGeoOk', WHERE WHAT IT READS IS OF BULK AT MOST 1048576: true; the input reads as it did. -/
def fnExactGeoOkUptoRow : OpenClaim := { program := "ythojedbhcieopaa", sum := "e5e2caa9acf0f075e538451aa2a3b1658c91b0132344d16d8bcfd82a06bffc12", func := "loop.example/g00398/laws.FnExactGeoOk", spec := "fnExactGeoOk", apart := false, narrowed := true }
def FnExactGeoOkUptoSaid : Prop := fnExactGeoOkUptoRow.holds Try.pinned (OpenSpec.upto fnExactGeoOkSpec)

/-- 'laws.FnExactSlotOf', WHERE WHAT IT READS IS OF BULK AT MOST 1048576: true; the input reads as it did. -/
def fnExactSlotOfUptoRow : OpenClaim := { program := "ythojedbhcieopaa", sum := "e5e2caa9acf0f075e538451aa2a3b1658c91b0132344d16d8bcfd82a06bffc12", func := "loop.example/g00398/laws.FnExactSlotOf", spec := "fnExactSlotOf", apart := false, narrowed := true }
def FnExactSlotOfUptoSaid : Prop := fnExactSlotOfUptoRow.holds Try.pinned (OpenSpec.upto fnExactSlotOfSpec)

/-- 'laws.FnExactDataAt', WHERE WHAT IT READS IS OF BULK AT MOST 1048576: true; the input reads as it did. -/
def fnExactDataAtUptoRow : OpenClaim := { program := "ythojedbhcieopaa", sum := "e5e2caa9acf0f075e538451aa2a3b1658c91b0132344d16d8bcfd82a06bffc12", func := "loop.example/g00398/laws.FnExactDataAt", spec := "fnExactDataAt", apart := false, narrowed := true }
def FnExactDataAtUptoSaid : Prop := fnExactDataAtUptoRow.holds Try.pinned (OpenSpec.upto fnExactDataAtSpec)

/-- 'laws.FnExactBlocks', WHERE WHAT IT READS IS OF BULK AT MOST 1048576: true; the input reads as it did. -/
def fnExactBlocksUptoRow : OpenClaim := { program := "ythojedbhcieopaa", sum := "e5e2caa9acf0f075e538451aa2a3b1658c91b0132344d16d8bcfd82a06bffc12", func := "loop.example/g00398/laws.FnExactBlocks", spec := "fnExactBlocks", apart := false, narrowed := true }
def FnExactBlocksUptoSaid : Prop := fnExactBlocksUptoRow.holds Try.pinned (OpenSpec.upto fnExactBlocksSpec)

/-- 'laws.FnExactBlockAt', WHERE WHAT IT READS IS OF BULK AT MOST 1048576: true; the input reads as it did. -/
def fnExactBlockAtUptoRow : OpenClaim := { program := "ythojedbhcieopaa", sum := "e5e2caa9acf0f075e538451aa2a3b1658c91b0132344d16d8bcfd82a06bffc12", func := "loop.example/g00398/laws.FnExactBlockAt", spec := "fnExactBlockAt", apart := false, narrowed := true }
def FnExactBlockAtUptoSaid : Prop := fnExactBlockAtUptoRow.holds Try.pinned (OpenSpec.upto fnExactBlockAtSpec)

end Rows
end Go.Proofs.Ythojedbhcieopaa
