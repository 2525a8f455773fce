/-
  No cell of these rows narrows 'for every input' (looked for: loops, veiled, ifaces, maps, wideKeys, modest, calm, conditions, laid).
  DERIVED. THE GIVEN ROWS OF THIS SEAT. 4 by the template 'for every input the law returns true; each argument reads behind the call as it read before'; 0 by the template 'total and deterministic' (their statements: YthojedbhcieopabTotals.lean).
  GIVEN WITH THE SEED: the statements are not yours to turn. If you find one false, say at which input.
  Laid BY PROGRAM, IN A SANDBOX (cutbox-rows.mjs): the forced cells as the released guide's own fill.sh prints them over the translation 68b29c979cdc6cce… (all of the seat's roots in one cut). By AI agents, Wed Nov 11 2026. No macro, syntax, notation, axiom, sorry.
-/
import Derived.Test.YthojedbhcieopabChecked
import GoSem.Claim
import GoSem.ClaimJoined
import GoSem.ClaimMapViews
import Derived.JoinedTies
import Derived.KernelRfl
namespace Go.Proofs.Ythojedbhcieopab
/- THE CELL 'sum', in the pinned program and in every row, IS THE sha256 OF THE DUMP (.gsa) THAT YthojedbhcieopabProg.lean LOADS. Nothing in Lean hashes anything: it is a label: what it is worth is what the hold of that sum in a sandbox is worth. -/
noncomputable def Try.pinned : Pinned := { name := "ythojedbhcieopab", sum := "68b29c979cdc6cce710ee44c6cacd2ba2b56b75bb64683c4b72e993b0c8e2ad1", checked := Try.checked }
namespace Rows
def none {H : Type} : Left H := { results := [], args := [] }

/-- 'laws.FnExactSpoilSec': WHATEVER THE INPUT: true; the input reads as it did. -/
def fnExactSpoilSecSpec : ChangeSpec := { name := "fnExactSpoilSec", fn := fun _ => fun
  | [d1, d2] => { results := [.lit (.bool true)], args := [d1, d2] }
  | _ => none }
def fnExactSpoilSecRow : OpenClaim := { program := "ythojedbhcieopab", sum := "68b29c979cdc6cce710ee44c6cacd2ba2b56b75bb64683c4b72e993b0c8e2ad1", func := "loop.example/g00398/laws.FnExactSpoilSec", spec := "fnExactSpoilSec", recurses := true, apart := false }
def FnExactSpoilSecSaid : Prop := fnExactSpoilSecRow.holds Try.pinned (OpenSpec.ofChange fnExactSpoilSecSpec)

/-- ITS FALSE NEIGHBOUR: 'it returns false'. Refute it at one input. -/
def fnExactSpoilSecWrong : ChangeSpec := { name := "fnExactSpoilSec", fn := fun _ => fun
  | [d1, d2] => { results := [.lit (.bool false)], args := [d1, d2] }
  | _ => none }
def FnExactSpoilSecWrongFalsely : Prop := fnExactSpoilSecRow.holds Try.pinned (OpenSpec.ofChange fnExactSpoilSecWrong)

/-- 'laws.FnMemsBent': WHATEVER THE INPUT: true; the input reads as it did. -/
def fnMemsBentSpec : ChangeSpec := { name := "fnMemsBent", fn := fun _ => fun
  | [d] => { results := [.lit (.bool true)], args := [d] }
  | _ => none }
def fnMemsBentRow : OpenClaim := { program := "ythojedbhcieopab", sum := "68b29c979cdc6cce710ee44c6cacd2ba2b56b75bb64683c4b72e993b0c8e2ad1", func := "loop.example/g00398/laws.FnMemsBent", spec := "fnMemsBent", recurses := true, apart := false }
def FnMemsBentSaid : Prop := fnMemsBentRow.holds Try.pinned (OpenSpec.ofChange fnMemsBentSpec)

/-- ITS FALSE NEIGHBOUR: 'it returns false'. Refute it at one input. -/
def fnMemsBentWrong : ChangeSpec := { name := "fnMemsBent", fn := fun _ => fun
  | [d] => { results := [.lit (.bool false)], args := [d] }
  | _ => none }
def FnMemsBentWrongFalsely : Prop := fnMemsBentRow.holds Try.pinned (OpenSpec.ofChange fnMemsBentWrong)

/-- 'laws.FnExactMark': WHATEVER THE INPUT: true; the input reads as it did. -/
def fnExactMarkSpec : ChangeSpec := { name := "fnExactMark", fn := fun _ => fun
  | [d] => { results := [.lit (.bool true)], args := [d] }
  | _ => none }
def fnExactMarkRow : OpenClaim := { program := "ythojedbhcieopab", sum := "68b29c979cdc6cce710ee44c6cacd2ba2b56b75bb64683c4b72e993b0c8e2ad1", func := "loop.example/g00398/laws.FnExactMark", spec := "fnExactMark", unfollowed := true, recurses := true, apart := false }
def FnExactMarkSaid : Prop := fnExactMarkRow.holds Try.pinned (OpenSpec.ofChange fnExactMarkSpec)

/-- ITS FALSE NEIGHBOUR: 'it returns false'. Refute it at one input. -/
def fnExactMarkWrong : ChangeSpec := { name := "fnExactMark", fn := fun _ => fun
  | [d] => { results := [.lit (.bool false)], args := [d] }
  | _ => none }
def FnExactMarkWrongFalsely : Prop := fnExactMarkRow.holds Try.pinned (OpenSpec.ofChange fnExactMarkWrong)

/-- 'laws.FnExactPutSec': WHATEVER THE INPUT: true; the input reads as it did. -/
def fnExactPutSecSpec : ChangeSpec := { name := "fnExactPutSec", fn := fun _ => fun
  | [d1, d2] => { results := [.lit (.bool true)], args := [d1, d2] }
  | _ => none }
def fnExactPutSecRow : OpenClaim := { program := "ythojedbhcieopab", sum := "68b29c979cdc6cce710ee44c6cacd2ba2b56b75bb64683c4b72e993b0c8e2ad1", func := "loop.example/g00398/laws.FnExactPutSec", spec := "fnExactPutSec", apart := false }
def FnExactPutSecSaid : Prop := fnExactPutSecRow.holds Try.pinned (OpenSpec.ofChange fnExactPutSecSpec)

/-- ITS FALSE NEIGHBOUR: 'it returns false'. Refute it at one input. -/
def fnExactPutSecWrong : ChangeSpec := { name := "fnExactPutSec", fn := fun _ => fun
  | [d1, d2] => { results := [.lit (.bool false)], args := [d1, d2] }
  | _ => none }
def FnExactPutSecWrongFalsely : Prop := fnExactPutSecRow.holds Try.pinned (OpenSpec.ofChange fnExactPutSecWrong)

/- THE SECOND FORM. 'bulk': how many values and letters a reading holds, each counted each time it is reached (what is shared counts as often as it is met; a slice's spare places count too). A statement '..UptoSaid' is the law's where the arguments, and the package variables that the reading takes, are together of bulk at most 1048576: NARROWER than '..Said'. Prove '..Said' where nothing that the law and all that it calls make is longer than what came in: it says more and counts as full. Else prove '..UptoSaid'. A law counts once. -/
mutual
def uptoBulk {H : Type} : DataW H → Nat
  | .lit (.string bytes) => bytes.length + 1
  | .lit _ => 1
  | .nil => 1
  | .ptr d => uptoBulk d + 1
  | .slice elems spare => uptoBulkAll elems + uptoBulkAll spare + 1
  | .agg parts => uptoBulkAll parts + 1
  | .iface _ d => uptoBulk d + 1
  | .map entries => uptoBulkEntries entries + 1
  | .held _ => 1
def uptoBulkAll {H : Type} : List (DataW H) → Nat
  | [] => 0
  | d :: r => uptoBulk d + uptoBulkAll r
def uptoBulkEntries {H : Type} : List (Lit × DataW H) → Nat
  | [] => 0
  | x :: r => uptoBulkEntry x + uptoBulkEntries r
def uptoBulkEntry {H : Type} : Lit × DataW H → Nat
  | (.string bytes, d) => bytes.length + uptoBulk d + 1
  | (_, d) => uptoBulk d + 1
 end
def uptoSmall : (H : Type) → List (DataW H) → Bool := fun _ ds => decide (uptoBulkAll ds ≤ 1048576)
def OpenSpec.upto (s : _root_.Go.ChangeSpec) : _root_.Go.OpenSpec := { _root_.Go.OpenSpec.ofChange s with cond := some uptoSmall }

/-- 'laws.FnExactSpoilSec', WHERE WHAT IT READS IS OF BULK AT MOST 1048576: true; the input reads as it did. -/
def fnExactSpoilSecUptoRow : OpenClaim := { program := "ythojedbhcieopab", sum := "68b29c979cdc6cce710ee44c6cacd2ba2b56b75bb64683c4b72e993b0c8e2ad1", func := "loop.example/g00398/laws.FnExactSpoilSec", spec := "fnExactSpoilSec", recurses := true, apart := false, narrowed := true }
def FnExactSpoilSecUptoSaid : Prop := fnExactSpoilSecUptoRow.holds Try.pinned (OpenSpec.upto fnExactSpoilSecSpec)

/-- 'laws.FnMemsBent', WHERE WHAT IT READS IS OF BULK AT MOST 1048576: true; the input reads as it did. -/
def fnMemsBentUptoRow : OpenClaim := { program := "ythojedbhcieopab", sum := "68b29c979cdc6cce710ee44c6cacd2ba2b56b75bb64683c4b72e993b0c8e2ad1", func := "loop.example/g00398/laws.FnMemsBent", spec := "fnMemsBent", recurses := true, apart := false, narrowed := true }
def FnMemsBentUptoSaid : Prop := fnMemsBentUptoRow.holds Try.pinned (OpenSpec.upto fnMemsBentSpec)

/-- 'laws.FnExactMark', WHERE WHAT IT READS IS OF BULK AT MOST 1048576: true; the input reads as it did. -/
def fnExactMarkUptoRow : OpenClaim := { program := "ythojedbhcieopab", sum := "68b29c979cdc6cce710ee44c6cacd2ba2b56b75bb64683c4b72e993b0c8e2ad1", func := "loop.example/g00398/laws.FnExactMark", spec := "fnExactMark", unfollowed := true, recurses := true, apart := false, narrowed := true }
def FnExactMarkUptoSaid : Prop := fnExactMarkUptoRow.holds Try.pinned (OpenSpec.upto fnExactMarkSpec)

/-- 'laws.FnExactPutSec', WHERE WHAT IT READS IS OF BULK AT MOST 1048576: true; the input reads as it did. -/
def fnExactPutSecUptoRow : OpenClaim := { program := "ythojedbhcieopab", sum := "68b29c979cdc6cce710ee44c6cacd2ba2b56b75bb64683c4b72e993b0c8e2ad1", func := "loop.example/g00398/laws.FnExactPutSec", spec := "fnExactPutSec", apart := false, narrowed := true }
def FnExactPutSecUptoSaid : Prop := fnExactPutSecUptoRow.holds Try.pinned (OpenSpec.upto fnExactPutSecSpec)

end Rows
end Go.Proofs.Ythojedbhcieopab
