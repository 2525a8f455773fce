/-
  No cell of these rows narrows 'for every input' (looked for: loops, veiled, ifaces, maps, wideKeys, modest, calm, conditions, laid).
  DERIVED. THE GIVEN ROWS OF THIS SEAT. 8 by the template 'for every input the law returns true; each argument reads behind the call as it read before'; 0 by the template 'total and deterministic' (their statements: YtlmnmcfieagmbaaTotals.lean).
  GIVEN WITH THE SEED: the statements are not yours to turn. If you find one false, say at which input.
  Laid BY PROGRAM, IN A SANDBOX (cutbox-rows.mjs): the forced cells as the released guide's own fill.sh prints them over the translation c0ecb8c142d4ec14… (all of the seat's roots in one cut). By AI agents, Wed Nov 11 2026. No macro, syntax, notation, axiom, sorry.
-/
import Derived.Test.YtlmnmcfieagmbaaChecked
import GoSem.Claim
import GoSem.ClaimJoined
import GoSem.ClaimMapViews
import Derived.JoinedTies
import Derived.KernelRfl
namespace Go.Proofs.Ytlmnmcfieagmbaa
/- THE CELL 'sum', in the pinned program and in every row, IS THE sha256 OF THE DUMP (.gsa) THAT YtlmnmcfieagmbaaProg.lean LOADS. Nothing in Lean hashes anything: it is a label: what it is worth is what the hold of that sum in a sandbox is worth. -/
noncomputable def Try.pinned : Pinned := { name := "ytlmnmcfieagmbaa", sum := "c0ecb8c142d4ec14c6b5b68483299b5b10605962f090e265e735878d5d1ae790", checked := Try.checked }
namespace Rows
def none {H : Type} : Left H := { results := [], args := [] }

/-- 'laws.FnExactSpoilSec': WHATEVER THE INPUT: true; the input reads as it did. -/
def fnExactSpoilSecSpec : ChangeSpec := { name := "fnExactSpoilSec", fn := fun _ => fun
  | [d1, d2] => { results := [.lit (.bool true)], args := [d1, d2] }
  | _ => none }
def fnExactSpoilSecRow : OpenClaim := { program := "ytlmnmcfieagmbaa", sum := "c0ecb8c142d4ec14c6b5b68483299b5b10605962f090e265e735878d5d1ae790", func := "loop.example/g00398/laws.FnExactSpoilSec", spec := "fnExactSpoilSec", recurses := true, apart := false }
def FnExactSpoilSecSaid : Prop := fnExactSpoilSecRow.holds Try.pinned (OpenSpec.ofChange fnExactSpoilSecSpec)

/-- ITS FALSE NEIGHBOUR: 'it returns false'. Refute it at one input. -/
def fnExactSpoilSecWrong : ChangeSpec := { name := "fnExactSpoilSec", fn := fun _ => fun
  | [d1, d2] => { results := [.lit (.bool false)], args := [d1, d2] }
  | _ => none }
def FnExactSpoilSecWrongFalsely : Prop := fnExactSpoilSecRow.holds Try.pinned (OpenSpec.ofChange fnExactSpoilSecWrong)

/-- 'laws.FnMemsBent': WHATEVER THE INPUT: true; the input reads as it did. -/
def fnMemsBentSpec : ChangeSpec := { name := "fnMemsBent", fn := fun _ => fun
  | [d] => { results := [.lit (.bool true)], args := [d] }
  | _ => none }
def fnMemsBentRow : OpenClaim := { program := "ytlmnmcfieagmbaa", sum := "c0ecb8c142d4ec14c6b5b68483299b5b10605962f090e265e735878d5d1ae790", func := "loop.example/g00398/laws.FnMemsBent", spec := "fnMemsBent", recurses := true, apart := false }
def FnMemsBentSaid : Prop := fnMemsBentRow.holds Try.pinned (OpenSpec.ofChange fnMemsBentSpec)

/-- ITS FALSE NEIGHBOUR: 'it returns false'. Refute it at one input. -/
def fnMemsBentWrong : ChangeSpec := { name := "fnMemsBent", fn := fun _ => fun
  | [d] => { results := [.lit (.bool false)], args := [d] }
  | _ => none }
def FnMemsBentWrongFalsely : Prop := fnMemsBentRow.holds Try.pinned (OpenSpec.ofChange fnMemsBentWrong)

/-- 'laws.FnMems': WHATEVER THE INPUT: true; the input reads as it did. -/
def fnMemsSpec : ChangeSpec := { name := "fnMems", fn := fun _ => fun
  | [d] => { results := [.lit (.bool true)], args := [d] }
  | _ => none }
def fnMemsRow : OpenClaim := { program := "ytlmnmcfieagmbaa", sum := "c0ecb8c142d4ec14c6b5b68483299b5b10605962f090e265e735878d5d1ae790", func := "loop.example/g00398/laws.FnMems", spec := "fnMems", unfollowed := true, recurses := true, apart := false }
def FnMemsSaid : Prop := fnMemsRow.holds Try.pinned (OpenSpec.ofChange fnMemsSpec)

/-- ITS FALSE NEIGHBOUR: 'it returns false'. Refute it at one input. -/
def fnMemsWrong : ChangeSpec := { name := "fnMems", fn := fun _ => fun
  | [d] => { results := [.lit (.bool false)], args := [d] }
  | _ => none }
def FnMemsWrongFalsely : Prop := fnMemsRow.holds Try.pinned (OpenSpec.ofChange fnMemsWrong)

/-- 'laws.FnSupers': WHATEVER THE INPUT: true; the input reads as it did. -/
def fnSupersSpec : ChangeSpec := { name := "fnSupers", fn := fun _ => fun
  | [d] => { results := [.lit (.bool true)], args := [d] }
  | _ => none }
def fnSupersRow : OpenClaim := { program := "ytlmnmcfieagmbaa", sum := "c0ecb8c142d4ec14c6b5b68483299b5b10605962f090e265e735878d5d1ae790", func := "loop.example/g00398/laws.FnSupers", spec := "fnSupers", apart := false }
def FnSupersSaid : Prop := fnSupersRow.holds Try.pinned (OpenSpec.ofChange fnSupersSpec)

/-- ITS FALSE NEIGHBOUR: 'it returns false'. Refute it at one input. -/
def fnSupersWrong : ChangeSpec := { name := "fnSupers", fn := fun _ => fun
  | [d] => { results := [.lit (.bool false)], args := [d] }
  | _ => none }
def FnSupersWrongFalsely : Prop := fnSupersRow.holds Try.pinned (OpenSpec.ofChange fnSupersWrong)

/-- 'laws.FnNewer': WHATEVER THE INPUT: true; the input reads as it did. -/
def fnNewerSpec : ChangeSpec := { name := "fnNewer", fn := fun _ => fun
  | [d] => { results := [.lit (.bool true)], args := [d] }
  | _ => none }
def fnNewerRow : OpenClaim := { program := "ytlmnmcfieagmbaa", sum := "c0ecb8c142d4ec14c6b5b68483299b5b10605962f090e265e735878d5d1ae790", func := "loop.example/g00398/laws.FnNewer", spec := "fnNewer", unfollowed := true, recurses := true, apart := false }
def FnNewerSaid : Prop := fnNewerRow.holds Try.pinned (OpenSpec.ofChange fnNewerSpec)

/-- ITS FALSE NEIGHBOUR: 'it returns false'. Refute it at one input. -/
def fnNewerWrong : ChangeSpec := { name := "fnNewer", fn := fun _ => fun
  | [d] => { results := [.lit (.bool false)], args := [d] }
  | _ => none }
def FnNewerWrongFalsely : Prop := fnNewerRow.holds Try.pinned (OpenSpec.ofChange fnNewerWrong)

/-- 'laws.FnFalls': WHATEVER THE INPUT: true; the input reads as it did. -/
def fnFallsSpec : ChangeSpec := { name := "fnFalls", fn := fun _ => fun
  | [d] => { results := [.lit (.bool true)], args := [d] }
  | _ => none }
def fnFallsRow : OpenClaim := { program := "ytlmnmcfieagmbaa", sum := "c0ecb8c142d4ec14c6b5b68483299b5b10605962f090e265e735878d5d1ae790", func := "loop.example/g00398/laws.FnFalls", spec := "fnFalls", apart := false }
def FnFallsSaid : Prop := fnFallsRow.holds Try.pinned (OpenSpec.ofChange fnFallsSpec)

/-- ITS FALSE NEIGHBOUR: 'it returns false'. Refute it at one input. -/
def fnFallsWrong : ChangeSpec := { name := "fnFalls", fn := fun _ => fun
  | [d] => { results := [.lit (.bool false)], args := [d] }
  | _ => none }
def FnFallsWrongFalsely : Prop := fnFallsRow.holds Try.pinned (OpenSpec.ofChange fnFallsWrong)

/-- 'laws.FnRecs': WHATEVER THE INPUT: true; the input reads as it did. -/
def fnRecsSpec : ChangeSpec := { name := "fnRecs", fn := fun _ => fun
  | [d] => { results := [.lit (.bool true)], args := [d] }
  | _ => none }
def fnRecsRow : OpenClaim := { program := "ytlmnmcfieagmbaa", sum := "c0ecb8c142d4ec14c6b5b68483299b5b10605962f090e265e735878d5d1ae790", func := "loop.example/g00398/laws.FnRecs", spec := "fnRecs", apart := false }
def FnRecsSaid : Prop := fnRecsRow.holds Try.pinned (OpenSpec.ofChange fnRecsSpec)

/-- ITS FALSE NEIGHBOUR: 'it returns false'. Refute it at one input. -/
def fnRecsWrong : ChangeSpec := { name := "fnRecs", fn := fun _ => fun
  | [d] => { results := [.lit (.bool false)], args := [d] }
  | _ => none }
def FnRecsWrongFalsely : Prop := fnRecsRow.holds Try.pinned (OpenSpec.ofChange fnRecsWrong)

/-- 'laws.FnGeosBent': WHATEVER THE INPUT: true; the input reads as it did. -/
def fnGeosBentSpec : ChangeSpec := { name := "fnGeosBent", fn := fun _ => fun
  | [d] => { results := [.lit (.bool true)], args := [d] }
  | _ => none }
def fnGeosBentRow : OpenClaim := { program := "ytlmnmcfieagmbaa", sum := "c0ecb8c142d4ec14c6b5b68483299b5b10605962f090e265e735878d5d1ae790", func := "loop.example/g00398/laws.FnGeosBent", spec := "fnGeosBent", apart := false }
def FnGeosBentSaid : Prop := fnGeosBentRow.holds Try.pinned (OpenSpec.ofChange fnGeosBentSpec)

/-- ITS FALSE NEIGHBOUR: 'it returns false'. Refute it at one input. -/
def fnGeosBentWrong : ChangeSpec := { name := "fnGeosBent", fn := fun _ => fun
  | [d] => { results := [.lit (.bool false)], args := [d] }
  | _ => none }
def FnGeosBentWrongFalsely : Prop := fnGeosBentRow.holds Try.pinned (OpenSpec.ofChange fnGeosBentWrong)

/- THE SECOND FORM. 'bulk': how many values and letters a reading holds, each counted each time it is reached (what is shared counts as often as it is met; a slice's spare places count too). A statement '..UptoSaid' is the law's where the arguments, and the package variables that the reading takes, are together of bulk at most 1048576: NARROWER than '..Said'. Prove '..Said' where nothing that the law and all that it calls make is longer than what came in: it says more and counts as full. Else prove '..UptoSaid'. A law counts once. -/
mutual
def uptoBulk {H : Type} : DataW H → Nat
  | .lit (.string bytes) => bytes.length + 1
  | .lit _ => 1
  | .nil => 1
  | .ptr d => uptoBulk d + 1
  | .slice elems spare => uptoBulkAll elems + uptoBulkAll spare + 1
  | .agg parts => uptoBulkAll parts + 1
  | .iface _ d => uptoBulk d + 1
  | .map entries => uptoBulkEntries entries + 1
  | .held _ => 1
def uptoBulkAll {H : Type} : List (DataW H) → Nat
  | [] => 0
  | d :: r => uptoBulk d + uptoBulkAll r
def uptoBulkEntries {H : Type} : List (Lit × DataW H) → Nat
  | [] => 0
  | x :: r => uptoBulkEntry x + uptoBulkEntries r
def uptoBulkEntry {H : Type} : Lit × DataW H → Nat
  | (.string bytes, d) => bytes.length + uptoBulk d + 1
  | (_, d) => uptoBulk d + 1
 end
def uptoSmall : (H : Type) → List (DataW H) → Bool := fun _ ds => decide (uptoBulkAll ds ≤ 1048576)
def OpenSpec.upto (s : _root_.Go.ChangeSpec) : _root_.Go.OpenSpec := { _root_.Go.OpenSpec.ofChange s with cond := some uptoSmall }

/-- 'laws.FnExactSpoilSec', WHERE WHAT IT READS IS OF BULK AT MOST 1048576: true; the input reads as it did. -/
def fnExactSpoilSecUptoRow : OpenClaim := { program := "ytlmnmcfieagmbaa", sum := "c0ecb8c142d4ec14c6b5b68483299b5b10605962f090e265e735878d5d1ae790", func := "loop.example/g00398/laws.FnExactSpoilSec", spec := "fnExactSpoilSec", recurses := true, apart := false, narrowed := true }
def FnExactSpoilSecUptoSaid : Prop := fnExactSpoilSecUptoRow.holds Try.pinned (OpenSpec.upto fnExactSpoilSecSpec)

/-- 'laws.FnMemsBent', WHERE WHAT IT READS IS OF BULK AT MOST 1048576: true; the input reads as it did. -/
def fnMemsBentUptoRow : OpenClaim := { program := "ytlmnmcfieagmbaa", sum := "c0ecb8c142d4ec14c6b5b68483299b5b10605962f090e265e735878d5d1ae790", func := "loop.example/g00398/laws.FnMemsBent", spec := "fnMemsBent", recurses := true, apart := false, narrowed := true }
def FnMemsBentUptoSaid : Prop := fnMemsBentUptoRow.holds Try.pinned (OpenSpec.upto fnMemsBentSpec)

/-- 'laws.FnMems', WHERE WHAT IT READS IS OF BULK AT MOST 1048576: true; the input reads as it did. -/
def fnMemsUptoRow : OpenClaim := { program := "ytlmnmcfieagmbaa", sum := "c0ecb8c142d4ec14c6b5b68483299b5b10605962f090e265e735878d5d1ae790", func := "loop.example/g00398/laws.FnMems", spec := "fnMems", unfollowed := true, recurses := true, apart := false, narrowed := true }
def FnMemsUptoSaid : Prop := fnMemsUptoRow.holds Try.pinned (OpenSpec.upto fnMemsSpec)

/-- 'laws.FnSupers', WHERE WHAT IT READS IS OF BULK AT MOST 1048576: true; the input reads as it did. -/
def fnSupersUptoRow : OpenClaim := { program := "ytlmnmcfieagmbaa", sum := "c0ecb8c142d4ec14c6b5b68483299b5b10605962f090e265e735878d5d1ae790", func := "loop.example/g00398/laws.FnSupers", spec := "fnSupers", apart := false, narrowed := true }
def FnSupersUptoSaid : Prop := fnSupersUptoRow.holds Try.pinned (OpenSpec.upto fnSupersSpec)

/-- 'laws.FnNewer', WHERE WHAT IT READS IS OF BULK AT MOST 1048576: true; the input reads as it did. -/
def fnNewerUptoRow : OpenClaim := { program := "ytlmnmcfieagmbaa", sum := "c0ecb8c142d4ec14c6b5b68483299b5b10605962f090e265e735878d5d1ae790", func := "loop.example/g00398/laws.FnNewer", spec := "fnNewer", unfollowed := true, recurses := true, apart := false, narrowed := true }
def FnNewerUptoSaid : Prop := fnNewerUptoRow.holds Try.pinned (OpenSpec.upto fnNewerSpec)

/-- 'laws.FnFalls', WHERE WHAT IT READS IS OF BULK AT MOST 1048576: true; the input reads as it did. -/
def fnFallsUptoRow : OpenClaim := { program := "ytlmnmcfieagmbaa", sum := "c0ecb8c142d4ec14c6b5b68483299b5b10605962f090e265e735878d5d1ae790", func := "loop.example/g00398/laws.FnFalls", spec := "fnFalls", apart := false, narrowed := true }
def FnFallsUptoSaid : Prop := fnFallsUptoRow.holds Try.pinned (OpenSpec.upto fnFallsSpec)

/-- 'laws.FnRecs', WHERE WHAT IT READS IS OF BULK AT MOST 1048576: true; the input reads as it did. -/
def fnRecsUptoRow : OpenClaim := { program := "ytlmnmcfieagmbaa", sum := "c0ecb8c142d4ec14c6b5b68483299b5b10605962f090e265e735878d5d1ae790", func := "loop.example/g00398/laws.FnRecs", spec := "fnRecs", apart := false, narrowed := true }
def FnRecsUptoSaid : Prop := fnRecsUptoRow.holds Try.pinned (OpenSpec.upto fnRecsSpec)

/-- 'laws.FnGeosBent', WHERE WHAT IT READS IS OF BULK AT MOST 1048576: true; the input reads as it did. -/
def fnGeosBentUptoRow : OpenClaim := { program := "ytlmnmcfieagmbaa", sum := "c0ecb8c142d4ec14c6b5b68483299b5b10605962f090e265e735878d5d1ae790", func := "loop.example/g00398/laws.FnGeosBent", spec := "fnGeosBent", apart := false, narrowed := true }
def FnGeosBentUptoSaid : Prop := fnGeosBentUptoRow.holds Try.pinned (OpenSpec.upto fnGeosBentSpec)

end Rows
end Go.Proofs.Ytlmnmcfieagmbaa
