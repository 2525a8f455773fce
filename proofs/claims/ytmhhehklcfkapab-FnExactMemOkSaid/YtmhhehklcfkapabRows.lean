/-
  No cell of these rows narrows 'for every input' (looked for: loops, veiled, ifaces, maps, wideKeys, modest, calm, conditions, laid).
  DERIVED. THE GIVEN ROWS OF THIS SEAT. 12 by the template 'for every input the law returns true; each argument reads behind the call as it read before'; 0 by the template 'total and deterministic' (their statements: YtmhhehklcfkapabTotals.lean).
  GIVEN WITH THE SEED: the statements are not yours to turn. If you find one false, say at which input.
  Laid BY PROGRAM, IN A SANDBOX (cutbox-rows.mjs): the forced cells as the released guide's own fill.sh prints them over the translation 4fdc50d0f05ac845… (all of the seat's roots in one cut). By AI agents, Wed Nov 11 2026. No macro, syntax, notation, axiom, sorry.
-/
import Derived.Test.YtmhhehklcfkapabChecked
import GoSem.Claim
import GoSem.ClaimJoined
import GoSem.ClaimMapViews
import Derived.JoinedTies
import Derived.KernelRfl
namespace Go.Proofs.Ytmhhehklcfkapab
/- THE CELL 'sum', in the pinned program and in every row, IS THE sha256 OF THE DUMP (.gsa) THAT YtmhhehklcfkapabProg.lean LOADS. Nothing in Lean hashes anything: it is a label: what it is worth is what the hold of that sum in a sandbox is worth. -/
noncomputable def Try.pinned : Pinned := { name := "ytmhhehklcfkapab", sum := "4fdc50d0f05ac8454c2c8cabd867b2ddca36aae4c1e91d262411ae3f9268736c", checked := Try.checked }
namespace Rows
def none {H : Type} : Left H := { results := [], args := [] }

/-- 'laws.FnExactGetSec': WHATEVER THE INPUT: true; the input reads as it did. -/
def fnExactGetSecSpec : ChangeSpec := { name := "fnExactGetSec", fn := fun _ => fun
  | [d1, d2] => { results := [.lit (.bool true)], args := [d1, d2] }
  | _ => none }
def fnExactGetSecRow : OpenClaim := { program := "ytmhhehklcfkapab", sum := "4fdc50d0f05ac8454c2c8cabd867b2ddca36aae4c1e91d262411ae3f9268736c", func := "loop.example/g00398/laws.FnExactGetSec", spec := "fnExactGetSec", apart := false }
def FnExactGetSecSaid : Prop := fnExactGetSecRow.holds Try.pinned (OpenSpec.ofChange fnExactGetSecSpec)

/-- ITS FALSE NEIGHBOUR: 'it returns false'. Refute it at one input. -/
def fnExactGetSecWrong : ChangeSpec := { name := "fnExactGetSec", fn := fun _ => fun
  | [d1, d2] => { results := [.lit (.bool false)], args := [d1, d2] }
  | _ => none }
def FnExactGetSecWrongFalsely : Prop := fnExactGetSecRow.holds Try.pinned (OpenSpec.ofChange fnExactGetSecWrong)

/-- 'laws.FnExactGetSuper': WHATEVER THE INPUT: true; the input reads as it did. -/
def fnExactGetSuperSpec : ChangeSpec := { name := "fnExactGetSuper", fn := fun _ => fun
  | [d] => { results := [.lit (.bool true)], args := [d] }
  | _ => none }
def fnExactGetSuperRow : OpenClaim := { program := "ytmhhehklcfkapab", sum := "4fdc50d0f05ac8454c2c8cabd867b2ddca36aae4c1e91d262411ae3f9268736c", func := "loop.example/g00398/laws.FnExactGetSuper", spec := "fnExactGetSuper", apart := false }
def FnExactGetSuperSaid : Prop := fnExactGetSuperRow.holds Try.pinned (OpenSpec.ofChange fnExactGetSuperSpec)

/-- ITS FALSE NEIGHBOUR: 'it returns false'. Refute it at one input. -/
def fnExactGetSuperWrong : ChangeSpec := { name := "fnExactGetSuper", fn := fun _ => fun
  | [d] => { results := [.lit (.bool false)], args := [d] }
  | _ => none }
def FnExactGetSuperWrongFalsely : Prop := fnExactGetSuperRow.holds Try.pinned (OpenSpec.ofChange fnExactGetSuperWrong)

/-- 'laws.FnExactGetRec': WHATEVER THE INPUT: true; the input reads as it did. -/
def fnExactGetRecSpec : ChangeSpec := { name := "fnExactGetRec", fn := fun _ => fun
  | [d] => { results := [.lit (.bool true)], args := [d] }
  | _ => none }
def fnExactGetRecRow : OpenClaim := { program := "ytmhhehklcfkapab", sum := "4fdc50d0f05ac8454c2c8cabd867b2ddca36aae4c1e91d262411ae3f9268736c", func := "loop.example/g00398/laws.FnExactGetRec", spec := "fnExactGetRec", apart := false }
def FnExactGetRecSaid : Prop := fnExactGetRecRow.holds Try.pinned (OpenSpec.ofChange fnExactGetRecSpec)

/-- ITS FALSE NEIGHBOUR: 'it returns false'. Refute it at one input. -/
def fnExactGetRecWrong : ChangeSpec := { name := "fnExactGetRec", fn := fun _ => fun
  | [d] => { results := [.lit (.bool false)], args := [d] }
  | _ => none }
def FnExactGetRecWrongFalsely : Prop := fnExactGetRecRow.holds Try.pinned (OpenSpec.ofChange fnExactGetRecWrong)

/-- 'laws.FnExactPutRec': WHATEVER THE INPUT: true; the input reads as it did. -/
def fnExactPutRecSpec : ChangeSpec := { name := "fnExactPutRec", fn := fun _ => fun
  | [d] => { results := [.lit (.bool true)], args := [d] }
  | _ => none }
def fnExactPutRecRow : OpenClaim := { program := "ytmhhehklcfkapab", sum := "4fdc50d0f05ac8454c2c8cabd867b2ddca36aae4c1e91d262411ae3f9268736c", func := "loop.example/g00398/laws.FnExactPutRec", spec := "fnExactPutRec", apart := false }
def FnExactPutRecSaid : Prop := fnExactPutRecRow.holds Try.pinned (OpenSpec.ofChange fnExactPutRecSpec)

/-- ITS FALSE NEIGHBOUR: 'it returns false'. Refute it at one input. -/
def fnExactPutRecWrong : ChangeSpec := { name := "fnExactPutRec", fn := fun _ => fun
  | [d] => { results := [.lit (.bool false)], args := [d] }
  | _ => none }
def FnExactPutRecWrongFalsely : Prop := fnExactPutRecRow.holds Try.pinned (OpenSpec.ofChange fnExactPutRecWrong)

/-- 'laws.FnGeos': WHATEVER THE INPUT: true; the input reads as it did. -/
def fnGeosSpec : ChangeSpec := { name := "fnGeos", fn := fun _ => fun
  | [d] => { results := [.lit (.bool true)], args := [d] }
  | _ => none }
def fnGeosRow : OpenClaim := { program := "ytmhhehklcfkapab", sum := "4fdc50d0f05ac8454c2c8cabd867b2ddca36aae4c1e91d262411ae3f9268736c", func := "loop.example/g00398/laws.FnGeos", spec := "fnGeos", apart := false }
def FnGeosSaid : Prop := fnGeosRow.holds Try.pinned (OpenSpec.ofChange fnGeosSpec)

/-- ITS FALSE NEIGHBOUR: 'it returns false'. Refute it at one input. -/
def fnGeosWrong : ChangeSpec := { name := "fnGeos", fn := fun _ => fun
  | [d] => { results := [.lit (.bool false)], args := [d] }
  | _ => none }
def FnGeosWrongFalsely : Prop := fnGeosRow.holds Try.pinned (OpenSpec.ofChange fnGeosWrong)

/-- 'laws.FnXors': WHATEVER THE INPUT: true; the input reads as it did. -/
def fnXorsSpec : ChangeSpec := { name := "fnXors", fn := fun _ => fun
  | [d] => { results := [.lit (.bool true)], args := [d] }
  | _ => none }
def fnXorsRow : OpenClaim := { program := "ytmhhehklcfkapab", sum := "4fdc50d0f05ac8454c2c8cabd867b2ddca36aae4c1e91d262411ae3f9268736c", func := "loop.example/g00398/laws.FnXors", spec := "fnXors", apart := false }
def FnXorsSaid : Prop := fnXorsRow.holds Try.pinned (OpenSpec.ofChange fnXorsSpec)

/-- ITS FALSE NEIGHBOUR: 'it returns false'. Refute it at one input. -/
def fnXorsWrong : ChangeSpec := { name := "fnXors", fn := fun _ => fun
  | [d] => { results := [.lit (.bool false)], args := [d] }
  | _ => none }
def FnXorsWrongFalsely : Prop := fnXorsRow.holds Try.pinned (OpenSpec.ofChange fnXorsWrong)

/-- 'laws.FnSectors': WHATEVER THE INPUT: true; the input reads as it did. -/
def fnSectorsSpec : ChangeSpec := { name := "fnSectors", fn := fun _ => fun
  | [d] => { results := [.lit (.bool true)], args := [d] }
  | _ => none }
def fnSectorsRow : OpenClaim := { program := "ytmhhehklcfkapab", sum := "4fdc50d0f05ac8454c2c8cabd867b2ddca36aae4c1e91d262411ae3f9268736c", func := "loop.example/g00398/laws.FnSectors", spec := "fnSectors", apart := false }
def FnSectorsSaid : Prop := fnSectorsRow.holds Try.pinned (OpenSpec.ofChange fnSectorsSpec)

/-- ITS FALSE NEIGHBOUR: 'it returns false'. Refute it at one input. -/
def fnSectorsWrong : ChangeSpec := { name := "fnSectors", fn := fun _ => fun
  | [d] => { results := [.lit (.bool false)], args := [d] }
  | _ => none }
def FnSectorsWrongFalsely : Prop := fnSectorsRow.holds Try.pinned (OpenSpec.ofChange fnSectorsWrong)

/-- 'laws.FnRecs': WHATEVER THE INPUT: true; the input reads as it did. -/
def fnRecsSpec : ChangeSpec := { name := "fnRecs", fn := fun _ => fun
  | [d] => { results := [.lit (.bool true)], args := [d] }
  | _ => none }
def fnRecsRow : OpenClaim := { program := "ytmhhehklcfkapab", sum := "4fdc50d0f05ac8454c2c8cabd867b2ddca36aae4c1e91d262411ae3f9268736c", func := "loop.example/g00398/laws.FnRecs", spec := "fnRecs", apart := false }
def FnRecsSaid : Prop := fnRecsRow.holds Try.pinned (OpenSpec.ofChange fnRecsSpec)

/-- ITS FALSE NEIGHBOUR: 'it returns false'. Refute it at one input. -/
def fnRecsWrong : ChangeSpec := { name := "fnRecs", fn := fun _ => fun
  | [d] => { results := [.lit (.bool false)], args := [d] }
  | _ => none }
def FnRecsWrongFalsely : Prop := fnRecsRow.holds Try.pinned (OpenSpec.ofChange fnRecsWrong)

/-- 'laws.FnGeosBent': WHATEVER THE INPUT: true; the input reads as it did. -/
def fnGeosBentSpec : ChangeSpec := { name := "fnGeosBent", fn := fun _ => fun
  | [d] => { results := [.lit (.bool true)], args := [d] }
  | _ => none }
def fnGeosBentRow : OpenClaim := { program := "ytmhhehklcfkapab", sum := "4fdc50d0f05ac8454c2c8cabd867b2ddca36aae4c1e91d262411ae3f9268736c", func := "loop.example/g00398/laws.FnGeosBent", spec := "fnGeosBent", apart := false }
def FnGeosBentSaid : Prop := fnGeosBentRow.holds Try.pinned (OpenSpec.ofChange fnGeosBentSpec)

/-- ITS FALSE NEIGHBOUR: 'it returns false'. Refute it at one input. -/
def fnGeosBentWrong : ChangeSpec := { name := "fnGeosBent", fn := fun _ => fun
  | [d] => { results := [.lit (.bool false)], args := [d] }
  | _ => none }
def FnGeosBentWrongFalsely : Prop := fnGeosBentRow.holds Try.pinned (OpenSpec.ofChange fnGeosBentWrong)

/-- 'laws.FnExactMemOk': WHATEVER THE INPUT: true; the input reads as it did. -/
def fnExactMemOkSpec : ChangeSpec := { name := "fnExactMemOk", fn := fun _ => fun
  | [d] => { results := [.lit (.bool true)], args := [d] }
  | _ => none }
def fnExactMemOkRow : OpenClaim := { program := "ytmhhehklcfkapab", sum := "4fdc50d0f05ac8454c2c8cabd867b2ddca36aae4c1e91d262411ae3f9268736c", func := "loop.example/g00398/laws.FnExactMemOk", spec := "fnExactMemOk", apart := false }
def FnExactMemOkSaid : Prop := fnExactMemOkRow.holds Try.pinned (OpenSpec.ofChange fnExactMemOkSpec)

/-- ITS FALSE NEIGHBOUR: 'it returns false'. Refute it at one input. -/
def fnExactMemOkWrong : ChangeSpec := { name := "fnExactMemOk", fn := fun _ => fun
  | [d] => { results := [.lit (.bool false)], args := [d] }
  | _ => none }
def FnExactMemOkWrongFalsely : Prop := fnExactMemOkRow.holds Try.pinned (OpenSpec.ofChange fnExactMemOkWrong)

/-- 'laws.FnExactLiveAt': WHATEVER THE INPUT: true; the input reads as it did. -/
def fnExactLiveAtSpec : ChangeSpec := { name := "fnExactLiveAt", fn := fun _ => fun
  | [d1, d2, d3] => { results := [.lit (.bool true)], args := [d1, d2, d3] }
  | _ => none }
def fnExactLiveAtRow : OpenClaim := { program := "ytmhhehklcfkapab", sum := "4fdc50d0f05ac8454c2c8cabd867b2ddca36aae4c1e91d262411ae3f9268736c", func := "loop.example/g00398/laws.FnExactLiveAt", spec := "fnExactLiveAt", apart := false }
def FnExactLiveAtSaid : Prop := fnExactLiveAtRow.holds Try.pinned (OpenSpec.ofChange fnExactLiveAtSpec)

/-- ITS FALSE NEIGHBOUR: 'it returns false'. Refute it at one input. -/
def fnExactLiveAtWrong : ChangeSpec := { name := "fnExactLiveAt", fn := fun _ => fun
  | [d1, d2, d3] => { results := [.lit (.bool false)], args := [d1, d2, d3] }
  | _ => none }
def FnExactLiveAtWrongFalsely : Prop := fnExactLiveAtRow.holds Try.pinned (OpenSpec.ofChange fnExactLiveAtWrong)

/-- 'laws.FnFalls': WHATEVER THE INPUT: true; the input reads as it did. -/
def fnFallsSpec : ChangeSpec := { name := "fnFalls", fn := fun _ => fun
  | [d] => { results := [.lit (.bool true)], args := [d] }
  | _ => none }
def fnFallsRow : OpenClaim := { program := "ytmhhehklcfkapab", sum := "4fdc50d0f05ac8454c2c8cabd867b2ddca36aae4c1e91d262411ae3f9268736c", func := "loop.example/g00398/laws.FnFalls", spec := "fnFalls", apart := false }
def FnFallsSaid : Prop := fnFallsRow.holds Try.pinned (OpenSpec.ofChange fnFallsSpec)

/-- ITS FALSE NEIGHBOUR: 'it returns false'. Refute it at one input. -/
def fnFallsWrong : ChangeSpec := { name := "fnFalls", fn := fun _ => fun
  | [d] => { results := [.lit (.bool false)], args := [d] }
  | _ => none }
def FnFallsWrongFalsely : Prop := fnFallsRow.holds Try.pinned (OpenSpec.ofChange fnFallsWrong)

/- THE SECOND FORM. 'bulk': how many values and letters a reading holds, each counted each time it is reached (what is shared counts as often as it is met; a slice's spare places count too). A statement '..UptoSaid' is the law's where the arguments, and the package variables that the reading takes, are together of bulk at most 1048576: NARROWER than '..Said'. Prove '..Said' where nothing that the law and all that it calls make is longer than what came in: it says more and counts as full. Else prove '..UptoSaid'. A law counts once. -/
mutual
def uptoBulk {H : Type} : DataW H → Nat
  | .lit (.string bytes) => bytes.length + 1
  | .lit _ => 1
  | .nil => 1
  | .ptr d => uptoBulk d + 1
  | .slice elems spare => uptoBulkAll elems + uptoBulkAll spare + 1
  | .agg parts => uptoBulkAll parts + 1
  | .iface _ d => uptoBulk d + 1
  | .map entries => uptoBulkEntries entries + 1
  | .held _ => 1
def uptoBulkAll {H : Type} : List (DataW H) → Nat
  | [] => 0
  | d :: r => uptoBulk d + uptoBulkAll r
def uptoBulkEntries {H : Type} : List (Lit × DataW H) → Nat
  | [] => 0
  | x :: r => uptoBulkEntry x + uptoBulkEntries r
def uptoBulkEntry {H : Type} : Lit × DataW H → Nat
  | (.string bytes, d) => bytes.length + uptoBulk d + 1
  | (_, d) => uptoBulk d + 1
 end
def uptoSmall : (H : Type) → List (DataW H) → Bool := fun _ ds => decide (uptoBulkAll ds ≤ 1048576)
def OpenSpec.upto (s : _root_.Go.ChangeSpec) : _root_.Go.OpenSpec := { _root_.Go.OpenSpec.ofChange s with cond := some uptoSmall }

/-- 'laws.FnExactGetSec', WHERE WHAT IT READS IS OF BULK AT MOST 1048576: true; the input reads as it did. -/
def fnExactGetSecUptoRow : OpenClaim := { program := "ytmhhehklcfkapab", sum := "4fdc50d0f05ac8454c2c8cabd867b2ddca36aae4c1e91d262411ae3f9268736c", func := "loop.example/g00398/laws.FnExactGetSec", spec := "fnExactGetSec", apart := false, narrowed := true }
def FnExactGetSecUptoSaid : Prop := fnExactGetSecUptoRow.holds Try.pinned (OpenSpec.upto fnExactGetSecSpec)

/-- 'laws.FnExactGetSuper', WHERE WHAT IT READS IS OF BULK AT MOST 1048576: true; the input reads as it did. -/
def fnExactGetSuperUptoRow : OpenClaim := { program := "ytmhhehklcfkapab", sum := "4fdc50d0f05ac8454c2c8cabd867b2ddca36aae4c1e91d262411ae3f9268736c", func := "loop.example/g00398/laws.FnExactGetSuper", spec := "fnExactGetSuper", apart := false, narrowed := true }
def FnExactGetSuperUptoSaid : Prop := fnExactGetSuperUptoRow.holds Try.pinned (OpenSpec.upto fnExactGetSuperSpec)

/-- 'laws.FnExactGetRec', WHERE WHAT IT READS IS OF BULK AT MOST 1048576: true; the input reads as it did. -/
def fnExactGetRecUptoRow : OpenClaim := { program := "ytmhhehklcfkapab", sum := "4fdc50d0f05ac8454c2c8cabd867b2ddca36aae4c1e91d262411ae3f9268736c", func := "loop.example/g00398/laws.FnExactGetRec", spec := "fnExactGetRec", apart := false, narrowed := true }
def FnExactGetRecUptoSaid : Prop := fnExactGetRecUptoRow.holds Try.pinned (OpenSpec.upto fnExactGetRecSpec)

/-- 'laws.FnExactPutRec', WHERE WHAT IT READS IS OF BULK AT MOST 1048576: true; the input reads as it did. -/
def fnExactPutRecUptoRow : OpenClaim := { program := "ytmhhehklcfkapab", sum := "4fdc50d0f05ac8454c2c8cabd867b2ddca36aae4c1e91d262411ae3f9268736c", func := "loop.example/g00398/laws.FnExactPutRec", spec := "fnExactPutRec", apart := false, narrowed := true }
def FnExactPutRecUptoSaid : Prop := fnExactPutRecUptoRow.holds Try.pinned (OpenSpec.upto fnExactPutRecSpec)

/-- 'laws.FnGeos', WHERE WHAT IT READS IS OF BULK AT MOST 1048576: true; the input reads as it did. -/
def fnGeosUptoRow : OpenClaim := { program := "ytmhhehklcfkapab", sum := "4fdc50d0f05ac8454c2c8cabd867b2ddca36aae4c1e91d262411ae3f9268736c", func := "loop.example/g00398/laws.FnGeos", spec := "fnGeos", apart := false, narrowed := true }
def FnGeosUptoSaid : Prop := fnGeosUptoRow.holds Try.pinned (OpenSpec.upto fnGeosSpec)

/-- 'laws.FnXors', WHERE WHAT IT READS IS OF BULK AT MOST 1048576: true; the input reads as it did. -/
def fnXorsUptoRow : OpenClaim := { program := "ytmhhehklcfkapab", sum := "4fdc50d0f05ac8454c2c8cabd867b2ddca36aae4c1e91d262411ae3f9268736c", func := "loop.example/g00398/laws.FnXors", spec := "fnXors", apart := false, narrowed := true }
def FnXorsUptoSaid : Prop := fnXorsUptoRow.holds Try.pinned (OpenSpec.upto fnXorsSpec)

/-- 'laws.FnSectors', WHERE WHAT IT READS IS OF BULK AT MOST 1048576: true; the input reads as it did. -/
def fnSectorsUptoRow : OpenClaim := { program := "ytmhhehklcfkapab", sum := "4fdc50d0f05ac8454c2c8cabd867b2ddca36aae4c1e91d262411ae3f9268736c", func := "loop.example/g00398/laws.FnSectors", spec := "fnSectors", apart := false, narrowed := true }
def FnSectorsUptoSaid : Prop := fnSectorsUptoRow.holds Try.pinned (OpenSpec.upto fnSectorsSpec)

/-- 'laws.FnRecs', WHERE WHAT IT READS IS OF BULK AT MOST 1048576: true; the input reads as it did. -/
def fnRecsUptoRow : OpenClaim := { program := "ytmhhehklcfkapab", sum := "4fdc50d0f05ac8454c2c8cabd867b2ddca36aae4c1e91d262411ae3f9268736c", func := "loop.example/g00398/laws.FnRecs", spec := "fnRecs", apart := false, narrowed := true }
def FnRecsUptoSaid : Prop := fnRecsUptoRow.holds Try.pinned (OpenSpec.upto fnRecsSpec)

/-- 'laws.FnGeosBent', WHERE WHAT IT READS IS OF BULK AT MOST 1048576: true; the input reads as it did. -/
def fnGeosBentUptoRow : OpenClaim := { program := "ytmhhehklcfkapab", sum := "4fdc50d0f05ac8454c2c8cabd867b2ddca36aae4c1e91d262411ae3f9268736c", func := "loop.example/g00398/laws.FnGeosBent", spec := "fnGeosBent", apart := false, narrowed := true }
def FnGeosBentUptoSaid : Prop := fnGeosBentUptoRow.holds Try.pinned (OpenSpec.upto fnGeosBentSpec)

/-- 'laws.FnExactMemOk', WHERE WHAT IT READS IS OF BULK AT MOST 1048576: true; the input reads as it did. -/
def fnExactMemOkUptoRow : OpenClaim := { program := "ytmhhehklcfkapab", sum := "4fdc50d0f05ac8454c2c8cabd867b2ddca36aae4c1e91d262411ae3f9268736c", func := "loop.example/g00398/laws.FnExactMemOk", spec := "fnExactMemOk", apart := false, narrowed := true }
def FnExactMemOkUptoSaid : Prop := fnExactMemOkUptoRow.holds Try.pinned (OpenSpec.upto fnExactMemOkSpec)

/-- 'laws.FnExactLiveAt', WHERE WHAT IT READS IS OF BULK AT MOST 1048576: true; the input reads as it did. -/
def fnExactLiveAtUptoRow : OpenClaim := { program := "ytmhhehklcfkapab", sum := "4fdc50d0f05ac8454c2c8cabd867b2ddca36aae4c1e91d262411ae3f9268736c", func := "loop.example/g00398/laws.FnExactLiveAt", spec := "fnExactLiveAt", apart := false, narrowed := true }
def FnExactLiveAtUptoSaid : Prop := fnExactLiveAtUptoRow.holds Try.pinned (OpenSpec.upto fnExactLiveAtSpec)

/-- 'laws.FnFalls', WHERE WHAT IT READS IS OF BULK AT MOST 1048576: true; the input reads as it did. -/
def fnFallsUptoRow : OpenClaim := { program := "ytmhhehklcfkapab", sum := "4fdc50d0f05ac8454c2c8cabd867b2ddca36aae4c1e91d262411ae3f9268736c", func := "loop.example/g00398/laws.FnFalls", spec := "fnFalls", apart := false, narrowed := true }
def FnFallsUptoSaid : Prop := fnFallsUptoRow.holds Try.pinned (OpenSpec.upto fnFallsSpec)

end Rows
end Go.Proofs.Ytmhhehklcfkapab
