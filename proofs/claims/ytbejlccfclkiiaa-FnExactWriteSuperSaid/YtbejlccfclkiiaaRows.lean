/-
  No cell of these rows narrows 'for every input' (looked for: loops, veiled, ifaces, maps, wideKeys, modest, calm, conditions, laid).
  DERIVED. THE GIVEN ROWS OF THIS SEAT. 12 by the template 'for every input the law returns true; each argument reads behind the call as it read before'; 0 by the template 'total and deterministic' (their statements: YtbejlccfclkiiaaTotals.lean).
  GIVEN WITH THE SEED: the statements are not yours to turn. If you find one false, say at which input.
  Laid BY PROGRAM, IN A SANDBOX (cutbox-rows.mjs): the forced cells as the released guide's own fill.sh prints them over the translation b167339b979a385e… (all of the seat's roots in one cut). By AI agents, Wed Nov 11 2026. No macro, syntax, notation, axiom, sorry.
-/
import Derived.Test.YtbejlccfclkiiaaChecked
import GoSem.Claim
import GoSem.ClaimJoined
import GoSem.ClaimMapViews
import Derived.JoinedTies
import Derived.KernelRfl
namespace Go.Proofs.Ytbejlccfclkiiaa
/- THE CELL 'sum', in the pinned program and in every row, IS THE sha256 OF THE DUMP (.gsa) THAT YtbejlccfclkiiaaProg.lean LOADS. Nothing in Lean hashes anything: it is a label: what it is worth is what the hold of that sum in a sandbox is worth. -/
noncomputable def Try.pinned : Pinned := { name := "ytbejlccfclkiiaa", sum := "b167339b979a385e227bbc08ed6f6a0f9d537a2a7aee006102f9974379f59322", checked := Try.checked }
namespace Rows
def none {H : Type} : Left H := { results := [], args := [] }

/-- 'laws.FnExactMemNew': WHATEVER THE INPUT: true; the input reads as it did. -/
def fnExactMemNewSpec : ChangeSpec := { name := "fnExactMemNew", fn := fun _ => fun
  | [d] => { results := [.lit (.bool true)], args := [d] }
  | _ => none }
def fnExactMemNewRow : OpenClaim := { program := "ytbejlccfclkiiaa", sum := "b167339b979a385e227bbc08ed6f6a0f9d537a2a7aee006102f9974379f59322", func := "loop.example/g00398/laws.FnExactMemNew", spec := "fnExactMemNew", apart := false }
def FnExactMemNewSaid : Prop := fnExactMemNewRow.holds Try.pinned (OpenSpec.ofChange fnExactMemNewSpec)

/-- ITS FALSE NEIGHBOUR: 'it returns false'. Refute it at one input. -/
def fnExactMemNewWrong : ChangeSpec := { name := "fnExactMemNew", fn := fun _ => fun
  | [d] => { results := [.lit (.bool false)], args := [d] }
  | _ => none }
def FnExactMemNewWrongFalsely : Prop := fnExactMemNewRow.holds Try.pinned (OpenSpec.ofChange fnExactMemNewWrong)

/-- 'laws.FnExactFailMem': WHATEVER THE INPUT: true; the input reads as it did. -/
def fnExactFailMemSpec : ChangeSpec := { name := "fnExactFailMem", fn := fun _ => fun
  | [d] => { results := [.lit (.bool true)], args := [d] }
  | _ => none }
def fnExactFailMemRow : OpenClaim := { program := "ytbejlccfclkiiaa", sum := "b167339b979a385e227bbc08ed6f6a0f9d537a2a7aee006102f9974379f59322", func := "loop.example/g00398/laws.FnExactFailMem", spec := "fnExactFailMem", apart := false }
def FnExactFailMemSaid : Prop := fnExactFailMemRow.holds Try.pinned (OpenSpec.ofChange fnExactFailMemSpec)

/-- ITS FALSE NEIGHBOUR: 'it returns false'. Refute it at one input. -/
def fnExactFailMemWrong : ChangeSpec := { name := "fnExactFailMem", fn := fun _ => fun
  | [d] => { results := [.lit (.bool false)], args := [d] }
  | _ => none }
def FnExactFailMemWrongFalsely : Prop := fnExactFailMemRow.holds Try.pinned (OpenSpec.ofChange fnExactFailMemWrong)

/-- 'laws.FnExactReadSec': WHATEVER THE INPUT: true; the input reads as it did. -/
def fnExactReadSecSpec : ChangeSpec := { name := "fnExactReadSec", fn := fun _ => fun
  | [d1, d2] => { results := [.lit (.bool true)], args := [d1, d2] }
  | _ => none }
def fnExactReadSecRow : OpenClaim := { program := "ytbejlccfclkiiaa", sum := "b167339b979a385e227bbc08ed6f6a0f9d537a2a7aee006102f9974379f59322", func := "loop.example/g00398/laws.FnExactReadSec", spec := "fnExactReadSec", apart := false }
def FnExactReadSecSaid : Prop := fnExactReadSecRow.holds Try.pinned (OpenSpec.ofChange fnExactReadSecSpec)

/-- ITS FALSE NEIGHBOUR: 'it returns false'. Refute it at one input. -/
def fnExactReadSecWrong : ChangeSpec := { name := "fnExactReadSec", fn := fun _ => fun
  | [d1, d2] => { results := [.lit (.bool false)], args := [d1, d2] }
  | _ => none }
def FnExactReadSecWrongFalsely : Prop := fnExactReadSecRow.holds Try.pinned (OpenSpec.ofChange fnExactReadSecWrong)

/-- 'laws.FnExactFlushMem': WHATEVER THE INPUT: true; the input reads as it did. -/
def fnExactFlushMemSpec : ChangeSpec := { name := "fnExactFlushMem", fn := fun _ => fun
  | [d] => { results := [.lit (.bool true)], args := [d] }
  | _ => none }
def fnExactFlushMemRow : OpenClaim := { program := "ytbejlccfclkiiaa", sum := "b167339b979a385e227bbc08ed6f6a0f9d537a2a7aee006102f9974379f59322", func := "loop.example/g00398/laws.FnExactFlushMem", spec := "fnExactFlushMem", apart := false }
def FnExactFlushMemSaid : Prop := fnExactFlushMemRow.holds Try.pinned (OpenSpec.ofChange fnExactFlushMemSpec)

/-- ITS FALSE NEIGHBOUR: 'it returns false'. Refute it at one input. -/
def fnExactFlushMemWrong : ChangeSpec := { name := "fnExactFlushMem", fn := fun _ => fun
  | [d] => { results := [.lit (.bool false)], args := [d] }
  | _ => none }
def FnExactFlushMemWrongFalsely : Prop := fnExactFlushMemRow.holds Try.pinned (OpenSpec.ofChange fnExactFlushMemWrong)

/-- 'laws.FnExactFallMem': WHATEVER THE INPUT: true; the input reads as it did. -/
def fnExactFallMemSpec : ChangeSpec := { name := "fnExactFallMem", fn := fun _ => fun
  | [d1, d2] => { results := [.lit (.bool true)], args := [d1, d2] }
  | _ => none }
def fnExactFallMemRow : OpenClaim := { program := "ytbejlccfclkiiaa", sum := "b167339b979a385e227bbc08ed6f6a0f9d537a2a7aee006102f9974379f59322", func := "loop.example/g00398/laws.FnExactFallMem", spec := "fnExactFallMem", apart := false }
def FnExactFallMemSaid : Prop := fnExactFallMemRow.holds Try.pinned (OpenSpec.ofChange fnExactFallMemSpec)

/-- ITS FALSE NEIGHBOUR: 'it returns false'. Refute it at one input. -/
def fnExactFallMemWrong : ChangeSpec := { name := "fnExactFallMem", fn := fun _ => fun
  | [d1, d2] => { results := [.lit (.bool false)], args := [d1, d2] }
  | _ => none }
def FnExactFallMemWrongFalsely : Prop := fnExactFallMemRow.holds Try.pinned (OpenSpec.ofChange fnExactFallMemWrong)

/-- 'laws.FnExactWriteSec': WHATEVER THE INPUT: true; the input reads as it did. -/
def fnExactWriteSecSpec : ChangeSpec := { name := "fnExactWriteSec", fn := fun _ => fun
  | [d1, d2, d3] => { results := [.lit (.bool true)], args := [d1, d2, d3] }
  | _ => none }
def fnExactWriteSecRow : OpenClaim := { program := "ytbejlccfclkiiaa", sum := "b167339b979a385e227bbc08ed6f6a0f9d537a2a7aee006102f9974379f59322", func := "loop.example/g00398/laws.FnExactWriteSec", spec := "fnExactWriteSec", unfollowed := true, recurses := true, apart := false }
def FnExactWriteSecSaid : Prop := fnExactWriteSecRow.holds Try.pinned (OpenSpec.ofChange fnExactWriteSecSpec)

/-- ITS FALSE NEIGHBOUR: 'it returns false'. Refute it at one input. -/
def fnExactWriteSecWrong : ChangeSpec := { name := "fnExactWriteSec", fn := fun _ => fun
  | [d1, d2, d3] => { results := [.lit (.bool false)], args := [d1, d2, d3] }
  | _ => none }
def FnExactWriteSecWrongFalsely : Prop := fnExactWriteSecRow.holds Try.pinned (OpenSpec.ofChange fnExactWriteSecWrong)

/-- 'laws.FnExactBestSuper': WHATEVER THE INPUT: true; the input reads as it did. -/
def fnExactBestSuperSpec : ChangeSpec := { name := "fnExactBestSuper", fn := fun _ => fun
  | [d1, d2] => { results := [.lit (.bool true)], args := [d1, d2] }
  | _ => none }
def fnExactBestSuperRow : OpenClaim := { program := "ytbejlccfclkiiaa", sum := "b167339b979a385e227bbc08ed6f6a0f9d537a2a7aee006102f9974379f59322", func := "loop.example/g00398/laws.FnExactBestSuper", spec := "fnExactBestSuper", apart := false }
def FnExactBestSuperSaid : Prop := fnExactBestSuperRow.holds Try.pinned (OpenSpec.ofChange fnExactBestSuperSpec)

/-- ITS FALSE NEIGHBOUR: 'it returns false'. Refute it at one input. -/
def fnExactBestSuperWrong : ChangeSpec := { name := "fnExactBestSuper", fn := fun _ => fun
  | [d1, d2] => { results := [.lit (.bool false)], args := [d1, d2] }
  | _ => none }
def FnExactBestSuperWrongFalsely : Prop := fnExactBestSuperRow.holds Try.pinned (OpenSpec.ofChange fnExactBestSuperWrong)

/-- 'laws.FnExactWriteSuper': WHATEVER THE INPUT: true; the input reads as it did. -/
def fnExactWriteSuperSpec : ChangeSpec := { name := "fnExactWriteSuper", fn := fun _ => fun
  | [d1, d2] => { results := [.lit (.bool true)], args := [d1, d2] }
  | _ => none }
def fnExactWriteSuperRow : OpenClaim := { program := "ytbejlccfclkiiaa", sum := "b167339b979a385e227bbc08ed6f6a0f9d537a2a7aee006102f9974379f59322", func := "loop.example/g00398/laws.FnExactWriteSuper", spec := "fnExactWriteSuper", unfollowed := true, recurses := true, apart := false }
def FnExactWriteSuperSaid : Prop := fnExactWriteSuperRow.holds Try.pinned (OpenSpec.ofChange fnExactWriteSuperSpec)

/-- ITS FALSE NEIGHBOUR: 'it returns false'. Refute it at one input. -/
def fnExactWriteSuperWrong : ChangeSpec := { name := "fnExactWriteSuper", fn := fun _ => fun
  | [d1, d2] => { results := [.lit (.bool false)], args := [d1, d2] }
  | _ => none }
def FnExactWriteSuperWrongFalsely : Prop := fnExactWriteSuperRow.holds Try.pinned (OpenSpec.ofChange fnExactWriteSuperWrong)

/-- 'laws.FnMems': WHATEVER THE INPUT: true; the input reads as it did. -/
def fnMemsSpec : ChangeSpec := { name := "fnMems", fn := fun _ => fun
  | [d] => { results := [.lit (.bool true)], args := [d] }
  | _ => none }
def fnMemsRow : OpenClaim := { program := "ytbejlccfclkiiaa", sum := "b167339b979a385e227bbc08ed6f6a0f9d537a2a7aee006102f9974379f59322", func := "loop.example/g00398/laws.FnMems", spec := "fnMems", unfollowed := true, recurses := true, apart := false }
def FnMemsSaid : Prop := fnMemsRow.holds Try.pinned (OpenSpec.ofChange fnMemsSpec)

/-- ITS FALSE NEIGHBOUR: 'it returns false'. Refute it at one input. -/
def fnMemsWrong : ChangeSpec := { name := "fnMems", fn := fun _ => fun
  | [d] => { results := [.lit (.bool false)], args := [d] }
  | _ => none }
def FnMemsWrongFalsely : Prop := fnMemsRow.holds Try.pinned (OpenSpec.ofChange fnMemsWrong)

/-- 'laws.FnSupers': WHATEVER THE INPUT: true; the input reads as it did. -/
def fnSupersSpec : ChangeSpec := { name := "fnSupers", fn := fun _ => fun
  | [d] => { results := [.lit (.bool true)], args := [d] }
  | _ => none }
def fnSupersRow : OpenClaim := { program := "ytbejlccfclkiiaa", sum := "b167339b979a385e227bbc08ed6f6a0f9d537a2a7aee006102f9974379f59322", func := "loop.example/g00398/laws.FnSupers", spec := "fnSupers", apart := false }
def FnSupersSaid : Prop := fnSupersRow.holds Try.pinned (OpenSpec.ofChange fnSupersSpec)

/-- ITS FALSE NEIGHBOUR: 'it returns false'. Refute it at one input. -/
def fnSupersWrong : ChangeSpec := { name := "fnSupers", fn := fun _ => fun
  | [d] => { results := [.lit (.bool false)], args := [d] }
  | _ => none }
def FnSupersWrongFalsely : Prop := fnSupersRow.holds Try.pinned (OpenSpec.ofChange fnSupersWrong)

/-- 'laws.FnNewer': WHATEVER THE INPUT: true; the input reads as it did. -/
def fnNewerSpec : ChangeSpec := { name := "fnNewer", fn := fun _ => fun
  | [d] => { results := [.lit (.bool true)], args := [d] }
  | _ => none }
def fnNewerRow : OpenClaim := { program := "ytbejlccfclkiiaa", sum := "b167339b979a385e227bbc08ed6f6a0f9d537a2a7aee006102f9974379f59322", func := "loop.example/g00398/laws.FnNewer", spec := "fnNewer", unfollowed := true, recurses := true, apart := false }
def FnNewerSaid : Prop := fnNewerRow.holds Try.pinned (OpenSpec.ofChange fnNewerSpec)

/-- ITS FALSE NEIGHBOUR: 'it returns false'. Refute it at one input. -/
def fnNewerWrong : ChangeSpec := { name := "fnNewer", fn := fun _ => fun
  | [d] => { results := [.lit (.bool false)], args := [d] }
  | _ => none }
def FnNewerWrongFalsely : Prop := fnNewerRow.holds Try.pinned (OpenSpec.ofChange fnNewerWrong)

/-- 'laws.FnFalls': WHATEVER THE INPUT: true; the input reads as it did. -/
def fnFallsSpec : ChangeSpec := { name := "fnFalls", fn := fun _ => fun
  | [d] => { results := [.lit (.bool true)], args := [d] }
  | _ => none }
def fnFallsRow : OpenClaim := { program := "ytbejlccfclkiiaa", sum := "b167339b979a385e227bbc08ed6f6a0f9d537a2a7aee006102f9974379f59322", func := "loop.example/g00398/laws.FnFalls", spec := "fnFalls", apart := false }
def FnFallsSaid : Prop := fnFallsRow.holds Try.pinned (OpenSpec.ofChange fnFallsSpec)

/-- ITS FALSE NEIGHBOUR: 'it returns false'. Refute it at one input. -/
def fnFallsWrong : ChangeSpec := { name := "fnFalls", fn := fun _ => fun
  | [d] => { results := [.lit (.bool false)], args := [d] }
  | _ => none }
def FnFallsWrongFalsely : Prop := fnFallsRow.holds Try.pinned (OpenSpec.ofChange fnFallsWrong)

/- THE SECOND FORM. 'bulk': how many values and letters a reading holds, each counted each time it is reached (what is shared counts as often as it is met; a slice's spare places count too). A statement '..UptoSaid' is the law's where the arguments, and the package variables that the reading takes, are together of bulk at most 1048576: NARROWER than '..Said'. Prove '..Said' where nothing that the law and all that it calls make is longer than what came in: it says more and counts as full. Else prove '..UptoSaid'. A law counts once. -/
mutual
def uptoBulk {H : Type} : DataW H → Nat
  | .lit (.string bytes) => bytes.length + 1
  | .lit _ => 1
  | .nil => 1
  | .ptr d => uptoBulk d + 1
  | .slice elems spare => uptoBulkAll elems + uptoBulkAll spare + 1
  | .agg parts => uptoBulkAll parts + 1
  | .iface _ d => uptoBulk d + 1
  | .map entries => uptoBulkEntries entries + 1
  | .held _ => 1
def uptoBulkAll {H : Type} : List (DataW H) → Nat
  | [] => 0
  | d :: r => uptoBulk d + uptoBulkAll r
def uptoBulkEntries {H : Type} : List (Lit × DataW H) → Nat
  | [] => 0
  | x :: r => uptoBulkEntry x + uptoBulkEntries r
def uptoBulkEntry {H : Type} : Lit × DataW H → Nat
  | (.string bytes, d) => bytes.length + uptoBulk d + 1
  | (_, d) => uptoBulk d + 1
 end
def uptoSmall : (H : Type) → List (DataW H) → Bool := fun _ ds => decide (uptoBulkAll ds ≤ 1048576)
def OpenSpec.upto (s : _root_.Go.ChangeSpec) : _root_.Go.OpenSpec := { _root_.Go.OpenSpec.ofChange s with cond := some uptoSmall }

/-- 'laws.FnExactMemNew', WHERE WHAT IT READS IS OF BULK AT MOST 1048576: true; the input reads as it did. -/
def fnExactMemNewUptoRow : OpenClaim := { program := "ytbejlccfclkiiaa", sum := "b167339b979a385e227bbc08ed6f6a0f9d537a2a7aee006102f9974379f59322", func := "loop.example/g00398/laws.FnExactMemNew", spec := "fnExactMemNew", apart := false, narrowed := true }
def FnExactMemNewUptoSaid : Prop := fnExactMemNewUptoRow.holds Try.pinned (OpenSpec.upto fnExactMemNewSpec)

/-- 'laws.FnExactFailMem', WHERE WHAT IT READS IS OF BULK AT MOST 1048576: true; the input reads as it did. -/
def fnExactFailMemUptoRow : OpenClaim := { program := "ytbejlccfclkiiaa", sum := "b167339b979a385e227bbc08ed6f6a0f9d537a2a7aee006102f9974379f59322", func := "loop.example/g00398/laws.FnExactFailMem", spec := "fnExactFailMem", apart := false, narrowed := true }
def FnExactFailMemUptoSaid : Prop := fnExactFailMemUptoRow.holds Try.pinned (OpenSpec.upto fnExactFailMemSpec)

/-- 'laws.FnExactReadSec', WHERE WHAT IT READS IS OF BULK AT MOST 1048576: true; the input reads as it did. -/
def fnExactReadSecUptoRow : OpenClaim := { program := "ytbejlccfclkiiaa", sum := "b167339b979a385e227bbc08ed6f6a0f9d537a2a7aee006102f9974379f59322", func := "loop.example/g00398/laws.FnExactReadSec", spec := "fnExactReadSec", apart := false, narrowed := true }
def FnExactReadSecUptoSaid : Prop := fnExactReadSecUptoRow.holds Try.pinned (OpenSpec.upto fnExactReadSecSpec)

/-- 'laws.FnExactFlushMem', WHERE WHAT IT READS IS OF BULK AT MOST 1048576: true; the input reads as it did. -/
def fnExactFlushMemUptoRow : OpenClaim := { program := "ytbejlccfclkiiaa", sum := "b167339b979a385e227bbc08ed6f6a0f9d537a2a7aee006102f9974379f59322", func := "loop.example/g00398/laws.FnExactFlushMem", spec := "fnExactFlushMem", apart := false, narrowed := true }
def FnExactFlushMemUptoSaid : Prop := fnExactFlushMemUptoRow.holds Try.pinned (OpenSpec.upto fnExactFlushMemSpec)

/-- 'laws.FnExactFallMem', WHERE WHAT IT READS IS OF BULK AT MOST 1048576: true; the input reads as it did. -/
def fnExactFallMemUptoRow : OpenClaim := { program := "ytbejlccfclkiiaa", sum := "b167339b979a385e227bbc08ed6f6a0f9d537a2a7aee006102f9974379f59322", func := "loop.example/g00398/laws.FnExactFallMem", spec := "fnExactFallMem", apart := false, narrowed := true }
def FnExactFallMemUptoSaid : Prop := fnExactFallMemUptoRow.holds Try.pinned (OpenSpec.upto fnExactFallMemSpec)

/-- 'laws.FnExactWriteSec', WHERE WHAT IT READS IS OF BULK AT MOST 1048576: true; the input reads as it did. -/
def fnExactWriteSecUptoRow : OpenClaim := { program := "ytbejlccfclkiiaa", sum := "b167339b979a385e227bbc08ed6f6a0f9d537a2a7aee006102f9974379f59322", func := "loop.example/g00398/laws.FnExactWriteSec", spec := "fnExactWriteSec", unfollowed := true, recurses := true, apart := false, narrowed := true }
def FnExactWriteSecUptoSaid : Prop := fnExactWriteSecUptoRow.holds Try.pinned (OpenSpec.upto fnExactWriteSecSpec)

/-- 'laws.FnExactBestSuper', WHERE WHAT IT READS IS OF BULK AT MOST 1048576: true; the input reads as it did. -/
def fnExactBestSuperUptoRow : OpenClaim := { program := "ytbejlccfclkiiaa", sum := "b167339b979a385e227bbc08ed6f6a0f9d537a2a7aee006102f9974379f59322", func := "loop.example/g00398/laws.FnExactBestSuper", spec := "fnExactBestSuper", apart := false, narrowed := true }
def FnExactBestSuperUptoSaid : Prop := fnExactBestSuperUptoRow.holds Try.pinned (OpenSpec.upto fnExactBestSuperSpec)

/-- 'laws.FnExactWriteSuper', WHERE WHAT IT READS IS OF BULK AT MOST 1048576: true; the input reads as it did. -/
def fnExactWriteSuperUptoRow : OpenClaim := { program := "ytbejlccfclkiiaa", sum := "b167339b979a385e227bbc08ed6f6a0f9d537a2a7aee006102f9974379f59322", func := "loop.example/g00398/laws.FnExactWriteSuper", spec := "fnExactWriteSuper", unfollowed := true, recurses := true, apart := false, narrowed := true }
def FnExactWriteSuperUptoSaid : Prop := fnExactWriteSuperUptoRow.holds Try.pinned (OpenSpec.upto fnExactWriteSuperSpec)

/-- 'laws.FnMems', WHERE WHAT IT READS IS OF BULK AT MOST 1048576: true; the input reads as it did. -/
def fnMemsUptoRow : OpenClaim := { program := "ytbejlccfclkiiaa", sum := "b167339b979a385e227bbc08ed6f6a0f9d537a2a7aee006102f9974379f59322", func := "loop.example/g00398/laws.FnMems", spec := "fnMems", unfollowed := true, recurses := true, apart := false, narrowed := true }
def FnMemsUptoSaid : Prop := fnMemsUptoRow.holds Try.pinned (OpenSpec.upto fnMemsSpec)

/-- 'laws.FnSupers', WHERE WHAT IT READS IS OF BULK AT MOST 1048576: true; the input reads as it did. -/
def fnSupersUptoRow : OpenClaim := { program := "ytbejlccfclkiiaa", sum := "b167339b979a385e227bbc08ed6f6a0f9d537a2a7aee006102f9974379f59322", func := "loop.example/g00398/laws.FnSupers", spec := "fnSupers", apart := false, narrowed := true }
def FnSupersUptoSaid : Prop := fnSupersUptoRow.holds Try.pinned (OpenSpec.upto fnSupersSpec)

/-- 'laws.FnNewer', WHERE WHAT IT READS IS OF BULK AT MOST 1048576: true; the input reads as it did. -/
def fnNewerUptoRow : OpenClaim := { program := "ytbejlccfclkiiaa", sum := "b167339b979a385e227bbc08ed6f6a0f9d537a2a7aee006102f9974379f59322", func := "loop.example/g00398/laws.FnNewer", spec := "fnNewer", unfollowed := true, recurses := true, apart := false, narrowed := true }
def FnNewerUptoSaid : Prop := fnNewerUptoRow.holds Try.pinned (OpenSpec.upto fnNewerSpec)

/-- 'laws.FnFalls', WHERE WHAT IT READS IS OF BULK AT MOST 1048576: true; the input reads as it did. -/
def fnFallsUptoRow : OpenClaim := { program := "ytbejlccfclkiiaa", sum := "b167339b979a385e227bbc08ed6f6a0f9d537a2a7aee006102f9974379f59322", func := "loop.example/g00398/laws.FnFalls", spec := "fnFalls", apart := false, narrowed := true }
def FnFallsUptoSaid : Prop := fnFallsUptoRow.holds Try.pinned (OpenSpec.upto fnFallsSpec)

end Rows
end Go.Proofs.Ytbejlccfclkiiaa
