/-
  No cell of these rows narrows 'for every input' (looked for: loops, veiled, ifaces, maps, wideKeys, modest, calm, conditions, laid).
  DERIVED. THE GIVEN ROWS OF THIS SEAT. 8 by the template 'for every input the law returns true; each argument reads behind the call as it read before'; 0 by the template 'total and deterministic' (their statements: YtggmifnblcjdfaaTotals.lean).
  GIVEN WITH THE SEED: the statements are not yours to turn. If you find one false, say at which input.
  Laid BY PROGRAM, IN A SANDBOX (cutbox-rows.mjs): the forced cells as the released guide's own fill.sh prints them over the translation 79ae11ea0571643c… (all of the seat's roots in one cut). By AI agents, Wed Nov 11 2026. No macro, syntax, notation, axiom, sorry.
-/
import Derived.Test.YtggmifnblcjdfaaChecked
import GoSem.Claim
import GoSem.ClaimJoined
import GoSem.ClaimMapViews
import Derived.JoinedTies
import Derived.KernelRfl
namespace Go.Proofs.Ytggmifnblcjdfaa
/- THE CELL 'sum', in the pinned program and in every row, IS THE sha256 OF THE DUMP (.gsa) THAT YtggmifnblcjdfaaProg.lean LOADS. Nothing in Lean hashes anything: it is a label: what it is worth is what the hold of that sum in a sandbox is worth. -/
noncomputable def Try.pinned : Pinned := { name := "ytggmifnblcjdfaa", sum := "79ae11ea0571643c266aa1ae613cc05b15ce09153f00c66a495d391e59587382", checked := Try.checked }
namespace Rows
def none {H : Type} : Left H := { results := [], args := [] }

/-- 'laws.FnExactLiveAt': WHATEVER THE INPUT: true; the input reads as it did. -/
def fnExactLiveAtSpec : ChangeSpec := { name := "fnExactLiveAt", fn := fun _ => fun
  | [d1, d2, d3] => { results := [.lit (.bool true)], args := [d1, d2, d3] }
  | _ => none }
def fnExactLiveAtRow : OpenClaim := { program := "ytggmifnblcjdfaa", sum := "79ae11ea0571643c266aa1ae613cc05b15ce09153f00c66a495d391e59587382", func := "loop.example/g00398/laws.FnExactLiveAt", spec := "fnExactLiveAt", apart := false }
def FnExactLiveAtSaid : Prop := fnExactLiveAtRow.holds Try.pinned (OpenSpec.ofChange fnExactLiveAtSpec)

/-- ITS FALSE NEIGHBOUR: 'it returns false'. Refute it at one input. -/
def fnExactLiveAtWrong : ChangeSpec := { name := "fnExactLiveAt", fn := fun _ => fun
  | [d1, d2, d3] => { results := [.lit (.bool false)], args := [d1, d2, d3] }
  | _ => none }
def FnExactLiveAtWrongFalsely : Prop := fnExactLiveAtRow.holds Try.pinned (OpenSpec.ofChange fnExactLiveAtWrong)

/-- 'laws.FnExactArrOk': WHATEVER THE INPUT: true; the input reads as it did. -/
def fnExactArrOkSpec : ChangeSpec := { name := "fnExactArrOk", fn := fun _ => fun
  | [d] => { results := [.lit (.bool true)], args := [d] }
  | _ => none }
def fnExactArrOkRow : OpenClaim := { program := "ytggmifnblcjdfaa", sum := "79ae11ea0571643c266aa1ae613cc05b15ce09153f00c66a495d391e59587382", func := "loop.example/g00398/laws.FnExactArrOk", spec := "fnExactArrOk", apart := false }
def FnExactArrOkSaid : Prop := fnExactArrOkRow.holds Try.pinned (OpenSpec.ofChange fnExactArrOkSpec)

/-- ITS FALSE NEIGHBOUR: 'it returns false'. Refute it at one input. -/
def fnExactArrOkWrong : ChangeSpec := { name := "fnExactArrOk", fn := fun _ => fun
  | [d] => { results := [.lit (.bool false)], args := [d] }
  | _ => none }
def FnExactArrOkWrongFalsely : Prop := fnExactArrOkRow.holds Try.pinned (OpenSpec.ofChange fnExactArrOkWrong)

/-- 'laws.FnExactArrNew': WHATEVER THE INPUT: true; the input reads as it did. -/
def fnExactArrNewSpec : ChangeSpec := { name := "fnExactArrNew", fn := fun _ => fun
  | [d1, d2] => { results := [.lit (.bool true)], args := [d1, d2] }
  | _ => none }
def fnExactArrNewRow : OpenClaim := { program := "ytggmifnblcjdfaa", sum := "79ae11ea0571643c266aa1ae613cc05b15ce09153f00c66a495d391e59587382", func := "loop.example/g00398/laws.FnExactArrNew", spec := "fnExactArrNew", unfollowed := true, recurses := true, apart := false }
def FnExactArrNewSaid : Prop := fnExactArrNewRow.holds Try.pinned (OpenSpec.ofChange fnExactArrNewSpec)

/-- ITS FALSE NEIGHBOUR: 'it returns false'. Refute it at one input. -/
def fnExactArrNewWrong : ChangeSpec := { name := "fnExactArrNew", fn := fun _ => fun
  | [d1, d2] => { results := [.lit (.bool false)], args := [d1, d2] }
  | _ => none }
def FnExactArrNewWrongFalsely : Prop := fnExactArrNewRow.holds Try.pinned (OpenSpec.ofChange fnExactArrNewWrong)

/-- 'laws.FnExactWords': WHATEVER THE INPUT: true; the input reads as it did. -/
def fnExactWordsSpec : ChangeSpec := { name := "fnExactWords", fn := fun _ => fun
  | [d1, d2] => { results := [.lit (.bool true)], args := [d1, d2] }
  | _ => none }
def fnExactWordsRow : OpenClaim := { program := "ytggmifnblcjdfaa", sum := "79ae11ea0571643c266aa1ae613cc05b15ce09153f00c66a495d391e59587382", func := "loop.example/g00398/laws.FnExactWords", spec := "fnExactWords", apart := false }
def FnExactWordsSaid : Prop := fnExactWordsRow.holds Try.pinned (OpenSpec.ofChange fnExactWordsSpec)

/-- ITS FALSE NEIGHBOUR: 'it returns false'. Refute it at one input. -/
def fnExactWordsWrong : ChangeSpec := { name := "fnExactWords", fn := fun _ => fun
  | [d1, d2] => { results := [.lit (.bool false)], args := [d1, d2] }
  | _ => none }
def FnExactWordsWrongFalsely : Prop := fnExactWordsRow.holds Try.pinned (OpenSpec.ofChange fnExactWordsWrong)

/-- 'laws.FnExactDataOf': WHATEVER THE INPUT: true; the input reads as it did. -/
def fnExactDataOfSpec : ChangeSpec := { name := "fnExactDataOf", fn := fun _ => fun
  | [d1, d2] => { results := [.lit (.bool true)], args := [d1, d2] }
  | _ => none }
def fnExactDataOfRow : OpenClaim := { program := "ytggmifnblcjdfaa", sum := "79ae11ea0571643c266aa1ae613cc05b15ce09153f00c66a495d391e59587382", func := "loop.example/g00398/laws.FnExactDataOf", spec := "fnExactDataOf", apart := false }
def FnExactDataOfSaid : Prop := fnExactDataOfRow.holds Try.pinned (OpenSpec.ofChange fnExactDataOfSpec)

/-- ITS FALSE NEIGHBOUR: 'it returns false'. Refute it at one input. -/
def fnExactDataOfWrong : ChangeSpec := { name := "fnExactDataOf", fn := fun _ => fun
  | [d1, d2] => { results := [.lit (.bool false)], args := [d1, d2] }
  | _ => none }
def FnExactDataOfWrongFalsely : Prop := fnExactDataOfRow.holds Try.pinned (OpenSpec.ofChange fnExactDataOfWrong)

/-- 'laws.FnExactSync': WHATEVER THE INPUT: true; the input reads as it did. -/
def fnExactSyncSpec : ChangeSpec := { name := "fnExactSync", fn := fun _ => fun
  | [d] => { results := [.lit (.bool true)], args := [d] }
  | _ => none }
def fnExactSyncRow : OpenClaim := { program := "ytggmifnblcjdfaa", sum := "79ae11ea0571643c266aa1ae613cc05b15ce09153f00c66a495d391e59587382", func := "loop.example/g00398/laws.FnExactSync", spec := "fnExactSync", apart := false }
def FnExactSyncSaid : Prop := fnExactSyncRow.holds Try.pinned (OpenSpec.ofChange fnExactSyncSpec)

/-- ITS FALSE NEIGHBOUR: 'it returns false'. Refute it at one input. -/
def fnExactSyncWrong : ChangeSpec := { name := "fnExactSync", fn := fun _ => fun
  | [d] => { results := [.lit (.bool false)], args := [d] }
  | _ => none }
def FnExactSyncWrongFalsely : Prop := fnExactSyncRow.holds Try.pinned (OpenSpec.ofChange fnExactSyncWrong)

/-- 'laws.FnExactCheck': WHATEVER THE INPUT: true; the input reads as it did. -/
def fnExactCheckSpec : ChangeSpec := { name := "fnExactCheck", fn := fun _ => fun
  | [d] => { results := [.lit (.bool true)], args := [d] }
  | _ => none }
def fnExactCheckRow : OpenClaim := { program := "ytggmifnblcjdfaa", sum := "79ae11ea0571643c266aa1ae613cc05b15ce09153f00c66a495d391e59587382", func := "loop.example/g00398/laws.FnExactCheck", spec := "fnExactCheck", unfollowed := true, recurses := true, apart := false }
def FnExactCheckSaid : Prop := fnExactCheckRow.holds Try.pinned (OpenSpec.ofChange fnExactCheckSpec)

/-- ITS FALSE NEIGHBOUR: 'it returns false'. Refute it at one input. -/
def fnExactCheckWrong : ChangeSpec := { name := "fnExactCheck", fn := fun _ => fun
  | [d] => { results := [.lit (.bool false)], args := [d] }
  | _ => none }
def FnExactCheckWrongFalsely : Prop := fnExactCheckRow.holds Try.pinned (OpenSpec.ofChange fnExactCheckWrong)

/-- 'laws.FnExactMark': WHATEVER THE INPUT: true; the input reads as it did. -/
def fnExactMarkSpec : ChangeSpec := { name := "fnExactMark", fn := fun _ => fun
  | [d] => { results := [.lit (.bool true)], args := [d] }
  | _ => none }
def fnExactMarkRow : OpenClaim := { program := "ytggmifnblcjdfaa", sum := "79ae11ea0571643c266aa1ae613cc05b15ce09153f00c66a495d391e59587382", func := "loop.example/g00398/laws.FnExactMark", spec := "fnExactMark", unfollowed := true, recurses := true, apart := false }
def FnExactMarkSaid : Prop := fnExactMarkRow.holds Try.pinned (OpenSpec.ofChange fnExactMarkSpec)

/-- ITS FALSE NEIGHBOUR: 'it returns false'. Refute it at one input. -/
def fnExactMarkWrong : ChangeSpec := { name := "fnExactMark", fn := fun _ => fun
  | [d] => { results := [.lit (.bool false)], args := [d] }
  | _ => none }
def FnExactMarkWrongFalsely : Prop := fnExactMarkRow.holds Try.pinned (OpenSpec.ofChange fnExactMarkWrong)

/- THE SECOND FORM. 'bulk': how many values and letters a reading holds, each counted each time it is reached (what is shared counts as often as it is met; a slice's spare places count too). A statement '..UptoSaid' is the law's where the arguments, and the package variables that the reading takes, are together of bulk at most 1048576: NARROWER than '..Said'. Prove '..Said' where nothing that the law and all that it calls make is longer than what came in: it says more and counts as full. Else prove '..UptoSaid'. A law counts once. -/
mutual
def uptoBulk {H : Type} : DataW H → Nat
  | .lit (.string bytes) => bytes.length + 1
  | .lit _ => 1
  | .nil => 1
  | .ptr d => uptoBulk d + 1
  | .slice elems spare => uptoBulkAll elems + uptoBulkAll spare + 1
  | .agg parts => uptoBulkAll parts + 1
  | .iface _ d => uptoBulk d + 1
  | .map entries => uptoBulkEntries entries + 1
  | .held _ => 1
def uptoBulkAll {H : Type} : List (DataW H) → Nat
  | [] => 0
  | d :: r => uptoBulk d + uptoBulkAll r
def uptoBulkEntries {H : Type} : List (Lit × DataW H) → Nat
  | [] => 0
  | x :: r => uptoBulkEntry x + uptoBulkEntries r
def uptoBulkEntry {H : Type} : Lit × DataW H → Nat
  | (.string bytes, d) => bytes.length + uptoBulk d + 1
  | (_, d) => uptoBulk d + 1
 end
def uptoSmall : (H : Type) → List (DataW H) → Bool := fun _ ds => decide (uptoBulkAll ds ≤ 1048576)
def OpenSpec.upto (s : _root_.Go.ChangeSpec) : _root_.Go.OpenSpec := { _root_.Go.OpenSpec.ofChange s with cond := some uptoSmall }

/-- 'laws.FnExactLiveAt', WHERE WHAT IT READS IS OF BULK AT MOST 1048576: true; the input reads as it did. -/
def fnExactLiveAtUptoRow : OpenClaim := { program := "ytggmifnblcjdfaa", sum := "79ae11ea0571643c266aa1ae613cc05b15ce09153f00c66a495d391e59587382", func := "loop.example/g00398/laws.FnExactLiveAt", spec := "fnExactLiveAt", apart := false, narrowed := true }
def FnExactLiveAtUptoSaid : Prop := fnExactLiveAtUptoRow.holds Try.pinned (OpenSpec.upto fnExactLiveAtSpec)

/-- 'laws.FnExactArrOk', WHERE WHAT IT READS IS OF BULK AT MOST 1048576: true; the input reads as it did. -/
def fnExactArrOkUptoRow : OpenClaim := { program := "ytggmifnblcjdfaa", sum := "79ae11ea0571643c266aa1ae613cc05b15ce09153f00c66a495d391e59587382", func := "loop.example/g00398/laws.FnExactArrOk", spec := "fnExactArrOk", apart := false, narrowed := true }
def FnExactArrOkUptoSaid : Prop := fnExactArrOkUptoRow.holds Try.pinned (OpenSpec.upto fnExactArrOkSpec)

/-- 'laws.FnExactArrNew', WHERE WHAT IT READS IS OF BULK AT MOST 1048576: true; the input reads as it did. -/
def fnExactArrNewUptoRow : OpenClaim := { program := "ytggmifnblcjdfaa", sum := "79ae11ea0571643c266aa1ae613cc05b15ce09153f00c66a495d391e59587382", func := "loop.example/g00398/laws.FnExactArrNew", spec := "fnExactArrNew", unfollowed := true, recurses := true, apart := false, narrowed := true }
def FnExactArrNewUptoSaid : Prop := fnExactArrNewUptoRow.holds Try.pinned (OpenSpec.upto fnExactArrNewSpec)

/-- 'laws.FnExactWords', WHERE WHAT IT READS IS OF BULK AT MOST 1048576: true; the input reads as it did. -/
def fnExactWordsUptoRow : OpenClaim := { program := "ytggmifnblcjdfaa", sum := "79ae11ea0571643c266aa1ae613cc05b15ce09153f00c66a495d391e59587382", func := "loop.example/g00398/laws.FnExactWords", spec := "fnExactWords", apart := false, narrowed := true }
def FnExactWordsUptoSaid : Prop := fnExactWordsUptoRow.holds Try.pinned (OpenSpec.upto fnExactWordsSpec)

/-- 'laws.FnExactDataOf', WHERE WHAT IT READS IS OF BULK AT MOST 1048576: true; the input reads as it did. -/
def fnExactDataOfUptoRow : OpenClaim := { program := "ytggmifnblcjdfaa", sum := "79ae11ea0571643c266aa1ae613cc05b15ce09153f00c66a495d391e59587382", func := "loop.example/g00398/laws.FnExactDataOf", spec := "fnExactDataOf", apart := false, narrowed := true }
def FnExactDataOfUptoSaid : Prop := fnExactDataOfUptoRow.holds Try.pinned (OpenSpec.upto fnExactDataOfSpec)

/-- 'laws.FnExactSync', WHERE WHAT IT READS IS OF BULK AT MOST 1048576: true; the input reads as it did. -/
def fnExactSyncUptoRow : OpenClaim := { program := "ytggmifnblcjdfaa", sum := "79ae11ea0571643c266aa1ae613cc05b15ce09153f00c66a495d391e59587382", func := "loop.example/g00398/laws.FnExactSync", spec := "fnExactSync", apart := false, narrowed := true }
def FnExactSyncUptoSaid : Prop := fnExactSyncUptoRow.holds Try.pinned (OpenSpec.upto fnExactSyncSpec)

/-- 'laws.FnExactCheck', WHERE WHAT IT READS IS OF BULK AT MOST 1048576: true; the input reads as it did. -/
def fnExactCheckUptoRow : OpenClaim := { program := "ytggmifnblcjdfaa", sum := "79ae11ea0571643c266aa1ae613cc05b15ce09153f00c66a495d391e59587382", func := "loop.example/g00398/laws.FnExactCheck", spec := "fnExactCheck", unfollowed := true, recurses := true, apart := false, narrowed := true }
def FnExactCheckUptoSaid : Prop := fnExactCheckUptoRow.holds Try.pinned (OpenSpec.upto fnExactCheckSpec)

/-- 'laws.FnExactMark', WHERE WHAT IT READS IS OF BULK AT MOST 1048576: true; the input reads as it did. -/
def fnExactMarkUptoRow : OpenClaim := { program := "ytggmifnblcjdfaa", sum := "79ae11ea0571643c266aa1ae613cc05b15ce09153f00c66a495d391e59587382", func := "loop.example/g00398/laws.FnExactMark", spec := "fnExactMark", unfollowed := true, recurses := true, apart := false, narrowed := true }
def FnExactMarkUptoSaid : Prop := fnExactMarkUptoRow.holds Try.pinned (OpenSpec.upto fnExactMarkSpec)

end Rows
end Go.Proofs.Ytggmifnblcjdfaa
