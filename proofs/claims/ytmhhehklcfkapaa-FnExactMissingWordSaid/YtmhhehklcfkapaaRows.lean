/-
  No cell of these rows narrows 'for every input' (looked for: loops, veiled, ifaces, maps, wideKeys, modest, calm, conditions, laid).
  DERIVED. THE GIVEN ROWS OF THIS SEAT. 12 by the template 'for every input the law returns true; each argument reads behind the call as it read before'; 0 by the template 'total and deterministic' (their statements: YtmhhehklcfkapaaTotals.lean).
  GIVEN WITH THE SEED: the statements are not yours to turn. If you find one false, say at which input.
  Laid BY PROGRAM, IN A SANDBOX (cutbox-rows.mjs): the forced cells as the released guide's own fill.sh prints them over the translation 4f71fd48390babc8… (all of the seat's roots in one cut). By AI agents, Wed Nov 11 2026. No macro, syntax, notation, axiom, sorry.
-/
import Derived.Test.YtmhhehklcfkapaaChecked
import GoSem.Claim
import GoSem.ClaimJoined
import GoSem.ClaimMapViews
import Derived.JoinedTies
import Derived.KernelRfl
namespace Go.Proofs.Ytmhhehklcfkapaa
/- THE CELL 'sum', in the pinned program and in every row, IS THE sha256 OF THE DUMP (.gsa) THAT YtmhhehklcfkapaaProg.lean LOADS. Nothing in Lean hashes anything: it is a label: what it is worth is what the hold of that sum in a sandbox is worth. -/
noncomputable def Try.pinned : Pinned := { name := "ytmhhehklcfkapaa", sum := "4f71fd48390babc8105a7f5e38a234c6242062df1648997a59e7b3754f425c4c", checked := Try.checked }
namespace Rows
def none {H : Type} : Left H := { results := [], args := [] }

/-- 'laws.FnExactParityOf': WHATEVER THE INPUT: true; the input reads as it did. -/
def fnExactParityOfSpec : ChangeSpec := { name := "fnExactParityOf", fn := fun _ => fun
  | [d1, d2] => { results := [.lit (.bool true)], args := [d1, d2] }
  | _ => none }
def fnExactParityOfRow : OpenClaim := { program := "ytmhhehklcfkapaa", sum := "4f71fd48390babc8105a7f5e38a234c6242062df1648997a59e7b3754f425c4c", func := "loop.example/g00398/laws.FnExactParityOf", spec := "fnExactParityOf", apart := false }
def FnExactParityOfSaid : Prop := fnExactParityOfRow.holds Try.pinned (OpenSpec.ofChange fnExactParityOfSpec)

/-- ITS FALSE NEIGHBOUR: 'it returns false'. Refute it at one input. -/
def fnExactParityOfWrong : ChangeSpec := { name := "fnExactParityOf", fn := fun _ => fun
  | [d1, d2] => { results := [.lit (.bool false)], args := [d1, d2] }
  | _ => none }
def FnExactParityOfWrongFalsely : Prop := fnExactParityOfRow.holds Try.pinned (OpenSpec.ofChange fnExactParityOfWrong)

/-- 'laws.FnExactSuperOk': WHATEVER THE INPUT: true; the input reads as it did. -/
def fnExactSuperOkSpec : ChangeSpec := { name := "fnExactSuperOk", fn := fun _ => fun
  | [d] => { results := [.lit (.bool true)], args := [d] }
  | _ => none }
def fnExactSuperOkRow : OpenClaim := { program := "ytmhhehklcfkapaa", sum := "4f71fd48390babc8105a7f5e38a234c6242062df1648997a59e7b3754f425c4c", func := "loop.example/g00398/laws.FnExactSuperOk", spec := "fnExactSuperOk", apart := false }
def FnExactSuperOkSaid : Prop := fnExactSuperOkRow.holds Try.pinned (OpenSpec.ofChange fnExactSuperOkSpec)

/-- ITS FALSE NEIGHBOUR: 'it returns false'. Refute it at one input. -/
def fnExactSuperOkWrong : ChangeSpec := { name := "fnExactSuperOk", fn := fun _ => fun
  | [d] => { results := [.lit (.bool false)], args := [d] }
  | _ => none }
def FnExactSuperOkWrongFalsely : Prop := fnExactSuperOkRow.holds Try.pinned (OpenSpec.ofChange fnExactSuperOkWrong)

/-- 'laws.FnExactXorOf': WHATEVER THE INPUT: true; the input reads as it did. -/
def fnExactXorOfSpec : ChangeSpec := { name := "fnExactXorOf", fn := fun _ => fun
  | [d] => { results := [.lit (.bool true)], args := [d] }
  | _ => none }
def fnExactXorOfRow : OpenClaim := { program := "ytmhhehklcfkapaa", sum := "4f71fd48390babc8105a7f5e38a234c6242062df1648997a59e7b3754f425c4c", func := "loop.example/g00398/laws.FnExactXorOf", spec := "fnExactXorOf", apart := false }
def FnExactXorOfSaid : Prop := fnExactXorOfRow.holds Try.pinned (OpenSpec.ofChange fnExactXorOfSpec)

/-- ITS FALSE NEIGHBOUR: 'it returns false'. Refute it at one input. -/
def fnExactXorOfWrong : ChangeSpec := { name := "fnExactXorOf", fn := fun _ => fun
  | [d] => { results := [.lit (.bool false)], args := [d] }
  | _ => none }
def FnExactXorOfWrongFalsely : Prop := fnExactXorOfRow.holds Try.pinned (OpenSpec.ofChange fnExactXorOfWrong)

/-- 'laws.FnExactParityWord': WHATEVER THE INPUT: true; the input reads as it did. -/
def fnExactParityWordSpec : ChangeSpec := { name := "fnExactParityWord", fn := fun _ => fun
  | [d] => { results := [.lit (.bool true)], args := [d] }
  | _ => none }
def fnExactParityWordRow : OpenClaim := { program := "ytmhhehklcfkapaa", sum := "4f71fd48390babc8105a7f5e38a234c6242062df1648997a59e7b3754f425c4c", func := "loop.example/g00398/laws.FnExactParityWord", spec := "fnExactParityWord", apart := false }
def FnExactParityWordSaid : Prop := fnExactParityWordRow.holds Try.pinned (OpenSpec.ofChange fnExactParityWordSpec)

/-- ITS FALSE NEIGHBOUR: 'it returns false'. Refute it at one input. -/
def fnExactParityWordWrong : ChangeSpec := { name := "fnExactParityWord", fn := fun _ => fun
  | [d] => { results := [.lit (.bool false)], args := [d] }
  | _ => none }
def FnExactParityWordWrongFalsely : Prop := fnExactParityWordRow.holds Try.pinned (OpenSpec.ofChange fnExactParityWordWrong)

/-- 'laws.FnExactIndexOf': WHATEVER THE INPUT: true; the input reads as it did. -/
def fnExactIndexOfSpec : ChangeSpec := { name := "fnExactIndexOf", fn := fun _ => fun
  | [d1, d2] => { results := [.lit (.bool true)], args := [d1, d2] }
  | _ => none }
def fnExactIndexOfRow : OpenClaim := { program := "ytmhhehklcfkapaa", sum := "4f71fd48390babc8105a7f5e38a234c6242062df1648997a59e7b3754f425c4c", func := "loop.example/g00398/laws.FnExactIndexOf", spec := "fnExactIndexOf", apart := false }
def FnExactIndexOfSaid : Prop := fnExactIndexOfRow.holds Try.pinned (OpenSpec.ofChange fnExactIndexOfSpec)

/-- ITS FALSE NEIGHBOUR: 'it returns false'. Refute it at one input. -/
def fnExactIndexOfWrong : ChangeSpec := { name := "fnExactIndexOf", fn := fun _ => fun
  | [d1, d2] => { results := [.lit (.bool false)], args := [d1, d2] }
  | _ => none }
def FnExactIndexOfWrongFalsely : Prop := fnExactIndexOfRow.holds Try.pinned (OpenSpec.ofChange fnExactIndexOfWrong)

/-- 'laws.FnExactStripeOf': WHATEVER THE INPUT: true; the input reads as it did. -/
def fnExactStripeOfSpec : ChangeSpec := { name := "fnExactStripeOf", fn := fun _ => fun
  | [d1, d2] => { results := [.lit (.bool true)], args := [d1, d2] }
  | _ => none }
def fnExactStripeOfRow : OpenClaim := { program := "ytmhhehklcfkapaa", sum := "4f71fd48390babc8105a7f5e38a234c6242062df1648997a59e7b3754f425c4c", func := "loop.example/g00398/laws.FnExactStripeOf", spec := "fnExactStripeOf", apart := false }
def FnExactStripeOfSaid : Prop := fnExactStripeOfRow.holds Try.pinned (OpenSpec.ofChange fnExactStripeOfSpec)

/-- ITS FALSE NEIGHBOUR: 'it returns false'. Refute it at one input. -/
def fnExactStripeOfWrong : ChangeSpec := { name := "fnExactStripeOf", fn := fun _ => fun
  | [d1, d2] => { results := [.lit (.bool false)], args := [d1, d2] }
  | _ => none }
def FnExactStripeOfWrongFalsely : Prop := fnExactStripeOfRow.holds Try.pinned (OpenSpec.ofChange fnExactStripeOfWrong)

/-- 'laws.FnExactDiskOf': WHATEVER THE INPUT: true; the input reads as it did. -/
def fnExactDiskOfSpec : ChangeSpec := { name := "fnExactDiskOf", fn := fun _ => fun
  | [d1, d2, d3] => { results := [.lit (.bool true)], args := [d1, d2, d3] }
  | _ => none }
def fnExactDiskOfRow : OpenClaim := { program := "ytmhhehklcfkapaa", sum := "4f71fd48390babc8105a7f5e38a234c6242062df1648997a59e7b3754f425c4c", func := "loop.example/g00398/laws.FnExactDiskOf", spec := "fnExactDiskOf", apart := false }
def FnExactDiskOfSaid : Prop := fnExactDiskOfRow.holds Try.pinned (OpenSpec.ofChange fnExactDiskOfSpec)

/-- ITS FALSE NEIGHBOUR: 'it returns false'. Refute it at one input. -/
def fnExactDiskOfWrong : ChangeSpec := { name := "fnExactDiskOf", fn := fun _ => fun
  | [d1, d2, d3] => { results := [.lit (.bool false)], args := [d1, d2, d3] }
  | _ => none }
def FnExactDiskOfWrongFalsely : Prop := fnExactDiskOfRow.holds Try.pinned (OpenSpec.ofChange fnExactDiskOfWrong)

/-- 'laws.FnExactSecOk': WHATEVER THE INPUT: true; the input reads as it did. -/
def fnExactSecOkSpec : ChangeSpec := { name := "fnExactSecOk", fn := fun _ => fun
  | [d] => { results := [.lit (.bool true)], args := [d] }
  | _ => none }
def fnExactSecOkRow : OpenClaim := { program := "ytmhhehklcfkapaa", sum := "4f71fd48390babc8105a7f5e38a234c6242062df1648997a59e7b3754f425c4c", func := "loop.example/g00398/laws.FnExactSecOk", spec := "fnExactSecOk", apart := false }
def FnExactSecOkSaid : Prop := fnExactSecOkRow.holds Try.pinned (OpenSpec.ofChange fnExactSecOkSpec)

/-- ITS FALSE NEIGHBOUR: 'it returns false'. Refute it at one input. -/
def fnExactSecOkWrong : ChangeSpec := { name := "fnExactSecOk", fn := fun _ => fun
  | [d] => { results := [.lit (.bool false)], args := [d] }
  | _ => none }
def FnExactSecOkWrongFalsely : Prop := fnExactSecOkRow.holds Try.pinned (OpenSpec.ofChange fnExactSecOkWrong)

/-- 'laws.FnExactSameSec': WHATEVER THE INPUT: true; the input reads as it did. -/
def fnExactSameSecSpec : ChangeSpec := { name := "fnExactSameSec", fn := fun _ => fun
  | [d1, d2] => { results := [.lit (.bool true)], args := [d1, d2] }
  | _ => none }
def fnExactSameSecRow : OpenClaim := { program := "ytmhhehklcfkapaa", sum := "4f71fd48390babc8105a7f5e38a234c6242062df1648997a59e7b3754f425c4c", func := "loop.example/g00398/laws.FnExactSameSec", spec := "fnExactSameSec", apart := false }
def FnExactSameSecSaid : Prop := fnExactSameSecRow.holds Try.pinned (OpenSpec.ofChange fnExactSameSecSpec)

/-- ITS FALSE NEIGHBOUR: 'it returns false'. Refute it at one input. -/
def fnExactSameSecWrong : ChangeSpec := { name := "fnExactSameSec", fn := fun _ => fun
  | [d1, d2] => { results := [.lit (.bool false)], args := [d1, d2] }
  | _ => none }
def FnExactSameSecWrongFalsely : Prop := fnExactSameSecRow.holds Try.pinned (OpenSpec.ofChange fnExactSameSecWrong)

/-- 'laws.FnExactMissingWord': WHATEVER THE INPUT: true; the input reads as it did. -/
def fnExactMissingWordSpec : ChangeSpec := { name := "fnExactMissingWord", fn := fun _ => fun
  | [d1, d2] => { results := [.lit (.bool true)], args := [d1, d2] }
  | _ => none }
def fnExactMissingWordRow : OpenClaim := { program := "ytmhhehklcfkapaa", sum := "4f71fd48390babc8105a7f5e38a234c6242062df1648997a59e7b3754f425c4c", func := "loop.example/g00398/laws.FnExactMissingWord", spec := "fnExactMissingWord", apart := false }
def FnExactMissingWordSaid : Prop := fnExactMissingWordRow.holds Try.pinned (OpenSpec.ofChange fnExactMissingWordSpec)

/-- ITS FALSE NEIGHBOUR: 'it returns false'. Refute it at one input. -/
def fnExactMissingWordWrong : ChangeSpec := { name := "fnExactMissingWord", fn := fun _ => fun
  | [d1, d2] => { results := [.lit (.bool false)], args := [d1, d2] }
  | _ => none }
def FnExactMissingWordWrongFalsely : Prop := fnExactMissingWordRow.holds Try.pinned (OpenSpec.ofChange fnExactMissingWordWrong)

/-- 'laws.FnExactPutSuper': WHATEVER THE INPUT: true; the input reads as it did. -/
def fnExactPutSuperSpec : ChangeSpec := { name := "fnExactPutSuper", fn := fun _ => fun
  | [d] => { results := [.lit (.bool true)], args := [d] }
  | _ => none }
def fnExactPutSuperRow : OpenClaim := { program := "ytmhhehklcfkapaa", sum := "4f71fd48390babc8105a7f5e38a234c6242062df1648997a59e7b3754f425c4c", func := "loop.example/g00398/laws.FnExactPutSuper", spec := "fnExactPutSuper", apart := false }
def FnExactPutSuperSaid : Prop := fnExactPutSuperRow.holds Try.pinned (OpenSpec.ofChange fnExactPutSuperSpec)

/-- ITS FALSE NEIGHBOUR: 'it returns false'. Refute it at one input. -/
def fnExactPutSuperWrong : ChangeSpec := { name := "fnExactPutSuper", fn := fun _ => fun
  | [d] => { results := [.lit (.bool false)], args := [d] }
  | _ => none }
def FnExactPutSuperWrongFalsely : Prop := fnExactPutSuperRow.holds Try.pinned (OpenSpec.ofChange fnExactPutSuperWrong)

/-- 'laws.FnExactRecOk': WHATEVER THE INPUT: true; the input reads as it did. -/
def fnExactRecOkSpec : ChangeSpec := { name := "fnExactRecOk", fn := fun _ => fun
  | [d] => { results := [.lit (.bool true)], args := [d] }
  | _ => none }
def fnExactRecOkRow : OpenClaim := { program := "ytmhhehklcfkapaa", sum := "4f71fd48390babc8105a7f5e38a234c6242062df1648997a59e7b3754f425c4c", func := "loop.example/g00398/laws.FnExactRecOk", spec := "fnExactRecOk", apart := false }
def FnExactRecOkSaid : Prop := fnExactRecOkRow.holds Try.pinned (OpenSpec.ofChange fnExactRecOkSpec)

/-- ITS FALSE NEIGHBOUR: 'it returns false'. Refute it at one input. -/
def fnExactRecOkWrong : ChangeSpec := { name := "fnExactRecOk", fn := fun _ => fun
  | [d] => { results := [.lit (.bool false)], args := [d] }
  | _ => none }
def FnExactRecOkWrongFalsely : Prop := fnExactRecOkRow.holds Try.pinned (OpenSpec.ofChange fnExactRecOkWrong)

/- THE SECOND FORM. 'bulk': how many values and letters a reading holds, each counted each time it is reached (what is shared counts as often as it is met; a slice's spare places count too). A statement '..UptoSaid' is the law's where the arguments, and the package variables that the reading takes, are together of bulk at most 1048576: NARROWER than '..Said'. Prove '..Said' where nothing that the law and all that it calls make is longer than what came in: it says more and counts as full. Else prove '..UptoSaid'. A law counts once. -/
mutual
def uptoBulk {H : Type} : DataW H → Nat
  | .lit (.string bytes) => bytes.length + 1
  | .lit _ => 1
  | .nil => 1
  | .ptr d => uptoBulk d + 1
  | .slice elems spare => uptoBulkAll elems + uptoBulkAll spare + 1
  | .agg parts => uptoBulkAll parts + 1
  | .iface _ d => uptoBulk d + 1
  | .map entries => uptoBulkEntries entries + 1
  | .held _ => 1
def uptoBulkAll {H : Type} : List (DataW H) → Nat
  | [] => 0
  | d :: r => uptoBulk d + uptoBulkAll r
def uptoBulkEntries {H : Type} : List (Lit × DataW H) → Nat
  | [] => 0
  | x :: r => uptoBulkEntry x + uptoBulkEntries r
def uptoBulkEntry {H : Type} : Lit × DataW H → Nat
  | (.string bytes, d) => bytes.length + uptoBulk d + 1
  | (_, d) => uptoBulk d + 1
 end
def uptoSmall : (H : Type) → List (DataW H) → Bool := fun _ ds => decide (uptoBulkAll ds ≤ 1048576)
def OpenSpec.upto (s : _root_.Go.ChangeSpec) : _root_.Go.OpenSpec := { _root_.Go.OpenSpec.ofChange s with cond := some uptoSmall }

/-- 'laws.FnExactParityOf', WHERE WHAT IT READS IS OF BULK AT MOST 1048576: true; the input reads as it did. -/
def fnExactParityOfUptoRow : OpenClaim := { program := "ytmhhehklcfkapaa", sum := "4f71fd48390babc8105a7f5e38a234c6242062df1648997a59e7b3754f425c4c", func := "loop.example/g00398/laws.FnExactParityOf", spec := "fnExactParityOf", apart := false, narrowed := true }
def FnExactParityOfUptoSaid : Prop := fnExactParityOfUptoRow.holds Try.pinned (OpenSpec.upto fnExactParityOfSpec)

/-- 'laws.FnExactSuperOk', WHERE WHAT IT READS IS OF BULK AT MOST 1048576: true; the input reads as it did. -/
def fnExactSuperOkUptoRow : OpenClaim := { program := "ytmhhehklcfkapaa", sum := "4f71fd48390babc8105a7f5e38a234c6242062df1648997a59e7b3754f425c4c", func := "loop.example/g00398/laws.FnExactSuperOk", spec := "fnExactSuperOk", apart := false, narrowed := true }
def FnExactSuperOkUptoSaid : Prop := fnExactSuperOkUptoRow.holds Try.pinned (OpenSpec.upto fnExactSuperOkSpec)

/-- 'laws.FnExactXorOf', WHERE WHAT IT READS IS OF BULK AT MOST 1048576: true; the input reads as it did. -/
def fnExactXorOfUptoRow : OpenClaim := { program := "ytmhhehklcfkapaa", sum := "4f71fd48390babc8105a7f5e38a234c6242062df1648997a59e7b3754f425c4c", func := "loop.example/g00398/laws.FnExactXorOf", spec := "fnExactXorOf", apart := false, narrowed := true }
def FnExactXorOfUptoSaid : Prop := fnExactXorOfUptoRow.holds Try.pinned (OpenSpec.upto fnExactXorOfSpec)

/-- 'laws.FnExactParityWord', WHERE WHAT IT READS IS OF BULK AT MOST 1048576: true; the input reads as it did. -/
def fnExactParityWordUptoRow : OpenClaim := { program := "ytmhhehklcfkapaa", sum := "4f71fd48390babc8105a7f5e38a234c6242062df1648997a59e7b3754f425c4c", func := "loop.example/g00398/laws.FnExactParityWord", spec := "fnExactParityWord", apart := false, narrowed := true }
def FnExactParityWordUptoSaid : Prop := fnExactParityWordUptoRow.holds Try.pinned (OpenSpec.upto fnExactParityWordSpec)

/-- 'laws.FnExactIndexOf', WHERE WHAT IT READS IS OF BULK AT MOST 1048576: true; the input reads as it did. -/
def fnExactIndexOfUptoRow : OpenClaim := { program := "ytmhhehklcfkapaa", sum := "4f71fd48390babc8105a7f5e38a234c6242062df1648997a59e7b3754f425c4c", func := "loop.example/g00398/laws.FnExactIndexOf", spec := "fnExactIndexOf", apart := false, narrowed := true }
def FnExactIndexOfUptoSaid : Prop := fnExactIndexOfUptoRow.holds Try.pinned (OpenSpec.upto fnExactIndexOfSpec)

/-- 'laws.FnExactStripeOf', WHERE WHAT IT READS IS OF BULK AT MOST 1048576: true; the input reads as it did. -/
def fnExactStripeOfUptoRow : OpenClaim := { program := "ytmhhehklcfkapaa", sum := "4f71fd48390babc8105a7f5e38a234c6242062df1648997a59e7b3754f425c4c", func := "loop.example/g00398/laws.FnExactStripeOf", spec := "fnExactStripeOf", apart := false, narrowed := true }
def FnExactStripeOfUptoSaid : Prop := fnExactStripeOfUptoRow.holds Try.pinned (OpenSpec.upto fnExactStripeOfSpec)

/-- 'laws.FnExactDiskOf', WHERE WHAT IT READS IS OF BULK AT MOST 1048576: true; the input reads as it did. -/
def fnExactDiskOfUptoRow : OpenClaim := { program := "ytmhhehklcfkapaa", sum := "4f71fd48390babc8105a7f5e38a234c6242062df1648997a59e7b3754f425c4c", func := "loop.example/g00398/laws.FnExactDiskOf", spec := "fnExactDiskOf", apart := false, narrowed := true }
def FnExactDiskOfUptoSaid : Prop := fnExactDiskOfUptoRow.holds Try.pinned (OpenSpec.upto fnExactDiskOfSpec)

/-- 'laws.FnExactSecOk', WHERE WHAT IT READS IS OF BULK AT MOST 1048576: true; the input reads as it did. -/
def fnExactSecOkUptoRow : OpenClaim := { program := "ytmhhehklcfkapaa", sum := "4f71fd48390babc8105a7f5e38a234c6242062df1648997a59e7b3754f425c4c", func := "loop.example/g00398/laws.FnExactSecOk", spec := "fnExactSecOk", apart := false, narrowed := true }
def FnExactSecOkUptoSaid : Prop := fnExactSecOkUptoRow.holds Try.pinned (OpenSpec.upto fnExactSecOkSpec)

/-- 'laws.FnExactSameSec', WHERE WHAT IT READS IS OF BULK AT MOST 1048576: true; the input reads as it did. -/
def fnExactSameSecUptoRow : OpenClaim := { program := "ytmhhehklcfkapaa", sum := "4f71fd48390babc8105a7f5e38a234c6242062df1648997a59e7b3754f425c4c", func := "loop.example/g00398/laws.FnExactSameSec", spec := "fnExactSameSec", apart := false, narrowed := true }
def FnExactSameSecUptoSaid : Prop := fnExactSameSecUptoRow.holds Try.pinned (OpenSpec.upto fnExactSameSecSpec)

/-- 'laws.FnExactMissingWord', WHERE WHAT IT READS IS OF BULK AT MOST 1048576: true; the input reads as it did. -/
def fnExactMissingWordUptoRow : OpenClaim := { program := "ytmhhehklcfkapaa", sum := "4f71fd48390babc8105a7f5e38a234c6242062df1648997a59e7b3754f425c4c", func := "loop.example/g00398/laws.FnExactMissingWord", spec := "fnExactMissingWord", apart := false, narrowed := true }
def FnExactMissingWordUptoSaid : Prop := fnExactMissingWordUptoRow.holds Try.pinned (OpenSpec.upto fnExactMissingWordSpec)

/-- 'laws.FnExactPutSuper', WHERE WHAT IT READS IS OF BULK AT MOST 1048576: true; the input reads as it did. -/
def fnExactPutSuperUptoRow : OpenClaim := { program := "ytmhhehklcfkapaa", sum := "4f71fd48390babc8105a7f5e38a234c6242062df1648997a59e7b3754f425c4c", func := "loop.example/g00398/laws.FnExactPutSuper", spec := "fnExactPutSuper", apart := false, narrowed := true }
def FnExactPutSuperUptoSaid : Prop := fnExactPutSuperUptoRow.holds Try.pinned (OpenSpec.upto fnExactPutSuperSpec)

/-- 'laws.FnExactRecOk', WHERE WHAT IT READS IS OF BULK AT MOST 1048576: true; the input reads as it did. -/
def fnExactRecOkUptoRow : OpenClaim := { program := "ytmhhehklcfkapaa", sum := "4f71fd48390babc8105a7f5e38a234c6242062df1648997a59e7b3754f425c4c", func := "loop.example/g00398/laws.FnExactRecOk", spec := "fnExactRecOk", apart := false, narrowed := true }
def FnExactRecOkUptoSaid : Prop := fnExactRecOkUptoRow.holds Try.pinned (OpenSpec.upto fnExactRecOkSpec)

end Rows
end Go.Proofs.Ytmhhehklcfkapaa
