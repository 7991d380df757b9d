/-
  No cell of these rows narrows 'for every input' (looked for: loops, veiled, ifaces, maps, wideKeys, modest, calm, conditions, laid).
  DERIVED. THE GIVEN ROWS OF THIS SEAT. 8 by the template 'for every input the law returns true; each argument reads behind the call as it read before'; 0 by the template 'total and deterministic' (their statements: YtfcnjhkebbjojaaTotals.lean).
  GIVEN WITH THE SEED: the statements are not yours to turn. If you find one false, say at which input.
  Laid BY PROGRAM, IN A SANDBOX (cutbox-rows.mjs): the forced cells as the released guide's own fill.sh prints them over the translation 7ae7f6449ee19a0c… (all of the seat's roots in one cut). By AI agents, Wed Nov 11 2026. No macro, syntax, notation, axiom, sorry.
-/
import Derived.Test.YtfcnjhkebbjojaaChecked
import GoSem.Claim
import GoSem.ClaimJoined
import GoSem.ClaimMapViews
import Derived.JoinedTies
import Derived.KernelRfl
namespace Go.Proofs.Ytfcnjhkebbjojaa
/- THE CELL 'sum', in the pinned program and in every row, IS THE sha256 OF THE DUMP (.gsa) THAT YtfcnjhkebbjojaaProg.lean LOADS. Nothing in Lean hashes anything: it is a label: what it is worth is what the hold of that sum in a sandbox is worth. -/
noncomputable def Try.pinned : Pinned := { name := "ytfcnjhkebbjojaa", sum := "7ae7f6449ee19a0cd76da2a9c636625bba24d54ec0d026e8d55643e5d310d5c2", checked := Try.checked }
namespace Rows
def none {H : Type} : Left H := { results := [], args := [] }

/-- 'laws.FnTierCostFirst': WHATEVER THE INPUT: true; the input reads as it did. -/
def fnTierCostFirstSpec : ChangeSpec := { name := "fnTierCostFirst", fn := fun _ => fun
  | [d] => { results := [.lit (.bool true)], args := [d] }
  | _ => none }
def fnTierCostFirstRow : OpenClaim := { program := "ytfcnjhkebbjojaa", sum := "7ae7f6449ee19a0cd76da2a9c636625bba24d54ec0d026e8d55643e5d310d5c2", func := "loop.example/metricstore/laws.FnTierCostFirst", spec := "fnTierCostFirst", apart := false }
def FnTierCostFirstSaid : Prop := fnTierCostFirstRow.holds Try.pinned (OpenSpec.ofChange fnTierCostFirstSpec)

/-- ITS FALSE NEIGHBOUR: 'it returns false'. Refute it at one input. -/
def fnTierCostFirstWrong : ChangeSpec := { name := "fnTierCostFirst", fn := fun _ => fun
  | [d] => { results := [.lit (.bool false)], args := [d] }
  | _ => none }
def FnTierCostFirstWrongFalsely : Prop := fnTierCostFirstRow.holds Try.pinned (OpenSpec.ofChange fnTierCostFirstWrong)

/-- 'laws.FnTierCostKeep': WHATEVER THE INPUT: true; the input reads as it did. -/
def fnTierCostKeepSpec : ChangeSpec := { name := "fnTierCostKeep", fn := fun _ => fun
  | [d] => { results := [.lit (.bool true)], args := [d] }
  | _ => none }
def fnTierCostKeepRow : OpenClaim := { program := "ytfcnjhkebbjojaa", sum := "7ae7f6449ee19a0cd76da2a9c636625bba24d54ec0d026e8d55643e5d310d5c2", func := "loop.example/metricstore/laws.FnTierCostKeep", spec := "fnTierCostKeep", apart := false }
def FnTierCostKeepSaid : Prop := fnTierCostKeepRow.holds Try.pinned (OpenSpec.ofChange fnTierCostKeepSpec)

/-- ITS FALSE NEIGHBOUR: 'it returns false'. Refute it at one input. -/
def fnTierCostKeepWrong : ChangeSpec := { name := "fnTierCostKeep", fn := fun _ => fun
  | [d] => { results := [.lit (.bool false)], args := [d] }
  | _ => none }
def FnTierCostKeepWrongFalsely : Prop := fnTierCostKeepRow.holds Try.pinned (OpenSpec.ofChange fnTierCostKeepWrong)

/-- 'laws.FnExactOldestKept': WHATEVER THE INPUT: true; the input reads as it did. -/
def fnExactOldestKeptSpec : ChangeSpec := { name := "fnExactOldestKept", fn := fun _ => fun
  | [d1, d2] => { results := [.lit (.bool true)], args := [d1, d2] }
  | _ => none }
def fnExactOldestKeptRow : OpenClaim := { program := "ytfcnjhkebbjojaa", sum := "7ae7f6449ee19a0cd76da2a9c636625bba24d54ec0d026e8d55643e5d310d5c2", func := "loop.example/metricstore/laws.FnExactOldestKept", spec := "fnExactOldestKept", apart := false }
def FnExactOldestKeptSaid : Prop := fnExactOldestKeptRow.holds Try.pinned (OpenSpec.ofChange fnExactOldestKeptSpec)

/-- ITS FALSE NEIGHBOUR: 'it returns false'. Refute it at one input. -/
def fnExactOldestKeptWrong : ChangeSpec := { name := "fnExactOldestKept", fn := fun _ => fun
  | [d1, d2] => { results := [.lit (.bool false)], args := [d1, d2] }
  | _ => none }
def FnExactOldestKeptWrongFalsely : Prop := fnExactOldestKeptRow.holds Try.pinned (OpenSpec.ofChange fnExactOldestKeptWrong)

/-- 'laws.FnExpireBuckets': WHATEVER THE INPUT: true; the input reads as it did. -/
def fnExpireBucketsSpec : ChangeSpec := { name := "fnExpireBuckets", fn := fun _ => fun
  | [d] => { results := [.lit (.bool true)], args := [d] }
  | _ => none }
def fnExpireBucketsRow : OpenClaim := { program := "ytfcnjhkebbjojaa", sum := "7ae7f6449ee19a0cd76da2a9c636625bba24d54ec0d026e8d55643e5d310d5c2", func := "loop.example/metricstore/laws.FnExpireBuckets", spec := "fnExpireBuckets", apart := false }
def FnExpireBucketsSaid : Prop := fnExpireBucketsRow.holds Try.pinned (OpenSpec.ofChange fnExpireBucketsSpec)

/-- ITS FALSE NEIGHBOUR: 'it returns false'. Refute it at one input. -/
def fnExpireBucketsWrong : ChangeSpec := { name := "fnExpireBuckets", fn := fun _ => fun
  | [d] => { results := [.lit (.bool false)], args := [d] }
  | _ => none }
def FnExpireBucketsWrongFalsely : Prop := fnExpireBucketsRow.holds Try.pinned (OpenSpec.ofChange fnExpireBucketsWrong)

/-- 'laws.FnExpireBucketsLater': WHATEVER THE INPUT: true; the input reads as it did. -/
def fnExpireBucketsLaterSpec : ChangeSpec := { name := "fnExpireBucketsLater", fn := fun _ => fun
  | [d] => { results := [.lit (.bool true)], args := [d] }
  | _ => none }
def fnExpireBucketsLaterRow : OpenClaim := { program := "ytfcnjhkebbjojaa", sum := "7ae7f6449ee19a0cd76da2a9c636625bba24d54ec0d026e8d55643e5d310d5c2", func := "loop.example/metricstore/laws.FnExpireBucketsLater", spec := "fnExpireBucketsLater", apart := false }
def FnExpireBucketsLaterSaid : Prop := fnExpireBucketsLaterRow.holds Try.pinned (OpenSpec.ofChange fnExpireBucketsLaterSpec)

/-- ITS FALSE NEIGHBOUR: 'it returns false'. Refute it at one input. -/
def fnExpireBucketsLaterWrong : ChangeSpec := { name := "fnExpireBucketsLater", fn := fun _ => fun
  | [d] => { results := [.lit (.bool false)], args := [d] }
  | _ => none }
def FnExpireBucketsLaterWrongFalsely : Prop := fnExpireBucketsLaterRow.holds Try.pinned (OpenSpec.ofChange fnExpireBucketsLaterWrong)

/-- 'laws.FnExpireBucketsTwice': WHATEVER THE INPUT: true; the input reads as it did. -/
def fnExpireBucketsTwiceSpec : ChangeSpec := { name := "fnExpireBucketsTwice", fn := fun _ => fun
  | [d] => { results := [.lit (.bool true)], args := [d] }
  | _ => none }
def fnExpireBucketsTwiceRow : OpenClaim := { program := "ytfcnjhkebbjojaa", sum := "7ae7f6449ee19a0cd76da2a9c636625bba24d54ec0d026e8d55643e5d310d5c2", func := "loop.example/metricstore/laws.FnExpireBucketsTwice", spec := "fnExpireBucketsTwice", apart := false }
def FnExpireBucketsTwiceSaid : Prop := fnExpireBucketsTwiceRow.holds Try.pinned (OpenSpec.ofChange fnExpireBucketsTwiceSpec)

/-- ITS FALSE NEIGHBOUR: 'it returns false'. Refute it at one input. -/
def fnExpireBucketsTwiceWrong : ChangeSpec := { name := "fnExpireBucketsTwice", fn := fun _ => fun
  | [d] => { results := [.lit (.bool false)], args := [d] }
  | _ => none }
def FnExpireBucketsTwiceWrongFalsely : Prop := fnExpireBucketsTwiceRow.holds Try.pinned (OpenSpec.ofChange fnExpireBucketsTwiceWrong)

/-- 'laws.FnExactExpireBuckets': WHATEVER THE INPUT: true; the input reads as it did. -/
def fnExactExpireBucketsSpec : ChangeSpec := { name := "fnExactExpireBuckets", fn := fun _ => fun
  | [d1, d2, d3, d4] => { results := [.lit (.bool true)], args := [d1, d2, d3, d4] }
  | _ => none }
def fnExactExpireBucketsRow : OpenClaim := { program := "ytfcnjhkebbjojaa", sum := "7ae7f6449ee19a0cd76da2a9c636625bba24d54ec0d026e8d55643e5d310d5c2", func := "loop.example/metricstore/laws.FnExactExpireBuckets", spec := "fnExactExpireBuckets", apart := false }
def FnExactExpireBucketsSaid : Prop := fnExactExpireBucketsRow.holds Try.pinned (OpenSpec.ofChange fnExactExpireBucketsSpec)

/-- ITS FALSE NEIGHBOUR: 'it returns false'. Refute it at one input. -/
def fnExactExpireBucketsWrong : ChangeSpec := { name := "fnExactExpireBuckets", fn := fun _ => fun
  | [d1, d2, d3, d4] => { results := [.lit (.bool false)], args := [d1, d2, d3, d4] }
  | _ => none }
def FnExactExpireBucketsWrongFalsely : Prop := fnExactExpireBucketsRow.holds Try.pinned (OpenSpec.ofChange fnExactExpireBucketsWrong)

/-- 'laws.FnExactBoundFor': WHATEVER THE INPUT: true; the input reads as it did. -/
def fnExactBoundForSpec : ChangeSpec := { name := "fnExactBoundFor", fn := fun _ => fun
  | [d1, d2, d3] => { results := [.lit (.bool true)], args := [d1, d2, d3] }
  | _ => none }
def fnExactBoundForRow : OpenClaim := { program := "ytfcnjhkebbjojaa", sum := "7ae7f6449ee19a0cd76da2a9c636625bba24d54ec0d026e8d55643e5d310d5c2", func := "loop.example/metricstore/laws.FnExactBoundFor", spec := "fnExactBoundFor", apart := false }
def FnExactBoundForSaid : Prop := fnExactBoundForRow.holds Try.pinned (OpenSpec.ofChange fnExactBoundForSpec)

/-- ITS FALSE NEIGHBOUR: 'it returns false'. Refute it at one input. -/
def fnExactBoundForWrong : ChangeSpec := { name := "fnExactBoundFor", fn := fun _ => fun
  | [d1, d2, d3] => { results := [.lit (.bool false)], args := [d1, d2, d3] }
  | _ => none }
def FnExactBoundForWrongFalsely : Prop := fnExactBoundForRow.holds Try.pinned (OpenSpec.ofChange fnExactBoundForWrong)

/- THE SECOND FORM. 'bulk': how many values and letters a reading holds, each counted each time it is reached (what is shared counts as often as it is met; a slice's spare places count too). A statement '..UptoSaid' is the law's where the arguments, and the package variables that the reading takes, are together of bulk at most 1048576: NARROWER than '..Said'. Prove '..Said' where nothing that the law and all that it calls make is longer than what came in: it says more and counts as full. Else prove '..UptoSaid'. A law counts once. -/
mutual
def uptoBulk {H : Type} : DataW H → Nat
  | .lit (.string bytes) => bytes.length + 1
  | .lit _ => 1
  | .nil => 1
  | .ptr d => uptoBulk d + 1
  | .slice elems spare => uptoBulkAll elems + uptoBulkAll spare + 1
  | .agg parts => uptoBulkAll parts + 1
  | .iface _ d => uptoBulk d + 1
  | .map entries => uptoBulkEntries entries + 1
  | .held _ => 1
def uptoBulkAll {H : Type} : List (DataW H) → Nat
  | [] => 0
  | d :: r => uptoBulk d + uptoBulkAll r
def uptoBulkEntries {H : Type} : List (Lit × DataW H) → Nat
  | [] => 0
  | x :: r => uptoBulkEntry x + uptoBulkEntries r
def uptoBulkEntry {H : Type} : Lit × DataW H → Nat
  | (.string bytes, d) => bytes.length + uptoBulk d + 1
  | (_, d) => uptoBulk d + 1
 end
def uptoSmall : (H : Type) → List (DataW H) → Bool := fun _ ds => decide (uptoBulkAll ds ≤ 1048576)
def OpenSpec.upto (s : _root_.Go.ChangeSpec) : _root_.Go.OpenSpec := { _root_.Go.OpenSpec.ofChange s with cond := some uptoSmall }

/-- 'laws.FnTierCostFirst', WHERE WHAT IT READS IS OF BULK AT MOST 1048576: true; the input reads as it did. -/
def fnTierCostFirstUptoRow : OpenClaim := { program := "ytfcnjhkebbjojaa", sum := "7ae7f6449ee19a0cd76da2a9c636625bba24d54ec0d026e8d55643e5d310d5c2", func := "loop.example/metricstore/laws.FnTierCostFirst", spec := "fnTierCostFirst", apart := false, narrowed := true }
def FnTierCostFirstUptoSaid : Prop := fnTierCostFirstUptoRow.holds Try.pinned (OpenSpec.upto fnTierCostFirstSpec)

/-- 'laws.FnTierCostKeep', WHERE WHAT IT READS IS OF BULK AT MOST 1048576: true; the input reads as it did. -/
def fnTierCostKeepUptoRow : OpenClaim := { program := "ytfcnjhkebbjojaa", sum := "7ae7f6449ee19a0cd76da2a9c636625bba24d54ec0d026e8d55643e5d310d5c2", func := "loop.example/metricstore/laws.FnTierCostKeep", spec := "fnTierCostKeep", apart := false, narrowed := true }
def FnTierCostKeepUptoSaid : Prop := fnTierCostKeepUptoRow.holds Try.pinned (OpenSpec.upto fnTierCostKeepSpec)

/-- 'laws.FnExactOldestKept', WHERE WHAT IT READS IS OF BULK AT MOST 1048576: true; the input reads as it did. -/
def fnExactOldestKeptUptoRow : OpenClaim := { program := "ytfcnjhkebbjojaa", sum := "7ae7f6449ee19a0cd76da2a9c636625bba24d54ec0d026e8d55643e5d310d5c2", func := "loop.example/metricstore/laws.FnExactOldestKept", spec := "fnExactOldestKept", apart := false, narrowed := true }
def FnExactOldestKeptUptoSaid : Prop := fnExactOldestKeptUptoRow.holds Try.pinned (OpenSpec.upto fnExactOldestKeptSpec)

/-- 'laws.FnExpireBuckets', WHERE WHAT IT READS IS OF BULK AT MOST 1048576: true; the input reads as it did. -/
def fnExpireBucketsUptoRow : OpenClaim := { program := "ytfcnjhkebbjojaa", sum := "7ae7f6449ee19a0cd76da2a9c636625bba24d54ec0d026e8d55643e5d310d5c2", func := "loop.example/metricstore/laws.FnExpireBuckets", spec := "fnExpireBuckets", apart := false, narrowed := true }
def FnExpireBucketsUptoSaid : Prop := fnExpireBucketsUptoRow.holds Try.pinned (OpenSpec.upto fnExpireBucketsSpec)

/-- 'laws.FnExpireBucketsLater', WHERE WHAT IT READS IS OF BULK AT MOST 1048576: true; the input reads as it did. -/
def fnExpireBucketsLaterUptoRow : OpenClaim := { program := "ytfcnjhkebbjojaa", sum := "7ae7f6449ee19a0cd76da2a9c636625bba24d54ec0d026e8d55643e5d310d5c2", func := "loop.example/metricstore/laws.FnExpireBucketsLater", spec := "fnExpireBucketsLater", apart := false, narrowed := true }
def FnExpireBucketsLaterUptoSaid : Prop := fnExpireBucketsLaterUptoRow.holds Try.pinned (OpenSpec.upto fnExpireBucketsLaterSpec)

/-- 'laws.FnExpireBucketsTwice', WHERE WHAT IT READS IS OF BULK AT MOST 1048576: true; the input reads as it did. -/
def fnExpireBucketsTwiceUptoRow : OpenClaim := { program := "ytfcnjhkebbjojaa", sum := "7ae7f6449ee19a0cd76da2a9c636625bba24d54ec0d026e8d55643e5d310d5c2", func := "loop.example/metricstore/laws.FnExpireBucketsTwice", spec := "fnExpireBucketsTwice", apart := false, narrowed := true }
def FnExpireBucketsTwiceUptoSaid : Prop := fnExpireBucketsTwiceUptoRow.holds Try.pinned (OpenSpec.upto fnExpireBucketsTwiceSpec)

/-- 'laws.FnExactExpireBuckets', WHERE WHAT IT READS IS OF BULK AT MOST 1048576: true; the input reads as it did. -/
def fnExactExpireBucketsUptoRow : OpenClaim := { program := "ytfcnjhkebbjojaa", sum := "7ae7f6449ee19a0cd76da2a9c636625bba24d54ec0d026e8d55643e5d310d5c2", func := "loop.example/metricstore/laws.FnExactExpireBuckets", spec := "fnExactExpireBuckets", apart := false, narrowed := true }
def FnExactExpireBucketsUptoSaid : Prop := fnExactExpireBucketsUptoRow.holds Try.pinned (OpenSpec.upto fnExactExpireBucketsSpec)

/-- 'laws.FnExactBoundFor', WHERE WHAT IT READS IS OF BULK AT MOST 1048576: true; the input reads as it did. -/
def fnExactBoundForUptoRow : OpenClaim := { program := "ytfcnjhkebbjojaa", sum := "7ae7f6449ee19a0cd76da2a9c636625bba24d54ec0d026e8d55643e5d310d5c2", func := "loop.example/metricstore/laws.FnExactBoundFor", spec := "fnExactBoundFor", apart := false, narrowed := true }
def FnExactBoundForUptoSaid : Prop := fnExactBoundForUptoRow.holds Try.pinned (OpenSpec.upto fnExactBoundForSpec)

end Rows
end Go.Proofs.Ytfcnjhkebbjojaa
