/-
  No cell of these rows narrows 'for every input' (looked for: loops, veiled, ifaces, maps, wideKeys, modest, calm, conditions, laid).
  DERIVED. THE GIVEN ROWS OF THIS SEAT. 12 by the template 'for every input the law returns true; each argument reads behind the call as it read before'; 0 by the template 'total and deterministic' (their statements: YtghbkjkemhkoaaaTotals.lean).
  GIVEN WITH THE SEED: the statements are not yours to turn. If you find one false, say at which input.
  Laid BY PROGRAM, IN A SANDBOX (cutbox-rows.mjs): the forced cells as the released guide's own fill.sh prints them over the translation a608292fd5cd6eb9… (all of the seat's roots in one cut). By AI agents, Wed Nov 11 2026. No macro, syntax, notation, axiom, sorry.
-/
import Derived.Test.YtghbkjkemhkoaaaChecked
import GoSem.Claim
import GoSem.ClaimJoined
import GoSem.ClaimMapViews
import Derived.JoinedTies
import Derived.KernelRfl
namespace Go.Proofs.Ytghbkjkemhkoaaa
/- THE CELL 'sum', in the pinned program and in every row, IS THE sha256 OF THE DUMP (.gsa) THAT YtghbkjkemhkoaaaProg.lean LOADS. Nothing in Lean hashes anything: it is a label: what it is worth is what the hold of that sum in a sandbox is worth. -/
noncomputable def Try.pinned : Pinned := { name := "ytghbkjkemhkoaaa", sum := "a608292fd5cd6eb9148310eb3a75c59e3c9d76e70a406b03139fe4c4bbc974cf", checked := Try.checked }
namespace Rows
def none {H : Type} : Left H := { results := [], args := [] }

/-- 'laws.FnValidVersions': WHATEVER THE INPUT: true; the input reads as it did. -/
def fnValidVersionsSpec : ChangeSpec := { name := "fnValidVersions", fn := fun _ => fun
  | [d] => { results := [.lit (.bool true)], args := [d] }
  | _ => none }
def fnValidVersionsRow : OpenClaim := { program := "ytghbkjkemhkoaaa", sum := "a608292fd5cd6eb9148310eb3a75c59e3c9d76e70a406b03139fe4c4bbc974cf", func := "loop.example/metricstore/laws.FnValidVersions", spec := "fnValidVersions", apart := false }
def FnValidVersionsSaid : Prop := fnValidVersionsRow.holds Try.pinned (OpenSpec.ofChange fnValidVersionsSpec)

/-- ITS FALSE NEIGHBOUR: 'it returns false'. Refute it at one input. -/
def fnValidVersionsWrong : ChangeSpec := { name := "fnValidVersions", fn := fun _ => fun
  | [d] => { results := [.lit (.bool false)], args := [d] }
  | _ => none }
def FnValidVersionsWrongFalsely : Prop := fnValidVersionsRow.holds Try.pinned (OpenSpec.ofChange fnValidVersionsWrong)

/-- 'laws.FnExactValidVersions': WHATEVER THE INPUT: true; the input reads as it did. -/
def fnExactValidVersionsSpec : ChangeSpec := { name := "fnExactValidVersions", fn := fun _ => fun
  | [d] => { results := [.lit (.bool true)], args := [d] }
  | _ => none }
def fnExactValidVersionsRow : OpenClaim := { program := "ytghbkjkemhkoaaa", sum := "a608292fd5cd6eb9148310eb3a75c59e3c9d76e70a406b03139fe4c4bbc974cf", func := "loop.example/metricstore/laws.FnExactValidVersions", spec := "fnExactValidVersions", apart := false }
def FnExactValidVersionsSaid : Prop := fnExactValidVersionsRow.holds Try.pinned (OpenSpec.ofChange fnExactValidVersionsSpec)

/-- ITS FALSE NEIGHBOUR: 'it returns false'. Refute it at one input. -/
def fnExactValidVersionsWrong : ChangeSpec := { name := "fnExactValidVersions", fn := fun _ => fun
  | [d] => { results := [.lit (.bool false)], args := [d] }
  | _ => none }
def FnExactValidVersionsWrongFalsely : Prop := fnExactValidVersionsRow.holds Try.pinned (OpenSpec.ofChange fnExactValidVersionsWrong)

/-- 'laws.FnFreeVersionsTwice': WHATEVER THE INPUT: true; the input reads as it did. -/
def fnFreeVersionsTwiceSpec : ChangeSpec := { name := "fnFreeVersionsTwice", fn := fun _ => fun
  | [d] => { results := [.lit (.bool true)], args := [d] }
  | _ => none }
def fnFreeVersionsTwiceRow : OpenClaim := { program := "ytghbkjkemhkoaaa", sum := "a608292fd5cd6eb9148310eb3a75c59e3c9d76e70a406b03139fe4c4bbc974cf", func := "loop.example/metricstore/laws.FnFreeVersionsTwice", spec := "fnFreeVersionsTwice", apart := false }
def FnFreeVersionsTwiceSaid : Prop := fnFreeVersionsTwiceRow.holds Try.pinned (OpenSpec.ofChange fnFreeVersionsTwiceSpec)

/-- ITS FALSE NEIGHBOUR: 'it returns false'. Refute it at one input. -/
def fnFreeVersionsTwiceWrong : ChangeSpec := { name := "fnFreeVersionsTwice", fn := fun _ => fun
  | [d] => { results := [.lit (.bool false)], args := [d] }
  | _ => none }
def FnFreeVersionsTwiceWrongFalsely : Prop := fnFreeVersionsTwiceRow.holds Try.pinned (OpenSpec.ofChange fnFreeVersionsTwiceWrong)

/-- 'laws.FnFreeVersionsUnpin': WHATEVER THE INPUT: true; the input reads as it did. -/
def fnFreeVersionsUnpinSpec : ChangeSpec := { name := "fnFreeVersionsUnpin", fn := fun _ => fun
  | [d] => { results := [.lit (.bool true)], args := [d] }
  | _ => none }
def fnFreeVersionsUnpinRow : OpenClaim := { program := "ytghbkjkemhkoaaa", sum := "a608292fd5cd6eb9148310eb3a75c59e3c9d76e70a406b03139fe4c4bbc974cf", func := "loop.example/metricstore/laws.FnFreeVersionsUnpin", spec := "fnFreeVersionsUnpin", apart := false }
def FnFreeVersionsUnpinSaid : Prop := fnFreeVersionsUnpinRow.holds Try.pinned (OpenSpec.ofChange fnFreeVersionsUnpinSpec)

/-- ITS FALSE NEIGHBOUR: 'it returns false'. Refute it at one input. -/
def fnFreeVersionsUnpinWrong : ChangeSpec := { name := "fnFreeVersionsUnpin", fn := fun _ => fun
  | [d] => { results := [.lit (.bool false)], args := [d] }
  | _ => none }
def FnFreeVersionsUnpinWrongFalsely : Prop := fnFreeVersionsUnpinRow.holds Try.pinned (OpenSpec.ofChange fnFreeVersionsUnpinWrong)

/-- 'laws.FnPinVersionTwice': WHATEVER THE INPUT: true; the input reads as it did. -/
def fnPinVersionTwiceSpec : ChangeSpec := { name := "fnPinVersionTwice", fn := fun _ => fun
  | [d] => { results := [.lit (.bool true)], args := [d] }
  | _ => none }
def fnPinVersionTwiceRow : OpenClaim := { program := "ytghbkjkemhkoaaa", sum := "a608292fd5cd6eb9148310eb3a75c59e3c9d76e70a406b03139fe4c4bbc974cf", func := "loop.example/metricstore/laws.FnPinVersionTwice", spec := "fnPinVersionTwice", apart := false }
def FnPinVersionTwiceSaid : Prop := fnPinVersionTwiceRow.holds Try.pinned (OpenSpec.ofChange fnPinVersionTwiceSpec)

/-- ITS FALSE NEIGHBOUR: 'it returns false'. Refute it at one input. -/
def fnPinVersionTwiceWrong : ChangeSpec := { name := "fnPinVersionTwice", fn := fun _ => fun
  | [d] => { results := [.lit (.bool false)], args := [d] }
  | _ => none }
def FnPinVersionTwiceWrongFalsely : Prop := fnPinVersionTwiceRow.holds Try.pinned (OpenSpec.ofChange fnPinVersionTwiceWrong)

/-- 'laws.FnPinVersionUnpin': WHATEVER THE INPUT: true; the input reads as it did. -/
def fnPinVersionUnpinSpec : ChangeSpec := { name := "fnPinVersionUnpin", fn := fun _ => fun
  | [d] => { results := [.lit (.bool true)], args := [d] }
  | _ => none }
def fnPinVersionUnpinRow : OpenClaim := { program := "ytghbkjkemhkoaaa", sum := "a608292fd5cd6eb9148310eb3a75c59e3c9d76e70a406b03139fe4c4bbc974cf", func := "loop.example/metricstore/laws.FnPinVersionUnpin", spec := "fnPinVersionUnpin", apart := false }
def FnPinVersionUnpinSaid : Prop := fnPinVersionUnpinRow.holds Try.pinned (OpenSpec.ofChange fnPinVersionUnpinSpec)

/-- ITS FALSE NEIGHBOUR: 'it returns false'. Refute it at one input. -/
def fnPinVersionUnpinWrong : ChangeSpec := { name := "fnPinVersionUnpin", fn := fun _ => fun
  | [d] => { results := [.lit (.bool false)], args := [d] }
  | _ => none }
def FnPinVersionUnpinWrongFalsely : Prop := fnPinVersionUnpinRow.holds Try.pinned (OpenSpec.ofChange fnPinVersionUnpinWrong)

/-- 'laws.FnUnpinVersion': WHATEVER THE INPUT: true; the input reads as it did. -/
def fnUnpinVersionSpec : ChangeSpec := { name := "fnUnpinVersion", fn := fun _ => fun
  | [d] => { results := [.lit (.bool true)], args := [d] }
  | _ => none }
def fnUnpinVersionRow : OpenClaim := { program := "ytghbkjkemhkoaaa", sum := "a608292fd5cd6eb9148310eb3a75c59e3c9d76e70a406b03139fe4c4bbc974cf", func := "loop.example/metricstore/laws.FnUnpinVersion", spec := "fnUnpinVersion", apart := false }
def FnUnpinVersionSaid : Prop := fnUnpinVersionRow.holds Try.pinned (OpenSpec.ofChange fnUnpinVersionSpec)

/-- ITS FALSE NEIGHBOUR: 'it returns false'. Refute it at one input. -/
def fnUnpinVersionWrong : ChangeSpec := { name := "fnUnpinVersion", fn := fun _ => fun
  | [d] => { results := [.lit (.bool false)], args := [d] }
  | _ => none }
def FnUnpinVersionWrongFalsely : Prop := fnUnpinVersionRow.holds Try.pinned (OpenSpec.ofChange fnUnpinVersionWrong)

/-- 'laws.FnUnpinVersionNone': WHATEVER THE INPUT: true; the input reads as it did. -/
def fnUnpinVersionNoneSpec : ChangeSpec := { name := "fnUnpinVersionNone", fn := fun _ => fun
  | [d] => { results := [.lit (.bool true)], args := [d] }
  | _ => none }
def fnUnpinVersionNoneRow : OpenClaim := { program := "ytghbkjkemhkoaaa", sum := "a608292fd5cd6eb9148310eb3a75c59e3c9d76e70a406b03139fe4c4bbc974cf", func := "loop.example/metricstore/laws.FnUnpinVersionNone", spec := "fnUnpinVersionNone", apart := false }
def FnUnpinVersionNoneSaid : Prop := fnUnpinVersionNoneRow.holds Try.pinned (OpenSpec.ofChange fnUnpinVersionNoneSpec)

/-- ITS FALSE NEIGHBOUR: 'it returns false'. Refute it at one input. -/
def fnUnpinVersionNoneWrong : ChangeSpec := { name := "fnUnpinVersionNone", fn := fun _ => fun
  | [d] => { results := [.lit (.bool false)], args := [d] }
  | _ => none }
def FnUnpinVersionNoneWrongFalsely : Prop := fnUnpinVersionNoneRow.holds Try.pinned (OpenSpec.ofChange fnUnpinVersionNoneWrong)

/-- 'laws.FnExactAddPut': WHATEVER THE INPUT: true; the input reads as it did. -/
def fnExactAddPutSpec : ChangeSpec := { name := "fnExactAddPut", fn := fun _ => fun
  | [d1, d2] => { results := [.lit (.bool true)], args := [d1, d2] }
  | _ => none }
def fnExactAddPutRow : OpenClaim := { program := "ytghbkjkemhkoaaa", sum := "a608292fd5cd6eb9148310eb3a75c59e3c9d76e70a406b03139fe4c4bbc974cf", func := "loop.example/metricstore/laws.FnExactAddPut", spec := "fnExactAddPut", apart := false }
def FnExactAddPutSaid : Prop := fnExactAddPutRow.holds Try.pinned (OpenSpec.ofChange fnExactAddPutSpec)

/-- ITS FALSE NEIGHBOUR: 'it returns false'. Refute it at one input. -/
def fnExactAddPutWrong : ChangeSpec := { name := "fnExactAddPut", fn := fun _ => fun
  | [d1, d2] => { results := [.lit (.bool false)], args := [d1, d2] }
  | _ => none }
def FnExactAddPutWrongFalsely : Prop := fnExactAddPutRow.holds Try.pinned (OpenSpec.ofChange fnExactAddPutWrong)

/-- 'laws.FnExactPinVersion': WHATEVER THE INPUT: true; the input reads as it did. -/
def fnExactPinVersionSpec : ChangeSpec := { name := "fnExactPinVersion", fn := fun _ => fun
  | [d] => { results := [.lit (.bool true)], args := [d] }
  | _ => none }
def fnExactPinVersionRow : OpenClaim := { program := "ytghbkjkemhkoaaa", sum := "a608292fd5cd6eb9148310eb3a75c59e3c9d76e70a406b03139fe4c4bbc974cf", func := "loop.example/metricstore/laws.FnExactPinVersion", spec := "fnExactPinVersion", apart := false }
def FnExactPinVersionSaid : Prop := fnExactPinVersionRow.holds Try.pinned (OpenSpec.ofChange fnExactPinVersionSpec)

/-- ITS FALSE NEIGHBOUR: 'it returns false'. Refute it at one input. -/
def fnExactPinVersionWrong : ChangeSpec := { name := "fnExactPinVersion", fn := fun _ => fun
  | [d] => { results := [.lit (.bool false)], args := [d] }
  | _ => none }
def FnExactPinVersionWrongFalsely : Prop := fnExactPinVersionRow.holds Try.pinned (OpenSpec.ofChange fnExactPinVersionWrong)

/-- 'laws.FnExactFreeVersions': WHATEVER THE INPUT: true; the input reads as it did. -/
def fnExactFreeVersionsSpec : ChangeSpec := { name := "fnExactFreeVersions", fn := fun _ => fun
  | [d] => { results := [.lit (.bool true)], args := [d] }
  | _ => none }
def fnExactFreeVersionsRow : OpenClaim := { program := "ytghbkjkemhkoaaa", sum := "a608292fd5cd6eb9148310eb3a75c59e3c9d76e70a406b03139fe4c4bbc974cf", func := "loop.example/metricstore/laws.FnExactFreeVersions", spec := "fnExactFreeVersions", apart := false }
def FnExactFreeVersionsSaid : Prop := fnExactFreeVersionsRow.holds Try.pinned (OpenSpec.ofChange fnExactFreeVersionsSpec)

/-- ITS FALSE NEIGHBOUR: 'it returns false'. Refute it at one input. -/
def fnExactFreeVersionsWrong : ChangeSpec := { name := "fnExactFreeVersions", fn := fun _ => fun
  | [d] => { results := [.lit (.bool false)], args := [d] }
  | _ => none }
def FnExactFreeVersionsWrongFalsely : Prop := fnExactFreeVersionsRow.holds Try.pinned (OpenSpec.ofChange fnExactFreeVersionsWrong)

/-- 'laws.FnExactUnpinVersion': WHATEVER THE INPUT: true; the input reads as it did. -/
def fnExactUnpinVersionSpec : ChangeSpec := { name := "fnExactUnpinVersion", fn := fun _ => fun
  | [d1, d2] => { results := [.lit (.bool true)], args := [d1, d2] }
  | _ => none }
def fnExactUnpinVersionRow : OpenClaim := { program := "ytghbkjkemhkoaaa", sum := "a608292fd5cd6eb9148310eb3a75c59e3c9d76e70a406b03139fe4c4bbc974cf", func := "loop.example/metricstore/laws.FnExactUnpinVersion", spec := "fnExactUnpinVersion", apart := false }
def FnExactUnpinVersionSaid : Prop := fnExactUnpinVersionRow.holds Try.pinned (OpenSpec.ofChange fnExactUnpinVersionSpec)

/-- ITS FALSE NEIGHBOUR: 'it returns false'. Refute it at one input. -/
def fnExactUnpinVersionWrong : ChangeSpec := { name := "fnExactUnpinVersion", fn := fun _ => fun
  | [d1, d2] => { results := [.lit (.bool false)], args := [d1, d2] }
  | _ => none }
def FnExactUnpinVersionWrongFalsely : Prop := fnExactUnpinVersionRow.holds Try.pinned (OpenSpec.ofChange fnExactUnpinVersionWrong)

/- THE SECOND FORM. 'bulk': how many values and letters a reading holds, each counted each time it is reached (what is shared counts as often as it is met; a slice's spare places count too). A statement '..UptoSaid' is the law's where the arguments, and the package variables that the reading takes, are together of bulk at most 1048576: NARROWER than '..Said'. Prove '..Said' where nothing that the law and all that it calls make is longer than what came in: it says more and counts as full. Else prove '..UptoSaid'. A law counts once. -/
mutual
def uptoBulk {H : Type} : DataW H → Nat
  | .lit (.string bytes) => bytes.length + 1
  | .lit _ => 1
  | .nil => 1
  | .ptr d => uptoBulk d + 1
  | .slice elems spare => uptoBulkAll elems + uptoBulkAll spare + 1
  | .agg parts => uptoBulkAll parts + 1
  | .iface _ d => uptoBulk d + 1
  | .map entries => uptoBulkEntries entries + 1
  | .held _ => 1
def uptoBulkAll {H : Type} : List (DataW H) → Nat
  | [] => 0
  | d :: r => uptoBulk d + uptoBulkAll r
def uptoBulkEntries {H : Type} : List (Lit × DataW H) → Nat
  | [] => 0
  | x :: r => uptoBulkEntry x + uptoBulkEntries r
def uptoBulkEntry {H : Type} : Lit × DataW H → Nat
  | (.string bytes, d) => bytes.length + uptoBulk d + 1
  | (_, d) => uptoBulk d + 1
 end
def uptoSmall : (H : Type) → List (DataW H) → Bool := fun _ ds => decide (uptoBulkAll ds ≤ 1048576)
def OpenSpec.upto (s : _root_.Go.ChangeSpec) : _root_.Go.OpenSpec := { _root_.Go.OpenSpec.ofChange s with cond := some uptoSmall }

/-- 'laws.FnValidVersions', WHERE WHAT IT READS IS OF BULK AT MOST 1048576: true; the input reads as it did. -/
def fnValidVersionsUptoRow : OpenClaim := { program := "ytghbkjkemhkoaaa", sum := "a608292fd5cd6eb9148310eb3a75c59e3c9d76e70a406b03139fe4c4bbc974cf", func := "loop.example/metricstore/laws.FnValidVersions", spec := "fnValidVersions", apart := false, narrowed := true }
def FnValidVersionsUptoSaid : Prop := fnValidVersionsUptoRow.holds Try.pinned (OpenSpec.upto fnValidVersionsSpec)

/-- 'laws.FnExactValidVersions', WHERE WHAT IT READS IS OF BULK AT MOST 1048576: true; the input reads as it did. -/
def fnExactValidVersionsUptoRow : OpenClaim := { program := "ytghbkjkemhkoaaa", sum := "a608292fd5cd6eb9148310eb3a75c59e3c9d76e70a406b03139fe4c4bbc974cf", func := "loop.example/metricstore/laws.FnExactValidVersions", spec := "fnExactValidVersions", apart := false, narrowed := true }
def FnExactValidVersionsUptoSaid : Prop := fnExactValidVersionsUptoRow.holds Try.pinned (OpenSpec.upto fnExactValidVersionsSpec)

/-- 'laws.FnFreeVersionsTwice', WHERE WHAT IT READS IS OF BULK AT MOST 1048576: true; the input reads as it did. -/
def fnFreeVersionsTwiceUptoRow : OpenClaim := { program := "ytghbkjkemhkoaaa", sum := "a608292fd5cd6eb9148310eb3a75c59e3c9d76e70a406b03139fe4c4bbc974cf", func := "loop.example/metricstore/laws.FnFreeVersionsTwice", spec := "fnFreeVersionsTwice", apart := false, narrowed := true }
def FnFreeVersionsTwiceUptoSaid : Prop := fnFreeVersionsTwiceUptoRow.holds Try.pinned (OpenSpec.upto fnFreeVersionsTwiceSpec)

/-- 'laws.FnFreeVersionsUnpin', WHERE WHAT IT READS IS OF BULK AT MOST 1048576: true; the input reads as it did. -/
def fnFreeVersionsUnpinUptoRow : OpenClaim := { program := "ytghbkjkemhkoaaa", sum := "a608292fd5cd6eb9148310eb3a75c59e3c9d76e70a406b03139fe4c4bbc974cf", func := "loop.example/metricstore/laws.FnFreeVersionsUnpin", spec := "fnFreeVersionsUnpin", apart := false, narrowed := true }
def FnFreeVersionsUnpinUptoSaid : Prop := fnFreeVersionsUnpinUptoRow.holds Try.pinned (OpenSpec.upto fnFreeVersionsUnpinSpec)

/-- 'laws.FnPinVersionTwice', WHERE WHAT IT READS IS OF BULK AT MOST 1048576: true; the input reads as it did. -/
def fnPinVersionTwiceUptoRow : OpenClaim := { program := "ytghbkjkemhkoaaa", sum := "a608292fd5cd6eb9148310eb3a75c59e3c9d76e70a406b03139fe4c4bbc974cf", func := "loop.example/metricstore/laws.FnPinVersionTwice", spec := "fnPinVersionTwice", apart := false, narrowed := true }
def FnPinVersionTwiceUptoSaid : Prop := fnPinVersionTwiceUptoRow.holds Try.pinned (OpenSpec.upto fnPinVersionTwiceSpec)

/-- 'laws.FnPinVersionUnpin', WHERE WHAT IT READS IS OF BULK AT MOST 1048576: true; the input reads as it did. -/
def fnPinVersionUnpinUptoRow : OpenClaim := { program := "ytghbkjkemhkoaaa", sum := "a608292fd5cd6eb9148310eb3a75c59e3c9d76e70a406b03139fe4c4bbc974cf", func := "loop.example/metricstore/laws.FnPinVersionUnpin", spec := "fnPinVersionUnpin", apart := false, narrowed := true }
def FnPinVersionUnpinUptoSaid : Prop := fnPinVersionUnpinUptoRow.holds Try.pinned (OpenSpec.upto fnPinVersionUnpinSpec)

/-- 'laws.FnUnpinVersion', WHERE WHAT IT READS IS OF BULK AT MOST 1048576: true; the input reads as it did. -/
def fnUnpinVersionUptoRow : OpenClaim := { program := "ytghbkjkemhkoaaa", sum := "a608292fd5cd6eb9148310eb3a75c59e3c9d76e70a406b03139fe4c4bbc974cf", func := "loop.example/metricstore/laws.FnUnpinVersion", spec := "fnUnpinVersion", apart := false, narrowed := true }
def FnUnpinVersionUptoSaid : Prop := fnUnpinVersionUptoRow.holds Try.pinned (OpenSpec.upto fnUnpinVersionSpec)

/-- 'laws.FnUnpinVersionNone', WHERE WHAT IT READS IS OF BULK AT MOST 1048576: true; the input reads as it did. -/
def fnUnpinVersionNoneUptoRow : OpenClaim := { program := "ytghbkjkemhkoaaa", sum := "a608292fd5cd6eb9148310eb3a75c59e3c9d76e70a406b03139fe4c4bbc974cf", func := "loop.example/metricstore/laws.FnUnpinVersionNone", spec := "fnUnpinVersionNone", apart := false, narrowed := true }
def FnUnpinVersionNoneUptoSaid : Prop := fnUnpinVersionNoneUptoRow.holds Try.pinned (OpenSpec.upto fnUnpinVersionNoneSpec)

/-- 'laws.FnExactAddPut', WHERE WHAT IT READS IS OF BULK AT MOST 1048576: true; the input reads as it did. -/
def fnExactAddPutUptoRow : OpenClaim := { program := "ytghbkjkemhkoaaa", sum := "a608292fd5cd6eb9148310eb3a75c59e3c9d76e70a406b03139fe4c4bbc974cf", func := "loop.example/metricstore/laws.FnExactAddPut", spec := "fnExactAddPut", apart := false, narrowed := true }
def FnExactAddPutUptoSaid : Prop := fnExactAddPutUptoRow.holds Try.pinned (OpenSpec.upto fnExactAddPutSpec)

/-- 'laws.FnExactPinVersion', WHERE WHAT IT READS IS OF BULK AT MOST 1048576: true; the input reads as it did. -/
def fnExactPinVersionUptoRow : OpenClaim := { program := "ytghbkjkemhkoaaa", sum := "a608292fd5cd6eb9148310eb3a75c59e3c9d76e70a406b03139fe4c4bbc974cf", func := "loop.example/metricstore/laws.FnExactPinVersion", spec := "fnExactPinVersion", apart := false, narrowed := true }
def FnExactPinVersionUptoSaid : Prop := fnExactPinVersionUptoRow.holds Try.pinned (OpenSpec.upto fnExactPinVersionSpec)

/-- 'laws.FnExactFreeVersions', WHERE WHAT IT READS IS OF BULK AT MOST 1048576: true; the input reads as it did. -/
def fnExactFreeVersionsUptoRow : OpenClaim := { program := "ytghbkjkemhkoaaa", sum := "a608292fd5cd6eb9148310eb3a75c59e3c9d76e70a406b03139fe4c4bbc974cf", func := "loop.example/metricstore/laws.FnExactFreeVersions", spec := "fnExactFreeVersions", apart := false, narrowed := true }
def FnExactFreeVersionsUptoSaid : Prop := fnExactFreeVersionsUptoRow.holds Try.pinned (OpenSpec.upto fnExactFreeVersionsSpec)

/-- 'laws.FnExactUnpinVersion', WHERE WHAT IT READS IS OF BULK AT MOST 1048576: true; the input reads as it did. -/
def fnExactUnpinVersionUptoRow : OpenClaim := { program := "ytghbkjkemhkoaaa", sum := "a608292fd5cd6eb9148310eb3a75c59e3c9d76e70a406b03139fe4c4bbc974cf", func := "loop.example/metricstore/laws.FnExactUnpinVersion", spec := "fnExactUnpinVersion", apart := false, narrowed := true }
def FnExactUnpinVersionUptoSaid : Prop := fnExactUnpinVersionUptoRow.holds Try.pinned (OpenSpec.upto fnExactUnpinVersionSpec)

end Rows
end Go.Proofs.Ytghbkjkemhkoaaa
