/-
  No cell of these rows narrows 'for every input' (looked for: loops, veiled, ifaces, maps, wideKeys, modest, calm, conditions, laid).
  DERIVED. THE GIVEN ROWS OF THIS SEAT. 14 by the template 'for every input the law returns true; each argument reads behind the call as it read before'; 0 by the template 'total and deterministic' (their statements: YtiibfkekcdkjdaaTotals.lean).
  GIVEN WITH THE SEED: the statements are not yours to turn. If you find one false, say at which input.
  Laid BY PROGRAM, IN A SANDBOX (cutbox-rows.mjs): the forced cells as the released guide's own fill.sh prints them over the translation 82c5cf1260ed6c3d… (all of the seat's roots in one cut). By AI agents, Wed Nov 11 2026. No macro, syntax, notation, axiom, sorry.
-/
import Derived.Test.YtiibfkekcdkjdaaChecked
import GoSem.Claim
import GoSem.ClaimJoined
import GoSem.ClaimMapViews
import Derived.JoinedTies
import Derived.KernelRfl
namespace Go.Proofs.Ytiibfkekcdkjdaa
/- THE CELL 'sum', in the pinned program and in every row, IS THE sha256 OF THE DUMP (.gsa) THAT YtiibfkekcdkjdaaProg.lean LOADS. Nothing in Lean hashes anything: it is a label: what it is worth is what the hold of that sum in a sandbox is worth. -/
noncomputable def Try.pinned : Pinned := { name := "ytiibfkekcdkjdaa", sum := "82c5cf1260ed6c3d7af539e46539711f8c6ce1bc6db90f7238904f19482309e2", checked := Try.checked }
namespace Rows
def none {H : Type} : Left H := { results := [], args := [] }

/-- 'laws.FnExactSumOf': WHATEVER THE INPUT: true; the input reads as it did. -/
def fnExactSumOfSpec : ChangeSpec := { name := "fnExactSumOf", fn := fun _ => fun
  | [d] => { results := [.lit (.bool true)], args := [d] }
  | _ => none }
def fnExactSumOfRow : OpenClaim := { program := "ytiibfkekcdkjdaa", sum := "82c5cf1260ed6c3d7af539e46539711f8c6ce1bc6db90f7238904f19482309e2", func := "loop.example/metricstore/laws.FnExactSumOf", spec := "fnExactSumOf", apart := false }
def FnExactSumOfSaid : Prop := fnExactSumOfRow.holds Try.pinned (OpenSpec.ofChange fnExactSumOfSpec)

/-- ITS FALSE NEIGHBOUR: 'it returns false'. Refute it at one input. -/
def fnExactSumOfWrong : ChangeSpec := { name := "fnExactSumOf", fn := fun _ => fun
  | [d] => { results := [.lit (.bool false)], args := [d] }
  | _ => none }
def FnExactSumOfWrongFalsely : Prop := fnExactSumOfRow.holds Try.pinned (OpenSpec.ofChange fnExactSumOfWrong)

/-- 'laws.FnSumOf': WHATEVER THE INPUT: true; the input reads as it did. -/
def fnSumOfSpec : ChangeSpec := { name := "fnSumOf", fn := fun _ => fun
  | [d] => { results := [.lit (.bool true)], args := [d] }
  | _ => none }
def fnSumOfRow : OpenClaim := { program := "ytiibfkekcdkjdaa", sum := "82c5cf1260ed6c3d7af539e46539711f8c6ce1bc6db90f7238904f19482309e2", func := "loop.example/metricstore/laws.FnSumOf", spec := "fnSumOf", apart := false }
def FnSumOfSaid : Prop := fnSumOfRow.holds Try.pinned (OpenSpec.ofChange fnSumOfSpec)

/-- ITS FALSE NEIGHBOUR: 'it returns false'. Refute it at one input. -/
def fnSumOfWrong : ChangeSpec := { name := "fnSumOf", fn := fun _ => fun
  | [d] => { results := [.lit (.bool false)], args := [d] }
  | _ => none }
def FnSumOfWrongFalsely : Prop := fnSumOfRow.holds Try.pinned (OpenSpec.ofChange fnSumOfWrong)

/-- 'laws.FnSumOfStep': WHATEVER THE INPUT: true; the input reads as it did. -/
def fnSumOfStepSpec : ChangeSpec := { name := "fnSumOfStep", fn := fun _ => fun
  | [d] => { results := [.lit (.bool true)], args := [d] }
  | _ => none }
def fnSumOfStepRow : OpenClaim := { program := "ytiibfkekcdkjdaa", sum := "82c5cf1260ed6c3d7af539e46539711f8c6ce1bc6db90f7238904f19482309e2", func := "loop.example/metricstore/laws.FnSumOfStep", spec := "fnSumOfStep", apart := false }
def FnSumOfStepSaid : Prop := fnSumOfStepRow.holds Try.pinned (OpenSpec.ofChange fnSumOfStepSpec)

/-- ITS FALSE NEIGHBOUR: 'it returns false'. Refute it at one input. -/
def fnSumOfStepWrong : ChangeSpec := { name := "fnSumOfStep", fn := fun _ => fun
  | [d] => { results := [.lit (.bool false)], args := [d] }
  | _ => none }
def FnSumOfStepWrongFalsely : Prop := fnSumOfStepRow.holds Try.pinned (OpenSpec.ofChange fnSumOfStepWrong)

/-- 'laws.FnExactEntryOf': WHATEVER THE INPUT: true; the input reads as it did. -/
def fnExactEntryOfSpec : ChangeSpec := { name := "fnExactEntryOf", fn := fun _ => fun
  | [d1, d2] => { results := [.lit (.bool true)], args := [d1, d2] }
  | _ => none }
def fnExactEntryOfRow : OpenClaim := { program := "ytiibfkekcdkjdaa", sum := "82c5cf1260ed6c3d7af539e46539711f8c6ce1bc6db90f7238904f19482309e2", func := "loop.example/metricstore/laws.FnExactEntryOf", spec := "fnExactEntryOf", recurses := true, apart := false }
def FnExactEntryOfSaid : Prop := fnExactEntryOfRow.holds Try.pinned (OpenSpec.ofChange fnExactEntryOfSpec)

/-- ITS FALSE NEIGHBOUR: 'it returns false'. Refute it at one input. -/
def fnExactEntryOfWrong : ChangeSpec := { name := "fnExactEntryOf", fn := fun _ => fun
  | [d1, d2] => { results := [.lit (.bool false)], args := [d1, d2] }
  | _ => none }
def FnExactEntryOfWrongFalsely : Prop := fnExactEntryOfRow.holds Try.pinned (OpenSpec.ofChange fnExactEntryOfWrong)

/-- 'laws.FnEntryOfLength': WHATEVER THE INPUT: true; the input reads as it did. -/
def fnEntryOfLengthSpec : ChangeSpec := { name := "fnEntryOfLength", fn := fun _ => fun
  | [d] => { results := [.lit (.bool true)], args := [d] }
  | _ => none }
def fnEntryOfLengthRow : OpenClaim := { program := "ytiibfkekcdkjdaa", sum := "82c5cf1260ed6c3d7af539e46539711f8c6ce1bc6db90f7238904f19482309e2", func := "loop.example/metricstore/laws.FnEntryOfLength", spec := "fnEntryOfLength", recurses := true, apart := false }
def FnEntryOfLengthSaid : Prop := fnEntryOfLengthRow.holds Try.pinned (OpenSpec.ofChange fnEntryOfLengthSpec)

/-- ITS FALSE NEIGHBOUR: 'it returns false'. Refute it at one input. -/
def fnEntryOfLengthWrong : ChangeSpec := { name := "fnEntryOfLength", fn := fun _ => fun
  | [d] => { results := [.lit (.bool false)], args := [d] }
  | _ => none }
def FnEntryOfLengthWrongFalsely : Prop := fnEntryOfLengthRow.holds Try.pinned (OpenSpec.ofChange fnEntryOfLengthWrong)

/-- 'laws.FnWriteJournalParts': WHATEVER THE INPUT: true; the input reads as it did. -/
def fnWriteJournalPartsSpec : ChangeSpec := { name := "fnWriteJournalParts", fn := fun _ => fun
  | [d] => { results := [.lit (.bool true)], args := [d] }
  | _ => none }
def fnWriteJournalPartsRow : OpenClaim := { program := "ytiibfkekcdkjdaa", sum := "82c5cf1260ed6c3d7af539e46539711f8c6ce1bc6db90f7238904f19482309e2", func := "loop.example/metricstore/laws.FnWriteJournalParts", spec := "fnWriteJournalParts", recurses := true, apart := false }
def FnWriteJournalPartsSaid : Prop := fnWriteJournalPartsRow.holds Try.pinned (OpenSpec.ofChange fnWriteJournalPartsSpec)

/-- ITS FALSE NEIGHBOUR: 'it returns false'. Refute it at one input. -/
def fnWriteJournalPartsWrong : ChangeSpec := { name := "fnWriteJournalParts", fn := fun _ => fun
  | [d] => { results := [.lit (.bool false)], args := [d] }
  | _ => none }
def FnWriteJournalPartsWrongFalsely : Prop := fnWriteJournalPartsRow.holds Try.pinned (OpenSpec.ofChange fnWriteJournalPartsWrong)

/-- 'laws.FnExactWriteJournal': WHATEVER THE INPUT: true; the input reads as it did. -/
def fnExactWriteJournalSpec : ChangeSpec := { name := "fnExactWriteJournal", fn := fun _ => fun
  | [d] => { results := [.lit (.bool true)], args := [d] }
  | _ => none }
def fnExactWriteJournalRow : OpenClaim := { program := "ytiibfkekcdkjdaa", sum := "82c5cf1260ed6c3d7af539e46539711f8c6ce1bc6db90f7238904f19482309e2", func := "loop.example/metricstore/laws.FnExactWriteJournal", spec := "fnExactWriteJournal", recurses := true, apart := false }
def FnExactWriteJournalSaid : Prop := fnExactWriteJournalRow.holds Try.pinned (OpenSpec.ofChange fnExactWriteJournalSpec)

/-- ITS FALSE NEIGHBOUR: 'it returns false'. Refute it at one input. -/
def fnExactWriteJournalWrong : ChangeSpec := { name := "fnExactWriteJournal", fn := fun _ => fun
  | [d] => { results := [.lit (.bool false)], args := [d] }
  | _ => none }
def FnExactWriteJournalWrongFalsely : Prop := fnExactWriteJournalRow.holds Try.pinned (OpenSpec.ofChange fnExactWriteJournalWrong)

/-- 'laws.FnEntryOf': WHATEVER THE INPUT: true; the input reads as it did. -/
def fnEntryOfSpec : ChangeSpec := { name := "fnEntryOf", fn := fun _ => fun
  | [d] => { results := [.lit (.bool true)], args := [d] }
  | _ => none }
def fnEntryOfRow : OpenClaim := { program := "ytiibfkekcdkjdaa", sum := "82c5cf1260ed6c3d7af539e46539711f8c6ce1bc6db90f7238904f19482309e2", func := "loop.example/metricstore/laws.FnEntryOf", spec := "fnEntryOf", recurses := true, apart := false }
def FnEntryOfSaid : Prop := fnEntryOfRow.holds Try.pinned (OpenSpec.ofChange fnEntryOfSpec)

/-- ITS FALSE NEIGHBOUR: 'it returns false'. Refute it at one input. -/
def fnEntryOfWrong : ChangeSpec := { name := "fnEntryOf", fn := fun _ => fun
  | [d] => { results := [.lit (.bool false)], args := [d] }
  | _ => none }
def FnEntryOfWrongFalsely : Prop := fnEntryOfRow.holds Try.pinned (OpenSpec.ofChange fnEntryOfWrong)

/-- 'laws.FnEntryOfTorn': WHATEVER THE INPUT: true; the input reads as it did. -/
def fnEntryOfTornSpec : ChangeSpec := { name := "fnEntryOfTorn", fn := fun _ => fun
  | [d] => { results := [.lit (.bool true)], args := [d] }
  | _ => none }
def fnEntryOfTornRow : OpenClaim := { program := "ytiibfkekcdkjdaa", sum := "82c5cf1260ed6c3d7af539e46539711f8c6ce1bc6db90f7238904f19482309e2", func := "loop.example/metricstore/laws.FnEntryOfTorn", spec := "fnEntryOfTorn", recurses := true, apart := false }
def FnEntryOfTornSaid : Prop := fnEntryOfTornRow.holds Try.pinned (OpenSpec.ofChange fnEntryOfTornSpec)

/-- ITS FALSE NEIGHBOUR: 'it returns false'. Refute it at one input. -/
def fnEntryOfTornWrong : ChangeSpec := { name := "fnEntryOfTorn", fn := fun _ => fun
  | [d] => { results := [.lit (.bool false)], args := [d] }
  | _ => none }
def FnEntryOfTornWrongFalsely : Prop := fnEntryOfTornRow.holds Try.pinned (OpenSpec.ofChange fnEntryOfTornWrong)

/-- 'laws.FnWriteJournal': WHATEVER THE INPUT: true; the input reads as it did. -/
def fnWriteJournalSpec : ChangeSpec := { name := "fnWriteJournal", fn := fun _ => fun
  | [d] => { results := [.lit (.bool true)], args := [d] }
  | _ => none }
def fnWriteJournalRow : OpenClaim := { program := "ytiibfkekcdkjdaa", sum := "82c5cf1260ed6c3d7af539e46539711f8c6ce1bc6db90f7238904f19482309e2", func := "loop.example/metricstore/laws.FnWriteJournal", spec := "fnWriteJournal", recurses := true, apart := false }
def FnWriteJournalSaid : Prop := fnWriteJournalRow.holds Try.pinned (OpenSpec.ofChange fnWriteJournalSpec)

/-- ITS FALSE NEIGHBOUR: 'it returns false'. Refute it at one input. -/
def fnWriteJournalWrong : ChangeSpec := { name := "fnWriteJournal", fn := fun _ => fun
  | [d] => { results := [.lit (.bool false)], args := [d] }
  | _ => none }
def FnWriteJournalWrongFalsely : Prop := fnWriteJournalRow.holds Try.pinned (OpenSpec.ofChange fnWriteJournalWrong)

/-- 'laws.FnExactReadJournal': WHATEVER THE INPUT: true; the input reads as it did. -/
def fnExactReadJournalSpec : ChangeSpec := { name := "fnExactReadJournal", fn := fun _ => fun
  | [d] => { results := [.lit (.bool true)], args := [d] }
  | _ => none }
def fnExactReadJournalRow : OpenClaim := { program := "ytiibfkekcdkjdaa", sum := "82c5cf1260ed6c3d7af539e46539711f8c6ce1bc6db90f7238904f19482309e2", func := "loop.example/metricstore/laws.FnExactReadJournal", spec := "fnExactReadJournal", apart := false }
def FnExactReadJournalSaid : Prop := fnExactReadJournalRow.holds Try.pinned (OpenSpec.ofChange fnExactReadJournalSpec)

/-- ITS FALSE NEIGHBOUR: 'it returns false'. Refute it at one input. -/
def fnExactReadJournalWrong : ChangeSpec := { name := "fnExactReadJournal", fn := fun _ => fun
  | [d] => { results := [.lit (.bool false)], args := [d] }
  | _ => none }
def FnExactReadJournalWrongFalsely : Prop := fnExactReadJournalRow.holds Try.pinned (OpenSpec.ofChange fnExactReadJournalWrong)

/-- 'laws.FnReadJournalMore': WHATEVER THE INPUT: true; the input reads as it did. -/
def fnReadJournalMoreSpec : ChangeSpec := { name := "fnReadJournalMore", fn := fun _ => fun
  | [d] => { results := [.lit (.bool true)], args := [d] }
  | _ => none }
def fnReadJournalMoreRow : OpenClaim := { program := "ytiibfkekcdkjdaa", sum := "82c5cf1260ed6c3d7af539e46539711f8c6ce1bc6db90f7238904f19482309e2", func := "loop.example/metricstore/laws.FnReadJournalMore", spec := "fnReadJournalMore", recurses := true, apart := false }
def FnReadJournalMoreSaid : Prop := fnReadJournalMoreRow.holds Try.pinned (OpenSpec.ofChange fnReadJournalMoreSpec)

/-- ITS FALSE NEIGHBOUR: 'it returns false'. Refute it at one input. -/
def fnReadJournalMoreWrong : ChangeSpec := { name := "fnReadJournalMore", fn := fun _ => fun
  | [d] => { results := [.lit (.bool false)], args := [d] }
  | _ => none }
def FnReadJournalMoreWrongFalsely : Prop := fnReadJournalMoreRow.holds Try.pinned (OpenSpec.ofChange fnReadJournalMoreWrong)

/-- 'laws.FnReadJournalShort': WHATEVER THE INPUT: true; the input reads as it did. -/
def fnReadJournalShortSpec : ChangeSpec := { name := "fnReadJournalShort", fn := fun _ => fun
  | [d] => { results := [.lit (.bool true)], args := [d] }
  | _ => none }
def fnReadJournalShortRow : OpenClaim := { program := "ytiibfkekcdkjdaa", sum := "82c5cf1260ed6c3d7af539e46539711f8c6ce1bc6db90f7238904f19482309e2", func := "loop.example/metricstore/laws.FnReadJournalShort", spec := "fnReadJournalShort", recurses := true, apart := false }
def FnReadJournalShortSaid : Prop := fnReadJournalShortRow.holds Try.pinned (OpenSpec.ofChange fnReadJournalShortSpec)

/-- ITS FALSE NEIGHBOUR: 'it returns false'. Refute it at one input. -/
def fnReadJournalShortWrong : ChangeSpec := { name := "fnReadJournalShort", fn := fun _ => fun
  | [d] => { results := [.lit (.bool false)], args := [d] }
  | _ => none }
def FnReadJournalShortWrongFalsely : Prop := fnReadJournalShortRow.holds Try.pinned (OpenSpec.ofChange fnReadJournalShortWrong)

/-- 'laws.FnReadJournal': WHATEVER THE INPUT: true; the input reads as it did. -/
def fnReadJournalSpec : ChangeSpec := { name := "fnReadJournal", fn := fun _ => fun
  | [d] => { results := [.lit (.bool true)], args := [d] }
  | _ => none }
def fnReadJournalRow : OpenClaim := { program := "ytiibfkekcdkjdaa", sum := "82c5cf1260ed6c3d7af539e46539711f8c6ce1bc6db90f7238904f19482309e2", func := "loop.example/metricstore/laws.FnReadJournal", spec := "fnReadJournal", recurses := true, apart := false }
def FnReadJournalSaid : Prop := fnReadJournalRow.holds Try.pinned (OpenSpec.ofChange fnReadJournalSpec)

/-- ITS FALSE NEIGHBOUR: 'it returns false'. Refute it at one input. -/
def fnReadJournalWrong : ChangeSpec := { name := "fnReadJournal", fn := fun _ => fun
  | [d] => { results := [.lit (.bool false)], args := [d] }
  | _ => none }
def FnReadJournalWrongFalsely : Prop := fnReadJournalRow.holds Try.pinned (OpenSpec.ofChange fnReadJournalWrong)

/- THE SECOND FORM. 'bulk': how many values and letters a reading holds, each counted each time it is reached (what is shared counts as often as it is met; a slice's spare places count too). A statement '..UptoSaid' is the law's where the arguments, and the package variables that the reading takes, are together of bulk at most 1048576: NARROWER than '..Said'. Prove '..Said' where nothing that the law and all that it calls make is longer than what came in: it says more and counts as full. Else prove '..UptoSaid'. A law counts once. -/
mutual
def uptoBulk {H : Type} : DataW H → Nat
  | .lit (.string bytes) => bytes.length + 1
  | .lit _ => 1
  | .nil => 1
  | .ptr d => uptoBulk d + 1
  | .slice elems spare => uptoBulkAll elems + uptoBulkAll spare + 1
  | .agg parts => uptoBulkAll parts + 1
  | .iface _ d => uptoBulk d + 1
  | .map entries => uptoBulkEntries entries + 1
  | .held _ => 1
def uptoBulkAll {H : Type} : List (DataW H) → Nat
  | [] => 0
  | d :: r => uptoBulk d + uptoBulkAll r
def uptoBulkEntries {H : Type} : List (Lit × DataW H) → Nat
  | [] => 0
  | x :: r => uptoBulkEntry x + uptoBulkEntries r
def uptoBulkEntry {H : Type} : Lit × DataW H → Nat
  | (.string bytes, d) => bytes.length + uptoBulk d + 1
  | (_, d) => uptoBulk d + 1
 end
def uptoSmall : (H : Type) → List (DataW H) → Bool := fun _ ds => decide (uptoBulkAll ds ≤ 1048576)
def OpenSpec.upto (s : _root_.Go.ChangeSpec) : _root_.Go.OpenSpec := { _root_.Go.OpenSpec.ofChange s with cond := some uptoSmall }

/-- 'laws.FnExactSumOf', WHERE WHAT IT READS IS OF BULK AT MOST 1048576: true; the input reads as it did. -/
def fnExactSumOfUptoRow : OpenClaim := { program := "ytiibfkekcdkjdaa", sum := "82c5cf1260ed6c3d7af539e46539711f8c6ce1bc6db90f7238904f19482309e2", func := "loop.example/metricstore/laws.FnExactSumOf", spec := "fnExactSumOf", apart := false, narrowed := true }
def FnExactSumOfUptoSaid : Prop := fnExactSumOfUptoRow.holds Try.pinned (OpenSpec.upto fnExactSumOfSpec)

/-- 'laws.FnSumOf', WHERE WHAT IT READS IS OF BULK AT MOST 1048576: true; the input reads as it did. -/
def fnSumOfUptoRow : OpenClaim := { program := "ytiibfkekcdkjdaa", sum := "82c5cf1260ed6c3d7af539e46539711f8c6ce1bc6db90f7238904f19482309e2", func := "loop.example/metricstore/laws.FnSumOf", spec := "fnSumOf", apart := false, narrowed := true }
def FnSumOfUptoSaid : Prop := fnSumOfUptoRow.holds Try.pinned (OpenSpec.upto fnSumOfSpec)

/-- 'laws.FnSumOfStep', WHERE WHAT IT READS IS OF BULK AT MOST 1048576: true; the input reads as it did. -/
def fnSumOfStepUptoRow : OpenClaim := { program := "ytiibfkekcdkjdaa", sum := "82c5cf1260ed6c3d7af539e46539711f8c6ce1bc6db90f7238904f19482309e2", func := "loop.example/metricstore/laws.FnSumOfStep", spec := "fnSumOfStep", apart := false, narrowed := true }
def FnSumOfStepUptoSaid : Prop := fnSumOfStepUptoRow.holds Try.pinned (OpenSpec.upto fnSumOfStepSpec)

/-- 'laws.FnExactEntryOf', WHERE WHAT IT READS IS OF BULK AT MOST 1048576: true; the input reads as it did. -/
def fnExactEntryOfUptoRow : OpenClaim := { program := "ytiibfkekcdkjdaa", sum := "82c5cf1260ed6c3d7af539e46539711f8c6ce1bc6db90f7238904f19482309e2", func := "loop.example/metricstore/laws.FnExactEntryOf", spec := "fnExactEntryOf", recurses := true, apart := false, narrowed := true }
def FnExactEntryOfUptoSaid : Prop := fnExactEntryOfUptoRow.holds Try.pinned (OpenSpec.upto fnExactEntryOfSpec)

/-- 'laws.FnEntryOfLength', WHERE WHAT IT READS IS OF BULK AT MOST 1048576: true; the input reads as it did. -/
def fnEntryOfLengthUptoRow : OpenClaim := { program := "ytiibfkekcdkjdaa", sum := "82c5cf1260ed6c3d7af539e46539711f8c6ce1bc6db90f7238904f19482309e2", func := "loop.example/metricstore/laws.FnEntryOfLength", spec := "fnEntryOfLength", recurses := true, apart := false, narrowed := true }
def FnEntryOfLengthUptoSaid : Prop := fnEntryOfLengthUptoRow.holds Try.pinned (OpenSpec.upto fnEntryOfLengthSpec)

/-- 'laws.FnWriteJournalParts', WHERE WHAT IT READS IS OF BULK AT MOST 1048576: true; the input reads as it did. -/
def fnWriteJournalPartsUptoRow : OpenClaim := { program := "ytiibfkekcdkjdaa", sum := "82c5cf1260ed6c3d7af539e46539711f8c6ce1bc6db90f7238904f19482309e2", func := "loop.example/metricstore/laws.FnWriteJournalParts", spec := "fnWriteJournalParts", recurses := true, apart := false, narrowed := true }
def FnWriteJournalPartsUptoSaid : Prop := fnWriteJournalPartsUptoRow.holds Try.pinned (OpenSpec.upto fnWriteJournalPartsSpec)

/-- 'laws.FnExactWriteJournal', WHERE WHAT IT READS IS OF BULK AT MOST 1048576: true; the input reads as it did. -/
def fnExactWriteJournalUptoRow : OpenClaim := { program := "ytiibfkekcdkjdaa", sum := "82c5cf1260ed6c3d7af539e46539711f8c6ce1bc6db90f7238904f19482309e2", func := "loop.example/metricstore/laws.FnExactWriteJournal", spec := "fnExactWriteJournal", recurses := true, apart := false, narrowed := true }
def FnExactWriteJournalUptoSaid : Prop := fnExactWriteJournalUptoRow.holds Try.pinned (OpenSpec.upto fnExactWriteJournalSpec)

/-- 'laws.FnEntryOf', WHERE WHAT IT READS IS OF BULK AT MOST 1048576: true; the input reads as it did. -/
def fnEntryOfUptoRow : OpenClaim := { program := "ytiibfkekcdkjdaa", sum := "82c5cf1260ed6c3d7af539e46539711f8c6ce1bc6db90f7238904f19482309e2", func := "loop.example/metricstore/laws.FnEntryOf", spec := "fnEntryOf", recurses := true, apart := false, narrowed := true }
def FnEntryOfUptoSaid : Prop := fnEntryOfUptoRow.holds Try.pinned (OpenSpec.upto fnEntryOfSpec)

/-- 'laws.FnEntryOfTorn', WHERE WHAT IT READS IS OF BULK AT MOST 1048576: true; the input reads as it did. -/
def fnEntryOfTornUptoRow : OpenClaim := { program := "ytiibfkekcdkjdaa", sum := "82c5cf1260ed6c3d7af539e46539711f8c6ce1bc6db90f7238904f19482309e2", func := "loop.example/metricstore/laws.FnEntryOfTorn", spec := "fnEntryOfTorn", recurses := true, apart := false, narrowed := true }
def FnEntryOfTornUptoSaid : Prop := fnEntryOfTornUptoRow.holds Try.pinned (OpenSpec.upto fnEntryOfTornSpec)

/-- 'laws.FnWriteJournal', WHERE WHAT IT READS IS OF BULK AT MOST 1048576: true; the input reads as it did. -/
def fnWriteJournalUptoRow : OpenClaim := { program := "ytiibfkekcdkjdaa", sum := "82c5cf1260ed6c3d7af539e46539711f8c6ce1bc6db90f7238904f19482309e2", func := "loop.example/metricstore/laws.FnWriteJournal", spec := "fnWriteJournal", recurses := true, apart := false, narrowed := true }
def FnWriteJournalUptoSaid : Prop := fnWriteJournalUptoRow.holds Try.pinned (OpenSpec.upto fnWriteJournalSpec)

/-- 'laws.FnExactReadJournal', WHERE WHAT IT READS IS OF BULK AT MOST 1048576: true; the input reads as it did. -/
def fnExactReadJournalUptoRow : OpenClaim := { program := "ytiibfkekcdkjdaa", sum := "82c5cf1260ed6c3d7af539e46539711f8c6ce1bc6db90f7238904f19482309e2", func := "loop.example/metricstore/laws.FnExactReadJournal", spec := "fnExactReadJournal", apart := false, narrowed := true }
def FnExactReadJournalUptoSaid : Prop := fnExactReadJournalUptoRow.holds Try.pinned (OpenSpec.upto fnExactReadJournalSpec)

/-- 'laws.FnReadJournalMore', WHERE WHAT IT READS IS OF BULK AT MOST 1048576: true; the input reads as it did. -/
def fnReadJournalMoreUptoRow : OpenClaim := { program := "ytiibfkekcdkjdaa", sum := "82c5cf1260ed6c3d7af539e46539711f8c6ce1bc6db90f7238904f19482309e2", func := "loop.example/metricstore/laws.FnReadJournalMore", spec := "fnReadJournalMore", recurses := true, apart := false, narrowed := true }
def FnReadJournalMoreUptoSaid : Prop := fnReadJournalMoreUptoRow.holds Try.pinned (OpenSpec.upto fnReadJournalMoreSpec)

/-- 'laws.FnReadJournalShort', WHERE WHAT IT READS IS OF BULK AT MOST 1048576: true; the input reads as it did. -/
def fnReadJournalShortUptoRow : OpenClaim := { program := "ytiibfkekcdkjdaa", sum := "82c5cf1260ed6c3d7af539e46539711f8c6ce1bc6db90f7238904f19482309e2", func := "loop.example/metricstore/laws.FnReadJournalShort", spec := "fnReadJournalShort", recurses := true, apart := false, narrowed := true }
def FnReadJournalShortUptoSaid : Prop := fnReadJournalShortUptoRow.holds Try.pinned (OpenSpec.upto fnReadJournalShortSpec)

/-- 'laws.FnReadJournal', WHERE WHAT IT READS IS OF BULK AT MOST 1048576: true; the input reads as it did. -/
def fnReadJournalUptoRow : OpenClaim := { program := "ytiibfkekcdkjdaa", sum := "82c5cf1260ed6c3d7af539e46539711f8c6ce1bc6db90f7238904f19482309e2", func := "loop.example/metricstore/laws.FnReadJournal", spec := "fnReadJournal", recurses := true, apart := false, narrowed := true }
def FnReadJournalUptoSaid : Prop := fnReadJournalUptoRow.holds Try.pinned (OpenSpec.upto fnReadJournalSpec)

end Rows
end Go.Proofs.Ytiibfkekcdkjdaa
