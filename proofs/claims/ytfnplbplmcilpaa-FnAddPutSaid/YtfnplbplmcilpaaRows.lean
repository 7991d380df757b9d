/-
  No cell of these rows narrows 'for every input' (looked for: loops, veiled, ifaces, maps, wideKeys, modest, calm, conditions, laid).
  DERIVED. THE GIVEN ROWS OF THIS SEAT. 4 by the template 'for every input the law returns true; each argument reads behind the call as it read before'; 0 by the template 'total and deterministic' (their statements: YtfnplbplmcilpaaTotals.lean).
  GIVEN WITH THE SEED: the statements are not yours to turn. If you find one false, say at which input.
  Laid BY PROGRAM, IN A SANDBOX (cutbox-rows.mjs): the forced cells as the released guide's own fill.sh prints them over the translation 06d8cc0bb15a8758… (all of the seat's roots in one cut). By AI agents, Wed Nov 11 2026. No macro, syntax, notation, axiom, sorry.
-/
import Derived.Test.YtfnplbplmcilpaaChecked
import GoSem.Claim
import GoSem.ClaimJoined
import GoSem.ClaimMapViews
import Derived.JoinedTies
import Derived.KernelRfl
namespace Go.Proofs.Ytfnplbplmcilpaa
/- THE CELL 'sum', in the pinned program and in every row, IS THE sha256 OF THE DUMP (.gsa) THAT YtfnplbplmcilpaaProg.lean LOADS. Nothing in Lean hashes anything: it is a label: what it is worth is what the hold of that sum in a sandbox is worth. -/
noncomputable def Try.pinned : Pinned := { name := "ytfnplbplmcilpaa", sum := "06d8cc0bb15a87583625f38d5031619f2ac0a21cd6c3f5c1a2e9fc0d8177d7f7", checked := Try.checked }
namespace Rows
def none {H : Type} : Left H := { results := [], args := [] }

/-- 'laws.FnPinVersion': WHATEVER THE INPUT: true; the input reads as it did. -/
def fnPinVersionSpec : ChangeSpec := { name := "fnPinVersion", fn := fun _ => fun
  | [d] => { results := [.lit (.bool true)], args := [d] }
  | _ => none }
def fnPinVersionRow : OpenClaim := { program := "ytfnplbplmcilpaa", sum := "06d8cc0bb15a87583625f38d5031619f2ac0a21cd6c3f5c1a2e9fc0d8177d7f7", func := "loop.example/metricstore/laws.FnPinVersion", spec := "fnPinVersion", unfollowed := true, recurses := true, apart := false }
def FnPinVersionSaid : Prop := fnPinVersionRow.holds Try.pinned (OpenSpec.ofChange fnPinVersionSpec)

/-- ITS FALSE NEIGHBOUR: 'it returns false'. Refute it at one input. -/
def fnPinVersionWrong : ChangeSpec := { name := "fnPinVersion", fn := fun _ => fun
  | [d] => { results := [.lit (.bool false)], args := [d] }
  | _ => none }
def FnPinVersionWrongFalsely : Prop := fnPinVersionRow.holds Try.pinned (OpenSpec.ofChange fnPinVersionWrong)

/-- 'laws.FnFreeVersions': WHATEVER THE INPUT: true; the input reads as it did. -/
def fnFreeVersionsSpec : ChangeSpec := { name := "fnFreeVersions", fn := fun _ => fun
  | [d] => { results := [.lit (.bool true)], args := [d] }
  | _ => none }
def fnFreeVersionsRow : OpenClaim := { program := "ytfnplbplmcilpaa", sum := "06d8cc0bb15a87583625f38d5031619f2ac0a21cd6c3f5c1a2e9fc0d8177d7f7", func := "loop.example/metricstore/laws.FnFreeVersions", spec := "fnFreeVersions", unfollowed := true, recurses := true, apart := false }
def FnFreeVersionsSaid : Prop := fnFreeVersionsRow.holds Try.pinned (OpenSpec.ofChange fnFreeVersionsSpec)

/-- ITS FALSE NEIGHBOUR: 'it returns false'. Refute it at one input. -/
def fnFreeVersionsWrong : ChangeSpec := { name := "fnFreeVersions", fn := fun _ => fun
  | [d] => { results := [.lit (.bool false)], args := [d] }
  | _ => none }
def FnFreeVersionsWrongFalsely : Prop := fnFreeVersionsRow.holds Try.pinned (OpenSpec.ofChange fnFreeVersionsWrong)

/-- 'laws.FnSeriesAtAdd': WHATEVER THE INPUT: true; the input reads as it did. -/
def fnSeriesAtAddSpec : ChangeSpec := { name := "fnSeriesAtAdd", fn := fun _ => fun
  | [d] => { results := [.lit (.bool true)], args := [d] }
  | _ => none }
def fnSeriesAtAddRow : OpenClaim := { program := "ytfnplbplmcilpaa", sum := "06d8cc0bb15a87583625f38d5031619f2ac0a21cd6c3f5c1a2e9fc0d8177d7f7", func := "loop.example/metricstore/laws.FnSeriesAtAdd", spec := "fnSeriesAtAdd", unfollowed := true, recurses := true, apart := false }
def FnSeriesAtAddSaid : Prop := fnSeriesAtAddRow.holds Try.pinned (OpenSpec.ofChange fnSeriesAtAddSpec)

/-- ITS FALSE NEIGHBOUR: 'it returns false'. Refute it at one input. -/
def fnSeriesAtAddWrong : ChangeSpec := { name := "fnSeriesAtAdd", fn := fun _ => fun
  | [d] => { results := [.lit (.bool false)], args := [d] }
  | _ => none }
def FnSeriesAtAddWrongFalsely : Prop := fnSeriesAtAddRow.holds Try.pinned (OpenSpec.ofChange fnSeriesAtAddWrong)

/-- 'laws.FnAddPut': WHATEVER THE INPUT: true; the input reads as it did. -/
def fnAddPutSpec : ChangeSpec := { name := "fnAddPut", fn := fun _ => fun
  | [d] => { results := [.lit (.bool true)], args := [d] }
  | _ => none }
def fnAddPutRow : OpenClaim := { program := "ytfnplbplmcilpaa", sum := "06d8cc0bb15a87583625f38d5031619f2ac0a21cd6c3f5c1a2e9fc0d8177d7f7", func := "loop.example/metricstore/laws.FnAddPut", spec := "fnAddPut", unfollowed := true, recurses := true, apart := false }
def FnAddPutSaid : Prop := fnAddPutRow.holds Try.pinned (OpenSpec.ofChange fnAddPutSpec)

/-- ITS FALSE NEIGHBOUR: 'it returns false'. Refute it at one input. -/
def fnAddPutWrong : ChangeSpec := { name := "fnAddPut", fn := fun _ => fun
  | [d] => { results := [.lit (.bool false)], args := [d] }
  | _ => none }
def FnAddPutWrongFalsely : Prop := fnAddPutRow.holds Try.pinned (OpenSpec.ofChange fnAddPutWrong)

/- THE SECOND FORM. 'bulk': how many values and letters a reading holds, each counted each time it is reached (what is shared counts as often as it is met; a slice's spare places count too). A statement '..UptoSaid' is the law's where the arguments, and the package variables that the reading takes, are together of bulk at most 1048576: NARROWER than '..Said'. Prove '..Said' where nothing that the law and all that it calls make is longer than what came in: it says more and counts as full. Else prove '..UptoSaid'. A law counts once. -/
mutual
def uptoBulk {H : Type} : DataW H → Nat
  | .lit (.string bytes) => bytes.length + 1
  | .lit _ => 1
  | .nil => 1
  | .ptr d => uptoBulk d + 1
  | .slice elems spare => uptoBulkAll elems + uptoBulkAll spare + 1
  | .agg parts => uptoBulkAll parts + 1
  | .iface _ d => uptoBulk d + 1
  | .map entries => uptoBulkEntries entries + 1
  | .held _ => 1
def uptoBulkAll {H : Type} : List (DataW H) → Nat
  | [] => 0
  | d :: r => uptoBulk d + uptoBulkAll r
def uptoBulkEntries {H : Type} : List (Lit × DataW H) → Nat
  | [] => 0
  | x :: r => uptoBulkEntry x + uptoBulkEntries r
def uptoBulkEntry {H : Type} : Lit × DataW H → Nat
  | (.string bytes, d) => bytes.length + uptoBulk d + 1
  | (_, d) => uptoBulk d + 1
 end
def uptoSmall : (H : Type) → List (DataW H) → Bool := fun _ ds => decide (uptoBulkAll ds ≤ 1048576)
def OpenSpec.upto (s : _root_.Go.ChangeSpec) : _root_.Go.OpenSpec := { _root_.Go.OpenSpec.ofChange s with cond := some uptoSmall }

/-- 'laws.FnPinVersion', WHERE WHAT IT READS IS OF BULK AT MOST 1048576: true; the input reads as it did. -/
def fnPinVersionUptoRow : OpenClaim := { program := "ytfnplbplmcilpaa", sum := "06d8cc0bb15a87583625f38d5031619f2ac0a21cd6c3f5c1a2e9fc0d8177d7f7", func := "loop.example/metricstore/laws.FnPinVersion", spec := "fnPinVersion", unfollowed := true, recurses := true, apart := false, narrowed := true }
def FnPinVersionUptoSaid : Prop := fnPinVersionUptoRow.holds Try.pinned (OpenSpec.upto fnPinVersionSpec)

/-- 'laws.FnFreeVersions', WHERE WHAT IT READS IS OF BULK AT MOST 1048576: true; the input reads as it did. -/
def fnFreeVersionsUptoRow : OpenClaim := { program := "ytfnplbplmcilpaa", sum := "06d8cc0bb15a87583625f38d5031619f2ac0a21cd6c3f5c1a2e9fc0d8177d7f7", func := "loop.example/metricstore/laws.FnFreeVersions", spec := "fnFreeVersions", unfollowed := true, recurses := true, apart := false, narrowed := true }
def FnFreeVersionsUptoSaid : Prop := fnFreeVersionsUptoRow.holds Try.pinned (OpenSpec.upto fnFreeVersionsSpec)

/-- 'laws.FnSeriesAtAdd', WHERE WHAT IT READS IS OF BULK AT MOST 1048576: true; the input reads as it did. -/
def fnSeriesAtAddUptoRow : OpenClaim := { program := "ytfnplbplmcilpaa", sum := "06d8cc0bb15a87583625f38d5031619f2ac0a21cd6c3f5c1a2e9fc0d8177d7f7", func := "loop.example/metricstore/laws.FnSeriesAtAdd", spec := "fnSeriesAtAdd", unfollowed := true, recurses := true, apart := false, narrowed := true }
def FnSeriesAtAddUptoSaid : Prop := fnSeriesAtAddUptoRow.holds Try.pinned (OpenSpec.upto fnSeriesAtAddSpec)

/-- 'laws.FnAddPut', WHERE WHAT IT READS IS OF BULK AT MOST 1048576: true; the input reads as it did. -/
def fnAddPutUptoRow : OpenClaim := { program := "ytfnplbplmcilpaa", sum := "06d8cc0bb15a87583625f38d5031619f2ac0a21cd6c3f5c1a2e9fc0d8177d7f7", func := "loop.example/metricstore/laws.FnAddPut", spec := "fnAddPut", unfollowed := true, recurses := true, apart := false, narrowed := true }
def FnAddPutUptoSaid : Prop := fnAddPutUptoRow.holds Try.pinned (OpenSpec.upto fnAddPutSpec)

end Rows
end Go.Proofs.Ytfnplbplmcilpaa
