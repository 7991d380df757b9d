/-
  NARROWER THAN 'FOR EVERY INPUT', by the rows' own cells (each row's printed sentence says how): FnExactStepAlert: laid · FnStepAlert: laid · FnStepAlertHold: laid · FnStepAlertTwice: laid · FnAlertStates: laid · FnAlertStatesHigh: laid · FnAlertStatesQuiet: laid · FnExactCountRings: laid · FnExactAlertStates: laid · FnCountRings: laid · FnCountRingsHold: laid · FnCountRingsOnce: laid.
  DERIVED. THE GIVEN ROWS OF THIS SEAT. 12 by the template 'for every input the law returns true; each argument reads behind the call as it read before'; 0 by the template 'total and deterministic' (their statements: YtfhoalglgmdiaaaDoorTotals.lean).
  GIVEN WITH THE SEED: the statements are not yours to turn. If you find one false, say at which input.
  Laid BY PROGRAM, IN A SANDBOX (cutbox-rows.mjs): the forced cells as the released guide's own fill.sh prints them over the translation 2dd65978cc0dff46… (all of the seat's roots in one cut). By AI agents, Wed Nov 11 2026. No macro, syntax, notation, axiom, sorry.
-/
import Derived.Test.YtfhoalglgmdiaaaDoorChecked
import GoSem.Claim
import GoSem.ClaimJoined
import GoSem.ClaimMapViews
import Derived.JoinedTies
import Derived.KernelRfl
namespace Go.Proofs.YtfhoalglgmdiaaaDoor
/- THE CELL 'sum', in the pinned program and in every row, IS THE sha256 OF THE DUMP (.gsa) THAT YtfhoalglgmdiaaaDoorProg.lean LOADS. Nothing in Lean hashes anything: it is a label: what it is worth is what the hold of that sum in a sandbox is worth. -/
noncomputable def Tryd.pinned : Pinned := { name := "ytfhoalglgmdiaaadoor", sum := "2dd65978cc0dff46c8277be45ec18135b52ab32ee4c4c9ad5ef8c726e067332a", checked := Tryd.checked }
namespace Rows
def none {H : Type} : Left H := { results := [], args := [] }

/- WHAT THE LISTED PACKAGE-LEVEL VARIABLES READ AS WHEN THE CALL BEGINS. Each datum BY PROGRAM (the guide's laid-datum.mjs) off the statement by which the dump's own 'gosem.cut.vars' lays the variable. In a bare row this is a premise. The card (YtfhoalglgmdiaaaDoorCards.lean) ties it to the program's text. -/
def laid_loop_example_metricstore_impl_alertFollows {H : Type} : DataW H := .agg [.agg [.lit (.int .i64 0), .lit (.int .i64 1)], .agg [.lit (.int .i64 0), .lit (.int .i64 1)], .agg [.lit (.int .i64 3), .lit (.int .i64 2)], .agg [.lit (.int .i64 3), .lit (.int .i64 2)]]

/-- 'laws.FnExactStepAlert': WHATEVER THE INPUT: true; the input reads as it did. -/
def fnExactStepAlertSpec : ChangeSpec := { name := "fnExactStepAlert", vars := ["loop.example/metricstore/impl.alertFollows"], fn := fun _ => fun
  | [d1, d2, d3, g1] => { results := [.lit (.bool true)], args := [d1, d2, d3], vars := [g1] }
  | _ => none }
def fnExactStepAlertRow : OpenClaim := { program := "ytfhoalglgmdiaaadoor", sum := "2dd65978cc0dff46c8277be45ec18135b52ab32ee4c4c9ad5ef8c726e067332a", func := "loop.example/metricstore/laws.FnExactStepAlert", spec := "fnExactStepAlert", named := ["loop.example/metricstore/impl.alertFollows"], apart := false, laid := [("loop.example/metricstore/impl.alertFollows", laid_loop_example_metricstore_impl_alertFollows)] }
def FnExactStepAlertSaid : Prop := fnExactStepAlertRow.holds Tryd.pinned (OpenSpec.ofChange fnExactStepAlertSpec)

/-- ITS FALSE NEIGHBOUR: 'it returns false'. Refute it at one input. -/
def fnExactStepAlertWrong : ChangeSpec := { name := "fnExactStepAlert", vars := ["loop.example/metricstore/impl.alertFollows"], fn := fun _ => fun
  | [d1, d2, d3, g1] => { results := [.lit (.bool false)], args := [d1, d2, d3], vars := [g1] }
  | _ => none }
def FnExactStepAlertWrongFalsely : Prop := fnExactStepAlertRow.holds Tryd.pinned (OpenSpec.ofChange fnExactStepAlertWrong)

/-- 'laws.FnStepAlert': WHATEVER THE INPUT: true; the input reads as it did. -/
def fnStepAlertSpec : ChangeSpec := { name := "fnStepAlert", vars := ["loop.example/metricstore/impl.alertFollows"], fn := fun _ => fun
  | [d, g1] => { results := [.lit (.bool true)], args := [d], vars := [g1] }
  | _ => none }
def fnStepAlertRow : OpenClaim := { program := "ytfhoalglgmdiaaadoor", sum := "2dd65978cc0dff46c8277be45ec18135b52ab32ee4c4c9ad5ef8c726e067332a", func := "loop.example/metricstore/laws.FnStepAlert", spec := "fnStepAlert", named := ["loop.example/metricstore/impl.alertFollows"], apart := false, laid := [("loop.example/metricstore/impl.alertFollows", laid_loop_example_metricstore_impl_alertFollows)] }
def FnStepAlertSaid : Prop := fnStepAlertRow.holds Tryd.pinned (OpenSpec.ofChange fnStepAlertSpec)

/-- ITS FALSE NEIGHBOUR: 'it returns false'. Refute it at one input. -/
def fnStepAlertWrong : ChangeSpec := { name := "fnStepAlert", vars := ["loop.example/metricstore/impl.alertFollows"], fn := fun _ => fun
  | [d, g1] => { results := [.lit (.bool false)], args := [d], vars := [g1] }
  | _ => none }
def FnStepAlertWrongFalsely : Prop := fnStepAlertRow.holds Tryd.pinned (OpenSpec.ofChange fnStepAlertWrong)

/-- 'laws.FnStepAlertHold': WHATEVER THE INPUT: true; the input reads as it did. -/
def fnStepAlertHoldSpec : ChangeSpec := { name := "fnStepAlertHold", vars := ["loop.example/metricstore/impl.alertFollows"], fn := fun _ => fun
  | [d, g1] => { results := [.lit (.bool true)], args := [d], vars := [g1] }
  | _ => none }
def fnStepAlertHoldRow : OpenClaim := { program := "ytfhoalglgmdiaaadoor", sum := "2dd65978cc0dff46c8277be45ec18135b52ab32ee4c4c9ad5ef8c726e067332a", func := "loop.example/metricstore/laws.FnStepAlertHold", spec := "fnStepAlertHold", named := ["loop.example/metricstore/impl.alertFollows"], apart := false, laid := [("loop.example/metricstore/impl.alertFollows", laid_loop_example_metricstore_impl_alertFollows)] }
def FnStepAlertHoldSaid : Prop := fnStepAlertHoldRow.holds Tryd.pinned (OpenSpec.ofChange fnStepAlertHoldSpec)

/-- ITS FALSE NEIGHBOUR: 'it returns false'. Refute it at one input. -/
def fnStepAlertHoldWrong : ChangeSpec := { name := "fnStepAlertHold", vars := ["loop.example/metricstore/impl.alertFollows"], fn := fun _ => fun
  | [d, g1] => { results := [.lit (.bool false)], args := [d], vars := [g1] }
  | _ => none }
def FnStepAlertHoldWrongFalsely : Prop := fnStepAlertHoldRow.holds Tryd.pinned (OpenSpec.ofChange fnStepAlertHoldWrong)

/-- 'laws.FnStepAlertTwice': WHATEVER THE INPUT: true; the input reads as it did. -/
def fnStepAlertTwiceSpec : ChangeSpec := { name := "fnStepAlertTwice", vars := ["loop.example/metricstore/impl.alertFollows"], fn := fun _ => fun
  | [d, g1] => { results := [.lit (.bool true)], args := [d], vars := [g1] }
  | _ => none }
def fnStepAlertTwiceRow : OpenClaim := { program := "ytfhoalglgmdiaaadoor", sum := "2dd65978cc0dff46c8277be45ec18135b52ab32ee4c4c9ad5ef8c726e067332a", func := "loop.example/metricstore/laws.FnStepAlertTwice", spec := "fnStepAlertTwice", named := ["loop.example/metricstore/impl.alertFollows"], apart := false, laid := [("loop.example/metricstore/impl.alertFollows", laid_loop_example_metricstore_impl_alertFollows)] }
def FnStepAlertTwiceSaid : Prop := fnStepAlertTwiceRow.holds Tryd.pinned (OpenSpec.ofChange fnStepAlertTwiceSpec)

/-- ITS FALSE NEIGHBOUR: 'it returns false'. Refute it at one input. -/
def fnStepAlertTwiceWrong : ChangeSpec := { name := "fnStepAlertTwice", vars := ["loop.example/metricstore/impl.alertFollows"], fn := fun _ => fun
  | [d, g1] => { results := [.lit (.bool false)], args := [d], vars := [g1] }
  | _ => none }
def FnStepAlertTwiceWrongFalsely : Prop := fnStepAlertTwiceRow.holds Tryd.pinned (OpenSpec.ofChange fnStepAlertTwiceWrong)

/-- 'laws.FnAlertStates': WHATEVER THE INPUT: true; the input reads as it did. -/
def fnAlertStatesSpec : ChangeSpec := { name := "fnAlertStates", vars := ["loop.example/metricstore/impl.alertFollows"], fn := fun _ => fun
  | [d, g1] => { results := [.lit (.bool true)], args := [d], vars := [g1] }
  | _ => none }
def fnAlertStatesRow : OpenClaim := { program := "ytfhoalglgmdiaaadoor", sum := "2dd65978cc0dff46c8277be45ec18135b52ab32ee4c4c9ad5ef8c726e067332a", func := "loop.example/metricstore/laws.FnAlertStates", spec := "fnAlertStates", named := ["loop.example/metricstore/impl.alertFollows"], apart := false, laid := [("loop.example/metricstore/impl.alertFollows", laid_loop_example_metricstore_impl_alertFollows)] }
def FnAlertStatesSaid : Prop := fnAlertStatesRow.holds Tryd.pinned (OpenSpec.ofChange fnAlertStatesSpec)

/-- ITS FALSE NEIGHBOUR: 'it returns false'. Refute it at one input. -/
def fnAlertStatesWrong : ChangeSpec := { name := "fnAlertStates", vars := ["loop.example/metricstore/impl.alertFollows"], fn := fun _ => fun
  | [d, g1] => { results := [.lit (.bool false)], args := [d], vars := [g1] }
  | _ => none }
def FnAlertStatesWrongFalsely : Prop := fnAlertStatesRow.holds Tryd.pinned (OpenSpec.ofChange fnAlertStatesWrong)

/-- 'laws.FnAlertStatesHigh': WHATEVER THE INPUT: true; the input reads as it did. -/
def fnAlertStatesHighSpec : ChangeSpec := { name := "fnAlertStatesHigh", vars := ["loop.example/metricstore/impl.alertFollows"], fn := fun _ => fun
  | [d, g1] => { results := [.lit (.bool true)], args := [d], vars := [g1] }
  | _ => none }
def fnAlertStatesHighRow : OpenClaim := { program := "ytfhoalglgmdiaaadoor", sum := "2dd65978cc0dff46c8277be45ec18135b52ab32ee4c4c9ad5ef8c726e067332a", func := "loop.example/metricstore/laws.FnAlertStatesHigh", spec := "fnAlertStatesHigh", named := ["loop.example/metricstore/impl.alertFollows"], apart := false, laid := [("loop.example/metricstore/impl.alertFollows", laid_loop_example_metricstore_impl_alertFollows)] }
def FnAlertStatesHighSaid : Prop := fnAlertStatesHighRow.holds Tryd.pinned (OpenSpec.ofChange fnAlertStatesHighSpec)

/-- ITS FALSE NEIGHBOUR: 'it returns false'. Refute it at one input. -/
def fnAlertStatesHighWrong : ChangeSpec := { name := "fnAlertStatesHigh", vars := ["loop.example/metricstore/impl.alertFollows"], fn := fun _ => fun
  | [d, g1] => { results := [.lit (.bool false)], args := [d], vars := [g1] }
  | _ => none }
def FnAlertStatesHighWrongFalsely : Prop := fnAlertStatesHighRow.holds Tryd.pinned (OpenSpec.ofChange fnAlertStatesHighWrong)

/-- 'laws.FnAlertStatesQuiet': WHATEVER THE INPUT: true; the input reads as it did. -/
def fnAlertStatesQuietSpec : ChangeSpec := { name := "fnAlertStatesQuiet", vars := ["loop.example/metricstore/impl.alertFollows"], fn := fun _ => fun
  | [d, g1] => { results := [.lit (.bool true)], args := [d], vars := [g1] }
  | _ => none }
def fnAlertStatesQuietRow : OpenClaim := { program := "ytfhoalglgmdiaaadoor", sum := "2dd65978cc0dff46c8277be45ec18135b52ab32ee4c4c9ad5ef8c726e067332a", func := "loop.example/metricstore/laws.FnAlertStatesQuiet", spec := "fnAlertStatesQuiet", named := ["loop.example/metricstore/impl.alertFollows"], apart := false, laid := [("loop.example/metricstore/impl.alertFollows", laid_loop_example_metricstore_impl_alertFollows)] }
def FnAlertStatesQuietSaid : Prop := fnAlertStatesQuietRow.holds Tryd.pinned (OpenSpec.ofChange fnAlertStatesQuietSpec)

/-- ITS FALSE NEIGHBOUR: 'it returns false'. Refute it at one input. -/
def fnAlertStatesQuietWrong : ChangeSpec := { name := "fnAlertStatesQuiet", vars := ["loop.example/metricstore/impl.alertFollows"], fn := fun _ => fun
  | [d, g1] => { results := [.lit (.bool false)], args := [d], vars := [g1] }
  | _ => none }
def FnAlertStatesQuietWrongFalsely : Prop := fnAlertStatesQuietRow.holds Tryd.pinned (OpenSpec.ofChange fnAlertStatesQuietWrong)

/-- 'laws.FnExactCountRings': WHATEVER THE INPUT: true; the input reads as it did. -/
def fnExactCountRingsSpec : ChangeSpec := { name := "fnExactCountRings", vars := ["loop.example/metricstore/impl.alertFollows"], fn := fun _ => fun
  | [d1, d2, g1] => { results := [.lit (.bool true)], args := [d1, d2], vars := [g1] }
  | _ => none }
def fnExactCountRingsRow : OpenClaim := { program := "ytfhoalglgmdiaaadoor", sum := "2dd65978cc0dff46c8277be45ec18135b52ab32ee4c4c9ad5ef8c726e067332a", func := "loop.example/metricstore/laws.FnExactCountRings", spec := "fnExactCountRings", named := ["loop.example/metricstore/impl.alertFollows"], apart := false, laid := [("loop.example/metricstore/impl.alertFollows", laid_loop_example_metricstore_impl_alertFollows)] }
def FnExactCountRingsSaid : Prop := fnExactCountRingsRow.holds Tryd.pinned (OpenSpec.ofChange fnExactCountRingsSpec)

/-- ITS FALSE NEIGHBOUR: 'it returns false'. Refute it at one input. -/
def fnExactCountRingsWrong : ChangeSpec := { name := "fnExactCountRings", vars := ["loop.example/metricstore/impl.alertFollows"], fn := fun _ => fun
  | [d1, d2, g1] => { results := [.lit (.bool false)], args := [d1, d2], vars := [g1] }
  | _ => none }
def FnExactCountRingsWrongFalsely : Prop := fnExactCountRingsRow.holds Tryd.pinned (OpenSpec.ofChange fnExactCountRingsWrong)

/-- 'laws.FnExactAlertStates': WHATEVER THE INPUT: true; the input reads as it did. -/
def fnExactAlertStatesSpec : ChangeSpec := { name := "fnExactAlertStates", vars := ["loop.example/metricstore/impl.alertFollows"], fn := fun _ => fun
  | [d1, d2, g1] => { results := [.lit (.bool true)], args := [d1, d2], vars := [g1] }
  | _ => none }
def fnExactAlertStatesRow : OpenClaim := { program := "ytfhoalglgmdiaaadoor", sum := "2dd65978cc0dff46c8277be45ec18135b52ab32ee4c4c9ad5ef8c726e067332a", func := "loop.example/metricstore/laws.FnExactAlertStates", spec := "fnExactAlertStates", named := ["loop.example/metricstore/impl.alertFollows"], apart := false, laid := [("loop.example/metricstore/impl.alertFollows", laid_loop_example_metricstore_impl_alertFollows)] }
def FnExactAlertStatesSaid : Prop := fnExactAlertStatesRow.holds Tryd.pinned (OpenSpec.ofChange fnExactAlertStatesSpec)

/-- ITS FALSE NEIGHBOUR: 'it returns false'. Refute it at one input. -/
def fnExactAlertStatesWrong : ChangeSpec := { name := "fnExactAlertStates", vars := ["loop.example/metricstore/impl.alertFollows"], fn := fun _ => fun
  | [d1, d2, g1] => { results := [.lit (.bool false)], args := [d1, d2], vars := [g1] }
  | _ => none }
def FnExactAlertStatesWrongFalsely : Prop := fnExactAlertStatesRow.holds Tryd.pinned (OpenSpec.ofChange fnExactAlertStatesWrong)

/-- 'laws.FnCountRings': WHATEVER THE INPUT: true; the input reads as it did. -/
def fnCountRingsSpec : ChangeSpec := { name := "fnCountRings", vars := ["loop.example/metricstore/impl.alertFollows"], fn := fun _ => fun
  | [d, g1] => { results := [.lit (.bool true)], args := [d], vars := [g1] }
  | _ => none }
def fnCountRingsRow : OpenClaim := { program := "ytfhoalglgmdiaaadoor", sum := "2dd65978cc0dff46c8277be45ec18135b52ab32ee4c4c9ad5ef8c726e067332a", func := "loop.example/metricstore/laws.FnCountRings", spec := "fnCountRings", named := ["loop.example/metricstore/impl.alertFollows"], apart := false, laid := [("loop.example/metricstore/impl.alertFollows", laid_loop_example_metricstore_impl_alertFollows)] }
def FnCountRingsSaid : Prop := fnCountRingsRow.holds Tryd.pinned (OpenSpec.ofChange fnCountRingsSpec)

/-- ITS FALSE NEIGHBOUR: 'it returns false'. Refute it at one input. -/
def fnCountRingsWrong : ChangeSpec := { name := "fnCountRings", vars := ["loop.example/metricstore/impl.alertFollows"], fn := fun _ => fun
  | [d, g1] => { results := [.lit (.bool false)], args := [d], vars := [g1] }
  | _ => none }
def FnCountRingsWrongFalsely : Prop := fnCountRingsRow.holds Tryd.pinned (OpenSpec.ofChange fnCountRingsWrong)

/-- 'laws.FnCountRingsHold': WHATEVER THE INPUT: true; the input reads as it did. -/
def fnCountRingsHoldSpec : ChangeSpec := { name := "fnCountRingsHold", vars := ["loop.example/metricstore/impl.alertFollows"], fn := fun _ => fun
  | [d, g1] => { results := [.lit (.bool true)], args := [d], vars := [g1] }
  | _ => none }
def fnCountRingsHoldRow : OpenClaim := { program := "ytfhoalglgmdiaaadoor", sum := "2dd65978cc0dff46c8277be45ec18135b52ab32ee4c4c9ad5ef8c726e067332a", func := "loop.example/metricstore/laws.FnCountRingsHold", spec := "fnCountRingsHold", named := ["loop.example/metricstore/impl.alertFollows"], apart := false, laid := [("loop.example/metricstore/impl.alertFollows", laid_loop_example_metricstore_impl_alertFollows)] }
def FnCountRingsHoldSaid : Prop := fnCountRingsHoldRow.holds Tryd.pinned (OpenSpec.ofChange fnCountRingsHoldSpec)

/-- ITS FALSE NEIGHBOUR: 'it returns false'. Refute it at one input. -/
def fnCountRingsHoldWrong : ChangeSpec := { name := "fnCountRingsHold", vars := ["loop.example/metricstore/impl.alertFollows"], fn := fun _ => fun
  | [d, g1] => { results := [.lit (.bool false)], args := [d], vars := [g1] }
  | _ => none }
def FnCountRingsHoldWrongFalsely : Prop := fnCountRingsHoldRow.holds Tryd.pinned (OpenSpec.ofChange fnCountRingsHoldWrong)

/-- 'laws.FnCountRingsOnce': WHATEVER THE INPUT: true; the input reads as it did. -/
def fnCountRingsOnceSpec : ChangeSpec := { name := "fnCountRingsOnce", vars := ["loop.example/metricstore/impl.alertFollows"], fn := fun _ => fun
  | [d, g1] => { results := [.lit (.bool true)], args := [d], vars := [g1] }
  | _ => none }
def fnCountRingsOnceRow : OpenClaim := { program := "ytfhoalglgmdiaaadoor", sum := "2dd65978cc0dff46c8277be45ec18135b52ab32ee4c4c9ad5ef8c726e067332a", func := "loop.example/metricstore/laws.FnCountRingsOnce", spec := "fnCountRingsOnce", named := ["loop.example/metricstore/impl.alertFollows"], apart := false, laid := [("loop.example/metricstore/impl.alertFollows", laid_loop_example_metricstore_impl_alertFollows)] }
def FnCountRingsOnceSaid : Prop := fnCountRingsOnceRow.holds Tryd.pinned (OpenSpec.ofChange fnCountRingsOnceSpec)

/-- ITS FALSE NEIGHBOUR: 'it returns false'. Refute it at one input. -/
def fnCountRingsOnceWrong : ChangeSpec := { name := "fnCountRingsOnce", vars := ["loop.example/metricstore/impl.alertFollows"], fn := fun _ => fun
  | [d, g1] => { results := [.lit (.bool false)], args := [d], vars := [g1] }
  | _ => none }
def FnCountRingsOnceWrongFalsely : Prop := fnCountRingsOnceRow.holds Tryd.pinned (OpenSpec.ofChange fnCountRingsOnceWrong)

/- THE SECOND FORM. 'bulk': how many values and letters a reading holds, each counted each time it is reached (what is shared counts as often as it is met; a slice's spare places count too). A statement '..UptoSaid' is the law's where the arguments, and the package variables that the reading takes, are together of bulk at most 1048576: NARROWER than '..Said'. Prove '..Said' where nothing that the law and all that it calls make is longer than what came in: it says more and counts as full. Else prove '..UptoSaid'. A law counts once. -/
mutual
def uptoBulk {H : Type} : DataW H → Nat
  | .lit (.string bytes) => bytes.length + 1
  | .lit _ => 1
  | .nil => 1
  | .ptr d => uptoBulk d + 1
  | .slice elems spare => uptoBulkAll elems + uptoBulkAll spare + 1
  | .agg parts => uptoBulkAll parts + 1
  | .iface _ d => uptoBulk d + 1
  | .map entries => uptoBulkEntries entries + 1
  | .held _ => 1
def uptoBulkAll {H : Type} : List (DataW H) → Nat
  | [] => 0
  | d :: r => uptoBulk d + uptoBulkAll r
def uptoBulkEntries {H : Type} : List (Lit × DataW H) → Nat
  | [] => 0
  | x :: r => uptoBulkEntry x + uptoBulkEntries r
def uptoBulkEntry {H : Type} : Lit × DataW H → Nat
  | (.string bytes, d) => bytes.length + uptoBulk d + 1
  | (_, d) => uptoBulk d + 1
 end
def uptoSmall : (H : Type) → List (DataW H) → Bool := fun _ ds => decide (uptoBulkAll ds ≤ 1048576)
def OpenSpec.upto (s : _root_.Go.ChangeSpec) : _root_.Go.OpenSpec := { _root_.Go.OpenSpec.ofChange s with cond := some uptoSmall }

/-- 'laws.FnExactStepAlert', WHERE WHAT IT READS IS OF BULK AT MOST 1048576: true; the input reads as it did. -/
def fnExactStepAlertUptoRow : OpenClaim := { program := "ytfhoalglgmdiaaadoor", sum := "2dd65978cc0dff46c8277be45ec18135b52ab32ee4c4c9ad5ef8c726e067332a", func := "loop.example/metricstore/laws.FnExactStepAlert", spec := "fnExactStepAlert", named := ["loop.example/metricstore/impl.alertFollows"], apart := false, laid := [("loop.example/metricstore/impl.alertFollows", laid_loop_example_metricstore_impl_alertFollows)], narrowed := true }
def FnExactStepAlertUptoSaid : Prop := fnExactStepAlertUptoRow.holds Tryd.pinned (OpenSpec.upto fnExactStepAlertSpec)

/-- 'laws.FnStepAlert', WHERE WHAT IT READS IS OF BULK AT MOST 1048576: true; the input reads as it did. -/
def fnStepAlertUptoRow : OpenClaim := { program := "ytfhoalglgmdiaaadoor", sum := "2dd65978cc0dff46c8277be45ec18135b52ab32ee4c4c9ad5ef8c726e067332a", func := "loop.example/metricstore/laws.FnStepAlert", spec := "fnStepAlert", named := ["loop.example/metricstore/impl.alertFollows"], apart := false, laid := [("loop.example/metricstore/impl.alertFollows", laid_loop_example_metricstore_impl_alertFollows)], narrowed := true }
def FnStepAlertUptoSaid : Prop := fnStepAlertUptoRow.holds Tryd.pinned (OpenSpec.upto fnStepAlertSpec)

/-- 'laws.FnStepAlertHold', WHERE WHAT IT READS IS OF BULK AT MOST 1048576: true; the input reads as it did. -/
def fnStepAlertHoldUptoRow : OpenClaim := { program := "ytfhoalglgmdiaaadoor", sum := "2dd65978cc0dff46c8277be45ec18135b52ab32ee4c4c9ad5ef8c726e067332a", func := "loop.example/metricstore/laws.FnStepAlertHold", spec := "fnStepAlertHold", named := ["loop.example/metricstore/impl.alertFollows"], apart := false, laid := [("loop.example/metricstore/impl.alertFollows", laid_loop_example_metricstore_impl_alertFollows)], narrowed := true }
def FnStepAlertHoldUptoSaid : Prop := fnStepAlertHoldUptoRow.holds Tryd.pinned (OpenSpec.upto fnStepAlertHoldSpec)

/-- 'laws.FnStepAlertTwice', WHERE WHAT IT READS IS OF BULK AT MOST 1048576: true; the input reads as it did. -/
def fnStepAlertTwiceUptoRow : OpenClaim := { program := "ytfhoalglgmdiaaadoor", sum := "2dd65978cc0dff46c8277be45ec18135b52ab32ee4c4c9ad5ef8c726e067332a", func := "loop.example/metricstore/laws.FnStepAlertTwice", spec := "fnStepAlertTwice", named := ["loop.example/metricstore/impl.alertFollows"], apart := false, laid := [("loop.example/metricstore/impl.alertFollows", laid_loop_example_metricstore_impl_alertFollows)], narrowed := true }
def FnStepAlertTwiceUptoSaid : Prop := fnStepAlertTwiceUptoRow.holds Tryd.pinned (OpenSpec.upto fnStepAlertTwiceSpec)

/-- 'laws.FnAlertStates', WHERE WHAT IT READS IS OF BULK AT MOST 1048576: true; the input reads as it did. -/
def fnAlertStatesUptoRow : OpenClaim := { program := "ytfhoalglgmdiaaadoor", sum := "2dd65978cc0dff46c8277be45ec18135b52ab32ee4c4c9ad5ef8c726e067332a", func := "loop.example/metricstore/laws.FnAlertStates", spec := "fnAlertStates", named := ["loop.example/metricstore/impl.alertFollows"], apart := false, laid := [("loop.example/metricstore/impl.alertFollows", laid_loop_example_metricstore_impl_alertFollows)], narrowed := true }
def FnAlertStatesUptoSaid : Prop := fnAlertStatesUptoRow.holds Tryd.pinned (OpenSpec.upto fnAlertStatesSpec)

/-- 'laws.FnAlertStatesHigh', WHERE WHAT IT READS IS OF BULK AT MOST 1048576: true; the input reads as it did. -/
def fnAlertStatesHighUptoRow : OpenClaim := { program := "ytfhoalglgmdiaaadoor", sum := "2dd65978cc0dff46c8277be45ec18135b52ab32ee4c4c9ad5ef8c726e067332a", func := "loop.example/metricstore/laws.FnAlertStatesHigh", spec := "fnAlertStatesHigh", named := ["loop.example/metricstore/impl.alertFollows"], apart := false, laid := [("loop.example/metricstore/impl.alertFollows", laid_loop_example_metricstore_impl_alertFollows)], narrowed := true }
def FnAlertStatesHighUptoSaid : Prop := fnAlertStatesHighUptoRow.holds Tryd.pinned (OpenSpec.upto fnAlertStatesHighSpec)

/-- 'laws.FnAlertStatesQuiet', WHERE WHAT IT READS IS OF BULK AT MOST 1048576: true; the input reads as it did. -/
def fnAlertStatesQuietUptoRow : OpenClaim := { program := "ytfhoalglgmdiaaadoor", sum := "2dd65978cc0dff46c8277be45ec18135b52ab32ee4c4c9ad5ef8c726e067332a", func := "loop.example/metricstore/laws.FnAlertStatesQuiet", spec := "fnAlertStatesQuiet", named := ["loop.example/metricstore/impl.alertFollows"], apart := false, laid := [("loop.example/metricstore/impl.alertFollows", laid_loop_example_metricstore_impl_alertFollows)], narrowed := true }
def FnAlertStatesQuietUptoSaid : Prop := fnAlertStatesQuietUptoRow.holds Tryd.pinned (OpenSpec.upto fnAlertStatesQuietSpec)

/-- 'laws.FnExactCountRings', WHERE WHAT IT READS IS OF BULK AT MOST 1048576: true; the input reads as it did. -/
def fnExactCountRingsUptoRow : OpenClaim := { program := "ytfhoalglgmdiaaadoor", sum := "2dd65978cc0dff46c8277be45ec18135b52ab32ee4c4c9ad5ef8c726e067332a", func := "loop.example/metricstore/laws.FnExactCountRings", spec := "fnExactCountRings", named := ["loop.example/metricstore/impl.alertFollows"], apart := false, laid := [("loop.example/metricstore/impl.alertFollows", laid_loop_example_metricstore_impl_alertFollows)], narrowed := true }
def FnExactCountRingsUptoSaid : Prop := fnExactCountRingsUptoRow.holds Tryd.pinned (OpenSpec.upto fnExactCountRingsSpec)

/-- 'laws.FnExactAlertStates', WHERE WHAT IT READS IS OF BULK AT MOST 1048576: true; the input reads as it did. -/
def fnExactAlertStatesUptoRow : OpenClaim := { program := "ytfhoalglgmdiaaadoor", sum := "2dd65978cc0dff46c8277be45ec18135b52ab32ee4c4c9ad5ef8c726e067332a", func := "loop.example/metricstore/laws.FnExactAlertStates", spec := "fnExactAlertStates", named := ["loop.example/metricstore/impl.alertFollows"], apart := false, laid := [("loop.example/metricstore/impl.alertFollows", laid_loop_example_metricstore_impl_alertFollows)], narrowed := true }
def FnExactAlertStatesUptoSaid : Prop := fnExactAlertStatesUptoRow.holds Tryd.pinned (OpenSpec.upto fnExactAlertStatesSpec)

/-- 'laws.FnCountRings', WHERE WHAT IT READS IS OF BULK AT MOST 1048576: true; the input reads as it did. -/
def fnCountRingsUptoRow : OpenClaim := { program := "ytfhoalglgmdiaaadoor", sum := "2dd65978cc0dff46c8277be45ec18135b52ab32ee4c4c9ad5ef8c726e067332a", func := "loop.example/metricstore/laws.FnCountRings", spec := "fnCountRings", named := ["loop.example/metricstore/impl.alertFollows"], apart := false, laid := [("loop.example/metricstore/impl.alertFollows", laid_loop_example_metricstore_impl_alertFollows)], narrowed := true }
def FnCountRingsUptoSaid : Prop := fnCountRingsUptoRow.holds Tryd.pinned (OpenSpec.upto fnCountRingsSpec)

/-- 'laws.FnCountRingsHold', WHERE WHAT IT READS IS OF BULK AT MOST 1048576: true; the input reads as it did. -/
def fnCountRingsHoldUptoRow : OpenClaim := { program := "ytfhoalglgmdiaaadoor", sum := "2dd65978cc0dff46c8277be45ec18135b52ab32ee4c4c9ad5ef8c726e067332a", func := "loop.example/metricstore/laws.FnCountRingsHold", spec := "fnCountRingsHold", named := ["loop.example/metricstore/impl.alertFollows"], apart := false, laid := [("loop.example/metricstore/impl.alertFollows", laid_loop_example_metricstore_impl_alertFollows)], narrowed := true }
def FnCountRingsHoldUptoSaid : Prop := fnCountRingsHoldUptoRow.holds Tryd.pinned (OpenSpec.upto fnCountRingsHoldSpec)

/-- 'laws.FnCountRingsOnce', WHERE WHAT IT READS IS OF BULK AT MOST 1048576: true; the input reads as it did. -/
def fnCountRingsOnceUptoRow : OpenClaim := { program := "ytfhoalglgmdiaaadoor", sum := "2dd65978cc0dff46c8277be45ec18135b52ab32ee4c4c9ad5ef8c726e067332a", func := "loop.example/metricstore/laws.FnCountRingsOnce", spec := "fnCountRingsOnce", named := ["loop.example/metricstore/impl.alertFollows"], apart := false, laid := [("loop.example/metricstore/impl.alertFollows", laid_loop_example_metricstore_impl_alertFollows)], narrowed := true }
def FnCountRingsOnceUptoSaid : Prop := fnCountRingsOnceUptoRow.holds Tryd.pinned (OpenSpec.upto fnCountRingsOnceSpec)

end Rows
end Go.Proofs.YtfhoalglgmdiaaaDoor
