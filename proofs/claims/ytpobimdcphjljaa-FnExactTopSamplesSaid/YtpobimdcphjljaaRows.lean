/-
  No cell of these rows narrows 'for every input' (looked for: loops, veiled, ifaces, maps, wideKeys, modest, calm, conditions, laid).
  DERIVED. THE GIVEN ROWS OF THIS SEAT. 10 by the template 'for every input the law returns true; each argument reads behind the call as it read before'; 0 by the template 'total and deterministic' (their statements: YtpobimdcphjljaaTotals.lean).
  GIVEN WITH THE SEED: the statements are not yours to turn. If you find one false, say at which input.
  Laid BY PROGRAM, IN A SANDBOX (cutbox-rows.mjs): the forced cells as the released guide's own fill.sh prints them over the translation 5ee081304c17a111… (all of the seat's roots in one cut). By AI agents, Wed Nov 11 2026. No macro, syntax, notation, axiom, sorry.
-/
import Derived.Test.YtpobimdcphjljaaChecked
import GoSem.Claim
import GoSem.ClaimJoined
import GoSem.ClaimMapViews
import Derived.JoinedTies
import Derived.KernelRfl
namespace Go.Proofs.Ytpobimdcphjljaa
/- THE CELL 'sum', in the pinned program and in every row, IS THE sha256 OF THE DUMP (.gsa) THAT YtpobimdcphjljaaProg.lean LOADS. Nothing in Lean hashes anything: it is a label: what it is worth is what the hold of that sum in a sandbox is worth. -/
noncomputable def Try.pinned : Pinned := { name := "ytpobimdcphjljaa", sum := "5ee081304c17a1111bd38c2ecccfacb04c0c9ce08bff6dda9e154f4d4dfc2627", checked := Try.checked }
namespace Rows
def none {H : Type} : Left H := { results := [], args := [] }

/-- 'laws.FnTopSamplesAll': WHATEVER THE INPUT: true; the input reads as it did. -/
def fnTopSamplesAllSpec : ChangeSpec := { name := "fnTopSamplesAll", fn := fun _ => fun
  | [d] => { results := [.lit (.bool true)], args := [d] }
  | _ => none }
def fnTopSamplesAllRow : OpenClaim := { program := "ytpobimdcphjljaa", sum := "5ee081304c17a1111bd38c2ecccfacb04c0c9ce08bff6dda9e154f4d4dfc2627", func := "loop.example/metricstore/laws.FnTopSamplesAll", spec := "fnTopSamplesAll", inPlace := ["internal/bytealg.abigen_runtime_cmpstring"], unfollowed := true, recurses := true, apart := false }
def FnTopSamplesAllSaid : Prop := fnTopSamplesAllRow.holds Try.pinned (OpenSpec.ofChange fnTopSamplesAllSpec)

/-- ITS FALSE NEIGHBOUR: 'it returns false'. Refute it at one input. -/
def fnTopSamplesAllWrong : ChangeSpec := { name := "fnTopSamplesAll", fn := fun _ => fun
  | [d] => { results := [.lit (.bool false)], args := [d] }
  | _ => none }
def FnTopSamplesAllWrongFalsely : Prop := fnTopSamplesAllRow.holds Try.pinned (OpenSpec.ofChange fnTopSamplesAllWrong)

/-- 'laws.FnTopSamplesMore': WHATEVER THE INPUT: true; the input reads as it did. -/
def fnTopSamplesMoreSpec : ChangeSpec := { name := "fnTopSamplesMore", fn := fun _ => fun
  | [d] => { results := [.lit (.bool true)], args := [d] }
  | _ => none }
def fnTopSamplesMoreRow : OpenClaim := { program := "ytpobimdcphjljaa", sum := "5ee081304c17a1111bd38c2ecccfacb04c0c9ce08bff6dda9e154f4d4dfc2627", func := "loop.example/metricstore/laws.FnTopSamplesMore", spec := "fnTopSamplesMore", inPlace := ["internal/bytealg.abigen_runtime_cmpstring"], unfollowed := true, recurses := true, apart := false }
def FnTopSamplesMoreSaid : Prop := fnTopSamplesMoreRow.holds Try.pinned (OpenSpec.ofChange fnTopSamplesMoreSpec)

/-- ITS FALSE NEIGHBOUR: 'it returns false'. Refute it at one input. -/
def fnTopSamplesMoreWrong : ChangeSpec := { name := "fnTopSamplesMore", fn := fun _ => fun
  | [d] => { results := [.lit (.bool false)], args := [d] }
  | _ => none }
def FnTopSamplesMoreWrongFalsely : Prop := fnTopSamplesMoreRow.holds Try.pinned (OpenSpec.ofChange fnTopSamplesMoreWrong)

/-- 'laws.FnExactTopSamples': WHATEVER THE INPUT: true; the input reads as it did. -/
def fnExactTopSamplesSpec : ChangeSpec := { name := "fnExactTopSamples", fn := fun _ => fun
  | [d1, d2] => { results := [.lit (.bool true)], args := [d1, d2] }
  | _ => none }
def fnExactTopSamplesRow : OpenClaim := { program := "ytpobimdcphjljaa", sum := "5ee081304c17a1111bd38c2ecccfacb04c0c9ce08bff6dda9e154f4d4dfc2627", func := "loop.example/metricstore/laws.FnExactTopSamples", spec := "fnExactTopSamples", inPlace := ["internal/bytealg.abigen_runtime_cmpstring"], unfollowed := true, recurses := true, apart := false }
def FnExactTopSamplesSaid : Prop := fnExactTopSamplesRow.holds Try.pinned (OpenSpec.ofChange fnExactTopSamplesSpec)

/-- ITS FALSE NEIGHBOUR: 'it returns false'. Refute it at one input. -/
def fnExactTopSamplesWrong : ChangeSpec := { name := "fnExactTopSamples", fn := fun _ => fun
  | [d1, d2] => { results := [.lit (.bool false)], args := [d1, d2] }
  | _ => none }
def FnExactTopSamplesWrongFalsely : Prop := fnExactTopSamplesRow.holds Try.pinned (OpenSpec.ofChange fnExactTopSamplesWrong)

/-- 'laws.FnValidSamples': WHATEVER THE INPUT: true; the input reads as it did. -/
def fnValidSamplesSpec : ChangeSpec := { name := "fnValidSamples", fn := fun _ => fun
  | [d] => { results := [.lit (.bool true)], args := [d] }
  | _ => none }
def fnValidSamplesRow : OpenClaim := { program := "ytpobimdcphjljaa", sum := "5ee081304c17a1111bd38c2ecccfacb04c0c9ce08bff6dda9e154f4d4dfc2627", func := "loop.example/metricstore/laws.FnValidSamples", spec := "fnValidSamples", unfollowed := true, recurses := true, apart := false }
def FnValidSamplesSaid : Prop := fnValidSamplesRow.holds Try.pinned (OpenSpec.ofChange fnValidSamplesSpec)

/-- ITS FALSE NEIGHBOUR: 'it returns false'. Refute it at one input. -/
def fnValidSamplesWrong : ChangeSpec := { name := "fnValidSamples", fn := fun _ => fun
  | [d] => { results := [.lit (.bool false)], args := [d] }
  | _ => none }
def FnValidSamplesWrongFalsely : Prop := fnValidSamplesRow.holds Try.pinned (OpenSpec.ofChange fnValidSamplesWrong)

/-- 'laws.FnExactValidSamples': WHATEVER THE INPUT: true; the input reads as it did. -/
def fnExactValidSamplesSpec : ChangeSpec := { name := "fnExactValidSamples", fn := fun _ => fun
  | [d] => { results := [.lit (.bool true)], args := [d] }
  | _ => none }
def fnExactValidSamplesRow : OpenClaim := { program := "ytpobimdcphjljaa", sum := "5ee081304c17a1111bd38c2ecccfacb04c0c9ce08bff6dda9e154f4d4dfc2627", func := "loop.example/metricstore/laws.FnExactValidSamples", spec := "fnExactValidSamples", unfollowed := true, recurses := true, apart := false }
def FnExactValidSamplesSaid : Prop := fnExactValidSamplesRow.holds Try.pinned (OpenSpec.ofChange fnExactValidSamplesSpec)

/-- ITS FALSE NEIGHBOUR: 'it returns false'. Refute it at one input. -/
def fnExactValidSamplesWrong : ChangeSpec := { name := "fnExactValidSamples", fn := fun _ => fun
  | [d] => { results := [.lit (.bool false)], args := [d] }
  | _ => none }
def FnExactValidSamplesWrongFalsely : Prop := fnExactValidSamplesRow.holds Try.pinned (OpenSpec.ofChange fnExactValidSamplesWrong)

/-- 'laws.FnJoinSamples': WHATEVER THE INPUT: true; the input reads as it did. -/
def fnJoinSamplesSpec : ChangeSpec := { name := "fnJoinSamples", fn := fun _ => fun
  | [d] => { results := [.lit (.bool true)], args := [d] }
  | _ => none }
def fnJoinSamplesRow : OpenClaim := { program := "ytpobimdcphjljaa", sum := "5ee081304c17a1111bd38c2ecccfacb04c0c9ce08bff6dda9e154f4d4dfc2627", func := "loop.example/metricstore/laws.FnJoinSamples", spec := "fnJoinSamples", unfollowed := true, recurses := true, apart := false }
def FnJoinSamplesSaid : Prop := fnJoinSamplesRow.holds Try.pinned (OpenSpec.ofChange fnJoinSamplesSpec)

/-- ITS FALSE NEIGHBOUR: 'it returns false'. Refute it at one input. -/
def fnJoinSamplesWrong : ChangeSpec := { name := "fnJoinSamples", fn := fun _ => fun
  | [d] => { results := [.lit (.bool false)], args := [d] }
  | _ => none }
def FnJoinSamplesWrongFalsely : Prop := fnJoinSamplesRow.holds Try.pinned (OpenSpec.ofChange fnJoinSamplesWrong)

/-- 'laws.FnJoinSamplesBack': WHATEVER THE INPUT: true; the input reads as it did. -/
def fnJoinSamplesBackSpec : ChangeSpec := { name := "fnJoinSamplesBack", fn := fun _ => fun
  | [d] => { results := [.lit (.bool true)], args := [d] }
  | _ => none }
def fnJoinSamplesBackRow : OpenClaim := { program := "ytpobimdcphjljaa", sum := "5ee081304c17a1111bd38c2ecccfacb04c0c9ce08bff6dda9e154f4d4dfc2627", func := "loop.example/metricstore/laws.FnJoinSamplesBack", spec := "fnJoinSamplesBack", unfollowed := true, recurses := true, apart := false }
def FnJoinSamplesBackSaid : Prop := fnJoinSamplesBackRow.holds Try.pinned (OpenSpec.ofChange fnJoinSamplesBackSpec)

/-- ITS FALSE NEIGHBOUR: 'it returns false'. Refute it at one input. -/
def fnJoinSamplesBackWrong : ChangeSpec := { name := "fnJoinSamplesBack", fn := fun _ => fun
  | [d] => { results := [.lit (.bool false)], args := [d] }
  | _ => none }
def FnJoinSamplesBackWrongFalsely : Prop := fnJoinSamplesBackRow.holds Try.pinned (OpenSpec.ofChange fnJoinSamplesBackWrong)

/-- 'laws.FnJoinSamplesLabels': WHATEVER THE INPUT: true; the input reads as it did. -/
def fnJoinSamplesLabelsSpec : ChangeSpec := { name := "fnJoinSamplesLabels", fn := fun _ => fun
  | [d] => { results := [.lit (.bool true)], args := [d] }
  | _ => none }
def fnJoinSamplesLabelsRow : OpenClaim := { program := "ytpobimdcphjljaa", sum := "5ee081304c17a1111bd38c2ecccfacb04c0c9ce08bff6dda9e154f4d4dfc2627", func := "loop.example/metricstore/laws.FnJoinSamplesLabels", spec := "fnJoinSamplesLabels", unfollowed := true, recurses := true, apart := false }
def FnJoinSamplesLabelsSaid : Prop := fnJoinSamplesLabelsRow.holds Try.pinned (OpenSpec.ofChange fnJoinSamplesLabelsSpec)

/-- ITS FALSE NEIGHBOUR: 'it returns false'. Refute it at one input. -/
def fnJoinSamplesLabelsWrong : ChangeSpec := { name := "fnJoinSamplesLabels", fn := fun _ => fun
  | [d] => { results := [.lit (.bool false)], args := [d] }
  | _ => none }
def FnJoinSamplesLabelsWrongFalsely : Prop := fnJoinSamplesLabelsRow.holds Try.pinned (OpenSpec.ofChange fnJoinSamplesLabelsWrong)

/-- 'laws.FnExactJoinSamples': WHATEVER THE INPUT: true; the input reads as it did. -/
def fnExactJoinSamplesSpec : ChangeSpec := { name := "fnExactJoinSamples", fn := fun _ => fun
  | [d1, d2] => { results := [.lit (.bool true)], args := [d1, d2] }
  | _ => none }
def fnExactJoinSamplesRow : OpenClaim := { program := "ytpobimdcphjljaa", sum := "5ee081304c17a1111bd38c2ecccfacb04c0c9ce08bff6dda9e154f4d4dfc2627", func := "loop.example/metricstore/laws.FnExactJoinSamples", spec := "fnExactJoinSamples", unfollowed := true, recurses := true, apart := false }
def FnExactJoinSamplesSaid : Prop := fnExactJoinSamplesRow.holds Try.pinned (OpenSpec.ofChange fnExactJoinSamplesSpec)

/-- ITS FALSE NEIGHBOUR: 'it returns false'. Refute it at one input. -/
def fnExactJoinSamplesWrong : ChangeSpec := { name := "fnExactJoinSamples", fn := fun _ => fun
  | [d1, d2] => { results := [.lit (.bool false)], args := [d1, d2] }
  | _ => none }
def FnExactJoinSamplesWrongFalsely : Prop := fnExactJoinSamplesRow.holds Try.pinned (OpenSpec.ofChange fnExactJoinSamplesWrong)

/-- 'laws.FnTopSamples': WHATEVER THE INPUT: true; the input reads as it did. -/
def fnTopSamplesSpec : ChangeSpec := { name := "fnTopSamples", fn := fun _ => fun
  | [d] => { results := [.lit (.bool true)], args := [d] }
  | _ => none }
def fnTopSamplesRow : OpenClaim := { program := "ytpobimdcphjljaa", sum := "5ee081304c17a1111bd38c2ecccfacb04c0c9ce08bff6dda9e154f4d4dfc2627", func := "loop.example/metricstore/laws.FnTopSamples", spec := "fnTopSamples", inPlace := ["internal/bytealg.abigen_runtime_cmpstring"], unfollowed := true, recurses := true, apart := false }
def FnTopSamplesSaid : Prop := fnTopSamplesRow.holds Try.pinned (OpenSpec.ofChange fnTopSamplesSpec)

/-- ITS FALSE NEIGHBOUR: 'it returns false'. Refute it at one input. -/
def fnTopSamplesWrong : ChangeSpec := { name := "fnTopSamples", fn := fun _ => fun
  | [d] => { results := [.lit (.bool false)], args := [d] }
  | _ => none }
def FnTopSamplesWrongFalsely : Prop := fnTopSamplesRow.holds Try.pinned (OpenSpec.ofChange fnTopSamplesWrong)

/- THE SECOND FORM. 'bulk': how many values and letters a reading holds, each counted each time it is reached (what is shared counts as often as it is met; a slice's spare places count too). A statement '..UptoSaid' is the law's where the arguments, and the package variables that the reading takes, are together of bulk at most 1048576: NARROWER than '..Said'. Prove '..Said' where nothing that the law and all that it calls make is longer than what came in: it says more and counts as full. Else prove '..UptoSaid'. A law counts once. -/
mutual
def uptoBulk {H : Type} : DataW H → Nat
  | .lit (.string bytes) => bytes.length + 1
  | .lit _ => 1
  | .nil => 1
  | .ptr d => uptoBulk d + 1
  | .slice elems spare => uptoBulkAll elems + uptoBulkAll spare + 1
  | .agg parts => uptoBulkAll parts + 1
  | .iface _ d => uptoBulk d + 1
  | .map entries => uptoBulkEntries entries + 1
  | .held _ => 1
def uptoBulkAll {H : Type} : List (DataW H) → Nat
  | [] => 0
  | d :: r => uptoBulk d + uptoBulkAll r
def uptoBulkEntries {H : Type} : List (Lit × DataW H) → Nat
  | [] => 0
  | x :: r => uptoBulkEntry x + uptoBulkEntries r
def uptoBulkEntry {H : Type} : Lit × DataW H → Nat
  | (.string bytes, d) => bytes.length + uptoBulk d + 1
  | (_, d) => uptoBulk d + 1
 end
def uptoSmall : (H : Type) → List (DataW H) → Bool := fun _ ds => decide (uptoBulkAll ds ≤ 1048576)
def OpenSpec.upto (s : _root_.Go.ChangeSpec) : _root_.Go.OpenSpec := { _root_.Go.OpenSpec.ofChange s with cond := some uptoSmall }

/-- 'laws.FnTopSamplesAll', WHERE WHAT IT READS IS OF BULK AT MOST 1048576: true; the input reads as it did. -/
def fnTopSamplesAllUptoRow : OpenClaim := { program := "ytpobimdcphjljaa", sum := "5ee081304c17a1111bd38c2ecccfacb04c0c9ce08bff6dda9e154f4d4dfc2627", func := "loop.example/metricstore/laws.FnTopSamplesAll", spec := "fnTopSamplesAll", inPlace := ["internal/bytealg.abigen_runtime_cmpstring"], unfollowed := true, recurses := true, apart := false, narrowed := true }
def FnTopSamplesAllUptoSaid : Prop := fnTopSamplesAllUptoRow.holds Try.pinned (OpenSpec.upto fnTopSamplesAllSpec)

/-- 'laws.FnTopSamplesMore', WHERE WHAT IT READS IS OF BULK AT MOST 1048576: true; the input reads as it did. -/
def fnTopSamplesMoreUptoRow : OpenClaim := { program := "ytpobimdcphjljaa", sum := "5ee081304c17a1111bd38c2ecccfacb04c0c9ce08bff6dda9e154f4d4dfc2627", func := "loop.example/metricstore/laws.FnTopSamplesMore", spec := "fnTopSamplesMore", inPlace := ["internal/bytealg.abigen_runtime_cmpstring"], unfollowed := true, recurses := true, apart := false, narrowed := true }
def FnTopSamplesMoreUptoSaid : Prop := fnTopSamplesMoreUptoRow.holds Try.pinned (OpenSpec.upto fnTopSamplesMoreSpec)

/-- 'laws.FnExactTopSamples', WHERE WHAT IT READS IS OF BULK AT MOST 1048576: true; the input reads as it did. -/
def fnExactTopSamplesUptoRow : OpenClaim := { program := "ytpobimdcphjljaa", sum := "5ee081304c17a1111bd38c2ecccfacb04c0c9ce08bff6dda9e154f4d4dfc2627", func := "loop.example/metricstore/laws.FnExactTopSamples", spec := "fnExactTopSamples", inPlace := ["internal/bytealg.abigen_runtime_cmpstring"], unfollowed := true, recurses := true, apart := false, narrowed := true }
def FnExactTopSamplesUptoSaid : Prop := fnExactTopSamplesUptoRow.holds Try.pinned (OpenSpec.upto fnExactTopSamplesSpec)

/-- 'laws.FnValidSamples', WHERE WHAT IT READS IS OF BULK AT MOST 1048576: true; the input reads as it did. -/
def fnValidSamplesUptoRow : OpenClaim := { program := "ytpobimdcphjljaa", sum := "5ee081304c17a1111bd38c2ecccfacb04c0c9ce08bff6dda9e154f4d4dfc2627", func := "loop.example/metricstore/laws.FnValidSamples", spec := "fnValidSamples", unfollowed := true, recurses := true, apart := false, narrowed := true }
def FnValidSamplesUptoSaid : Prop := fnValidSamplesUptoRow.holds Try.pinned (OpenSpec.upto fnValidSamplesSpec)

/-- 'laws.FnExactValidSamples', WHERE WHAT IT READS IS OF BULK AT MOST 1048576: true; the input reads as it did. -/
def fnExactValidSamplesUptoRow : OpenClaim := { program := "ytpobimdcphjljaa", sum := "5ee081304c17a1111bd38c2ecccfacb04c0c9ce08bff6dda9e154f4d4dfc2627", func := "loop.example/metricstore/laws.FnExactValidSamples", spec := "fnExactValidSamples", unfollowed := true, recurses := true, apart := false, narrowed := true }
def FnExactValidSamplesUptoSaid : Prop := fnExactValidSamplesUptoRow.holds Try.pinned (OpenSpec.upto fnExactValidSamplesSpec)

/-- 'laws.FnJoinSamples', WHERE WHAT IT READS IS OF BULK AT MOST 1048576: true; the input reads as it did. -/
def fnJoinSamplesUptoRow : OpenClaim := { program := "ytpobimdcphjljaa", sum := "5ee081304c17a1111bd38c2ecccfacb04c0c9ce08bff6dda9e154f4d4dfc2627", func := "loop.example/metricstore/laws.FnJoinSamples", spec := "fnJoinSamples", unfollowed := true, recurses := true, apart := false, narrowed := true }
def FnJoinSamplesUptoSaid : Prop := fnJoinSamplesUptoRow.holds Try.pinned (OpenSpec.upto fnJoinSamplesSpec)

/-- 'laws.FnJoinSamplesBack', WHERE WHAT IT READS IS OF BULK AT MOST 1048576: true; the input reads as it did. -/
def fnJoinSamplesBackUptoRow : OpenClaim := { program := "ytpobimdcphjljaa", sum := "5ee081304c17a1111bd38c2ecccfacb04c0c9ce08bff6dda9e154f4d4dfc2627", func := "loop.example/metricstore/laws.FnJoinSamplesBack", spec := "fnJoinSamplesBack", unfollowed := true, recurses := true, apart := false, narrowed := true }
def FnJoinSamplesBackUptoSaid : Prop := fnJoinSamplesBackUptoRow.holds Try.pinned (OpenSpec.upto fnJoinSamplesBackSpec)

/-- 'laws.FnJoinSamplesLabels', WHERE WHAT IT READS IS OF BULK AT MOST 1048576: true; the input reads as it did. -/
def fnJoinSamplesLabelsUptoRow : OpenClaim := { program := "ytpobimdcphjljaa", sum := "5ee081304c17a1111bd38c2ecccfacb04c0c9ce08bff6dda9e154f4d4dfc2627", func := "loop.example/metricstore/laws.FnJoinSamplesLabels", spec := "fnJoinSamplesLabels", unfollowed := true, recurses := true, apart := false, narrowed := true }
def FnJoinSamplesLabelsUptoSaid : Prop := fnJoinSamplesLabelsUptoRow.holds Try.pinned (OpenSpec.upto fnJoinSamplesLabelsSpec)

/-- 'laws.FnExactJoinSamples', WHERE WHAT IT READS IS OF BULK AT MOST 1048576: true; the input reads as it did. -/
def fnExactJoinSamplesUptoRow : OpenClaim := { program := "ytpobimdcphjljaa", sum := "5ee081304c17a1111bd38c2ecccfacb04c0c9ce08bff6dda9e154f4d4dfc2627", func := "loop.example/metricstore/laws.FnExactJoinSamples", spec := "fnExactJoinSamples", unfollowed := true, recurses := true, apart := false, narrowed := true }
def FnExactJoinSamplesUptoSaid : Prop := fnExactJoinSamplesUptoRow.holds Try.pinned (OpenSpec.upto fnExactJoinSamplesSpec)

/-- 'laws.FnTopSamples', WHERE WHAT IT READS IS OF BULK AT MOST 1048576: true; the input reads as it did. -/
def fnTopSamplesUptoRow : OpenClaim := { program := "ytpobimdcphjljaa", sum := "5ee081304c17a1111bd38c2ecccfacb04c0c9ce08bff6dda9e154f4d4dfc2627", func := "loop.example/metricstore/laws.FnTopSamples", spec := "fnTopSamples", inPlace := ["internal/bytealg.abigen_runtime_cmpstring"], unfollowed := true, recurses := true, apart := false, narrowed := true }
def FnTopSamplesUptoSaid : Prop := fnTopSamplesUptoRow.holds Try.pinned (OpenSpec.upto fnTopSamplesSpec)

end Rows
end Go.Proofs.Ytpobimdcphjljaa
