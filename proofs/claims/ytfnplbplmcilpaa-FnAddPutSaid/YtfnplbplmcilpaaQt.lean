/-
  Structs of numbers against each other, type by type.
-/
import Derived.Test.YtfnplbplmcilpaaBr
namespace Go.Proofs.Ytfnplbplmcilpaa
open Go
set_option linter.unusedVariables false
set_option linter.unusedSimpArgs false
set_option linter.unnecessarySimpa false

theorem eqT40 (d : Nat) (w : World) {x0 y0 : Int} {x1 y1 : Int} : (Op.equalIn (d + 2) 40 (.agg #[.int .i64 x0, .int .i64 x1]) (.agg #[.int .i64 y0, .int .i64 y1])).run Try.prog w = .ok ((x0 == y0) && (x1 == y1)) w := by
  rw [run_equalIn_struct w (d + 1) _ _ _ (by kernel_rfl) (by kernel_rfl)]
  simp [Program.fieldsOf, Try.underlying40, Op.eqFields, part, run_equalIn_int _ d 3 .i64 .i64 x0 y0 Try.underlying3, run_equalIn_int _ d 3 .i64 .i64 x1 y1 Try.underlying3]
  repeat' split
  all_goals simp_all
/- 40: impl.Point -/
end Go.Proofs.Ytfnplbplmcilpaa
