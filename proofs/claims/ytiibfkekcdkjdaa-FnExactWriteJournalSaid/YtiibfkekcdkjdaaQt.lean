/-
  Structs of numbers against each other, type by type.
-/
import Derived.Test.YtiibfkekcdkjdaaBr
namespace Go.Proofs.Ytiibfkekcdkjdaa
open Go
set_option linter.unusedVariables false
set_option linter.unusedSimpArgs false
set_option linter.unnecessarySimpa false

theorem eqT28 (d : Nat) (w : World) {x0 y0 : Int} {x1 y1 : Int} : (Op.equalIn (d + 2) 28 (.agg #[.int .i64 x0, .int .i64 x1]) (.agg #[.int .i64 y0, .int .i64 y1])).run Try.prog w = .ok ((x0 == y0) && (x1 == y1)) w := by
  rw [run_equalIn_struct w (d + 1) _ _ _ (by kernel_rfl) (by kernel_rfl)]
  simp [Program.fieldsOf, Try.underlying28, Op.eqFields, part, run_equalIn_int _ d 3 .i64 .i64 x0 y0 Try.underlying3, run_equalIn_int _ d 3 .i64 .i64 x1 y1 Try.underlying3]
  repeat' split
  all_goals simp_all
/- 28: laws.Point -/
theorem eqT30 (d : Nat) (w : World) {x0 y0 : Int} {x1 y1 : Int} : (Op.equalIn (d + 2) 30 (.agg #[.int .i64 x0, .int .i64 x1]) (.agg #[.int .i64 y0, .int .i64 y1])).run Try.prog w = .ok ((x0 == y0) && (x1 == y1)) w := by
  rw [run_equalIn_struct w (d + 1) _ _ _ (by kernel_rfl) (by kernel_rfl)]
  simp [Program.fieldsOf, Try.underlying30, Op.eqFields, part, run_equalIn_int _ d 3 .i64 .i64 x0 y0 Try.underlying3, run_equalIn_int _ d 3 .i64 .i64 x1 y1 Try.underlying3]
  repeat' split
  all_goals simp_all
/- 30: impl.Point -/
theorem eqT49 (d : Nat) (w : World) {x0 y0 : Int} {x1 y1 : Int} {x2 y2 : Int} : (Op.equalIn (d + 3) 49 (.agg #[.int .i64 x0, .int .i64 x1, .int .i64 x2]) (.agg #[.int .i64 y0, .int .i64 y1, .int .i64 y2])).run Try.prog w = .ok ((x0 == y0) && ((x1 == y1) && (x2 == y2))) w := by
  rw [run_equalIn_struct w (d + 2) _ _ _ (by kernel_rfl) (by kernel_rfl)]
  simp [Program.fieldsOf, Try.underlying49, Op.eqFields, part, run_equalIn_int _ (d + 1) 3 .i64 .i64 x0 y0 Try.underlying3, eqT30 d _ (x0 := x1) (y0 := y1) (x1 := x2) (y1 := y2)]
  repeat' split
  all_goals simp_all
/- 49: impl.Record -/
theorem eqT62 (d : Nat) (w : World) {x0 y0 : Int} {x1 y1 : Int} {x2 y2 : Int} : (Op.equalIn (d + 3) 62 (.agg #[.int .i64 x0, .int .i64 x1, .int .i64 x2]) (.agg #[.int .i64 y0, .int .i64 y1, .int .i64 y2])).run Try.prog w = .ok ((x0 == y0) && ((x1 == y1) && (x2 == y2))) w := by
  rw [run_equalIn_struct w (d + 2) _ _ _ (by kernel_rfl) (by kernel_rfl)]
  simp [Program.fieldsOf, Try.underlying62, Op.eqFields, part, run_equalIn_int _ (d + 1) 3 .i64 .i64 x0 y0 Try.underlying3, eqT28 d _ (x0 := x1) (y0 := y1) (x1 := x2) (y1 := y2)]
  repeat' split
  all_goals simp_all
/- 62: laws.Record -/
end Go.Proofs.Ytiibfkekcdkjdaa
