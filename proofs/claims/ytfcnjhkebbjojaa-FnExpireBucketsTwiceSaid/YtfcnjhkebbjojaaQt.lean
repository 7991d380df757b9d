/-
  Structs of numbers against each other, type by type.
-/
import Derived.Test.YtfcnjhkebbjojaaBr
namespace Go.Proofs.Ytfcnjhkebbjojaa
open Go
set_option linter.unusedVariables false
set_option linter.unusedSimpArgs false
set_option linter.unnecessarySimpa false

theorem eqT29 (d : Nat) (w : World) {x0 y0 : Int} {x1 y1 : Int} : (Op.equalIn (d + 2) 29 (.agg #[.int .i64 x0, .int .i64 x1]) (.agg #[.int .i64 y0, .int .i64 y1])).run Try.prog w = .ok ((x0 == y0) && (x1 == y1)) w := by
  rw [run_equalIn_struct w (d + 1) _ _ _ (by kernel_rfl) (by kernel_rfl)]
  simp [Program.fieldsOf, Try.underlying29, Op.eqFields, part, run_equalIn_int _ d 3 .i64 .i64 x0 y0 Try.underlying3, run_equalIn_int _ d 3 .i64 .i64 x1 y1 Try.underlying3]
  repeat' split
  all_goals simp_all
/- 29: impl.Tier -/
theorem eqT46 (d : Nat) (w : World) {x0 y0 : Int} {x1 y1 : Int} {x2 y2 : Int} {x3 y3 : Int} {x4 y4 : Int} : (Op.equalIn (d + 2) 46 (.agg #[.int .i64 x0, .int .i64 x1, .int .i64 x2, .int .i64 x3, .int .i64 x4]) (.agg #[.int .i64 y0, .int .i64 y1, .int .i64 y2, .int .i64 y3, .int .i64 y4])).run Try.prog w = .ok ((x0 == y0) && ((x1 == y1) && ((x2 == y2) && ((x3 == y3) && (x4 == y4))))) w := by
  rw [run_equalIn_struct w (d + 1) _ _ _ (by kernel_rfl) (by kernel_rfl)]
  simp [Program.fieldsOf, Try.underlying46, Op.eqFields, part, run_equalIn_int _ d 3 .i64 .i64 x0 y0 Try.underlying3, run_equalIn_int _ d 3 .i64 .i64 x1 y1 Try.underlying3, run_equalIn_int _ d 3 .i64 .i64 x2 y2 Try.underlying3, run_equalIn_int _ d 3 .i64 .i64 x3 y3 Try.underlying3, run_equalIn_int _ d 3 .i64 .i64 x4 y4 Try.underlying3]
  repeat' split
  all_goals simp_all
/- 46: impl.Bucket -/
theorem eqT61 (d : Nat) (w : World) {x0 y0 : Int} {x1 y1 : Int} : (Op.equalIn (d + 2) 61 (.agg #[.int .i64 x0, .int .i64 x1]) (.agg #[.int .i64 y0, .int .i64 y1])).run Try.prog w = .ok ((x0 == y0) && (x1 == y1)) w := by
  rw [run_equalIn_struct w (d + 1) _ _ _ (by kernel_rfl) (by kernel_rfl)]
  simp [Program.fieldsOf, Try.underlying61, Op.eqFields, part, run_equalIn_int _ d 3 .i64 .i64 x0 y0 Try.underlying3, run_equalIn_int _ d 3 .i64 .i64 x1 y1 Try.underlying3]
  repeat' split
  all_goals simp_all
/- 61: laws.Tier -/
theorem eqT71 (d : Nat) (w : World) {x0 y0 : Int} {x1 y1 : Int} {x2 y2 : Int} {x3 y3 : Int} {x4 y4 : Int} : (Op.equalIn (d + 2) 71 (.agg #[.int .i64 x0, .int .i64 x1, .int .i64 x2, .int .i64 x3, .int .i64 x4]) (.agg #[.int .i64 y0, .int .i64 y1, .int .i64 y2, .int .i64 y3, .int .i64 y4])).run Try.prog w = .ok ((x0 == y0) && ((x1 == y1) && ((x2 == y2) && ((x3 == y3) && (x4 == y4))))) w := by
  rw [run_equalIn_struct w (d + 1) _ _ _ (by kernel_rfl) (by kernel_rfl)]
  simp [Program.fieldsOf, Try.underlying71, Op.eqFields, part, run_equalIn_int _ d 3 .i64 .i64 x0 y0 Try.underlying3, run_equalIn_int _ d 3 .i64 .i64 x1 y1 Try.underlying3, run_equalIn_int _ d 3 .i64 .i64 x2 y2 Try.underlying3, run_equalIn_int _ d 3 .i64 .i64 x3 y3 Try.underlying3, run_equalIn_int _ d 3 .i64 .i64 x4 y4 Try.underlying3]
  repeat' split
  all_goals simp_all
/- 71: laws.Bucket -/
theorem eqT83 (d : Nat) (w : World) {x0 y0 : Int} {x1 y1 : Int} : (Op.equalIn (d + 2) 83 (.agg #[.int .i64 x0, .int .i64 x1]) (.agg #[.int .i64 y0, .int .i64 y1])).run Try.prog w = .ok ((x0 == y0) && (x1 == y1)) w := by
  rw [run_equalIn_struct w (d + 1) _ _ _ (by kernel_rfl) (by kernel_rfl)]
  simp [Program.fieldsOf, Try.underlying83, Op.eqFields, part, run_equalIn_int _ d 3 .i64 .i64 x0 y0 Try.underlying3, run_equalIn_int _ d 3 .i64 .i64 x1 y1 Try.underlying3]
  repeat' split
  all_goals simp_all
/- 83: impl.Point -/
end Go.Proofs.Ytfcnjhkebbjojaa
