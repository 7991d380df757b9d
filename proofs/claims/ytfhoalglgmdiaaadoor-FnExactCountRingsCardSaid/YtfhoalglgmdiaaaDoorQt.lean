/-
  Structs of numbers against each other, type by type.
-/
import Derived.Test.YtfhoalglgmdiaaaDoorBr
namespace Go.Proofs.YtfhoalglgmdiaaaDoor
open Go
set_option linter.unusedVariables false
set_option linter.unusedSimpArgs false
set_option linter.unnecessarySimpa false

theorem eqT23 (d : Nat) (w : World) {x0 y0 : Int} {x1 y1 : Int} {x2 y2 : Int} : (Op.equalIn (d + 2) 23 (.agg #[.int .i64 x0, .int .i64 x1, .int .i64 x2]) (.agg #[.int .i64 y0, .int .i64 y1, .int .i64 y2])).run Tryd.prog w = .ok ((x0 == y0) && ((x1 == y1) && (x2 == y2))) w := by
  rw [run_equalIn_struct w (d + 1) _ _ _ (by kernel_rfl) (by kernel_rfl)]
  simp [Program.fieldsOf, Tryd.underlying23, Op.eqFields, part, run_equalIn_int _ d 3 .i64 .i64 x0 y0 Tryd.underlying3, run_equalIn_int _ d 3 .i64 .i64 x1 y1 Tryd.underlying3, run_equalIn_int _ d 3 .i64 .i64 x2 y2 Tryd.underlying3]
  repeat' split
  all_goals simp_all
/- 23: laws.Rule -/
theorem eqT25 (d : Nat) (w : World) {x0 y0 : Int} {x1 y1 : Int} : (Op.equalIn (d + 2) 25 (.agg #[.int .i64 x0, .int .i64 x1]) (.agg #[.int .i64 y0, .int .i64 y1])).run Tryd.prog w = .ok ((x0 == y0) && (x1 == y1)) w := by
  rw [run_equalIn_struct w (d + 1) _ _ _ (by kernel_rfl) (by kernel_rfl)]
  simp [Program.fieldsOf, Tryd.underlying25, Op.eqFields, part, run_equalIn_int _ d 3 .i64 .i64 x0 y0 Tryd.underlying3, run_equalIn_int _ d 3 .i64 .i64 x1 y1 Tryd.underlying3]
  repeat' split
  all_goals simp_all
/- 25: laws.Alert -/
theorem eqT27 (d : Nat) (w : World) {x0 y0 : Int} {x1 y1 : Int} : (Op.equalIn (d + 2) 27 (.agg #[.int .i64 x0, .int .i64 x1]) (.agg #[.int .i64 y0, .int .i64 y1])).run Tryd.prog w = .ok ((x0 == y0) && (x1 == y1)) w := by
  rw [run_equalIn_struct w (d + 1) _ _ _ (by kernel_rfl) (by kernel_rfl)]
  simp [Program.fieldsOf, Tryd.underlying27, Op.eqFields, part, run_equalIn_int _ d 3 .i64 .i64 x0 y0 Tryd.underlying3, run_equalIn_int _ d 3 .i64 .i64 x1 y1 Tryd.underlying3]
  repeat' split
  all_goals simp_all
/- 27: laws.Point -/
theorem eqT28 (d : Nat) (w : World) {x0 y0 : Int} {x1 y1 : Int} : (Op.equalIn (d + 2) 28 (.agg #[.int .i64 x0, .int .i64 x1]) (.agg #[.int .i64 y0, .int .i64 y1])).run Tryd.prog w = .ok ((x0 == y0) && (x1 == y1)) w := by
  rw [run_equalIn_struct w (d + 1) _ _ _ (by kernel_rfl) (by kernel_rfl)]
  simp [Program.fieldsOf, Tryd.underlying28, Op.eqFields, part, run_equalIn_int _ d 3 .i64 .i64 x0 y0 Tryd.underlying3, run_equalIn_int _ d 3 .i64 .i64 x1 y1 Tryd.underlying3]
  repeat' split
  all_goals simp_all
/- 28: impl.Alert -/
theorem eqT31 (d : Nat) (w : World) {x0 y0 : Int} {x1 y1 : Int} {x2 y2 : Int} : (Op.equalIn (d + 2) 31 (.agg #[.int .i64 x0, .int .i64 x1, .int .i64 x2]) (.agg #[.int .i64 y0, .int .i64 y1, .int .i64 y2])).run Tryd.prog w = .ok ((x0 == y0) && ((x1 == y1) && (x2 == y2))) w := by
  rw [run_equalIn_struct w (d + 1) _ _ _ (by kernel_rfl) (by kernel_rfl)]
  simp [Program.fieldsOf, Tryd.underlying31, Op.eqFields, part, run_equalIn_int _ d 3 .i64 .i64 x0 y0 Tryd.underlying3, run_equalIn_int _ d 3 .i64 .i64 x1 y1 Tryd.underlying3, run_equalIn_int _ d 3 .i64 .i64 x2 y2 Tryd.underlying3]
  repeat' split
  all_goals simp_all
/- 31: impl.Rule -/
theorem eqT34 (d : Nat) (w : World) {x0 y0 : Int} {x1 y1 : Int} : (Op.equalIn (d + 2) 34 (.agg #[.int .i64 x0, .int .i64 x1]) (.agg #[.int .i64 y0, .int .i64 y1])).run Tryd.prog w = .ok ((x0 == y0) && (x1 == y1)) w := by
  rw [run_equalIn_struct w (d + 1) _ _ _ (by kernel_rfl) (by kernel_rfl)]
  simp [Program.fieldsOf, Tryd.underlying34, Op.eqFields, part, run_equalIn_int _ d 3 .i64 .i64 x0 y0 Tryd.underlying3, run_equalIn_int _ d 3 .i64 .i64 x1 y1 Tryd.underlying3]
  repeat' split
  all_goals simp_all
/- 34: impl.Point -/
end Go.Proofs.YtfhoalglgmdiaaaDoor
