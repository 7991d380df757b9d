/-
  Structs of numbers against each other, type by type.
-/
import Derived.Test.YtpobimdcphjljaaBr
namespace Go.Proofs.Ytpobimdcphjljaa
open Go
set_option linter.unusedVariables false
set_option linter.unusedSimpArgs false
set_option linter.unnecessarySimpa false
set_option maxRecDepth 4000

theorem eqT61 (d : Nat) (w : World) {x0 y0 : ByteArray} {x1 y1 : ByteArray} : (Op.equalIn (d + 2) 61 (.agg #[.string x0, .string x1]) (.agg #[.string y0, .string y1])).run Try.prog w = .ok ((x0.toList == y0.toList) && (x1.toList == y1.toList)) w := by
  rw [run_equalIn_struct w (d + 1) _ _ _ (by kernel_rfl) (by kernel_rfl)]
  simp [Program.fieldsOf, Try.underlying61, Op.eqFields, part, run_equalIn_string _ d 9 x0 y0 Try.underlying9, run_equalIn_string _ d 9 x1 y1 Try.underlying9]
  repeat' split
  all_goals simp_all
/- 61: impl.Label -/
theorem eqT94 (d : Nat) (w : World) {x0 y0 : ByteArray} {x1 y1 : ByteArray} : (Op.equalIn (d + 2) 94 (.agg #[.string x0, .string x1]) (.agg #[.string y0, .string y1])).run Try.prog w = .ok ((x0.toList == y0.toList) && (x1.toList == y1.toList)) w := by
  rw [run_equalIn_struct w (d + 1) _ _ _ (by kernel_rfl) (by kernel_rfl)]
  simp [Program.fieldsOf, Try.underlying94, Op.eqFields, part, run_equalIn_string _ d 9 x0 y0 Try.underlying9, run_equalIn_string _ d 9 x1 y1 Try.underlying9]
  repeat' split
  all_goals simp_all
/- 94: laws.Label -/
end Go.Proofs.Ytpobimdcphjljaa
