/-
  The rule functions: both texts say the same.
-/
import Derived.Test.YtfhoalglgmdiaaaDoorRd
namespace Go.Proofs.YtfhoalglgmdiaaaDoor
open Go.RowKit

def ruleB (a h c : Int) : Bool := decide (-1000 ≤ a ∧ a ≤ 1000 ∧ 0 ≤ h ∧ h ≤ 100 ∧ 0 ≤ c ∧ c ≤ 100)

theorem ret_bool {a b : Bool} (h : a = b) : Ending.returned (.bool a) = .returned (.bool b) := by rw [h]
theorem ret_int {k : IntKind} {a b : Int} (h : a = b) : Ending.returned (.int k a) = .returned (.int k b) := by rw [h]

theorem inRange_any (n lo hi : Int) (w : World) :
    Calls Tryd.prog 52 #[.int .i64 n, .int .i64 lo, .int .i64 hi] w fun e w' => e = .returned (.bool (decide (lo ≤ n ∧ n ≤ hi))) ∧ w = w' := by
  by_cases h1 : lo ≤ n
  · go_enter Tryd.func52, Tryd.ntmps52
    go_wp2
    go_ret
    exact ⟨ret_bool (by simp [h1]), rfl⟩
  · go_enter Tryd.func52, Tryd.ntmps52
    go_wp2
    go_ret
    exact ⟨ret_bool (by simp; omega), rfl⟩

set_option maxHeartbeats 400000 in
theorem implValidRule (a h c : Int) (w : World) :
    Calls Tryd.prog 40 #[.agg #[.int .i64 a, .int .i64 h, .int .i64 c]] w fun e w' => e = .returned (.bool (ruleB a h c)) ∧ Below w.heap.size w w' := by
  go_enter Tryd.func40, Tryd.ntmps40
  go_wp2
  all_goals
    go_ret
    refine ⟨ret_bool ?_, by go_grown⟩
    unfold ruleB
    first | (simp; omega) | (rw [Bool.eq_iff_iff]; simp; omega)

set_option maxHeartbeats 400000 in
theorem specvalidRule (a h c : Int) (w : World) :
    Calls Tryd.prog 36 #[.agg #[.int .i64 a, .int .i64 h, .int .i64 c]] w fun e w' => e = .returned (.bool (ruleB a h c)) ∧ Below w.heap.size w w' := by
  go_enter Tryd.func36, Tryd.ntmps36
  go_wp2
  all_goals
    go_ret
    refine ⟨ret_bool ?_, by go_grown⟩
    unfold ruleB
    first | (simp; omega) | (rw [Bool.eq_iff_iff]; simp; omega)

end Go.Proofs.YtfhoalglgmdiaaaDoor
