/-
  The point functions: both texts say the same.
-/
import Derived.Test.YtfhoalglgmdiaaaDoorRu
namespace Go.Proofs.YtfhoalglgmdiaaaDoor
open Go.RowKit

def pointB (t v : Int) : Bool := decide (0 ≤ t ∧ t ≤ 1000 ∧ -1000 ≤ v ∧ v ≤ 1000)

set_option maxHeartbeats 400000 in
theorem implvalidPoint (t v : Int) (w : World) :
    Calls Tryd.prog 41 #[.agg #[.int .i64 t, .int .i64 v]] w fun e w' => e = .returned (.bool (pointB t v)) ∧ Below w.heap.size w w' := by
  go_enter Tryd.func41, Tryd.ntmps41
  go_wp2
  all_goals
    go_ret
    refine ⟨ret_bool ?_, by go_grown⟩
    unfold pointB
    first | (simp; omega) | (rw [Bool.eq_iff_iff]; simp; omega)

set_option maxHeartbeats 400000 in
theorem specvalidPoint (t v : Int) (w : World) :
    Calls Tryd.prog 38 #[.agg #[.int .i64 t, .int .i64 v]] w fun e w' => e = .returned (.bool (pointB t v)) ∧ Below w.heap.size w w' := by
  go_enter Tryd.func38, Tryd.ntmps38
  go_wp2
  all_goals
    go_ret
    refine ⟨ret_bool ?_, by go_grown⟩
    unfold pointB
    first | (simp; omega) | (rw [Bool.eq_iff_iff]; simp; omega)
end Go.Proofs.YtfhoalglgmdiaaaDoor
