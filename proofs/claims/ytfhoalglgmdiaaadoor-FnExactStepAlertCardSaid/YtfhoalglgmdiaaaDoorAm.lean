/-
  The alert's step of the program: it is the step of the reference.
-/
import Derived.Test.YtfhoalglgmdiaaaDoorAo
import Derived.Test.YtfhoalglgmdiaaaDoorTb
namespace Go.Proofs.YtfhoalglgmdiaaaDoor
open Go.RowKit

set_option maxHeartbeats 4000000 in
theorem implStep_hi (ab ho ca st si t v : Int) (w : World) (hT : Tab w) (h : okA ab ho ca st si t v = true) (hv : ab < v) :
    Calls Tryd.prog 19 #[.agg #[.int .i64 ab, .int .i64 ho, .int .i64 ca], .agg #[.int .i64 st, .int .i64 si], .agg #[.int .i64 t, .int .i64 v]] w fun e w' =>
      e = .returned (.tuple #[.agg #[.int .i64 (stepA ab ho ca st si t v).1, .int .i64 (stepA ab ho ca st si t v).2], .bool true]) ∧ Below w.heap.size w w' := by
  obtain ⟨hr, hp, h0a, h0b, h1, h2, ht1⟩ := ok_parts h
  obtain ⟨r1, r2, r3, r4, r5, r6⟩ := rule_parts hr
  obtain ⟨p1, p2, p3, p4⟩ := point_parts hp
  have hT2 := hT.cell
  have hpos := hT.pos
  clear hr hp hT h p2
  have hst : st = 0 ∨ st = 1 ∨ st = 2 ∨ st = 3 := by omega
  rcases hst with rfl | rfl | rfl | rfl
  all_goals
    clear h0a h0b
    go_enter Tryd.func19, Tryd.ntmps19
    go_wp2
    all_goals
      go_returns
      refine ⟨ret_agg2b ?_ rfl, by go_grown⟩
      rw [stepA]
      first | rw [hi0 hv] | rw [hi1 hv] | rw [hi2 hv] | rw [hi3 hv]
      first | rw [wait0] | rw [wait2] | rw [wait1y (by omega)] | rw [wait1n (by omega)] | rw [wait3y (by omega)] | rw [wait3n (by omega)]

set_option maxHeartbeats 4000000 in
theorem implStep_lo (ab ho ca st si t v : Int) (w : World) (hT : Tab w) (h : okA ab ho ca st si t v = true) (hv : v ≤ ab) :
    Calls Tryd.prog 19 #[.agg #[.int .i64 ab, .int .i64 ho, .int .i64 ca], .agg #[.int .i64 st, .int .i64 si], .agg #[.int .i64 t, .int .i64 v]] w fun e w' =>
      e = .returned (.tuple #[.agg #[.int .i64 (stepA ab ho ca st si t v).1, .int .i64 (stepA ab ho ca st si t v).2], .bool true]) ∧ Below w.heap.size w w' := by
  obtain ⟨hr, hp, h0a, h0b, h1, h2, ht1⟩ := ok_parts h
  obtain ⟨r1, r2, r3, r4, r5, r6⟩ := rule_parts hr
  obtain ⟨p1, p2, p3, p4⟩ := point_parts hp
  have hT2 := hT.cell
  have hpos := hT.pos
  clear hr hp hT h p2
  have hst : st = 0 ∨ st = 1 ∨ st = 2 ∨ st = 3 := by omega
  rcases hst with rfl | rfl | rfl | rfl
  all_goals
    clear h0a h0b
    go_enter Tryd.func19, Tryd.ntmps19
    go_wp2
    all_goals
      go_returns
      refine ⟨ret_agg2b ?_ rfl, by go_grown⟩
      rw [stepA]
      first | rw [lo0 hv] | rw [lo1 hv] | rw [lo2 hv] | rw [lo3 hv]
      first | rw [wait0] | rw [wait2] | rw [wait1y (by omega)] | rw [wait1n (by omega)] | rw [wait3y (by omega)] | rw [wait3n (by omega)]

theorem implStep_yes (ab ho ca st si t v : Int) (w : World) (hT : Tab w) (h : okA ab ho ca st si t v = true) :
    Calls Tryd.prog 19 #[.agg #[.int .i64 ab, .int .i64 ho, .int .i64 ca], .agg #[.int .i64 st, .int .i64 si], .agg #[.int .i64 t, .int .i64 v]] w fun e w' =>
      e = .returned (.tuple #[.agg #[.int .i64 (stepA ab ho ca st si t v).1, .int .i64 (stepA ab ho ca st si t v).2], .bool true]) ∧ Below w.heap.size w w' := by
  by_cases hv : ab < v
  · exact implStep_hi ab ho ca st si t v w hT h hv
  · exact implStep_lo ab ho ca st si t v w hT h (by omega)
end Go.Proofs.YtfhoalglgmdiaaaDoor
