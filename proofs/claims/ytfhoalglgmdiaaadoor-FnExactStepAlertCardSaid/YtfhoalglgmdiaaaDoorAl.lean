/-
  The alert's step: both texts say the same.
-/
import Derived.Test.YtfhoalglgmdiaaaDoorPt
namespace Go.Proofs.YtfhoalglgmdiaaaDoor
open Go.RowKit

/-- The state of an alert behind a point: first by the value, then by the time. -/
def moveA (ab st si t v : Int) : Int × Int :=
  if ab < v then (if st = 0 then (1, t) else if st = 3 then (2, t) else (st, si)) else (if st = 1 then (0, t) else if st = 2 then (3, t) else (st, si))
def waitA (ho ca t : Int) (x : Int × Int) : Int × Int :=
  if x.1 = 1 ∧ ho ≤ t - x.2 then (2, t) else if x.1 = 3 ∧ ca ≤ t - x.2 then (0, t) else x
def stepA (ab ho ca st si t v : Int) : Int × Int := waitA ho ca t (moveA ab st si t v)
def alertB (st si : Int) : Bool := decide (0 ≤ st ∧ st ≤ 3 ∧ 0 ≤ si ∧ si ≤ 1000)

set_option maxHeartbeats 400000 in
theorem specvalidAlert (st si : Int) (w : World) :
    Calls Tryd.prog 37 #[.agg #[.int .i64 st, .int .i64 si]] w fun e w' => e = .returned (.bool (alertB st si)) ∧ Below w.heap.size w w' := by
  go_enter Tryd.func37, Tryd.ntmps37
  go_wp2
  all_goals
    go_ret
    refine ⟨ret_bool ?_, by go_grown⟩
    unfold alertB
    first | (simp; omega) | (rw [Bool.eq_iff_iff]; simp; omega)

theorem hi0 {ab si t v : Int} (h : ab < v) : moveA ab 0 si t v = (1, t) := by simp [moveA, h]
theorem hi1 {ab si t v : Int} (h : ab < v) : moveA ab 1 si t v = (1, si) := by simp [moveA, h]
theorem hi2 {ab si t v : Int} (h : ab < v) : moveA ab 2 si t v = (2, si) := by simp [moveA, h]
theorem hi3 {ab si t v : Int} (h : ab < v) : moveA ab 3 si t v = (2, t) := by simp [moveA, h]
theorem lo0 {ab si t v : Int} (h : v ≤ ab) : moveA ab 0 si t v = (0, si) := by simp [moveA, Int.not_lt.2 h]
theorem lo1 {ab si t v : Int} (h : v ≤ ab) : moveA ab 1 si t v = (0, t) := by simp [moveA, Int.not_lt.2 h]
theorem lo2 {ab si t v : Int} (h : v ≤ ab) : moveA ab 2 si t v = (3, t) := by simp [moveA, Int.not_lt.2 h]
theorem lo3 {ab si t v : Int} (h : v ≤ ab) : moveA ab 3 si t v = (3, si) := by simp [moveA, Int.not_lt.2 h]
theorem wait0 (ho ca t i : Int) : waitA ho ca t (0, i) = (0, i) := by simp [waitA]
theorem wait2 (ho ca t i : Int) : waitA ho ca t (2, i) = (2, i) := by simp [waitA]
theorem wait1y {ho ca t i : Int} (h : ho ≤ t - i) : waitA ho ca t (1, i) = (2, t) := by simp [waitA, h]
theorem wait1n {ho ca t i : Int} (h : t - i < ho) : waitA ho ca t (1, i) = (1, i) := by simp [waitA, Int.not_le.2 h]
theorem wait3y {ho ca t i : Int} (h : ca ≤ t - i) : waitA ho ca t (3, i) = (0, t) := by simp [waitA, h]
theorem wait3n {ho ca t i : Int} (h : t - i < ca) : waitA ho ca t (3, i) = (3, i) := by simp [waitA, Int.not_le.2 h]

theorem ret_agg2 {x : Int × Int} {a b : Int} (h : x = (a, b)) : Ending.returned (.agg #[.int .i64 a, .int .i64 b]) = .returned (.agg #[.int .i64 x.1, .int .i64 x.2]) := by rw [h]
theorem ret_agg2b {x : Int × Int} {a b : Int} {u v : Bool} (h : x = (a, b)) (k : u = v) : Ending.returned (.tuple #[.agg #[.int .i64 a, .int .i64 b], .bool u]) = .returned (.tuple #[.agg #[.int .i64 x.1, .int .i64 x.2], .bool v]) := by rw [h, k]

set_option maxHeartbeats 1000000 in
theorem specstep (ab ho ca st si t v : Int) (w : World) (h0 : 0 ≤ st ∧ st ≤ 3) (h1 : 0 ≤ si) (h2 : si ≤ t) (h3 : t ≤ 1000) :
    Calls Tryd.prog 39 #[.agg #[.int .i64 ab, .int .i64 ho, .int .i64 ca], .agg #[.int .i64 st, .int .i64 si], .agg #[.int .i64 t, .int .i64 v]] w fun e w' =>
      e = .returned (.agg #[.int .i64 (stepA ab ho ca st si t v).1, .int .i64 (stepA ab ho ca st si t v).2]) ∧ Below w.heap.size w w' := by
  obtain ⟨h0a, h0b⟩ := h0
  have hst : st = 0 ∨ st = 1 ∨ st = 2 ∨ st = 3 := by omega
  by_cases hv : ab < v
  · rcases hst with rfl | rfl | rfl | rfl
    all_goals
      clear h0a h0b
      go_enter Tryd.func39, Tryd.ntmps39
      go_wp2
      all_goals
        go_returns
        refine ⟨ret_agg2 ?_, by go_grown⟩
        rw [stepA]
        first | rw [hi0 hv] | rw [hi1 hv] | rw [hi2 hv] | rw [hi3 hv]
        first | rw [wait0] | rw [wait2] | rw [wait1y (by omega)] | rw [wait1n (by omega)]
  · have hv' : v ≤ ab := by omega
    have hb : decide (ab < v) = false := by simp; omega
    clear hv
    rcases hst with rfl | rfl | rfl | rfl
    all_goals
      clear h0a h0b
      go_enter Tryd.func39, Tryd.ntmps39
      go_wp2
      all_goals
        go_returns
        refine ⟨ret_agg2 ?_, by go_grown⟩
        rw [stepA]
        first | rw [lo0 hv'] | rw [lo1 hv'] | rw [lo2 hv'] | rw [lo3 hv']
        first | rw [wait0] | rw [wait2] | rw [wait3y (by omega)] | rw [wait3n (by omega)]
end Go.Proofs.YtfhoalglgmdiaaaDoor
