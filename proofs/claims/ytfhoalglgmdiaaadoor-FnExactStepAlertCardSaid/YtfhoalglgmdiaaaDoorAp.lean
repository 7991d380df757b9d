/-
  Small functions on alerts and points of the laws: copies, comparisons.
-/
import Derived.Test.YtfhoalglgmdiaaaDoorPt
namespace Go.Proofs.YtfhoalglgmdiaaaDoor
open Go.RowKit

set_option maxHeartbeats 400000 in
theorem toRule_any (a h c : Int) (w : World) :
    Calls Tryd.prog 16 #[.agg #[.int .i64 a, .int .i64 h, .int .i64 c]] w fun e w' => e = .returned (.agg #[.int .i64 a, .int .i64 h, .int .i64 c]) ∧ Below w.heap.size w w' := by
  go_enter Tryd.func16, Tryd.ntmps16
  go_wp2
  refine bodyPost_ret (v := .agg #[.int .i64 a, .int .i64 h, .int .i64 c]) (by simp [results, Tryd.results16, go_sem]) rfl ?_
  exact ⟨rfl, by go_grown⟩
set_option maxHeartbeats 400000 in
theorem toAlert_any (a h : Int) (w : World) :
    Calls Tryd.prog 17 #[.agg #[.int .i64 a, .int .i64 h]] w fun e w' => e = .returned (.agg #[.int .i64 a, .int .i64 h]) ∧ Below w.heap.size w w' := by
  go_enter Tryd.func17, Tryd.ntmps17
  go_wp2
  refine bodyPost_ret (v := .agg #[.int .i64 a, .int .i64 h]) (by simp [results, Tryd.results17, go_sem]) rfl ?_
  exact ⟨rfl, by go_grown⟩

theorem eqAlert_any (a h a' h' : Int) (w : World) :
    Calls Tryd.prog 20 #[.agg #[.int .i64 a, .int .i64 h], .agg #[.int .i64 a', .int .i64 h']] w fun e w' => e = .returned (.bool (decide (a = a' ∧ h = h'))) ∧ Below w.heap.size w w' := by
  by_cases h1 : a = a'
  · subst h1
    by_cases h2 : h = h'
    · subst h2
      go_enter Tryd.func20, Tryd.ntmps20
      go_wp2
      go_ret
      exact ⟨ret_bool (by simp), by go_grown⟩
    · have h2' : (h != h') = true := by simpa using h2
      have h2'' : (h == h') = false := by simpa using h2
      have H2 := Lib.hid h2
      clear h2
      go_enter Tryd.func20, Tryd.ntmps20
      go_wp2
      go_ret
      exact ⟨ret_bool (by simp [H2.out]), by go_grown⟩
  · have h2' : (a != a') = true := by simpa using h1
    have h2'' : (a == a') = false := by simpa using h1
    have H2 := Lib.hid h1
    clear h1
    go_enter Tryd.func20, Tryd.ntmps20
    go_wp2
    go_ret
    exact ⟨ret_bool (by simp [H2.out]), by go_grown⟩
set_option maxHeartbeats 400000 in
theorem toPoint_any (a h : Int) (w : World) :
    Calls Tryd.prog 18 #[.agg #[.int .i64 a, .int .i64 h]] w fun e w' => e = .returned (.agg #[.int .i64 a, .int .i64 h]) ∧ Below w.heap.size w w' := by
  go_enter Tryd.func18, Tryd.ntmps18
  go_wp2
  refine bodyPost_ret (v := .agg #[.int .i64 a, .int .i64 h]) (by simp [results, Tryd.results18, go_sem]) rfl ?_
  exact ⟨rfl, by go_grown⟩
theorem eqPoint_any (a h a' h' : Int) (w : World) :
    Calls Tryd.prog 51 #[.agg #[.int .i64 a, .int .i64 h], .agg #[.int .i64 a', .int .i64 h']] w fun e w' => e = .returned (.bool (decide (a = a' ∧ h = h'))) ∧ Below w.heap.size w w' := by
  by_cases h1 : a = a'
  · subst h1
    by_cases h2 : h = h'
    · subst h2
      go_enter Tryd.func51, Tryd.ntmps51
      go_wp2
      go_ret
      exact ⟨ret_bool (by simp), by go_grown⟩
    · have h2' : (h != h') = true := by simpa using h2
      have h2'' : (h == h') = false := by simpa using h2
      have H2 := Lib.hid h2
      clear h2
      go_enter Tryd.func51, Tryd.ntmps51
      go_wp2
      go_ret
      exact ⟨ret_bool (by simp [H2.out]), by go_grown⟩
  · have h2' : (a != a') = true := by simpa using h1
    have h2'' : (a == a') = false := by simpa using h1
    have H2 := Lib.hid h1
    clear h1
    go_enter Tryd.func51, Tryd.ntmps51
    go_wp2
    go_ret
    exact ⟨ret_bool (by simp [H2.out]), by go_grown⟩
end Go.Proofs.YtfhoalglgmdiaaaDoor
