/-
  The table of the alerts' states as fixed data (global 0).
-/
import Derived.Test.YtfhoalglgmdiaaaDoorBr
namespace Go.Proofs.YtfhoalglgmdiaaaDoor
open Go

def tabD : List D := [.i .i64 0, .i .i64 1, .i .i64 0, .i .i64 1, .i .i64 3, .i .i64 2, .i .i64 3, .i .i64 2]
def gT : Nat → Option (List D)
  | 0 => some tabD
  | _ => none
/-- What the table of states reads as. -/
def TabE (w : World) : Prop := ∃ t fz, w.heap[0]? = some (.cells #[.int .i64 0, .int .i64 1, .int .i64 0, .int .i64 1, .int .i64 3, .int .i64 2, .int .i64 3, .int .i64 2] t fz)
theorem glob_tab {W : World} (h : TabE W) : Glob gT W (frW W) := by
  obtain ⟨t, fz, h⟩ := h
  intro i ds hi j x hx
  match i, hi with
  | 0, hi =>
    cases hi
    have hj : j < 8 := (List.getElem?_eq_some_iff.1 hx).1
    have hc : ∀ o, W.cell? ⟨0, o, none⟩ = (#[.int .i64 0, .int .i64 1, .int .i64 0, .int .i64 1, .int .i64 3, .int .i64 2, .int .i64 3, .int .i64 2] : Array Value)[o]? := fun o => by simp [World.cell?, h]
    have hf : frW W 0 = 8 := by unfold frW; rw [h]; rfl
    have h8 : j = 0 ∨ j = 1 ∨ j = 2 ∨ j = 3 ∨ j = 4 ∨ j = 5 ∨ j = 6 ∨ j = 7 := by omega
    rcases h8 with rfl | rfl | rfl | rfl | rfl | rfl | rfl | rfl <;> (cases hx; exact ⟨_, hc _, by rw [hf]; decide, .i _ _⟩)
end Go.Proofs.YtfhoalglgmdiaaaDoor
