/-
  The table of states in the memory.
-/
import Derived.Test.YtfhoalglgmdiaaaDoorRd
namespace Go.Proofs.YtfhoalglgmdiaaaDoor
open Go.RowKit

/-- What the table of states reads as. -/
def Tab (w : World) : Prop := ∃ t fz, w.heap[0]? = some (.cells #[.int .i64 0, .int .i64 1, .int .i64 0, .int .i64 1, .int .i64 3, .int .i64 2, .int .i64 3, .int .i64 2] t fz)
theorem Tab.below {w w' : World} (h : Tab w) {B : Nat} (hb : Below B w w') (hB : 0 < B) : Tab w' := by
  obtain ⟨t, fz, h⟩ := h
  exact ⟨t, fz, (hb.block 0 hB).trans h⟩
theorem Tab.pos {w : World} (h : Tab w) : 0 < w.heap.size := by
  obtain ⟨t, fz, h⟩ := h
  exact (Array.getElem?_eq_some_iff.1 h).1
theorem Tab.alloc {w : World} (h : Tab w) (o : Obj) : Tab (w.alloc o) := h.below ((Below.refl w.heap.size w).alloc (Nat.le_refl _) o) h.pos
theorem Tab.cell {w : World} (h : Tab w) : ∀ o, w.cell? ⟨0, o, none⟩ = (#[.int .i64 0, .int .i64 1, .int .i64 0, .int .i64 1, .int .i64 3, .int .i64 2, .int .i64 3, .int .i64 2] : Array Value)[o]? := by
  obtain ⟨t, fz, h⟩ := h
  intro o
  simp [World.cell?, h]

end Go.Proofs.YtfhoalglgmdiaaaDoor
