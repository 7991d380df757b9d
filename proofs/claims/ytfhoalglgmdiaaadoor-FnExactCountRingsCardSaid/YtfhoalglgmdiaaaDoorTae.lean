/-
  What the row's list gives: the table of states holds its eight numbers.
-/
import Derived.Test.YtfhoalglgmdiaaaDoorRows
import Derived.Test.YtfhoalglgmdiaaaDoorAg
import Derived.ProofKit
import Derived.OpenShut
import Derived.Lib.LaidTab
namespace Go.Proofs.YtfhoalglgmdiaaaDoor
open Go.ChangeShapes Go.WideShapes Go.RowKit

theorem tabNamed : Tryd.prog.globalNamed "loop.example/metricstore/impl.alertFollows" = some 0 := by kernel_rfl
theorem tabType : (Tryd.prog.globals[0]?).map (·.type) = some 61 := by kernel_rfl
theorem tabCells61 : Tryd.prog.cellsOf 61 = 8 := by kernel_rfl
theorem tabCells60 : Tryd.prog.cellsOf 60 = 2 := by kernel_rfl
theorem tabCells3 : Tryd.prog.cellsOf 3 = 1 := by kernel_rfl

theorem eight {α : Type} {cs : List α} (h : cs.length = 8) : ∃ a b c d e f g i, cs = [a, b, c, d, e, f, g, i] := by
  match cs, h with
  | [a, b, c, d, e, f, g, i], _ => exact ⟨a, b, c, d, e, f, g, i, rfl⟩
theorem four {α : Type} {cs : List α} (h : cs.length = 4) : ∃ a b c d, cs = [a, b, c, d] := by
  match cs, h with
  | [a, b, c, d], _ => exact ⟨a, b, c, d, rfl⟩

theorem tab_of_laid {W : World} (h : laidMet Tryd.prog [("loop.example/metricstore/impl.alertFollows", Rows.laid_loop_example_metricstore_impl_alertFollows)] W) : TabE W := by
  obtain ⟨ps, ⟨g', t', cs, fuel, p, q, hg', ht', hvar, hd, _, _⟩, _⟩ := h
  obtain rfl := Option.some.inj (tabNamed.symm.trans hg')
  obtain rfl := Option.some.inj (tabType.symm.trans ht')
  obtain ⟨xs, m, hm, hx, hlen, hxl, hi⟩ := DataW.trod_array Tryd.underlying61 hd
  rw [tabCells61] at hlen
  obtain ⟨a, b, c, d, e, f, g, i, hcs⟩ := eight hlen
  obtain ⟨x0, x1, x2, x3, rfl⟩ := four hxl
  have h0 := hi 0 (by decide)
  have h1 := hi 1 (by decide)
  have h2 := hi 2 (by decide)
  have h3 := hi 3 (by decide)
  rw [tabCells60, hcs] at h0 h1 h2 h3
  simp at h0 h1 h2 h3
  simp [Rows.laid_loop_example_metricstore_impl_alertFollows] at hx
  obtain ⟨⟨d0, d1, d2, d3⟩, -⟩ := hx
  have k0 := Lib.cells_of_tab (k := .i64) (zs := [0, 1]) (p := x0.2) Tryd.underlying60 Tryd.underlying3 tabCells3 tabCells60 (by rw [h0]; simp [Lib.tabData]; exact Prod.ext d0.symm rfl)
  have k1 := Lib.cells_of_tab (k := .i64) (zs := [0, 1]) (p := x1.2) Tryd.underlying60 Tryd.underlying3 tabCells3 tabCells60 (by rw [h1]; simp [Lib.tabData]; exact Prod.ext d1.symm rfl)
  have k2 := Lib.cells_of_tab (k := .i64) (zs := [3, 2]) (p := x2.2) Tryd.underlying60 Tryd.underlying3 tabCells3 tabCells60 (by rw [h2]; simp [Lib.tabData]; exact Prod.ext d2.symm rfl)
  have k3 := Lib.cells_of_tab (k := .i64) (zs := [3, 2]) (p := x3.2) Tryd.underlying60 Tryd.underlying3 tabCells3 tabCells60 (by rw [h3]; simp [Lib.tabData]; exact Prod.ext d3.symm rfl)
  simp at k0 k1 k2 k3
  obtain ⟨rfl, rfl⟩ := k0
  obtain ⟨rfl, rfl⟩ := k1
  obtain ⟨rfl, rfl⟩ := k2
  obtain ⟨rfl, rfl⟩ := k3
  have hcs' : cs = #[.int .i64 0, .int .i64 1, .int .i64 0, .int .i64 1, .int .i64 3, .int .i64 2, .int .i64 3, .int .i64 2] := by
    cases cs
    simpa using hcs
  subst hcs'
  unfold World.var? at hvar
  rw [tabNamed] at hvar
  simp only [Option.bind_some] at hvar
  split at hvar
  · rename_i cs' t fz hh
    obtain rfl := Option.some.inj hvar
    exact ⟨t, fz, hh⟩
  · cases hvar

/-- A world for the witness: the settled one, the table holding what its initialiser lays. -/
noncomputable def laidWorld (os : Os) : World :=
  { World.holding Tryd.prog os ⟨#[], #[], []⟩ with heap := (World.holding Tryd.prog os ⟨#[], #[], []⟩).heap.modify 0 fun
      | .cells _ t frozen => .cells #[.int .i64 0, .int .i64 1, .int .i64 0, .int .i64 1, .int .i64 3, .int .i64 2, .int .i64 3, .int .i64 2] t frozen
      | o => o }
end Go.Proofs.YtfhoalglgmdiaaaDoor
