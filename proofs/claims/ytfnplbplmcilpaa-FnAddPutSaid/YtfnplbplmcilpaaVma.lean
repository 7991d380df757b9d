/-
  The laws of versions that look at a version's series: contracts.
-/
import Derived.Test.YtfnplbplmcilpaaVe
import Derived.Test.YtfnplbplmcilpaaVk
namespace Go.Proofs.Ytfnplbplmcilpaa
open Go
set_option linter.unusedVariables false
set_option linter.unusedSimpArgs false
set_option linter.unnecessarySimpa false

theorem freeF_in {v : verT} (h : verP v) (h0 : 0 < v.2.2.length) : freeF v ∈ v.2.2 := by
  obtain ⟨f1, f2, f3⟩ := freeF_pins (v := v)
  rcases f3 with f3 | f3
  · have hm := List.getElem_mem h0
    have h1 := f2 _ hm
    have h2 := (verP_iff.1 h).2.2.2.2.2 _ hm
    have e : freeF v = v.2.2[0] := by omega
    rw [e]; exact hm
  · exact f3
theorem equalPoints_self (n1 n2 : Bool) (xs : List pntT) (h1 : xs.length ≤ 1048576) (hn1 : n1 = false → xs = []) (hn2 : n2 = false → xs = []) : FnOk Try.prog noG 13 [.v false [.sl false n1 xs.length (xs.flatMap pntD)], .v false [.sl false n2 xs.length (xs.flatMap pntD)]] [] (.v false [.b true]) [] := by
  have := equalPoints_ok n1 n2 xs xs h1 h1 hn1 hn2
  rwa [decide_eq_true rfl] at this
open Classical in
noncomputable def saL (v : verT) (n : Int) : List pntT := if atP v n then serAt (v.1.take n.toNat) else []
open Classical in
noncomputable def saB (v : verT) (n : Int) : Bool := decide (atP v n)
theorem saL_len (v : verT) (n : Int) : (saL v n).length ≤ v.1.length := by
  unfold saL
  split
  · exact Nat.le_trans (serAt_len _) (by simp; omega)
  · simp
theorem SeriesAt_any (n1 n2 : Bool) (v : verT) (n : Int) (h1 : v.1.length ≤ 1048576) (h2 : v.2.2.length ≤ 1048576) (hn1 : n1 = false → v.1 = []) (hn2 : n2 = false → v.2.2 = []) : FnOk Try.prog noG 12 [.v true (verC false n1 false n2 v), .v false [.i .i64 n]] [] (.tup [(false, [.sl true (dec0 (saL v n)) (saL v n).length ((saL v n).flatMap pntD)]), (false, [.b (saB v n)])]) [] := by
  by_cases h : atP v n
  · rw [show saL v n = serAt (v.1.take n.toNat) from if_pos h, show saB v n = true by unfold saB; simpa using h]
    exact SeriesAt_T n1 n2 v n h1 h2 hn1 hn2 h
  · rw [show saL v n = [] from if_neg h, show saB v n = false by unfold saB; simpa using h]
    exact SeriesAt_bad n1 n2 v n h1 h2 hn1 hn2 h
theorem add_at {v : verT} {x : pntT} (h : addP v x) {n : Int} (h2 : n ≤ (v.1.length : Int)) : saL (addV v x) n = saL v n ∧ saB (addV v x) n = saB v n := by
  have hi : atP (addV v x) n ↔ atP v n := by
    unfold atP
    refine ⟨fun k => ⟨h.1, k.2.1, h2⟩, fun k => ⟨verP_add h, k.2.1, ?_⟩⟩
    show n ≤ ((v.1 ++ [x]).length : Int)
    simp; omega
  unfold saL saB
  by_cases k : atP v n
  · have k2 := hi.2 k
    rw [if_pos k, if_pos k2]
    refine ⟨?_, by simp [k, k2]⟩
    show serAt ((v.1 ++ [x]).take n.toNat) = _
    rw [List.take_append_of_le_length (by omega)]
  · have k2 : ¬ atP (addV v x) n := fun q => k (hi.1 q)
    rw [if_neg k, if_neg k2]
    exact ⟨rfl, by simp [k, k2]⟩
end Go.Proofs.Ytfnplbplmcilpaa
