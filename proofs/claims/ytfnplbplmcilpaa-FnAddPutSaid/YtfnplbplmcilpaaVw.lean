/-
  Versions: the plain laws of adding, pinning, unpinning and freeing.
-/
import Derived.Test.YtfnplbplmcilpaaVv
namespace Go.Proofs.Ytfnplbplmcilpaa
open Go
set_option linter.unusedVariables false
set_option linter.unusedSimpArgs false
set_option linter.unnecessarySimpa false

def zeroV : verT := ([], 0, [])
def addV (v : verT) (x : pntT) : verT := (v.1 ++ [x], v.2.1, v.2.2)
def pinV (v : verT) : verT := (v.1, v.2.1, v.2.2 ++ [(v.1.length : Int)])
def unpV (v : verT) (n : Int) : verT := (v.1, v.2.1, v.2.2.erase n)
def freeV (v : verT) : verT := (v.1, freeF v, v.2.2)
def addP (v : verT) (x : pntT) : Prop := verP v ∧ pointB x.1 x.2 = true ∧ v.1.length ≠ 16
def pinP (v : verT) : Prop := verP v ∧ v.2.2.length ≠ 4
def unpP (v : verT) (n : Int) : Prop := verP v ∧ n ∈ v.2.2
theorem pnP_mem {v : verT} : AllTo (pnP v) v.2.2.length ↔ ∀ n ∈ v.2.2, v.2.1 ≤ n ∧ n ≤ (v.1.length : Int) := by
  refine ⟨fun h n hn => ?_, fun h j hj => ?_⟩
  · obtain ⟨j, hj, rfl⟩ := List.mem_iff_getElem.1 hn
    have := h j hj
    unfold pnP at this
    rwa [getD_at hj] at this
  · unfold pnP
    rw [getD_at hj]
    exact h _ (List.getElem_mem hj)
theorem ptP_mem {v : verT} : AllTo (ptP v) v.1.length ↔ ∀ x ∈ v.1, pointB x.1 x.2 = true := by
  refine ⟨fun h n hn => ?_, fun h j hj => ?_⟩
  · obtain ⟨j, hj, rfl⟩ := List.mem_iff_getElem.1 hn
    have := h j hj
    unfold ptP at this
    rwa [getD_at hj] at this
  · unfold ptP
    rw [getD_at hj]
    exact h _ (List.getElem_mem hj)
theorem verP_iff {v : verT} : verP v ↔ v.1.length ≤ 16 ∧ v.2.2.length ≤ 4 ∧ 0 ≤ v.2.1 ∧ v.2.1 ≤ v.1.length ∧ (∀ x ∈ v.1, pointB x.1 x.2 = true) ∧ (∀ n ∈ v.2.2, v.2.1 ≤ n ∧ n ≤ (v.1.length : Int)) := by
  unfold verP
  rw [ptP_mem, pnP_mem]
theorem freeF_pins {v : verT} : freeF v ≤ v.1.length ∧ (∀ n ∈ v.2.2, freeF v ≤ n) ∧ (freeF v = v.1.length ∨ freeF v ∈ v.2.2) := freeF_le v.2.2 v.1.length
theorem verP_add {v : verT} {x : pntT} (h : addP v x) : verP (addV v x) := by
  obtain ⟨h, hx, hl⟩ := h
  obtain ⟨h1, h2, h3, h4, h5, h6⟩ := verP_iff.1 h
  refine verP_iff.2 ⟨by simp [addV]; omega, h2, h3, by simp [addV]; omega, fun y hy => ?_, fun n hn => ?_⟩
  · rcases List.mem_append.1 hy with hy | hy
    · exact h5 y hy
    · simp at hy; subst hy; exact hx
  · have := h6 n hn
    simp [addV]; omega
theorem verP_pin {v : verT} (h : pinP v) : verP (pinV v) := by
  obtain ⟨h, hl⟩ := h
  obtain ⟨h1, h2, h3, h4, h5, h6⟩ := verP_iff.1 h
  refine verP_iff.2 ⟨h1, by simp [pinV]; omega, h3, h4, h5, fun n hn => ?_⟩
  rcases List.mem_append.1 hn with hn | hn
  · exact h6 n hn
  · simp at hn; subst hn; simp [pinV]; omega
theorem verP_unp {v : verT} {n : Int} (h : verP v) : verP (unpV v n) := by
  obtain ⟨h1, h2, h3, h4, h5, h6⟩ := verP_iff.1 h
  refine verP_iff.2 ⟨h1, Nat.le_trans List.length_erase_le h2, h3, h4, h5, fun m hm => h6 m (List.mem_of_mem_erase hm)⟩
theorem freeF_ge {v : verT} (h : verP v) : v.2.1 ≤ freeF v ∧ 0 ≤ freeF v := by
  obtain ⟨h1, h2, h3, h4, h5, h6⟩ := verP_iff.1 h
  obtain ⟨_, _, f3⟩ := freeF_pins (v := v)
  rcases f3 with f3 | f3
  · omega
  · have := h6 _ f3; omega
theorem verP_free {v : verT} (h : verP v) : verP (freeV v) := by
  obtain ⟨h1, h2, h3, h4, h5, h6⟩ := verP_iff.1 h
  obtain ⟨f1, f2, f3⟩ := freeF_pins (v := v)
  have hg := freeF_ge h
  exact verP_iff.2 ⟨h1, h2, hg.2, f1, h5, fun n hn => ⟨f2 n hn, (h6 n hn).2⟩⟩
theorem free_twice (v : verT) : freeV (freeV v) = freeV v := rfl
theorem freeF_nil {v : verT} (h : v.2.2 = []) : freeF v = v.1.length := by unfold freeF; rw [h]; rfl
/-- A row cut at the first place of a number. -/
theorem erase_at {ns : List Int} {n : Int} {k : Nat} (hk : k < ns.length) (hn : ns[k] = n) (hb : ∀ j (h : j < k), ns[j]'(by omega) ≠ n) : ns.take k ++ ns.drop (k + 1) = ns.erase n := by
  induction ns generalizing k with
  | nil => simp at hk
  | cons a ns ih =>
    cases k with
    | zero => simp at hn; subst hn; simp
    | succ k =>
      have h0 := hb 0 (by omega)
      simp at h0
      rw [List.erase_cons_tail (by simpa using h0), ← ih (by simpa using hk) (by simpa using hn) (fun j hj => by simpa using hb (j + 1) (by omega))]
      simp
theorem erase_len {ns : List Int} {n : Int} (h : n ∈ ns) : (ns.erase n).length = ns.length - 1 := List.length_erase_of_mem h
theorem pin_unpin {v : verT} (h : ((v.1.length : Nat) : Int) ∉ v.2.2) : unpV (pinV v) (v.1.length : Int) = v := by
  obtain ⟨a, b, c⟩ := v
  simp only [unpV, pinV] at *
  rw [List.erase_append_right _ h]; simp
theorem pin_twice (v : verT) : ((v.1.length : Nat) : Int) ∈ (unpV (pinV (pinV v)) (v.1.length : Int)).2.2 := by
  obtain ⟨a, b, c⟩ := v
  show ((a.length : Nat) : Int) ∈ List.erase ((c ++ [(a.length : Int)]) ++ [(a.length : Int)]) _
  rw [List.erase_append_left _ (by simp)]
  simp
end Go.Proofs.Ytfnplbplmcilpaa
