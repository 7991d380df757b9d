/-
  Insertion sort over plain data.
-/
import Derived.Test.YtpobimdcphjljaaHb
namespace Go.Proofs.Ytpobimdcphjljaa
open Go
set_option linter.unusedVariables false
set_option linter.unusedSimpArgs false
set_option linter.unnecessarySimpa false
set_option maxRecDepth 4000

def swp (xs : List samT) (j : Nat) : List samT := (xs.set (j + 1) (atD xs sam0 j)).set j (atD xs sam0 (j + 1))
noncomputable def sink : Nat → List samT → List samT
  | 0, xs => xs
  | j + 1, xs => if bfS (atD xs sam0 (j + 1)) (atD xs sam0 j) = true then sink j (swp xs j) else xs
noncomputable def srt (xs : List samT) : Nat → List samT
  | 0 => xs
  | i + 1 => sink i (srt xs i)
theorem swp_len (xs : List samT) (j : Nat) : (swp xs j).length = xs.length := by simp [swp]
theorem sink_len : ∀ (j : Nat) (xs : List samT), (sink j xs).length = xs.length
  | 0, xs => rfl
  | j + 1, xs => by
    unfold sink
    split
    · rw [sink_len j, swp_len]
    · rfl
theorem srt_len (xs : List samT) : ∀ i, (srt xs i).length = xs.length
  | 0 => rfl
  | i + 1 => by show (sink i (srt xs i)).length = _; rw [sink_len, srt_len xs i]
theorem swp_all {P : samT → Prop} {xs : List samT} {j : Nat} (hj : j + 1 < xs.length) (h : ∀ x ∈ xs, P x) : ∀ x ∈ swp xs j, P x := by
  intro x hx
  unfold swp at hx
  rcases List.mem_or_eq_of_mem_set hx with hx | rfl
  · rcases List.mem_or_eq_of_mem_set hx with hx | rfl
    · exact h x hx
    · exact h _ (atD_mem (by omega))
  · exact h _ (atD_mem hj)
theorem sink_all {P : samT → Prop} : ∀ {j : Nat} {xs : List samT}, j < xs.length → (∀ x ∈ xs, P x) → ∀ x ∈ sink j xs, P x
  | 0, xs, _, h => h
  | j + 1, xs, hj, h => by
    unfold sink
    split
    · exact sink_all (by rw [swp_len]; omega) (swp_all hj h)
    · exact h
theorem srt_all {P : samT → Prop} {xs : List samT} (h : ∀ x ∈ xs, P x) : ∀ i, i ≤ xs.length → ∀ x ∈ srt xs i, P x
  | 0, _ => h
  | i + 1, hi => sink_all (by rw [srt_len]; omega) (srt_all h i (by omega))
theorem sink_T {j : Nat} {xs : List samT} (h : bfS (atD xs sam0 (j + 1)) (atD xs sam0 j) = true) : sink (j + 1) xs = sink j (swp xs j) := by
  conv => lhs; unfold sink
  rw [if_pos h]
theorem sink_F {j : Nat} {xs : List samT} (h : ¬ bfS (atD xs sam0 (j + 1)) (atD xs sam0 j) = true) : sink (j + 1) xs = xs := by
  conv => lhs; unfold sink
  rw [if_neg h]
/-- The end of a row stays as it is. -/
theorem swp_app {A B : List samT} {j : Nat} (h : j + 1 < A.length) : swp (A ++ B) j = swp A j ++ B := by
  unfold swp
  rw [show atD (A ++ B) sam0 j = atD A sam0 j by rw [getD_at (by simp; omega), getD_at (by omega), List.getElem_append_left], show atD (A ++ B) sam0 (j + 1) = atD A sam0 (j + 1) by rw [getD_at (by simp; omega), getD_at h, List.getElem_append_left]]
  rw [List.set_append_left _ _ h, List.set_append_left _ _ (by simp; omega)]
theorem sink_app {B : List samT} : ∀ {j : Nat} {A : List samT}, j < A.length → sink j (A ++ B) = sink j A ++ B
  | 0, A, _ => rfl
  | j + 1, A, h => by
    have e1 : atD (A ++ B) sam0 j = atD A sam0 j := by rw [getD_at (by simp; omega), getD_at (by omega), List.getElem_append_left]
    have e2 : atD (A ++ B) sam0 (j + 1) = atD A sam0 (j + 1) := by rw [getD_at (by simp; omega), getD_at h, List.getElem_append_left]
    by_cases k : bfS (atD A sam0 (j + 1)) (atD A sam0 j) = true
    · rw [sink_T k, sink_T (by rw [e1, e2]; exact k), swp_app h, sink_app (by rw [swp_len]; omega)]
    · rw [sink_F k, sink_F (by rw [e1, e2]; exact k)]
theorem nnS_atD (xs : List samT) (j : Nat) (h : j < xs.length) : atD (nnS xs) sam0 j = (true, (atD xs sam0 j).2) := by
  rw [getD_at (by rw [nnS_len]; exact h), nnS_at, getD_at h]
theorem nnS_swp {xs : List samT} {j : Nat} (h : j + 1 < xs.length) : nnS (swp xs j) = swp (nnS xs) j := by
  unfold swp
  rw [nnS_atD xs j (by omega), nnS_atD xs (j + 1) h]
  unfold nnS
  rw [List.map_set, List.map_set]
theorem nnS_sink : ∀ {j : Nat} {xs : List samT}, j < xs.length → nnS (sink j xs) = sink j (nnS xs)
  | 0, xs, _ => rfl
  | j + 1, xs, h => by
    have e : bfS (atD (nnS xs) sam0 (j + 1)) (atD (nnS xs) sam0 j) = bfS (atD xs sam0 (j + 1)) (atD xs sam0 j) := by
      rw [nnS_atD xs j (by omega), nnS_atD xs (j + 1) h]; rfl
    by_cases k : bfS (atD xs sam0 (j + 1)) (atD xs sam0 j) = true
    · rw [sink_T k, sink_T (by rw [e]; exact k), nnS_sink (by rw [swp_len]; omega), nnS_swp h]
    · rw [sink_F k, sink_F (by rw [e]; exact k)]
/-- The spec's sort: each element is put behind what is sorted, and sinks. -/
noncomputable def srtS (xs : List samT) : Nat → List samT
  | 0 => []
  | i + 1 => sink i (srtS xs i ++ [(true, (atD xs sam0 i).2)])
theorem srtS_len (xs : List samT) : ∀ i, (srtS xs i).length = i
  | 0 => rfl
  | i + 1 => by show (sink i _).length = _; rw [sink_len, List.length_append, srtS_len xs i]; rfl
theorem srt_eq (xs : List samT) : ∀ i, i ≤ xs.length → nnS (srt xs i) = srtS xs i ++ nnS (xs.drop i)
  | 0, _ => by simp [srt, srtS]
  | i + 1, h => by
    have ih := srt_eq xs i (by omega)
    show nnS (sink i (srt xs i)) = sink i (srtS xs i ++ [(true, (atD xs sam0 i).2)]) ++ nnS (xs.drop (i + 1))
    rw [nnS_sink (by rw [srt_len]; omega), ih, List.drop_eq_getElem_cons (show i < xs.length by omega), ← sink_app (by rw [List.length_append, srtS_len]; simp), List.append_assoc, getD_at (show i < xs.length by omega)]
    rfl
theorem srt_fin (xs : List samT) : nnS (srt xs xs.length) = srtS xs xs.length := by
  rw [srt_eq xs xs.length (Nat.le_refl _), List.drop_length]; simp [nnS]
end Go.Proofs.Ytpobimdcphjljaa
