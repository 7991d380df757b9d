/-
  A series at a version: the plain laws (ascending times, the point that was put last).
-/
import Derived.Test.YtfnplbplmcilpaaVg
namespace Go.Proofs.Ytfnplbplmcilpaa
open Go
set_option linter.unusedVariables false
set_option linter.unusedSimpArgs false
set_option linter.unnecessarySimpa false

def Asc (xs : List pntT) : Prop := xs.Pairwise fun a b => a.1 < b.1
theorem Asc.get {xs : List pntT} (h : Asc xs) {i j : Nat} (hij : i < j) (hj : j < xs.length) : (atD xs (0, 0) i).1 < (atD xs (0, 0) j).1 := by
  rw [getD_at hj, getD_at (by omega)]
  exact List.pairwise_iff_getElem.1 h i j (by omega) hj hij
theorem ge_mono {xs : List pntT} (h : Asc xs) (t : Int) : ∀ a b, a ≤ b → b < xs.length → geP xs t a = true → geP xs t b = true := fun a b hab hb ha => by
  unfold geP at ha ⊢
  rcases Nat.lt_or_eq_of_le hab with hlt | rfl
  · have := h.get hlt hb
    simp at ha ⊢; omega
  · exact ha
theorem place_spec {xs : List pntT} (h : Asc xs) (t : Int) : (∀ a, a < placeF xs t → (atD xs (0, 0) a).1 < t) ∧ (∀ a, placeF xs t ≤ a → a < xs.length → t ≤ (atD xs (0, 0) a).1) := by
  obtain ⟨k1, k2⟩ := srchF_first (geP xs t) xs.length (ge_mono h t) 0 xs.length (Nat.zero_le _) (Nat.le_refl _) (fun a ha => absurd ha (Nat.not_lt_zero a)) (fun a ha hb => by omega)
  refine ⟨fun a ha => ?_, fun a ha hb => ?_⟩
  · have := k1 a ha
    unfold geP at this
    simpa using this
  · have := k2 a ha hb
    unfold geP at this
    simpa using this
theorem take_lt {xs : List pntT} (h : Asc xs) (x : pntT) : ∀ y ∈ xs.take (placeF xs x.1), y.1 < x.1 := fun y hy => by
  obtain ⟨i, hi, rfl⟩ := List.mem_iff_getElem.1 hy
  have hi' : i < placeF xs x.1 := by simp at hi; omega
  have hl := placeF_le xs x.1
  have := (place_spec h x.1).1 i hi'
  rw [getD_at (by omega)] at this
  simpa using this
theorem drop_gt {xs : List pntT} (h : Asc xs) (x : pntT) : ∀ y ∈ xs.drop (behF xs x), x.1 < y.1 := fun y hy => by
  obtain ⟨i, hi, rfl⟩ := List.mem_iff_getElem.1 hy
  have hi' : behF xs x + i < xs.length := by simp at hi; omega
  rw [List.getElem_drop]
  have hs := (place_spec h x.1).2
  have hb := behF_le xs x
  have hk : placeF xs x.1 < xs.length := by omega
  have hkk := hs _ (Nat.le_refl _) hk
  rw [← getD_at (d := (0, 0)) hi']
  by_cases hd : placeF xs x.1 < xs.length ∧ (atD xs (0, 0) (placeF xs x.1)).1 = x.1
  · have e : behF xs x = placeF xs x.1 + 1 := if_pos hd
    have := h.get (i := placeF xs x.1) (j := behF xs x + i) (by omega) hi'
    omega
  · have e : behF xs x = placeF xs x.1 := if_neg hd
    have hne : (atD xs (0, 0) (placeF xs x.1)).1 ≠ x.1 := fun q => hd ⟨hk, q⟩
    rcases Nat.eq_or_lt_of_le (show placeF xs x.1 ≤ behF xs x + i by omega) with q | q
    · rw [← q]; omega
    · have := h.get q hi'
      omega
theorem ins_asc {xs : List pntT} (h : Asc xs) (x : pntT) : Asc (insF xs x) := by
  have h1 := take_lt h x
  have h2 := drop_gt h x
  unfold insF Asc
  rw [List.pairwise_append, List.pairwise_append]
  refine ⟨⟨h.sublist (List.take_sublist _ _), List.pairwise_singleton _ _, fun a ha b hb => ?_⟩, h.sublist (List.drop_sublist _ _), fun a ha b hb => ?_⟩
  · simp at hb; subst hb; exact h1 a ha
  · rcases List.mem_append.1 ha with ha | ha
    · have := h1 a ha; have := h2 b hb; omega
    · simp at ha; subst ha; exact h2 b hb
theorem ins_mem {xs : List pntT} {x y : pntT} (h : y ∈ insF xs x) : y ∈ xs ∨ y = x := by
  unfold insF at h
  rcases List.mem_append.1 h with h | h
  · rcases List.mem_append.1 h with h | h
    · exact .inl (List.mem_of_mem_take h)
    · exact .inr (by simpa using h)
  · exact .inl (List.mem_of_mem_drop h)
theorem ser_ok (ps : List pntT) (hp : ∀ y ∈ ps, pointB y.1 y.2 = true) : Asc (serAt ps) ∧ ∀ y ∈ serAt ps, pointB y.1 y.2 = true := by
  suffices H : ∀ (ps xs : List pntT), (∀ y ∈ ps, pointB y.1 y.2 = true) → Asc xs → (∀ y ∈ xs, pointB y.1 y.2 = true) → Asc (ps.foldl insF xs) ∧ ∀ y ∈ ps.foldl insF xs, pointB y.1 y.2 = true from H ps [] hp List.Pairwise.nil (fun y hy => by cases hy)
  intro ps
  induction ps with
  | nil => intro xs _ h1 h2; exact ⟨h1, h2⟩
  | cons p ps ih =>
    intro xs hp h1 h2
    rw [List.foldl_cons]
    refine ih _ (fun y hy => hp y (List.mem_cons_of_mem _ hy)) (ins_asc h1 p) fun y hy => ?_
    rcases ins_mem hy with hy | rfl
    · exact h2 y hy
    · exact hp _ (List.mem_cons_self ..)
theorem ser_valid {xs : List pntT} (h : Asc xs) (hp : ∀ y ∈ xs, pointB y.1 y.2 = true) (hl : xs.length ≤ 16) : serB xs = true := by
  refine serB_T hl fun j hj => ⟨?_, fun h0 => h.get (by omega) hj⟩
  rw [getD_at hj]
  exact hp _ (List.getElem_mem hj)
/-- The last point put is found at its time. -/
theorem ins_value {xs : List pntT} (h : Asc xs) (x : pntT) : 0 < srchF (gtP (insF xs x) x.1) 0 (insF xs x).length ∧ (atD (insF xs x) (0, 0) (srchF (gtP (insF xs x) x.1) 0 (insF xs x).length - 1)).2 = x.2 := by
  have ha := ins_asc h x
  have hpl := placeF_le xs x.1
  have hbl := behF_le xs x
  obtain ⟨k, hk⟩ : ∃ k, k = placeF xs x.1 := ⟨_, rfl⟩
  have hlen : (insF xs x).length = k + 1 + (xs.length - behF xs x) := by unfold insF; simp; omega
  have hx : atD (insF xs x) (0, 0) k = x := by
    rw [getD_at (by omega)]
    unfold insF
    have e : (xs.take (placeF xs x.1)).length = k := by simp; omega
    simp only [List.append_assoc, List.singleton_append]
    rw [List.getElem_append_right (by omega)]
    simp [e]
  obtain ⟨ys, hys⟩ : ∃ ys, ys = insF xs x := ⟨_, rfl⟩
  rw [← hys] at ha hlen hx ⊢
  have hm : ∀ a b, a ≤ b → b < ys.length → gtP ys x.1 a = true → gtP ys x.1 b = true := fun a b hab hb hq => by
    unfold gtP at hq ⊢
    rcases Nat.lt_or_eq_of_le hab with hlt | rfl
    · have := ha.get hlt hb
      simp at hq ⊢; omega
    · exact hq
  have hr := srchF_le (gtP ys x.1) 0 ys.length (Nat.zero_le _)
  obtain ⟨k1, k2⟩ := srchF_first (gtP ys x.1) ys.length hm 0 ys.length (Nat.zero_le _) (Nat.le_refl _) (fun a ha => absurd ha (Nat.not_lt_zero a)) (fun a ha hb => by omega)
  obtain ⟨r, hrd⟩ : ∃ r, r = srchF (gtP ys x.1) 0 ys.length := ⟨_, rfl⟩
  rw [← hrd] at hr k1 k2 ⊢
  have hgt : k < r := Nat.lt_of_not_le fun hle => by
    have := k2 k hle (by omega)
    unfold gtP at this
    rw [hx] at this
    simp at this
  have hle : r ≤ k + 1 := Nat.le_of_not_lt fun hlt => by
    have := k1 (k + 1) hlt
    unfold gtP at this
    have h2 := ha.get (i := k) (j := k + 1) (by omega) (by omega)
    rw [hx] at h2
    simp at this; omega
  have e : r = k + 1 := by omega
  refine ⟨by omega, ?_⟩
  rw [e, Nat.add_sub_cancel, hx]
end Go.Proofs.Ytfnplbplmcilpaa
