/-
  Alerts: what the step, the states and the rings come to; the plain laws.
-/
import Derived.Test.YtfhoalglgmdiaaaDoorPk
namespace Go.Proofs.YtfhoalglgmdiaaaDoor
open Go
set_option linter.unusedVariables false
set_option linter.unusedSimpArgs false
set_option linter.unnecessarySimpa false

def mvA (ab : Int) (a : Int × Int) (x : Int × Int) : Int × Int :=
  if ab < x.2 then (if a.1 = 0 then (1, x.1) else if a.1 = 3 then (2, x.1) else a) else (if a.1 = 1 then (0, x.1) else if a.1 = 2 then (3, x.1) else a)
def wtA (ho ca : Int) (x : Int × Int) (a : Int × Int) : Int × Int :=
  if a.1 = 1 ∧ ho ≤ x.1 - a.2 then (2, x.1) else if a.1 = 3 ∧ ca ≤ x.1 - a.2 then (0, x.1) else a
def stA (r : Int × Int × Int) (a : Int × Int) (x : Int × Int) : Int × Int := wtA r.2.1 r.2.2 x (mvA r.1 a x)
def okA (a : Int × Int) (t : Int) : Prop := 0 ≤ a.1 ∧ a.1 ≤ 3 ∧ 0 ≤ a.2 ∧ a.2 ≤ t
theorem four_of {z : Int} (h : 0 ≤ z ∧ z ≤ 3) : z = 0 ∨ z = 1 ∨ z = 2 ∨ z = 3 := by omega
theorem stA_ok {r : Int × Int × Int} {a x : Int × Int} (h : okA a x.1) : okA (stA r a x) x.1 ∧ ((stA r a x).1 = 1 ∨ (stA r a x).1 = 2 ↔ r.1 < x.2) ∧ a.2 ≤ (stA r a x).2 := by
  obtain ⟨st, si⟩ := a
  obtain ⟨t, v⟩ := x
  obtain ⟨ab, ho, ca⟩ := r
  unfold okA at *
  dsimp only at h ⊢
  obtain ⟨h1, h2, h3, h4⟩ := h
  by_cases hv : ab < v
  · rcases four_of ⟨h1, h2⟩ with rfl | rfl | rfl | rfl <;> simp [stA, mvA, wtA, hv] <;> first | omega | (split <;> simp <;> omega)
  · rcases four_of ⟨h1, h2⟩ with rfl | rfl | rfl | rfl <;> simp [stA, mvA, wtA, hv] <;> first | omega | (split <;> simp <;> omega)
theorem stA_twice {r : Int × Int × Int} {a x : Int × Int} (h : okA a x.1) : stA r (stA r a x) x = stA r a x := by
  obtain ⟨st, si⟩ := a
  obtain ⟨t, v⟩ := x
  obtain ⟨ab, ho, ca⟩ := r
  unfold okA at h
  dsimp only at h
  obtain ⟨h1, h2, h3, h4⟩ := h
  by_cases hv : ab < v <;> rcases four_of ⟨h1, h2⟩ with rfl | rfl | rfl | rfl
  · by_cases hh : ho ≤ 0 <;> simp [stA, mvA, wtA, hv, hh]
  · by_cases hh : ho ≤ t - si <;> simp [stA, mvA, wtA, hv, hh]
  · simp [stA, mvA, wtA, hv]
  · simp [stA, mvA, wtA, hv]
  · simp [stA, mvA, wtA, hv]
  · simp [stA, mvA, wtA, hv]
  · by_cases hh : ca ≤ 0 <;> simp [stA, mvA, wtA, hv, hh]
  · by_cases hh : ca ≤ t - si <;> simp [stA, mvA, wtA, hv, hh]
def stsL (r : Int × Int × Int) : Int × Int → List (Int × Int) → List Int
  | _, [] => []
  | a, x :: xs => (stA r a x).1 :: stsL r (stA r a x) xs
theorem stsL_app (r : Int × Int × Int) : ∀ (xs ys : List (Int × Int)) (a : Int × Int), stsL r a (xs ++ ys) = stsL r a xs ++ stsL r (xs.foldl (stA r) a) ys
  | [], ys, a => rfl
  | x :: xs, ys, a => by simp only [List.cons_append, stsL, List.foldl_cons]; rw [stsL_app r xs ys]
theorem stsL_len (r : Int × Int × Int) : ∀ (xs : List (Int × Int)) (a : Int × Int), (stsL r a xs).length = xs.length
  | [], _ => rfl
  | x :: xs, a => by simp [stsL, stsL_len r xs]
def aftA (r : Int × Int × Int) (xs : List (Int × Int)) : Int × Int := xs.foldl (stA r) (0, 0)
theorem stsL_snoc (r : Int × Int × Int) (xs : List (Int × Int)) (i : Nat) (h : i < xs.length) : stsL r (0, 0) (xs.take (i + 1)) = stsL r (0, 0) (xs.take i) ++ [(stA r (aftA r (xs.take i)) xs[i]).1] := by
  rw [List.take_succ_eq_append_getElem h, stsL_app]; rfl
theorem aftA_snoc (r : Int × Int × Int) (xs : List (Int × Int)) (i : Nat) (h : i < xs.length) : aftA r (xs.take (i + 1)) = stA r (aftA r (xs.take i)) xs[i] := by
  unfold aftA
  rw [List.take_succ_eq_append_getElem h, List.foldl_append]; rfl
theorem stsL_take (r : Int × Int × Int) (xs : List (Int × Int)) (a : Int × Int) (k : Nat) : stsL r a (xs.take k) = (stsL r a xs).take k := by
  by_cases h : k ≤ xs.length
  · have h1 := stsL_app r (xs.take k) (xs.drop k) a
    rw [List.take_append_drop] at h1
    have h2 : (stsL r a (xs.take k)).length = k := by rw [stsL_len, List.length_take]; omega
    rw [h1, List.take_append_of_le_length (by omega), List.take_of_length_le (l := stsL r a (xs.take k)) (by omega)]
  · rw [List.take_of_length_le (by omega), List.take_of_length_le (by rw [stsL_len]; omega)]
/-- Points whose times ascend, from a time on. -/
def ascL : Int → List (Int × Int) → Prop
  | _, [] => True
  | t, x :: xs => t ≤ x.1 ∧ ascL x.1 xs
theorem stsL_high (r : Int × Int × Int) : ∀ (xs : List (Int × Int)) (a : Int × Int) (t : Int), okA a t → ascL t xs → ∀ (i : Nat) (h : i < xs.length), ((stsL r a xs).getD i 0 = 1 ∨ (stsL r a xs).getD i 0 = 2) ↔ r.1 < xs[i].2
  | x :: xs, a, t, ho, ha, 0, h => by
    have := (stA_ok (r := r) (a := a) (x := x) ⟨ho.1, ho.2.1, ho.2.2.1, Int.le_trans ho.2.2.2 ha.1⟩).2.1
    simpa [stsL] using this
  | x :: xs, a, t, ho, ha, i + 1, h => by
    have hk := (stA_ok (r := r) (a := a) (x := x) ⟨ho.1, ho.2.1, ho.2.2.1, Int.le_trans ho.2.2.2 ha.1⟩).1
    have := stsL_high r xs (stA r a x) x.1 hk ha.2 i (by simpa using h)
    simpa [stsL] using this
theorem stA_low {r : Int × Int × Int} {a x : Int × Int} (h0 : a.1 = 0) (hv : x.2 ≤ r.1) : stA r a x = a := by
  obtain ⟨st, si⟩ := a
  dsimp only at h0; subst h0
  simp [stA, mvA, wtA, Int.not_lt.2 hv]
theorem stsL_quiet (r : Int × Int × Int) : ∀ (xs : List (Int × Int)) (a : Int × Int), a.1 = 0 → (∀ x ∈ xs, x.2 ≤ r.1) → stsL r a xs = List.replicate xs.length 0
  | [], a, _, _ => rfl
  | x :: xs, a, h0, hx => by
    rw [stsL, stA_low h0 (hx x (List.mem_cons_self ..)), h0, stsL_quiet r xs a h0 fun y hy => hx y (List.mem_cons_of_mem _ hy)]; rfl
/-- How often 2 comes directly behind 0 or 1. -/
def rngI (b s : Int) : Nat := if s = 2 ∧ (b = 0 ∨ b = 1) then 1 else 0
def rngL : Int → List Int → Nat
  | _, [] => 0
  | b, s :: ss => rngI b s + rngL s ss
def lstL : Int → List Int → Int
  | b, [] => b
  | _, s :: ss => lstL s ss
theorem rngL_snoc : ∀ (ss : List Int) (b s : Int), rngL b (ss ++ [s]) = rngL b ss + rngI (lstL b ss) s
  | [], b, s => by simp [rngL, lstL]
  | x :: ss, b, s => by simp only [List.cons_append, rngL, lstL]; rw [rngL_snoc ss x s]; omega
theorem lstL_snoc : ∀ (ss : List Int) (b s : Int), lstL b (ss ++ [s]) = s
  | [], b, s => rfl
  | x :: ss, b, s => by simp only [List.cons_append, lstL]; exact lstL_snoc ss x s
theorem rngL_le : ∀ (ss : List Int) (b : Int), rngL b ss ≤ ss.length
  | [], _ => Nat.le_refl _
  | s :: ss, b => by
    have := rngL_le ss s
    have h1 : rngI b s ≤ 1 := by unfold rngI; split <;> omega
    simp only [rngL, List.length_cons]; omega
theorem rngL_zero : ∀ (n : Nat) (b : Int), rngL b (List.replicate n 0) = 0
  | 0, _ => rfl
  | n + 1, b => by simp only [List.replicate_succ, rngL, rngL_zero n]; simp [rngI]
def cntR (r : Int × Int × Int) (xs : List (Int × Int)) : Nat := rngL 0 (stsL r (0, 0) xs)
/-- How many values are high. -/
def hiN (ab : Int) : List (Int × Int) → Nat
  | [] => 0
  | x :: xs => (if ab < x.2 then 1 else 0) + hiN ab xs
theorem hiN_snoc (ab : Int) : ∀ (xs : List (Int × Int)) (x : Int × Int), hiN ab (xs ++ [x]) = hiN ab xs + (if ab < x.2 then 1 else 0)
  | [], x => by simp [hiN]
  | y :: xs, x => by simp only [List.cons_append, hiN]; rw [hiN_snoc ab xs x]; omega
theorem rings_high (r : Int × Int × Int) : ∀ (xs : List (Int × Int)) (a : Int × Int) (t : Int) (b : Int), okA a t → ascL t xs → rngL b (stsL r a xs) ≤ hiN r.1 xs
  | [], _, _, _, _, _ => Nat.le_refl _
  | x :: xs, a, t, b, ho, ha => by
    obtain ⟨hk, hh, _⟩ := stA_ok (r := r) (a := a) (x := x) ⟨ho.1, ho.2.1, ho.2.2.1, Int.le_trans ho.2.2.2 ha.1⟩
    have := rings_high r xs (stA r a x) x.1 (stA r a x).1 hk ha.2
    have h1 : rngI b (stA r a x).1 ≤ (if r.1 < x.2 then 1 else 0) := by
      unfold rngI
      split
      · rename_i h2
        rw [if_pos (hh.1 (.inr h2.1))]; exact Nat.le_refl _
      · omega
    simp only [stsL, rngL, hiN]; omega
theorem hiN_le (ab : Int) : ∀ xs : List (Int × Int), hiN ab xs ≤ xs.length
  | [] => Nat.le_refl _
  | x :: xs => by
    have := hiN_le ab xs
    simp only [hiN, List.length_cons]; split <;> omega
/-- How many values are high behind one that is not. -/
def edI (ab : Int) (ph : Bool) (x : Int × Int) : Nat := if ab < x.2 ∧ ph = false then 1 else 0
def edN (ab : Int) : Bool → List (Int × Int) → Nat
  | _, [] => 0
  | ph, x :: xs => edI ab ph x + edN ab (decide (ab < x.2)) xs
def lstH (ab : Int) : Bool → List (Int × Int) → Bool
  | ph, [] => ph
  | _, x :: xs => lstH ab (decide (ab < x.2)) xs
theorem edN_snoc (ab : Int) : ∀ (xs : List (Int × Int)) (ph : Bool) (x : Int × Int), edN ab ph (xs ++ [x]) = edN ab ph xs + edI ab (lstH ab ph xs) x
  | [], ph, x => by simp [edN, lstH]
  | y :: xs, ph, x => by simp only [List.cons_append, edN, lstH]; rw [edN_snoc ab xs _ x]; omega
theorem lstH_snoc (ab : Int) : ∀ (xs : List (Int × Int)) (ph : Bool) (x : Int × Int), lstH ab ph (xs ++ [x]) = decide (ab < x.2)
  | [], ph, x => rfl
  | y :: xs, ph, x => by simp only [List.cons_append, lstH]; exact lstH_snoc ab xs _ x
theorem edN_le (ab : Int) : ∀ (xs : List (Int × Int)) (ph : Bool), edN ab ph xs ≤ xs.length
  | [], _ => Nat.le_refl _
  | x :: xs, ph => by
    have := edN_le ab xs (decide (ab < x.2))
    have h1 : edI ab ph x ≤ 1 := by unfold edI; split <;> omega
    simp only [edN, List.length_cons]; omega
theorem once_hi {ab si : Int} {x : Int × Int} (h : ab < x.2) : stA (ab, 0, 0) (0, si) x = (2, x.1) := by simp [stA, mvA, wtA, h]
theorem once_hi2 {r : Int × Int × Int} {si : Int} {x : Int × Int} (h : r.1 < x.2) : stA r (2, si) x = (2, si) := by simp [stA, mvA, wtA, h]
theorem once_lo2 {ab ho si : Int} {x : Int × Int} (h : ¬ ab < x.2) : stA (ab, ho, 0) (2, si) x = (0, x.1) := by simp [stA, mvA, wtA, h]
theorem once_lo {r : Int × Int × Int} {si : Int} {x : Int × Int} (h : ¬ r.1 < x.2) : stA r (0, si) x = (0, si) := stA_low rfl (by omega)
theorem once_lo1 {r : Int × Int × Int} {si : Int} {x : Int × Int} (h : ¬ r.1 < x.2) : stA r (1, si) x = (0, x.1) := by simp [stA, mvA, wtA, h]
theorem rings_once (ab : Int) : ∀ (xs : List (Int × Int)) (ph : Bool) (si : Int), rngL (if ph then 2 else 0) (stsL (ab, 0, 0) ((if ph then 2 else 0), si) xs) = edN ab ph xs
  | [], _, _ => rfl
  | x :: xs, ph, si => by
    by_cases h : ab < x.2
    · have h1 := rings_once ab xs true x.1
      have h2 := rings_once ab xs true si
      cases ph <;> simp only [stsL, rngL, edN, edI, h, decide_true, if_true, if_false, Bool.false_eq_true] at h1 h2 ⊢
      · rw [once_hi h]; dsimp only; rw [h1]; simp [rngI]
      · rw [once_hi2 (r := (ab, 0, 0)) h]; dsimp only; rw [h2]; simp [rngI]
    · have h1 := rings_once ab xs false x.1
      have h2 := rings_once ab xs false si
      cases ph <;> simp only [stsL, rngL, edN, edI, h, decide_false, if_true, if_false, Bool.false_eq_true] at h1 h2 ⊢
      · rw [once_lo (r := (ab, 0, 0)) h]; dsimp only; rw [h2]; simp [rngI]
      · rw [once_lo2 h]; dsimp only; rw [h1]; simp [rngI]
theorem edN_dec (ab : Int) (ph : Bool) (x : Int × Int) (xs : List (Int × Int)) : edN ab ph (x :: xs) = edI ab ph x + edN ab (decide (ab < x.2)) xs := rfl
/-- With a waiting time there are no more rings: those that wait are still to come. -/
theorem rings_hold (ab ho : Int) : ∀ (xs : List (Int × Int)) (si : Int), 
    rngL 0 (stsL (ab, ho, 0) (0, si) xs) ≤ edN ab false xs ∧ rngL 1 (stsL (ab, ho, 0) (1, si) xs) ≤ edN ab true xs + 1 ∧ rngL 2 (stsL (ab, ho, 0) (2, si) xs) ≤ edN ab true xs
  | [], si => ⟨Nat.le_refl _, by simp [stsL, rngL], Nat.le_refl _⟩
  | x :: xs, si => by
    have i1 := rings_hold ab ho xs x.1
    have i2 := rings_hold ab ho xs si
    by_cases h : ab < x.2
    · refine ⟨?_, ?_, ?_⟩
      · by_cases hh : ho ≤ 0
        · have e : stA (ab, ho, 0) (0, si) x = (2, x.1) := by simp [stA, mvA, wtA, h, hh]
          simp only [stsL, rngL, edN, edI, h, decide_true, e]; simp [rngI]; omega
        · have e : stA (ab, ho, 0) (0, si) x = (1, x.1) := by simp [stA, mvA, wtA, h, hh]
          simp only [stsL, rngL, edN, edI, h, decide_true, e]; simp [rngI]; omega
      · by_cases hh : ho ≤ x.1 - si
        · have e : stA (ab, ho, 0) (1, si) x = (2, x.1) := by simp [stA, mvA, wtA, h, hh]
          simp only [stsL, rngL, edN, edI, h, decide_true, e]; simp [rngI]; omega
        · have e : stA (ab, ho, 0) (1, si) x = (1, si) := by simp [stA, mvA, wtA, h, hh]
          simp only [stsL, rngL, edN, edI, h, decide_true, e]; simp [rngI]; omega
      · simp only [stsL, rngL, edN, edI, h, decide_true, once_hi2 (r := (ab, ho, 0)) (si := si) h]; simp [rngI]; omega
    · refine ⟨?_, ?_, ?_⟩
      · simp only [stsL, rngL, edN, edI, h, decide_false, once_lo (r := (ab, ho, 0)) (si := si) h]; simp [rngI]; omega
      · simp only [stsL, rngL, edN, edI, h, decide_false, once_lo1 (r := (ab, ho, 0)) (si := si) h]; simp [rngI]; omega
      · simp only [stsL, rngL, edN, edI, h, decide_false, once_lo2 (ho := ho) (si := si) h]; simp [rngI]; omega
end Go.Proofs.YtfhoalglgmdiaaaDoor
