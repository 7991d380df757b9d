/-
  Tiers: the plain laws.
-/
import Derived.Test.YtfcnjhkebbjojaaFl
namespace Go.Proofs.Ytfcnjhkebbjojaa
open Go
set_option linter.unusedVariables false
set_option linter.unusedSimpArgs false
set_option linter.unnecessarySimpa false

def atD {α : Type} (xs : List α) (d : α) (j : Nat) : α := xs.getD j d

abbrev tirT := Int × Int
def tirD (x : tirT) : List D := [iD x.1, iD x.2]
def tirC (x : tirT) : List C := [.i .i64 x.1, .i .i64 x.2]
theorem tirD_len (x : tirT) : (tirD x).length = 2 := rfl
def tirG (z : Int) : tirT := (z, z + 1)
theorem tir_ext {x y : tirT} (h0 : x.1 = y.1) (h1 : x.2 = y.2) : x = y := by
  obtain ⟨x0, x1⟩ := x; obtain ⟨y0, y1⟩ := y; dsimp only at h0 h1; subst h0 h1; rfl
abbrev bktT := Int × Int × Int × Int × Int
def bktD (x : bktT) : List D := [iD x.1, iD x.2.1, iD x.2.2.1, iD x.2.2.2.1, iD x.2.2.2.2]
def bktC (x : bktT) : List C := [.i .i64 x.1, .i .i64 x.2.1, .i .i64 x.2.2.1, .i .i64 x.2.2.2.1, .i .i64 x.2.2.2.2]
theorem bktD_len (x : bktT) : (bktD x).length = 5 := rfl
def bktG (z : Int) : bktT := (z, z + 1, z + 1 + 1, z + 1 + 1 + 1, z + 1 + 1 + 1 + 1)
theorem bkt_ext {x y : bktT} (h0 : x.1 = y.1) (h1 : x.2.1 = y.2.1) (h2 : x.2.2.1 = y.2.2.1) (h3 : x.2.2.2.1 = y.2.2.2.1) (h4 : x.2.2.2.2 = y.2.2.2.2) : x = y := by
  obtain ⟨x0, x1, x2, x3, x4⟩ := x; obtain ⟨y0, y1, y2, y3, y4⟩ := y; dsimp only at h0 h1 h2 h3 h4; subst h0 h1 h2 h3 h4; rfl
def AllTo (p : Nat → Prop) (i : Nat) : Prop := ∀ j, j < i → p j
theorem AllTo.zero (p : Nat → Prop) : AllTo p 0 := fun j h => by omega
theorem AllTo.succ {p : Nat → Prop} {i : Nat} (h : AllTo p i) (k : p i) : AllTo p (i + 1) := fun j hj => by
  by_cases e : j = i
  · rw [e]; exact k
  · exact h j (by omega)
theorem getD_at {α : Type} {d : α} {xs : List α} {i : Nat} (h : i < xs.length) : atD xs d i = xs[i] := by simp [atD, h]
theorem old_eq {w n : Int} (hw : 1 ≤ w) (hn : 0 ≤ n) : n + (w - n % w) % w = (n + w - 1) / w * w := by
  have h1 := Int.mul_ediv_add_emod n w
  have h2 := Int.emod_nonneg n (show w ≠ 0 by omega)
  have h3 := Int.emod_lt_of_pos n (show 0 < w by omega)
  obtain ⟨q, hq⟩ : ∃ q, q = n / w := ⟨_, rfl⟩
  obtain ⟨r, hr⟩ : ∃ r, r = n % w := ⟨_, rfl⟩
  rw [← hr] at h1 h2 h3 ⊢
  rw [← hq] at h1
  subst h1
  by_cases h0 : r = 0
  · subst h0
    rw [show w * q + 0 + w - 1 = (w - 1) + w * q by omega, Int.add_mul_ediv_left _ _ (show w ≠ 0 by omega), Int.ediv_eq_zero_of_lt (by omega) (by omega), Int.sub_zero, Int.emod_self, Int.zero_add, Int.mul_comm q w]
    omega
  · rw [show w * q + r + w - 1 = (r - 1) + w * (q + 1) by rw [Int.mul_add]; omega, Int.add_mul_ediv_left _ _ (show w ≠ 0 by omega), Int.ediv_eq_zero_of_lt (by omega) (by omega), Int.emod_eq_of_lt (by omega) (by omega), Int.zero_add, Int.mul_comm (q + 1) w, Int.mul_add]
    omega
def fromF (x : tirT) (now : Int) : Int := if now - x.2 < 0 then 0 else now - x.2
def oldF (x : tirT) (now : Int) : Int := (fromF x now + x.1 - 1) / x.1 * x.1
theorem ceil_bd {w n : Int} (hw : 1 ≤ w) (hn : 0 ≤ n) : n ≤ (n + w - 1) / w * w ∧ (n + w - 1) / w * w ≤ n + w - 1 ∧ 0 ≤ (n + w - 1) / w := by
  have h1 := Int.mul_ediv_add_emod (n + w - 1) w
  have h2 := Int.emod_nonneg (n + w - 1) (show w ≠ 0 by omega)
  have h3 := Int.emod_lt_of_pos (n + w - 1) (show 0 < w by omega)
  have h4 : 0 ≤ (n + w - 1) / w := Int.ediv_nonneg (by omega) (by omega)
  rw [Int.mul_comm] at h1
  omega
theorem ceil_mono {w n m : Int} (hw : 1 ≤ w) (h : n ≤ m) : (n + w - 1) / w * w ≤ (m + w - 1) / w * w :=
  Int.mul_le_mul_of_nonneg_right (Int.ediv_le_ediv (by omega) (by omega)) (by omega)
theorem fromF_bd {x : tirT} {now : Int} : 0 ≤ fromF x now ∧ now - x.2 ≤ fromF x now := by unfold fromF; split <;> omega
theorem fromF_le {x : tirT} {now : Int} (h : 0 ≤ now) (hk : 0 ≤ x.2) : fromF x now ≤ now := by unfold fromF; split <;> omega
theorem fromF_spec (x : tirT) (now : Int) : (if (0 : Int) < now - x.2 then now - x.2 else 0) = fromF x now := by unfold fromF; split <;> split <;> omega
theorem oldF_bd {x : tirT} {now : Int} (hw : 1 ≤ x.1) : 0 ≤ oldF x now ∧ now - x.2 ≤ oldF x now ∧ oldF x now ≤ fromF x now + x.1 - 1 := by
  have h1 := ceil_bd hw (fromF_bd (x := x) (now := now)).1
  have h2 := fromF_bd (x := x) (now := now)
  unfold oldF; omega
theorem oldF_mono {x : tirT} {now m : Int} (hw : 1 ≤ x.1) (h : now ≤ m) : oldF x now ≤ oldF x m := ceil_mono hw (by unfold fromF; split <;> split <;> omega)
theorem oldF_zero {x : tirT} (hw : 1 ≤ x.1) (hk : 0 ≤ x.2) : oldF x 0 = 0 := by
  unfold oldF
  rw [show fromF x 0 = 0 by unfold fromF; split <;> omega, Int.ediv_eq_zero_of_lt (by omega) (by omega), Int.zero_mul]
def costI (x : tirT) (now : Int) : Int := if oldF x now ≤ now then (now - oldF x now) / x.1 + 1 else 0
def costF (xs : List tirT) (now : Int) : Int := (xs.map fun x => costI x now).sum
def keepF (xs : List tirT) : Int := (xs.map fun x => x.2 / x.1 + 1).sum
theorem costI_le {x : tirT} {now : Int} (hw : 1 ≤ x.1) (hk : 0 ≤ x.2) : costI x now ≤ x.2 / x.1 + 1 ∧ 0 ≤ costI x now := by
  have h0 : 0 ≤ x.2 / x.1 := Int.ediv_nonneg hk (by omega)
  have hb := oldF_bd (x := x) (now := now) hw
  unfold costI
  split
  · have h1 : (now - oldF x now) / x.1 ≤ x.2 / x.1 := Int.ediv_le_ediv (by omega) (by omega)
    have h2 : 0 ≤ (now - oldF x now) / x.1 := Int.ediv_nonneg (by omega) (by omega)
    omega
  · omega
theorem costF_le (now : Int) : ∀ (xs : List tirT), (∀ x ∈ xs, 1 ≤ x.1 ∧ 0 ≤ x.2) → costF xs now ≤ keepF xs ∧ 0 ≤ costF xs now
  | [], _ => by simp [costF, keepF]
  | x :: xs, h => by
    have h1 := costI_le (x := x) (now := now) (h x (List.mem_cons_self ..)).1 (h x (List.mem_cons_self ..)).2
    have h2 := costF_le now xs fun y hy => h y (List.mem_cons_of_mem _ hy)
    unfold costF keepF at h2 ⊢
    simp only [List.map_cons, List.sum_cons]; omega
theorem costF_zero : ∀ (xs : List tirT), (∀ x ∈ xs, 1 ≤ x.1 ∧ 0 ≤ x.2) → costF xs 0 = xs.length
  | [], _ => by simp [costF]
  | x :: xs, h => by
    have h1 := h x (List.mem_cons_self ..)
    have h2 := costF_zero xs fun y hy => h y (List.mem_cons_of_mem _ hy)
    unfold costF at h2 ⊢
    simp only [List.map_cons, List.sum_cons, h2]
    unfold costI
    rw [oldF_zero h1.1 h1.2, if_pos (Int.le_refl _)]
    simp; omega
def tP (xs : List tirT) (j : Nat) : Prop := 1 ≤ (atD xs (0, 0) j).1 ∧ (atD xs (0, 0) j).1 ≤ 100 ∧ (atD xs (0, 0) j).1 ≤ (atD xs (0, 0) j).2 ∧ (atD xs (0, 0) j).2 ≤ 1000 ∧
  (0 < j → (atD xs (0, 0) (j - 1)).1 < (atD xs (0, 0) j).1 ∧ (atD xs (0, 0) j).1 % (atD xs (0, 0) (j - 1)).1 = 0 ∧ (atD xs (0, 0) (j - 1)).2 < (atD xs (0, 0) j).2)
def tirP (xs : List tirT) : Prop := 1 ≤ xs.length ∧ xs.length ≤ 4 ∧ AllTo (tP xs) xs.length
open Classical in
noncomputable def tirB (xs : List tirT) : Bool := decide (tirP xs)
theorem tirB_T {xs : List tirT} (h : tirP xs) : tirB xs = true := by unfold tirB; simpa using h
theorem tirB_F {xs : List tirT} (h : ¬ tirP xs) : tirB xs = false := by unfold tirB; simpa using h
theorem tirB_of {xs : List tirT} (h : tirB xs = true) : tirP xs := by unfold tirB at h; simpa using h
theorem tirP_mem {xs : List tirT} (h : tirP xs) : ∀ x ∈ xs, 1 ≤ x.1 ∧ x.1 ≤ 100 ∧ x.1 ≤ x.2 ∧ x.2 ≤ 1000 := fun x hx => by
  obtain ⟨j, hj, rfl⟩ := List.mem_iff_getElem.1 hx
  have := h.2.2 j hj
  unfold tP at this
  rw [getD_at hj] at this
  exact ⟨this.1, this.2.1, this.2.2.1, this.2.2.2.1⟩
/-! Buckets -/
def bkP (w : Int) (x : bktT) : Prop := 0 ≤ x.1 ∧ x.1 ≤ 1000 ∧ x.1 % w = 0 ∧ 1 ≤ x.2.1 ∧ x.2.1 ≤ 100 ∧ -1000 ≤ x.2.2.2.1 ∧ x.2.2.2.1 ≤ x.2.2.2.2 ∧ x.2.2.2.2 ≤ 1000 ∧ x.2.2.2.1 * x.2.1 ≤ x.2.2.1 ∧ x.2.2.1 ≤ x.2.2.2.2 * x.2.1
def bP (w : Int) (xs : List bktT) (j : Nat) : Prop := bkP w (atD xs (0, 0, 0, 0, 0) j) ∧ (0 < j → (atD xs (0, 0, 0, 0, 0) (j - 1)).1 < (atD xs (0, 0, 0, 0, 0) j).1)
def bktP (w : Int) (xs : List bktT) : Prop := 1 ≤ w ∧ w ≤ 100 ∧ xs.length ≤ 16 ∧ AllTo (bP w xs) xs.length
open Classical in
noncomputable def bktB (w : Int) (xs : List bktT) : Bool := decide (bktP w xs)
theorem bktB_T {w : Int} {xs : List bktT} (h : bktP w xs) : bktB w xs = true := by unfold bktB; simpa using h
theorem bktB_F {w : Int} {xs : List bktT} (h : ¬ bktP w xs) : bktB w xs = false := by unfold bktB; simpa using h
theorem bktB_of {w : Int} {xs : List bktT} (h : bktB w xs = true) : bktP w xs := by unfold bktB at h; simpa using h
def ascB (xs : List bktT) : Prop := ∀ j, 0 < j → j < xs.length → (atD xs (0, 0, 0, 0, 0) (j - 1)).1 < (atD xs (0, 0, 0, 0, 0) j).1
theorem ascB_of {w : Int} {xs : List bktT} (h : bktP w xs) : ascB xs := fun j h0 hj => (h.2.2.2 j hj).2 h0
theorem getD_drop' {xs : List bktT} (k j : Nat) : atD (xs.drop k) (0, 0, 0, 0, 0) j = atD xs (0, 0, 0, 0, 0) (k + j) := by simp [atD, List.getD_eq_getElem?_getD]
theorem bktP_drop {w : Int} {xs : List bktT} (h : bktP w xs) (k : Nat) : bktP w (xs.drop k) := by
  refine ⟨h.1, h.2.1, by have := h.2.2.1; simp; omega, fun j hj => ?_⟩
  rw [List.length_drop] at hj
  have := h.2.2.2 (k + j) (by omega)
  unfold bP at this ⊢
  rw [getD_drop', getD_drop']
  refine ⟨this.1, fun h0 => ?_⟩
  have h2 := this.2 (by omega)
  rwa [show k + j - 1 = k + (j - 1) by omega] at h2
def keptB' (c : Int) (xs : List bktT) : List bktT := xs.filter fun x => decide (c ≤ x.1)
theorem asc_tail {x : bktT} {xs : List bktT} (h : ascB (x :: xs)) : ascB xs := fun j h0 hj => by
  have := h (j + 1) (by omega) (by simpa using hj)
  obtain ⟨i, rfl⟩ : ∃ i, j = i + 1 := ⟨j - 1, by omega⟩
  simpa [atD] using this
theorem asc_head : ∀ {xs : List bktT} {x : bktT}, ascB (x :: xs) → ∀ y ∈ xs, x.1 < y.1
  | [], x, _, y, hy => by cases hy
  | z :: xs, x, h, y, hy => by
    have hz : x.1 < z.1 := by simpa [atD] using h 1 (by decide) (by simp)
    rcases List.mem_cons.1 hy with rfl | hy
    · exact hz
    · exact Int.lt_trans hz (asc_head (asc_tail h) y hy)
/-- Of ascending buckets the kept ones are the last ones. -/
theorem kept_drop (c : Int) : ∀ (xs : List bktT), ascB xs → keptB' c xs = xs.drop (xs.length - (keptB' c xs).length) ∧ (keptB' c xs).length ≤ xs.length ∧ ∀ i, i < xs.length - (keptB' c xs).length → (atD xs (0, 0, 0, 0, 0) i).1 < c
  | [], _ => ⟨rfl, Nat.le_refl _, fun i h => by simp at h⟩
  | x :: xs, h => by
    have ih := kept_drop c xs (asc_tail h)
    by_cases hx : c ≤ x.1
    · have hall : keptB' c xs = xs := List.filter_eq_self.2 fun y hy => by have := asc_head h y hy; simp; omega
      have : keptB' c (x :: xs) = x :: xs := by unfold keptB' at hall ⊢; rw [List.filter_cons_of_pos (by simpa using hx), hall]
      rw [this]
      exact ⟨by simp, Nat.le_refl _, fun i h => by simp at h⟩
    · have : keptB' c (x :: xs) = keptB' c xs := by unfold keptB'; rw [List.filter_cons_of_neg (by simpa using hx)]
      rw [this]
      obtain ⟨e1, e2, e3⟩ := ih
      refine ⟨?_, by simp; omega, fun i hi => ?_⟩
      · rw [List.length_cons, show xs.length + 1 - (keptB' c xs).length = (xs.length - (keptB' c xs).length) + 1 by omega, List.drop_succ_cons]
        exact e1
      · cases i with
        | zero => simp [atD]; omega
        | succ i => simpa [atD] using e3 i (by simp at hi; omega)
theorem kept_kept (c : Int) (xs : List bktT) : keptB' c (keptB' c xs) = keptB' c xs := by unfold keptB'; simp
theorem kept_later {c d : Int} (h : c ≤ d) (xs : List bktT) : keptB' d (keptB' c xs) = keptB' d xs := by
  unfold keptB'
  rw [List.filter_filter]
  congr 1
  funext x
  by_cases hx : d ≤ x.1
  · simp [hx, Int.le_trans h hx]
  · simp [hx]
theorem tP_at {xs : List tirT} {i : Nat} (h : i < xs.length) : tP xs i ↔ 1 ≤ xs[i].1 ∧ xs[i].1 ≤ 100 ∧ xs[i].1 ≤ xs[i].2 ∧ xs[i].2 ≤ 1000 ∧ (0 < i → (atD xs (0, 0) (i - 1)).1 < xs[i].1 ∧ xs[i].1 % (atD xs (0, 0) (i - 1)).1 = 0 ∧ (atD xs (0, 0) (i - 1)).2 < xs[i].2) := by unfold tP; rw [getD_at h]
theorem bP_at {w : Int} {xs : List bktT} {i : Nat} (h : i < xs.length) : bP w xs i ↔ bkP w xs[i] ∧ (0 < i → (atD xs (0, 0, 0, 0, 0) (i - 1)).1 < xs[i].1) := by unfold bP; rw [getD_at h]
theorem flat_prev {α : Type} {d : α} (f : α → List D) (k : Nat) (hk : ∀ x, (f x).length = k) (xs : List α) (i : Nat) (h0 : 0 < i) (h : i < xs.length) : List.drop (((i : Int) - 1).toNat * k) (xs.flatMap f) = f (atD xs d (i - 1)) ++ (xs.drop (i - 1 + 1)).flatMap f := by
  have := flat_at f k hk xs (i - 1) (by omega)
  rw [show (((i - 1 : Nat)) : Int) = (i : Int) - 1 by omega] at this
  rw [this, getD_at (by omega)]
theorem flat_z {α : Type} (f : α → List D) (k : Nat) (hk : ∀ x, (f x).length = k) (xs : List α) (z : Int) (h0 : 0 ≤ z) (h : z < (xs.length : Int)) : List.drop (z.toNat * k) (xs.flatMap f) = f (xs[z.toNat]'(by omega)) ++ (xs.drop (z.toNat + 1)).flatMap f := by
  have := flat_at f k hk xs z.toNat (by omega)
  rwa [show ((z.toNat : Nat) : Int) = z by omega] at this
end Go.Proofs.Ytfcnjhkebbjojaa
