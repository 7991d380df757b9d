/-
  Rows of structs of numbers, flat.
-/
import Derived.Test.YtpobimdcphjljaaPk
namespace Go.Proofs.Ytpobimdcphjljaa
open Go
set_option linter.unusedVariables false
set_option linter.unusedSimpArgs false
set_option linter.unnecessarySimpa false
set_option maxRecDepth 4000

section
variable {α : Type} (f : α → List D) (k : Nat) (hk : ∀ x, (f x).length = k)
include hk
theorem flat_len (xs : List α) : (xs.flatMap f).length = xs.length * k := by
  induction xs with
  | nil => simp
  | cons x xs ih => rw [List.flatMap_cons, List.length_append, ih, hk, List.length_cons, Nat.add_mul, Nat.one_mul, Nat.add_comm]
theorem flat_drop (xs : List α) (i : Nat) : List.drop (i * k) (xs.flatMap f) = (xs.drop i).flatMap f := by
  induction i generalizing xs with
  | zero => simp
  | succ i ih =>
    cases xs with
    | nil => simp
    | cons x xs =>
      rw [List.flatMap_cons, Nat.add_mul, Nat.one_mul, Nat.add_comm, ← List.drop_drop, ← hk x, List.drop_left, hk x, ih]
      rfl
theorem flat_take (xs : List α) (i : Nat) : List.take (i * k) (xs.flatMap f) = (xs.take i).flatMap f := by
  induction i generalizing xs with
  | zero => simp
  | succ i ih =>
    cases xs with
    | nil => simp
    | cons x xs =>
      rw [List.flatMap_cons, Nat.add_mul, Nat.one_mul, Nat.add_comm, List.take_append, hk x, Nat.add_sub_cancel_left, ih, List.take_of_length_le (by rw [hk]; omega)]
      rfl
theorem flat_at (xs : List α) (i : Nat) (h : i < xs.length) : List.drop ((i : Int).toNat * k) (xs.flatMap f) = f xs[i] ++ (xs.drop (i + 1)).flatMap f := by
  rw [Int.toNat_natCast, flat_drop f k hk, List.drop_eq_getElem_cons h, List.flatMap_cons]
theorem flat_set (xs : List α) (i : Nat) (h : i < xs.length) (y : α) : setR (xs.flatMap f) (i * k) (f y) = (xs.set i y).flatMap f := by
  have hl := flat_len f k hk xs
  have hle : i * k + k ≤ xs.length * k := by
    have := Nat.mul_le_mul_right k (show i + 1 ≤ xs.length by omega)
    rwa [Nat.add_mul, Nat.one_mul] at this
  rw [setR_eq _ _ _ (by rw [hk, hl]; exact hle), List.set_eq_take_append_cons_drop, if_pos h, flat_take f k hk, List.flatMap_append, List.flatMap_cons, hk]
  rw [show i * k + k = (i + 1) * k by rw [Nat.add_mul, Nat.one_mul], flat_drop f k hk, List.append_assoc]
theorem sl_tailK (xs : List α) (z : Int) (h0 : 0 ≤ z) (h1 : z ≤ (xs.length : Int)) : ((xs.length : Int) - z).toNat = (xs.drop z.toNat).length ∧ List.take (((xs.length : Int) - z).toNat * k) (List.drop (z.toNat * k) (xs.flatMap f)) = (xs.drop z.toNat).flatMap f := by
  have e : ((xs.length : Int) - z).toNat = (xs.drop z.toNat).length := by simp; omega
  refine ⟨e, ?_⟩
  rw [flat_drop f k hk, List.take_of_length_le (by rw [flat_len f k hk, e]; exact Nat.le_refl _)]
theorem sl_headK (xs : List α) (z : Int) (h0 : 0 ≤ z) (h1 : z ≤ (xs.length : Int)) : (z - 0).toNat = (xs.take z.toNat).length ∧ List.take ((z - 0).toNat * k) (List.drop ((0 : Int).toNat * k) (xs.flatMap f)) = (xs.take z.toNat).flatMap f := by
  refine ⟨by simp; omega, ?_⟩
  rw [Int.sub_zero, show (0 : Int).toNat = 0 from rfl, Nat.zero_mul, List.drop_zero, flat_take f k hk]
end
theorem setR_cons {α : Type} : ∀ (l : List α) (o o2 : Nat) (a : α) (bs : List α), o2 = o + 1 → setR (setR l o [a]) o2 bs = setR l o (a :: bs)
  | [], o, o2, a, bs, h => by cases bs <;> simp [setR]
  | x :: l, 0, o2, a, bs, h => by
    subst h
    cases bs <;> simp [setR]
  | x :: l, o + 1, o2, a, bs, h => by
    subst h
    have := setR_cons l o (o + 1) a bs rfl
    cases bs with
    | nil => simp [setR]
    | cons b bs => simp only [setR] at this ⊢; rw [this]
/-- The first i elements are g m, g (m + c), .. -/
def heldG {α : Type} (g : Int → α) (c : Int) (m : Int) (n : Nat) : List α := (List.range n).map fun (j : Nat) => g (m + c * (j : Int))
def markG {α : Type} (g : Int → α) (c : Int) (m : Int) (xs : List α) (i : Nat) : List α := heldG g c m i ++ xs.drop i
theorem heldG_len {α : Type} (g : Int → α) (c m : Int) (n : Nat) : (heldG g c m n).length = n := by simp [heldG]
theorem markG_len {α : Type} (g : Int → α) (c m : Int) (xs : List α) (i : Nat) (h : i ≤ xs.length) : (markG g c m xs i).length = xs.length := by simp [markG, heldG]; omega
theorem heldG_succ {α : Type} (g : Int → α) (c m : Int) (n : Nat) : heldG g c m (n + 1) = heldG g c m n ++ [g (m + c * (n : Int))] := by simp [heldG, List.range_succ]
theorem markG_step {α : Type} (g : Int → α) (c m : Int) (xs : List α) (i : Nat) (h : i < xs.length) : (markG g c m xs i).set i (g (m + c * (i : Int))) = markG g c m xs (i + 1) := by
  unfold markG
  rw [List.drop_eq_getElem_cons h, List.set_append_right _ _ (by rw [heldG_len]; exact Nat.le_refl _), heldG_len, Nat.sub_self, List.set_cons_zero, heldG_succ]
  simp
theorem markG_all {α : Type} (g : Int → α) (c m : Int) (xs : List α) : markG g c m xs xs.length = heldG g c m xs.length := by simp [markG]
theorem markG_zero {α : Type} (g : Int → α) (c m : Int) (xs : List α) : markG g c m xs 0 = xs := by simp [markG, heldG]
theorem heldG_get {α : Type} (g : Int → α) (c m : Int) (n i : Nat) (h : i < (heldG g c m n).length) : (heldG g c m n)[i] = g (m + c * (i : Int)) := by simp [heldG]
/-- The first i elements are those of another row, the rest is as it was made. -/
def toG {α : Type} (z : α) (xs : List α) (i : Nat) : List α := xs.take i ++ List.replicate (xs.length - i) z
theorem toG_len {α : Type} (z : α) (xs : List α) (i : Nat) (h : i ≤ xs.length) : (toG z xs i).length = xs.length := by simp [toG]; omega
theorem toG_step {α : Type} (z : α) (xs : List α) (i : Nat) (h : i < xs.length) : (toG z xs i).set i xs[i] = toG z xs (i + 1) := by
  unfold toG
  have h2 : (xs.take i).length = i := by simp; omega
  rw [show xs.length - i = (xs.length - (i + 1)) + 1 by omega, List.replicate_succ, List.set_append_right _ _ (by rw [h2]; exact Nat.le_refl _), h2, Nat.sub_self, List.set_cons_zero, List.take_succ_eq_append_getElem h, List.append_assoc]
  rfl
theorem toG_all {α : Type} (z : α) (xs : List α) : toG z xs xs.length = xs := by simp [toG]
theorem toG_zero {α : Type} (f : α → List D) (z : α) (zs : List D) (hz : f z = zs) (n : Nat) (xs : List α) (hn : n = xs.length) : (List.replicate n zs).flatten = (toG z xs 0).flatMap f := by
  subst hn hz
  simp only [toG, List.take_zero, List.nil_append, Nat.sub_zero]
  generalize xs.length = n
  induction n with
  | zero => rfl
  | succ n ih => rw [List.replicate_succ, List.replicate_succ, List.flatten_cons, List.flatMap_cons, ih]
end Go.Proofs.Ytpobimdcphjljaa
