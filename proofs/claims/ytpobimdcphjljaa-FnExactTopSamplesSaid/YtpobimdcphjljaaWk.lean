/-
  Exact laws of samples: what the walks from world to world need beside.
-/
import Derived.Test.YtpobimdcphjljaaWm
import Derived.Test.YtpobimdcphjljaaWt
import Derived.Test.YtpobimdcphjljaaSxv
import Derived.Test.YtpobimdcphjljaaCl
namespace Go.Proofs.Ytpobimdcphjljaa
open Go
set_option linter.unusedVariables false
set_option linter.unusedSimpArgs false
set_option linter.unnecessarySimpa false
set_option maxRecDepth 4000

/-- Frontiers of blocks made one after the other. -/
def chain : List (Nat × (Nat → Nat)) → Nat → Nat
  | [], _ => 0
  | (hi, f) :: l, b => if b < hi then f b else chain l b
theorem chain_head (f : Nat → Nat) (lo hi : Nat) (l : List (Nat × (Nat → Nat))) : Fge (frI f lo hi) (chain ((hi, f) :: l)) := fun b => by
  unfold frI chain
  by_cases h : lo ≤ b ∧ b < hi
  · rw [if_pos h, if_pos h.2]; exact .inr rfl
  · rw [if_neg h]; exact .inl rfl
theorem chain_tail {f f' : Nat → Nat} {lo hi hi' : Nat} {l : List (Nat × (Nat → Nat))} (hl : hi' ≤ lo) (h : Fge (frI f lo hi) (chain l)) : Fge (frI f lo hi) (chain ((hi', f') :: l)) := fun b => by
  rcases h b with h | h
  · exact .inl h
  · by_cases hb : b < hi'
    · exact .inl (frI_out (by omega))
    · refine .inr ?_
      show (if b < hi' then f' b else chain l b) = _
      rw [if_neg hb]; exact h
theorem RelD.cut0 {w : World} {x : D} {v : Value} (h : RelD w (frW w) x v) : RelD w (frI (frW w) 0 w.heap.size) x v := h.weaken fun b => by
  by_cases hb : b < w.heap.size
  · right; unfold frI; rw [if_pos ⟨Nat.zero_le _, hb⟩]
  · left; unfold frW; rw [Array.getElem?_eq_none (by omega)]
theorem Kp.below {w w' : World} (h : Kp w w' fun q => w.heap.size ≤ q) : RowKit.Below w.heap.size w w' := ⟨h.os, h.tape, h.output, h.size, fun b hb => h.keep b hb (by omega)⟩
theorem totS_nn : ∀ xs : List samT, totS (nnS xs) = totS xs
  | [] => rfl
  | x :: xs => by
    have := totS_nn xs
    simp only [nnS, List.map_cons, totS] at this ⊢
    rw [this]
theorem totS_sz : ∀ xs : List samT, totS xs ≤ 2 * szS xs + xs.length
  | [] => Nat.zero_le _
  | x :: xs => by
    have := totS_sz xs
    simp only [totS, szS, List.length_cons]
    omega
theorem totS_mul : ∀ (l : List samT), (∀ x ∈ l, x.2.1.length ≤ 1048576) → totS l ≤ l.length * 2097153
  | [], _ => Nat.zero_le _
  | x :: l, h => by
    have h1 := h x (List.mem_cons_self ..)
    have := totS_mul l fun y hy => h y (List.mem_cons_of_mem _ hy)
    simp only [totS, List.length_cons]
    omega
theorem totS_bd {l : List samT} (h : smS l) (hl : l.length ≤ 8) : totS l ≤ 8 * 2097153 := by
  exact Nat.le_trans (totS_mul l fun x hx => (h.2 x hx).1.1) (Nat.mul_le_mul_right _ hl)
end Go.Proofs.Ytpobimdcphjljaa
