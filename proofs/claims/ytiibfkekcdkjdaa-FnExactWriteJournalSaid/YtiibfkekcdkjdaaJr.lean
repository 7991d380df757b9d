/-
  What stands at the beginning of a journal: plain lists of numbers.
-/
import Derived.Test.YtiibfkekcdkjdaaJx
import Derived.Test.YtiibfkekcdkjdaaJv
namespace Go.Proofs.Ytiibfkekcdkjdaa
open Go
set_option linter.unusedVariables false
set_option linter.unusedSimpArgs false
set_option linter.unnecessarySimpa false

theorem sv_put {n : Nat} (hn : n ≤ 200000) (r : List Nat) : sv (putL n ++ r) 0 1 0 = (n, (putL n).length) := by
  by_cases h1 : n < 128
  · rw [putL_1 h1]
    show sv (n :: r) 0 1 0 = (n, 1)
    rw [sv_cons, if_neg (by omega), if_pos h1, if_neg (by rintro (h | h) <;> omega)]
    exact Prod.ext (by dsimp only; omega) rfl
  · by_cases h2 : n / 128 < 128
    · rw [putL_s (by omega), putL_1 h2]
      show sv ((128 + n % 128) :: (n / 128) :: r) 0 1 0 = (n, 2)
      rw [sv_cons, if_neg (by omega), if_neg (by omega), sv_cons, if_neg (by omega), if_pos h2, if_neg (by rintro (h | h) <;> omega)]
      exact Prod.ext (by dsimp only; omega) rfl
    · have h3 : n / 128 / 128 < 128 := by omega
      rw [putL_s (by omega), putL_s (by omega), putL_1 h3]
      show sv ((128 + n % 128) :: (128 + n / 128 % 128) :: (n / 128 / 128) :: r) 0 1 0 = (n, 3)
      rw [sv_cons, if_neg (by omega), if_neg (by omega), sv_cons, if_neg (by omega), if_neg (by omega), sv_cons, if_neg (by omega), if_pos h3, if_neg (by rintro (h | h) <;> omega)]
      exact Prod.ext (by dsimp only; omega) rfl
theorem sv_inv {l : List Nat} (hb : ∀ b ∈ l, b ≤ 255) {n k : Nat} (h : sv l 0 1 0 = (n, k)) (hk : k ≠ 0) : n ≤ 200000 ∧ ∃ r, l = putL n ++ r ∧ k = (putL n).length := by
  match l, hb, h with
  | [], _, h => cases h; exact absurd rfl hk
  | b0 :: l1, hb, h =>
    have h0 := hb b0 (by simp)
    rw [sv_cons, if_neg (by omega)] at h
    by_cases c0 : b0 < 128
    · rw [if_pos c0] at h
      split at h
      · cases h; exact absurd rfl hk
      · cases h
        have e : 0 + 1 * (b0 % 128) = b0 := by omega
        rw [e, putL_1 c0]
        exact ⟨by omega, l1, rfl, rfl⟩
    · rw [if_neg c0] at h
      match l1, hb, h with
      | [], _, h => cases h; exact absurd rfl hk
      | b1 :: l2, hb, h =>
        have h1 := hb b1 (by simp)
        rw [sv_cons, if_neg (by omega)] at h
        by_cases c1 : b1 < 128
        · rw [if_pos c1] at h
          split at h
          · cases h; exact absurd rfl hk
          · rename_i hx
            cases h
            have hx0 : b1 ≠ 0 := fun e => hx (.inr ⟨by omega, e⟩)
            obtain ⟨n, hn⟩ : ∃ n, n = 0 + 1 * (b0 % 128) + 1 * 128 * (b1 % 128) := ⟨_, rfl⟩
            rw [← hn]
            have e1 : n / 128 = b1 := by omega
            have e2 : 128 + n % 128 = b0 := by omega
            rw [putL_s (by omega), e1, e2, putL_1 c1]
            exact ⟨by omega, l2, rfl, rfl⟩
        · rw [if_neg c1] at h
          match l2, hb, h with
          | [], _, h => cases h; exact absurd rfl hk
          | b2 :: l3, hb, h =>
            have h2 := hb b2 (by simp)
            rw [sv_cons, if_neg (by omega)] at h
            by_cases c2 : b2 < 128
            · rw [if_pos c2] at h
              split at h
              · cases h; exact absurd rfl hk
              · rename_i hx
                cases h
                have hx0 : b2 ≠ 0 := fun e => hx (.inr ⟨by omega, e⟩)
                obtain ⟨n, hn⟩ : ∃ n, n = 0 + 1 * (b0 % 128) + 1 * 128 * (b1 % 128) + 1 * 128 * 128 * (b2 % 128) := ⟨_, rfl⟩
                rw [← hn] at hx ⊢
                have e1 : n / 128 / 128 = b2 := by omega
                have e2 : 128 + n % 128 = b0 := by omega
                have e3 : 128 + n / 128 % 128 = b1 := by omega
                rw [putL_s (n := n) (by omega), putL_s (n := n / 128) (by omega), e1, e2, e3, putL_1 c2]
                exact ⟨by omega, l3, rfl, rfl⟩
            · rw [if_neg c2] at h
              match l3, h with
              | [], h => cases h; exact absurd rfl hk
              | b3 :: l4, h =>
                rw [sv_cons, if_pos (by omega)] at h
                cases h; exact absurd rfl hk
theorem gv_put {n : Nat} (hn : n ≤ 200000) (r : List Nat) : gv (putL n ++ r) 0 1 0 = (n, (putL n).length, true) := by
  obtain ⟨h1, h2⟩ := sv_gv (putL n ++ r) 0 1 0 (by omega) rfl
  rw [sv_put hn] at h1
  have hp := putL_len hn
  generalize gv (putL n ++ r) 0 1 0 = x at h1 h2 ⊢
  obtain ⟨a, b, c⟩ := x
  obtain ⟨e1, e2⟩ := Prod.mk.inj h1
  dsimp only at e1 e2 h2
  subst e1 e2
  exact Prod.ext rfl (Prod.ext rfl (h2.2 (by omega)))
theorem gv_inv {l : List Nat} (hb : ∀ b ∈ l, b ≤ 255) (h : (gv l 0 1 0).2.2 = true) : ∃ n r, n ≤ 200000 ∧ l = putL n ++ r ∧ gv l 0 1 0 = (n, (putL n).length, true) := by
  obtain ⟨h1, h2⟩ := sv_gv l 0 1 0 (by omega) rfl
  obtain ⟨e1, r, e2, _⟩ := sv_inv hb h1 (h2.1 h)
  refine ⟨_, r, e1, e2, ?_⟩
  generalize (gv l 0 1 0).1 = n at e1 e2
  rw [e2, gv_put e1]
/-- Numbers with a sign, back. -/
def unz (n : Nat) : Int := if n % 2 = 1 then -((((n + 1) / 2 : Nat)) : Int) else ((n / 2 : Nat) : Int)
theorem unz_zig (v : Int) : unz (zig v) = v := by
  unfold unz zig
  by_cases h : 0 ≤ v
  · rw [if_pos h, if_neg (by omega)]; omega
  · rw [if_neg h, if_pos (by omega)]; omega
theorem zig_unz (n : Nat) : zig (unz n) = n := by
  unfold unz zig
  by_cases h : n % 2 = 1
  · rw [if_pos h, if_neg (by omega)]; omega
  · rw [if_neg h, if_pos (by omega)]; omega
/-- An entry stands at the beginning. -/
def IsE (l : List Nat) (k t : Nat) (v : Int) : Prop := k ≤ 7 ∧ t ≤ 1000 ∧ -1000 ≤ v ∧ v ≤ 1000 ∧ ∃ r, l = entL k t v ++ r
theorem entL_cons (k t : Nat) (v : Int) (r : List Nat) : entL k t v ++ r = (entB k t v).length :: k :: (putL t ++ (putL (zig v) ++ ([(sumF (entB k t v)).toNat] ++ r))) := by
  unfold entL entB; simp
theorem drop_put (n : Nat) (r : List Nat) : List.drop (putL n).length (putL n ++ r) = r := by simp
def rdE (l : List Nat) : Option (Nat × Nat × Int) :=
  if l.getD 1 0 ≤ 7 ∧ (sv (l.drop 2) 0 1 0).1 ≤ 1000 ∧ -1000 ≤ unz (sv (l.drop (2 + (sv (l.drop 2) 0 1 0).2)) 0 1 0).1 ∧ unz (sv (l.drop (2 + (sv (l.drop 2) 0 1 0).2)) 0 1 0).1 ≤ 1000 ∧ (entL (l.getD 1 0) (sv (l.drop 2) 0 1 0).1 (unz (sv (l.drop (2 + (sv (l.drop 2) 0 1 0).2)) 0 1 0).1)).isPrefixOf l = true then
    some (l.getD 1 0, (sv (l.drop 2) 0 1 0).1, unz (sv (l.drop (2 + (sv (l.drop 2) 0 1 0).2)) 0 1 0).1) else none
theorem rdE_some {l : List Nat} {k t : Nat} {v : Int} (h : rdE l = some (k, t, v)) : IsE l k t v := by
  unfold rdE at h
  split at h
  · rename_i hc
    obtain ⟨h1, h2, h3, h4, h5⟩ := hc
    cases h
    obtain ⟨r, hr⟩ := List.isPrefixOf_iff_prefix.1 h5
    exact ⟨h1, h2, h3, h4, r, hr.symm⟩
  · cases h
theorem rdE_is {l : List Nat} {k t : Nat} {v : Int} (h : IsE l k t v) : rdE l = some (k, t, v) := by
  obtain ⟨h1, h2, h3, h4, r, rfl⟩ := h
  have hz := zig_le h3 h4
  have e1 : (entL k t v ++ r).getD 1 0 = k := by rw [entL_cons]; rfl
  have e2 : sv ((entL k t v ++ r).drop 2) 0 1 0 = (t, (putL t).length) := by
    rw [entL_cons]; exact sv_put (by omega) _
  have e3 : sv ((entL k t v ++ r).drop (2 + (putL t).length)) 0 1 0 = (zig v, (putL (zig v)).length) := by
    rw [entL_cons, ← List.drop_drop]
    show sv (List.drop (putL t).length (putL t ++ _)) 0 1 0 = _
    rw [drop_put]
    exact sv_put (by omega) _
  unfold rdE
  rw [e1, e2]
  dsimp only
  rw [e3]
  dsimp only
  rw [unz_zig, if_pos ⟨h1, h2, h3, h4, List.isPrefixOf_iff_prefix.2 ⟨r, rfl⟩⟩]
theorem rdE_none {l : List Nat} (h : ∀ k t v, ¬ IsE l k t v) : rdE l = none := by
  cases hr : rdE l with
  | none => rfl
  | some x => exact absurd (rdE_some (k := x.1) (t := x.2.1) (v := x.2.2) hr) (h _ _ _)
theorem entL_length {k t : Nat} {v : Int} (ht : t ≤ 1000) (h1 : -1000 ≤ v) (h2 : v ≤ 1000) : 5 ≤ (entL k t v).length ∧ (entL k t v).length ≤ 9 := by
  have := entB_len (k := k) ht h1 h2
  have := entL_len k t v
  omega
theorem IsE.len {l : List Nat} {k t : Nat} {v : Int} (h : IsE l k t v) : 5 ≤ (entL k t v).length ∧ (entL k t v).length ≤ 9 ∧ (entL k t v).length ≤ l.length := by
  obtain ⟨h1, h2, h3, h4, r, rfl⟩ := h
  have := entL_length (k := k) h2 h3 h4
  exact ⟨this.1, this.2, by simp⟩
theorem IsE.uniq {l : List Nat} {k t k' t' : Nat} {v v' : Int} (h : IsE l k t v) (h' : IsE l k' t' v') : k = k' ∧ t = t' ∧ v = v' := by
  have e1 := rdE_is h
  rw [rdE_is h'] at e1
  cases e1; exact ⟨rfl, rfl, rfl⟩

/-! ### Whole journals -/
abbrev Rec3 := Nat × Nat × Int
def rdJF : Nat → List Nat → List Rec3 × Nat
  | 0, _ => ([], 0)
  | f + 1, l => match rdE l with
    | none => ([], 0)
    | some x => (x :: (rdJF f (l.drop (entL x.1 x.2.1 x.2.2).length)).1, (entL x.1 x.2.1 x.2.2).length + (rdJF f (l.drop (entL x.1 x.2.1 x.2.2).length)).2)
def entX (x : Rec3) : List Nat := entL x.1 x.2.1 x.2.2
def okX (x : Rec3) : Prop := x.1 ≤ 7 ∧ x.2.1 ≤ 1000 ∧ -1000 ≤ x.2.2 ∧ x.2.2 ≤ 1000
theorem rdE_some' {l : List Nat} {x : Rec3} (h : rdE l = some x) : okX x ∧ ∃ r, l = entX x ++ r := by
  obtain ⟨h1, h2, h3, h4, h5⟩ := rdE_some (k := x.1) (t := x.2.1) (v := x.2.2) h
  exact ⟨⟨h1, h2, h3, h4⟩, h5⟩
theorem rdE_is' {x : Rec3} (h : okX x) (r : List Nat) : rdE (entX x ++ r) = some x := rdE_is ⟨h.1, h.2.1, h.2.2.1, h.2.2.2, r, rfl⟩
theorem entX_len {x : Rec3} (h : okX x) : 5 ≤ (entX x).length ∧ (entX x).length ≤ 9 := entL_length h.2.1 h.2.2.1 h.2.2.2
def rdJ (l : List Nat) : List Rec3 × Nat := rdJF l.length l
theorem rdJF_more : ∀ (f g : Nat) (l : List Nat), l.length ≤ f → l.length ≤ g → rdJF f l = rdJF g l
  | 0, 0, _, _, _ => rfl
  | 0, g + 1, l, h, _ => by
    obtain rfl : l = [] := List.eq_nil_of_length_eq_zero (by omega)
    rfl
  | f + 1, 0, l, _, h => by
    obtain rfl : l = [] := List.eq_nil_of_length_eq_zero (by omega)
    rfl
  | f + 1, g + 1, l, h1, h2 => by
    unfold rdJF
    cases hr : rdE l with
    | none => rfl
    | some x =>
      have hx := entX_len (rdE_some' hr).1
      have : (l.drop (entL x.1 x.2.1 x.2.2).length).length ≤ f ∧ (l.drop (entL x.1 x.2.1 x.2.2).length).length ≤ g := by
        unfold entX at hx; simp; omega
      dsimp only
      rw [rdJF_more f g _ this.1 this.2]
theorem rdJ_none {l : List Nat} (h : rdE l = none) : rdJ l = ([], 0) := by
  unfold rdJ
  cases l with
  | nil => rfl
  | cons b l => show rdJF (l.length + 1) (b :: l) = _; simp only [rdJF, h]
theorem rdJ_some {l : List Nat} {x : Rec3} (h : rdE l = some x) : rdJ l = (x :: (rdJ (l.drop (entX x).length)).1, (entX x).length + (rdJ (l.drop (entX x).length)).2) := by
  have hx := entX_len (rdE_some' h).1
  obtain ⟨r, hr⟩ := (rdE_some' h).2
  have hl : (entX x).length ≤ l.length := by rw [hr]; simp
  have e : rdJ l = rdJF ((l.length - 1) + 1) l := by unfold rdJ; rw [show l.length - 1 + 1 = l.length by omega]
  rw [e]
  unfold rdJF
  rw [h]
  show (x :: (rdJF (l.length - 1) (l.drop (entX x).length)).1, (entX x).length + (rdJF (l.length - 1) (l.drop (entX x).length)).2) = _
  rw [rdJF_more (l.length - 1) (l.drop (entX x).length).length _ (by simp; omega) (Nat.le_refl _)]
  rfl
theorem rdJ_le : ∀ (n : Nat) (l : List Nat), l.length ≤ n → (rdJ l).2 ≤ l.length ∧ (∀ x ∈ (rdJ l).1, okX x) ∧ (rdJ l).1.flatMap entX = l.take (rdJ l).2
  | n, l, hn => by
    cases hr : rdE l with
    | none => rw [rdJ_none hr]; exact ⟨Nat.zero_le _, (fun x hx => by cases hx), by simp⟩
    | some x =>
      obtain ⟨hk, r, hl⟩ := rdE_some' hr
      have hx := entX_len hk
      match n, hn with
      | 0, hn => exfalso; have := congrArg List.length hl; simp at this; omega
      | n + 1, hn =>
        have hd : l.drop (entX x).length = r := by rw [hl]; simp
        have hrl : (entX x).length + r.length = l.length := by rw [hl]; simp
        obtain ⟨i1, i2, i3⟩ := rdJ_le n r (by omega)
        rw [rdJ_some hr, hd]
        dsimp only
        refine ⟨by omega, fun y hy => ?_, ?_⟩
        · rcases List.mem_cons.1 hy with rfl | hy
          · exact hk
          · exact i2 y hy
        · rw [List.flatMap_cons, i3, hl, List.take_length_add_append]
theorem rdJ_bound (l : List Nat) : (rdJ l).2 ≤ l.length := (rdJ_le _ l (Nat.le_refl _)).1
theorem rdJ_ok (l : List Nat) : ∀ x ∈ (rdJ l).1, okX x := (rdJ_le _ l (Nat.le_refl _)).2.1
theorem rdJ_flat (l : List Nat) : (rdJ l).1.flatMap entX = l.take (rdJ l).2 := (rdJ_le _ l (Nat.le_refl _)).2.2
/-- A prefix of entries in front. -/
theorem rdJ_append : ∀ (xs : List Rec3) (r : List Nat), (∀ x ∈ xs, okX x) → rdJ (xs.flatMap entX ++ r) = (xs ++ (rdJ r).1, (xs.flatMap entX).length + (rdJ r).2)
  | [], r, _ => by simp
  | x :: xs, r, h => by
    have hx := h x (by simp)
    rw [List.flatMap_cons, List.append_assoc, rdJ_some (rdE_is' hx _), List.drop_left, rdJ_append xs r (fun y hy => h y (by simp [hy]))]
    refine Prod.ext rfl ?_
    simp; omega
theorem rdJ_all {xs : List Rec3} (h : ∀ x ∈ xs, okX x) : rdJ (xs.flatMap entX) = (xs, (xs.flatMap entX).length) := by
  have := rdJ_append xs [] h
  rw [List.append_nil, rdJ_none (rfl : rdE [] = none)] at this
  simpa using this
/-- Less than an entry is no entry. -/
theorem rdE_torn {x : Rec3} (h : okX x) {k : Nat} (hk : k < (entX x).length) : rdE ((entX x).take k) = none := by
  cases hr : rdE ((entX x).take k) with
  | none => rfl
  | some y =>
    obtain ⟨h1, r, h2⟩ := rdE_some' hr
    have e : rdE (entX x) = some y := by
      have : entX x = entX y ++ (r ++ (entX x).drop k) := by
        rw [← List.append_assoc, ← h2, List.take_append_drop]
      rw [this]; exact rdE_is' h1 _
    have e2 : rdE (entX x) = some x := by have := rdE_is' h []; rwa [List.append_nil] at this
    rw [e2] at e; cases e
    have := congrArg List.length h2
    simp at this; omega
theorem rdJ_snoc (xs : List Rec3) (x : Rec3) : (xs ++ [x]).flatMap entX = xs.flatMap entX ++ entX x := by simp
end Go.Proofs.Ytiibfkekcdkjdaa
