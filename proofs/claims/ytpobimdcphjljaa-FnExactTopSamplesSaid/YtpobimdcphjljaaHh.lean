/-
  TopSamples of both texts, whatever the arguments; what the sort comes to.
-/
import Derived.Test.YtpobimdcphjljaaHg
namespace Go.Proofs.Ytpobimdcphjljaa
open Go
set_option linter.unusedVariables false
set_option linter.unusedSimpArgs false
set_option linter.unnecessarySimpa false
set_option maxRecDepth 4000

/-! ### The order -/
theorem bl_tri : ∀ a b : List UInt8, Op.bytesLess b a = !(Op.bytesLess a b || a == b)
  | [], [] => rfl
  | [], _ :: _ => rfl
  | _ :: _, [] => rfl
  | x :: a, y :: b => by
    have ih := bl_tri a b
    have hl : ∀ (p q : UInt8), (decide (p < q) = true) ↔ p.toNat < q.toNat := fun p q => by rw [decide_eq_true_eq]; exact UInt8.lt_iff_toNat_lt
    simp only [Op.bytesLess]
    rw [ih]
    by_cases h1 : x = y
    · subst h1
      have : (x < x) = False := by simp
      simp [this]
    · have hne : x.toNat ≠ y.toNat := fun e => h1 (UInt8.toNat_inj.1 e)
      have e1 : (x == y) = false := by simpa using h1
      have e2 : (y == x) = false := by simpa using fun e => h1 e.symm
      have e3 : (x :: a == y :: b) = false := by simp [h1]
      rw [e1, e2, e3]
      by_cases h2 : x < y
      · have := UInt8.lt_iff_toNat_lt.1 h2
        have h3 : ¬ y < x := fun e => by have := UInt8.lt_iff_toNat_lt.1 e; omega
        simp [h2, h3]
      · have h3 : y < x := by
          rw [UInt8.lt_iff_toNat_lt] at h2 ⊢; omega
        simp [h2, h3]
theorem ltgt (a b : ByteArray) : ltS b a = gtS a b := by unfold ltS gtS; exact bl_tri _ _
theorem lt_asym {a b : ByteArray} (h : ltS a b = true) : ltS b a = false := by rw [ltgt]; unfold gtS; unfold ltS at h; rw [h]; rfl
theorem cmpL_anti : ∀ a b : List labT, cmpL b a = - cmpL a b
  | [], [] => rfl
  | [], _ :: _ => rfl
  | _ :: _, [] => rfl
  | x :: a, y :: b => by
    have ih := cmpL_anti a b
    rw [cmpL_cons, cmpL_cons, ← ltgt x.1 y.1, ← ltgt y.1 x.1, ← ltgt x.2 y.2, ← ltgt y.2 x.2]
    by_cases h1 : ltS x.1 y.1 = true
    · simp [h1, lt_asym h1]
    · by_cases h2 : ltS y.1 x.1 = true
      · simp [h1, h2]
      · by_cases h3 : ltS x.2 y.2 = true
        · simp [h1, h2, h3, lt_asym h3]
        · by_cases h4 : ltS y.2 x.2 = true
          · simp [h1, h2, h3, h4]
          · simp [h1, h2, h3, h4, ih]
theorem bfS_iff (x y : samT) : bfS x y = true ↔ y.2.2 < x.2.2 ∨ (x.2.2 = y.2.2 ∧ cmpL x.2.1 y.2.1 < 0) := by
  unfold bfS
  by_cases h1 : y.2.2 < x.2.2
  · simp [h1]
  · by_cases h2 : x.2.2 = y.2.2
    · simp [h2]
    · simp [h1, h2]
theorem bfS_or {x y : samT} (h : keyS x ≠ keyS y) (hn : ¬ bfS x y = true) : bfS y x = true := by
  rw [bfS_iff] at hn ⊢
  have hz : cmpL x.2.1 y.2.1 ≠ 0 := fun e => h ((cmpL_zero _ _).1 e)
  have ha := cmpL_anti x.2.1 y.2.1
  rcases Int.lt_trichotomy x.2.2 y.2.2 with q | q | q
  · exact .inl q
  · exact .inr ⟨q.symm, by have : ¬ cmpL x.2.1 y.2.1 < 0 := fun e => hn (.inr ⟨q, e⟩); omega⟩
  · exact absurd (.inl q) hn
/-! ### What is sorted -/
def adj : List samT → Prop
  | [] => True
  | [_] => True
  | a :: b :: l => bfS a b = true ∧ adj (b :: l)
theorem adj_tail : ∀ {a : samT} {l : List samT}, adj (a :: l) → adj l
  | _, [], _ => trivial
  | _, _ :: _, h => h.2
theorem adj_get : ∀ {l : List samT}, adj l → ∀ (i : Nat) (h : i + 1 < l.length), bfS l[i] l[i + 1] = true
  | [], _, _, h => by simp at h
  | [_], _, _, h => by simp at h
  | a :: b :: l, hl, 0, _ => hl.1
  | a :: b :: l, hl, i + 1, h => adj_get (l := b :: l) hl.2 i (by simpa using h)
theorem adj_ins {x : samT} : ∀ {B C : List samT}, adj (B ++ C) → (∀ c, C.head? = some c → bfS x c = true) → (∀ b, B.getLast? = some b → bfS b x = true) → adj (B ++ x :: C)
  | [], [], _, _, _ => trivial
  | [], c :: C, h, h1, _ => ⟨h1 c rfl, h⟩
  | [b], C, h, h1, h2 => ⟨h2 b rfl, adj_ins (B := []) (adj_tail h) h1 (fun _ e => by cases e)⟩
  | b :: b' :: B, C, h, h1, h2 => ⟨h.1, adj_ins (B := b' :: B) h.2 h1 (fun c e => h2 c (by simpa using e))⟩
theorem swp_end (A : List samT) (y x : samT) : swp ((A ++ [y]) ++ [x]) A.length = (A ++ [x]) ++ [y] := by
  unfold swp
  have e1 : atD ((A ++ [y]) ++ [x]) sam0 A.length = y := by rw [getD_at (by simp)]; simp
  have e2 : atD ((A ++ [y]) ++ [x]) sam0 (A.length + 1) = x := by rw [getD_at (by simp)]; simp
  rw [e1, e2]
  simp [List.set_append]
theorem sink_ins (x : samT) : ∀ (n : Nat) (A : List samT), A.length = n → (∀ a ∈ A, keyS a ≠ keyS x) → ∃ B C, A = B ++ C ∧ sink n (A ++ [x]) = B ++ x :: C ∧ (∀ c, C.head? = some c → bfS x c = true) ∧ (∀ b, B.getLast? = some b → bfS b x = true)
  | 0, A, hA, _ => by
    have : A = [] := List.eq_nil_of_length_eq_zero hA
    subst this
    exact ⟨[], [], rfl, rfl, (fun _ e => by cases e), fun _ e => by cases e⟩
  | n + 1, A, hA, hk => by
    obtain ⟨A, y, rfl⟩ : ∃ A' y, A = A' ++ [y] := ⟨A.dropLast, A.getLast (by intro e; subst e; simp at hA), (List.dropLast_concat_getLast _).symm⟩
    have hn : A.length = n := by simpa using hA
    subst hn
    have e1 : atD ((A ++ [y]) ++ [x]) sam0 A.length = y := by rw [getD_at (by simp)]; simp
    have e2 : atD ((A ++ [y]) ++ [x]) sam0 (A.length + 1) = x := by rw [getD_at (by simp)]; simp
    by_cases h : bfS x y = true
    · obtain ⟨B, C, hBC, hs, h1, h2⟩ := sink_ins x A.length A rfl (fun a ha => hk a (by simp [ha]))
      refine ⟨B, C ++ [y], by rw [hBC, List.append_assoc], ?_, fun c hc => ?_, h2⟩
      · rw [sink_T (by rw [e1, e2]; exact h), swp_end, sink_app (by simp), hs]; simp
      · cases C with
        | nil => simp at hc; subst hc; exact h
        | cons c' C => exact h1 c (by simpa using hc)
    · refine ⟨A ++ [y], [], by simp, by rw [sink_F (by rw [e1, e2]; exact h)], (fun _ e => by cases e), fun b hb => ?_⟩
      simp at hb
      subst hb
      exact bfS_or (fun e => hk y (by simp) e.symm) h
theorem srt_inv {xs : List samT} (hp : xs.Pairwise fun a b => keyS a ≠ keyS b) : ∀ i, i ≤ xs.length → ∃ P, srt xs i = P ++ xs.drop i ∧ P.Perm (xs.take i) ∧ adj P
  | 0, _ => ⟨[], rfl, by simp, trivial⟩
  | i + 1, h => by
    obtain ⟨P, e1, e2, e3⟩ := srt_inv hp i (by omega)
    have hPl : P.length = i := by rw [e2.length_eq, List.length_take]; omega
    have hd : xs.drop i = xs[i] :: xs.drop (i + 1) := List.drop_eq_getElem_cons (by omega)
    have hk : ∀ a ∈ P, keyS a ≠ keyS xs[i] := fun a ha => by
      obtain ⟨j, hj, rfl⟩ := List.getElem_of_mem (e2.mem_iff.1 ha)
      have hj' : j < i := by simp at hj; omega
      rw [List.pairwise_iff_getElem] at hp
      simpa using hp j i (by omega) (by omega) hj'
    obtain ⟨B, C, hBC, hs, h1, h2⟩ := sink_ins xs[i] i P hPl hk
    refine ⟨B ++ xs[i] :: C, ?_, ?_, ?_⟩
    · show sink i (srt xs i) = _
      rw [e1, hd, show P ++ xs[i] :: xs.drop (i + 1) = (P ++ [xs[i]]) ++ xs.drop (i + 1) by simp, sink_app (by simp [hPl]), hs]
    · rw [List.take_succ_eq_append_getElem (by omega)]
      refine List.perm_middle.trans (List.Perm.trans ?_ (List.perm_append_comm (l₁ := [xs[i]])))
      rw [← hBC]
      exact e2.cons _
    · exact adj_ins (by rw [← hBC]; exact e3) h1 h2
theorem srt_perm {xs : List samT} (px : samP xs) : (srt xs xs.length).Perm xs ∧ adj (srt xs xs.length) := by
  obtain ⟨P, e1, e2, e3⟩ := srt_inv ((samP_iff xs).1 px).2.2 xs.length (Nat.le_refl _)
  rw [List.drop_length, List.append_nil] at e1
  rw [List.take_length] at e2
  rw [e1]; exact ⟨e2, e3⟩
/-! ### Both texts, whatever the arguments -/
def mOf (xs : List samT) (z : Int) : Nat := (if (xs.length : Int) < z then (xs.length : Int) else z).toNat
theorem mOf_eq {xs : List samT} {z : Int} (hz : 0 ≤ z) : (if (xs.length : Int) < z then (xs.length : Int) else z) = (mOf xs z : Int) := by
  unfold mOf; split <;> omega
theorem mOf_le {xs : List samT} {z : Int} (hz : 0 ≤ z) : mOf xs z ≤ xs.length := by have := mOf_eq (xs := xs) hz; split at this <;> omega
open Classical in
noncomputable def topI (xs : List samT) (z : Int) : List samT := if samP xs ∧ 0 ≤ z then topG dec0 xs (mOf xs z) else []
open Classical in
noncomputable def topR (xs : List samT) (z : Int) : List samT := if samP xs ∧ 0 ≤ z then topS xs (mOf xs z) else []
open Classical in
noncomputable def topB (xs : List samT) (z : Int) : Bool := decide (samP xs ∧ 0 ≤ z)
theorem topI_T {xs : List samT} {z : Int} (h : samP xs ∧ 0 ≤ z) : topI xs z = topG dec0 xs (mOf xs z) := if_pos h
theorem topI_F {xs : List samT} {z : Int} (h : ¬ (samP xs ∧ 0 ≤ z)) : topI xs z = [] := if_neg h
theorem topR_T {xs : List samT} {z : Int} (h : samP xs ∧ 0 ≤ z) : topR xs z = topS xs (mOf xs z) := if_pos h
theorem topR_F {xs : List samT} {z : Int} (h : ¬ (samP xs ∧ 0 ≤ z)) : topR xs z = [] := if_neg h
theorem topB_T {xs : List samT} {z : Int} (h : samP xs ∧ 0 ≤ z) : topB xs z = true := by unfold topB; simpa using h
theorem topB_F {xs : List samT} {z : Int} (h : ¬ (samP xs ∧ 0 ≤ z)) : topB xs z = false := by unfold topB; simpa using h
theorem topS_len (xs : List samT) (m : Nat) (h : m ≤ xs.length) : (topS xs m).length = m := by
  unfold topS; rw [List.length_take, srtS_len]; omega
set_option maxHeartbeats 1000000 in
theorem iTop_bad (xs : List samT) (z : Int) (hx : smS xs) (hno : ¬ (samP xs ∧ 0 ≤ z)) : FnOk Try.prog noG 14 [.v false [.sl false true xs.length (xs.flatMap samD)], .v false [.i .i64 z]] [] (.v false [.sl true false 0 []]) [] := by
  have hV := iValidSamples_ok true xs hx (by simp)
  refine fnOk_of' (k := 0) tyOk Try.func14 rfl (by kernel_rfl) Try.ntmps14 (by rw [Try.results14]) rfl (by simp only [List.length_cons, List.length_nil, Nat.reduceAdd, Nat.reduceSub, List.replicate_succ, List.replicate_zero, List.cons_append, List.nil_append]; rfl) (by simp) (by simp) (fun r hr => by simp at hr) fun base => ?_
  refine AW.seq ?_
  refine AW.region ?_
  first
    | refine ao0 (em_assign (by rfl) (by rfl)) (by rfl) (by rfl) ?_
    | refine ao0 (em_assignG (by rfl) (by rfl)) (by rfl) (by rfl) ?_
    | refine ao0 (sem_move (.inr (by rfl))) (by rfl) (by rfl) ?_
  refine ao_nil (by first | dsimp only [setO, setE] | rfl) (by first | dsimp only [setM, setE, setR] | rfl) (by rfl) ?_
  refine AW.seq ?_
  refine AW.seq ?_
  refine AW.region ?_
  first
    | refine ao0 (em_move (by rfl) (by rfl)) (by rfl) (by rfl) ?_
    | refine ao0 (em_moveG (by rfl) (by rfl)) (by rfl) (by rfl) ?_
    | refine ao0 (sem_move (.inl (by rfl))) (by rfl) (by rfl) ?_
  first
    | refine ao0 (em_binI (by rfl) (by rfl) (by rfl) (by rfl) (by first | rfl | trivial | exact ⟨rfl, by decide⟩ | exact ⟨rfl, by omega⟩ | decide | omega)) (by rfl) (by rfl) ?_
    | refine ao0 (sem_binS (by rfl) (by rfl) (by rfl) (by rfl) (by trivial)) (by rfl) (by rfl) ?_
  first
    | refine ao0 (em_move (by rfl) (by rfl)) (by rfl) (by rfl) ?_
    | refine ao0 (em_moveG (by rfl) (by rfl)) (by rfl) (by rfl) ?_
    | refine ao0 (sem_move (.inl (by rfl))) (by rfl) (by rfl) ?_
  first
    | refine ao_skip (by rfl) (by rfl) ?_
    | refine ao0 (em_move (by rfl) (by rfl)) (by rfl) (by rfl) ?_
    | refine ao0 (em_moveG (by rfl) (by rfl)) (by rfl) (by rfl) ?_
    | refine ao0 (sem_move (.inl (by rfl))) (by rfl) (by rfl) ?_
    | refine ao_opt (by rfl) (by rfl) (fun he => astep0 (em_move (by rfl) (by rfl))) ?_
    | refine ao_opt (by rfl) (by rfl) (fun he => astep0 (em_moveG (by rfl) (by rfl))) ?_
    | refine ao_opt (by rfl) (by rfl) (fun he => by rw [he]; exact astep0 (em_move (by rfl) (by rfl))) ?_
    | refine ao_opt (by rfl) (by rfl) (fun he => by rw [he]; exact astep0 (em_moveG (by rfl) (by rfl))) ?_
    | refine ao_opt (by rfl) (by rfl) (fun he => astep0 (sem_move (.inl (by rfl)))) ?_
    | refine ao_opt (by rfl) (by rfl) (fun he => by rw [he]; exact astep0 (sem_move (.inl (by rfl)))) ?_
  first
    | refine ao_skip (by rfl) (by rfl) ?_
    | refine ao_callL [] [] (hV) (by rfl) (by rfl) (by rfl) (by rfl) (by rfl) (by repeat' (first | exact True.intro | exact .inl ⟨by rfl, by rfl⟩ | exact rfl | exact .inr (.inl ⟨_, _, _, _, by rfl, by rfl⟩) | exact .inr (.inr ⟨_, _, _, _, _, _, by rfl, by rfl, by rfl, by first | exact .head _ | exact .tail _ (.head _) | exact .tail _ (.tail _ (.head _)) | exact .tail _ (.tail _ (.tail _ (.head _)))⟩) | refine And.intro ?_ ?_)) (by repeat' (first | exact True.intro | exact .inl ⟨by rfl, by rfl⟩ | exact rfl | exact .inl rfl | exact .inr (.inl ⟨_, _, _, _, by rfl, by rfl⟩) | exact .inr ⟨rfl, by simp [D.scalar, bD]⟩ | refine And.intro ?_ ?_)) (by rfl) (by rfl) (by rfl) (by decide) (by rfl) (by rfl) (by omega) (by first | rfl | (simp [keptB, notGone, (by rfl).live]; done)) (by rfl) (by rfl) (by rfl) (by rfl) (by rfl) (by rfl) (by rfl) ?_
    | refine ao_opt (by rfl) (by rfl) (fun he => by rw [he]; exact astep_callL [] [] (hV) (by rfl) (by rfl) (by rfl) (by repeat' (first | exact True.intro | exact .inl ⟨by rfl, by rfl⟩ | exact rfl | exact .inr (.inl ⟨_, _, _, _, by rfl, by rfl⟩) | exact .inr (.inr ⟨_, _, _, _, _, _, by rfl, by rfl, by rfl, by first | exact .head _ | exact .tail _ (.head _) | exact .tail _ (.tail _ (.head _)) | exact .tail _ (.tail _ (.tail _ (.head _)))⟩) | refine And.intro ?_ ?_)) (by repeat' (first | exact True.intro | exact .inl ⟨by rfl, by rfl⟩ | exact rfl | exact .inl rfl | exact .inr (.inl ⟨_, _, _, _, by rfl, by rfl⟩) | exact .inr ⟨rfl, by simp [D.scalar, bD]⟩ | refine And.intro ?_ ?_)) (by rfl) (by rfl) (by rfl) (by decide) (by rfl) (by rfl) (by omega) (by first | rfl | (simp [keptB, notGone, (by rfl).live]; done)) (by rfl) (by rfl) (by rfl) (by rfl) (by rfl) (by rfl) (by rfl)) ?_
    | refine ao_opt (by rfl) (by rfl) (fun he => astep_callL [] [] (hV) (by rfl) (by rfl) (by rfl) (by repeat' (first | exact True.intro | exact .inl ⟨by rfl, by rfl⟩ | exact rfl | exact .inr (.inl ⟨_, _, _, _, by rfl, by rfl⟩) | exact .inr (.inr ⟨_, _, _, _, _, _, by rfl, by rfl, by rfl, by first | exact .head _ | exact .tail _ (.head _) | exact .tail _ (.tail _ (.head _)) | exact .tail _ (.tail _ (.tail _ (.head _)))⟩) | refine And.intro ?_ ?_)) (by repeat' (first | exact True.intro | exact .inl ⟨by rfl, by rfl⟩ | exact rfl | exact .inl rfl | exact .inr (.inl ⟨_, _, _, _, by rfl, by rfl⟩) | exact .inr ⟨rfl, by simp [D.scalar, bD]⟩ | refine And.intro ?_ ?_)) (by rfl) (by rfl) (by rfl) (by decide) (by rfl) (by rfl) (by omega) (by first | rfl | (simp [keptB, notGone, (by rfl).live]; done)) (by rfl) (by rfl) (by rfl) (by rfl) (by rfl) (by rfl) (by rfl)) ?_
  first
    | refine ao_skip (by rfl) (by rfl) ?_
    | refine ao0 (sem_unOp (by rfl) (by rfl) (by rfl)) (by rfl) (by rfl) ?_
    | refine ao_opt (by rfl) (by rfl) (fun he => astep0 (sem_unOp (by rfl) (by rfl) (by rfl))) ?_
    | refine ao_opt (by rfl) (by rfl) (fun he => by rw [he]; exact astep0 (sem_unOp (by rfl) (by rfl) (by rfl))) ?_
  first
    | refine ao0 (sem_pickg (by rfl) (by rfl) (by rfl) (by rfl) (by intro hh; first | rfl | exact hh | (exact Bool.noConfusion hh) | (simp [wexp]; done) | (simp [wexp] at hh; done) | (simpa [wexp] using hh) | (simp_all; done)) (by intro hh; first | rfl | exact hh | (exact Bool.noConfusion hh) | (simp [wexp]; done) | (simp [wexp] at hh; done) | (simpa [wexp] using hh) | (simp_all; done))) (by rfl) (by rfl) ?_
    | refine ao0 (sem_pick (by rfl) (by rfl)) (by rfl) (by rfl) ?_
  refine ao_nil (by first | dsimp only [setO, setE] | rfl) (by first | dsimp only [setM, setE, setR] | rfl) (by rfl) ?_
  refine AW.cond (by rfl) (fun hc1 => ?_) (fun hc1 => ?_)
  · skip
    refine AW.seq ?_
    refine AW.region ?_
    first
      | refine ao0 (em_assign (by rfl) (by rfl)) (by rfl) (by rfl) ?_
      | refine ao0 (em_assignG (by rfl) (by rfl)) (by rfl) (by rfl) ?_
      | refine ao0 (sem_move (.inr (by rfl))) (by rfl) (by rfl) ?_
    refine ao_nil (by first | dsimp only [setO, setE] | rfl) (by first | dsimp only [setM, setE, setR] | rfl) (by rfl) ?_
    refine AW.ret ?_
    refine retA_data (n := 0) rfl (by rfl) ?_ rfl rfl _ (.inr rfl)
    all_goals rfl
  · skip
    exfalso; obtain ⟨e1, e2⟩ := or_F hc1; exact hno ⟨samB_of (by simpa using e2), by simp at e1; omega⟩
set_option maxHeartbeats 1000000 in
theorem sTop_bad (xs : List samT) (z : Int) (hx : smS xs) (hno : ¬ (samP xs ∧ 0 ≤ z)) : FnOk Try.prog noG 16 [.v false [.sl false true xs.length (xs.flatMap samD)], .v false [.i .i64 z]] [] (.v false [.sl true false 0 []]) [] := by
  have hV := svalidSamples_ok true xs hx (by simp)
  refine fnOk_of' (k := 0) tyOk Try.func16 rfl (by kernel_rfl) Try.ntmps16 (by rw [Try.results16]) rfl (by simp only [List.length_cons, List.length_nil, Nat.reduceAdd, Nat.reduceSub, List.replicate_succ, List.replicate_zero, List.cons_append, List.nil_append]; rfl) (by simp) (by simp) (fun r hr => by simp at hr) fun base => ?_
  refine AW.seq ?_
  refine AW.region ?_
  first
    | refine ao0 (em_assign (by rfl) (by rfl)) (by rfl) (by rfl) ?_
    | refine ao0 (em_assignG (by rfl) (by rfl)) (by rfl) (by rfl) ?_
    | refine ao0 (sem_move (.inr (by rfl))) (by rfl) (by rfl) ?_
  refine ao_nil (by first | dsimp only [setO, setE] | rfl) (by first | dsimp only [setM, setE, setR] | rfl) (by rfl) ?_
  refine AW.seq ?_
  refine AW.region ?_
  first
    | refine ao1 (sem_buildSlice0 tyOk (by rfl) (by rfl) (by rfl) (by rfl)) (by omega) (by rfl) (by rfl) ?_
    | refine ao1 (sem_buildSlice tyOk (by rfl) (by rfl) (by rfl) (by rfl) (by rfl) (by rfl) (by rfl) (by decide) (by decide) (by rfl)) (by omega) (by rfl) (by rfl) ?_
  first
    | refine ao0 (em_assign (by rfl) (by rfl)) (by rfl) (by rfl) ?_
    | refine ao0 (em_assignG (by rfl) (by rfl)) (by rfl) (by rfl) ?_
    | refine ao0 (sem_move (.inr (by rfl))) (by rfl) (by rfl) ?_
  refine ao_nil (by first | dsimp only [setO, setE] | rfl) (by first | dsimp only [setM, setE, setR] | rfl) (by rfl) ?_
  refine AW.seq ?_
  refine AW.seq ?_
  refine AW.region ?_
  first
    | refine ao0 (em_move (by rfl) (by rfl)) (by rfl) (by rfl) ?_
    | refine ao0 (em_moveG (by rfl) (by rfl)) (by rfl) (by rfl) ?_
    | refine ao0 (sem_move (.inl (by rfl))) (by rfl) (by rfl) ?_
  refine ao_callL [] [] (hV) (by rfl) (by rfl) (by rfl) (by rfl) (by rfl) (by repeat' (first | exact True.intro | exact .inl ⟨by rfl, by rfl⟩ | exact rfl | exact .inr (.inl ⟨_, _, _, _, by rfl, by rfl⟩) | exact .inr (.inr ⟨_, _, _, _, _, _, by rfl, by rfl, by rfl, by first | exact .head _ | exact .tail _ (.head _) | exact .tail _ (.tail _ (.head _)) | exact .tail _ (.tail _ (.tail _ (.head _)))⟩) | refine And.intro ?_ ?_)) (by repeat' (first | exact True.intro | exact .inl ⟨by rfl, by rfl⟩ | exact rfl | exact .inl rfl | exact .inr (.inl ⟨_, _, _, _, by rfl, by rfl⟩) | exact .inr ⟨rfl, by simp [D.scalar, bD]⟩ | refine And.intro ?_ ?_)) (by rfl) (by rfl) (by rfl) (by decide) (by rfl) (by rfl) (by omega) (by first | rfl | (simp [keptB, notGone, (by rfl).live]; done)) (by rfl) (by rfl) (by rfl) (by rfl) (by rfl) (by rfl) (by rfl) ?_
  refine ao0 (sem_unOp (by rfl) (by rfl) (by rfl)) (by rfl) (by rfl) ?_
  first
    | refine ao0 (em_move (by rfl) (by rfl)) (by rfl) (by rfl) ?_
    | refine ao0 (em_moveG (by rfl) (by rfl)) (by rfl) (by rfl) ?_
    | refine ao0 (sem_move (.inl (by rfl))) (by rfl) (by rfl) ?_
  first
    | refine ao_skip (by rfl) (by rfl) ?_
    | refine ao0 (em_move (by rfl) (by rfl)) (by rfl) (by rfl) ?_
    | refine ao0 (em_moveG (by rfl) (by rfl)) (by rfl) (by rfl) ?_
    | refine ao0 (sem_move (.inl (by rfl))) (by rfl) (by rfl) ?_
    | refine ao_opt (by rfl) (by rfl) (fun he => astep0 (em_move (by rfl) (by rfl))) ?_
    | refine ao_opt (by rfl) (by rfl) (fun he => astep0 (em_moveG (by rfl) (by rfl))) ?_
    | refine ao_opt (by rfl) (by rfl) (fun he => by rw [he]; exact astep0 (em_move (by rfl) (by rfl))) ?_
    | refine ao_opt (by rfl) (by rfl) (fun he => by rw [he]; exact astep0 (em_moveG (by rfl) (by rfl))) ?_
    | refine ao_opt (by rfl) (by rfl) (fun he => astep0 (sem_move (.inl (by rfl)))) ?_
    | refine ao_opt (by rfl) (by rfl) (fun he => by rw [he]; exact astep0 (sem_move (.inl (by rfl)))) ?_
  first
    | refine ao_skip (by rfl) (by rfl) ?_
    | refine ao0 (em_binI (by rfl) (by rfl) (by rfl) (by rfl) (by first | rfl | trivial | exact ⟨rfl, by decide⟩ | exact ⟨rfl, by omega⟩ | decide | omega)) (by rfl) (by rfl) ?_
    | refine ao0 (sem_binS (by rfl) (by rfl) (by rfl) (by rfl) (by trivial)) (by rfl) (by rfl) ?_
    | refine ao_opt (by rfl) (by rfl) (fun he => astep0 (em_binI (by rfl) (by rfl) (by rfl) (by rfl) (by first | rfl | trivial | exact ⟨rfl, by decide⟩ | exact ⟨rfl, by omega⟩ | decide | omega))) ?_
    | refine ao_opt (by rfl) (by rfl) (fun he => astep0 (sem_binS (by rfl) (by rfl) (by rfl) (by rfl) (by trivial))) ?_
    | refine ao_opt (by rfl) (by rfl) (fun he => by rw [he]; exact astep0 (em_binI (by rfl) (by rfl) (by rfl) (by rfl) (by first | rfl | trivial | exact ⟨rfl, by decide⟩ | exact ⟨rfl, by omega⟩ | decide | omega))) ?_
    | refine ao_opt (by rfl) (by rfl) (fun he => by rw [he]; exact astep0 (sem_binS (by rfl) (by rfl) (by rfl) (by rfl) (by trivial))) ?_
  first
    | refine ao0 (sem_pickg (by rfl) (by rfl) (by rfl) (by rfl) (by intro hh; first | rfl | exact hh | (exact Bool.noConfusion hh) | (simp [wexp]; done) | (simp [wexp] at hh; done) | (simpa [wexp] using hh) | (simp_all; done)) (by intro hh; first | rfl | exact hh | (exact Bool.noConfusion hh) | (simp [wexp]; done) | (simp [wexp] at hh; done) | (simpa [wexp] using hh) | (simp_all; done))) (by rfl) (by rfl) ?_
    | refine ao0 (sem_pick (by rfl) (by rfl)) (by rfl) (by rfl) ?_
  refine ao_nil (by first | dsimp only [setO, setE] | rfl) (by first | dsimp only [setM, setE, setR] | rfl) (by rfl) ?_
  refine AW.cond (by rfl) (fun hc1 => ?_) (fun hc1 => ?_)
  · skip
    refine AW.seq ?_
    refine AW.region ?_
    first
      | refine ao0 (em_assign (by rfl) (by rfl)) (by rfl) (by rfl) ?_
      | refine ao0 (em_assignG (by rfl) (by rfl)) (by rfl) (by rfl) ?_
      | refine ao0 (sem_move (.inr (by rfl))) (by rfl) (by rfl) ?_
    refine ao_nil (by first | dsimp only [setO, setE] | rfl) (by first | dsimp only [setM, setE, setR] | rfl) (by rfl) ?_
    refine AW.ret ?_
    refine retA_data (n := 0) rfl (by rfl) ?_ rfl rfl _ (.inr rfl)
    all_goals rfl
  · skip
    exfalso; obtain ⟨e1, e2⟩ := or_F hc1; exact hno ⟨samB_of (by simpa using e1), by simp at e2; omega⟩
theorem iTop_ok (xs : List samT) (z : Int) (hx : smS xs) (hz2 : z ≤ 9223372036854775807) : FnOk Try.prog noG 14 [.v false [.sl false true xs.length (xs.flatMap samD)], .v false [.i .i64 z]] [] (.v false [.sl true (dec0 (topI xs z)) (topI xs z).length ((topI xs z).flatMap samD)]) [] := by
  by_cases h : samP xs ∧ 0 ≤ z
  · have hl := topG_len dec0 xs (mOf xs z) (mOf_le h.2)
    have := iTop_own xs z (mOf xs z) hx h.1 h.2 hz2 (mOf_eq h.2)
    rw [topI_T h, hl]
    exact this.frz (.v (.cons (.own rfl) .nil))
  · rw [topI_F h]
    exact iTop_bad xs z hx h
theorem sTop_ok (xs : List samT) (z : Int) (hx : smS xs) (hz2 : z ≤ 9223372036854775807) : FnOk Try.prog noG 16 [.v false [.sl false true xs.length (xs.flatMap samD)], .v false [.i .i64 z]] [] (.v false [.sl true (topB xs z) (topR xs z).length ((topR xs z).flatMap samD)]) [] := by
  by_cases h : samP xs ∧ 0 ≤ z
  · have hl := topS_len xs (mOf xs z) (mOf_le h.2)
    have := sTop_own xs z (mOf xs z) hx h.1 h.2 hz2 (mOf_eq h.2)
    rw [topR_T h, topB_T h, hl]
    rw [show samR true (topS xs (mOf xs z)) = R.arr 31 true true (mOf xs z) ((topS xs (mOf xs z)).flatMap samD) by unfold samR; rw [hl]] at this
    exact this.frz (.v (.cons (.own rfl) .nil))
  · rw [topR_F h, topB_F h]
    exact sTop_bad xs z hx h
theorem topB_nil {xs : List samT} {z : Int} (h : topB xs z = false) : topR xs z = [] := topR_F (fun k => by rw [topB_T k] at h; cases h)
theorem nnS_map (xs : List samT) (f : List labT → Bool) : nnS (xs.map (fixS f)) = nnS xs := by unfold nnS fixS; simp
theorem nnS_take (xs : List samT) (m : Nat) : nnS (xs.take m) = (nnS xs).take m := by unfold nnS; rw [List.map_take]
theorem nnS_idem (xs : List samT) : nnS (nnS xs) = nnS xs := by unfold nnS; simp
theorem top_same (xs : List samT) (z : Int) : nnS (topI xs z) = nnS (topR xs z) := by
  by_cases h : samP xs ∧ 0 ≤ z
  · rw [topI_T h, topR_T h]
    unfold topG topS
    rw [nnS_map, nnS_take, nnS_take, srt_fin]
    rw [show nnS (srtS xs xs.length) = srtS xs xs.length by rw [← srt_fin, nnS_idem]]
  · rw [topI_F h, topR_F h]
theorem topI_mem {xs : List samT} {z : Int} (px : samP xs) {x : samT} (hx : x ∈ topI xs z) : ∃ y ∈ xs, x = fixS dec0 y := by
  unfold topI at hx
  split at hx
  · unfold topG at hx
    obtain ⟨y, hy, rfl⟩ := List.mem_map.1 hx
    exact ⟨y, (srt_perm px).1.mem_iff.1 (List.mem_of_mem_take hy), rfl⟩
  · cases hx
theorem topI_sm {xs : List samT} {z : Int} (h : smS xs) : smS (topI xs z) := by
  by_cases hk : samP xs ∧ 0 ≤ z
  · refine ⟨by rw [topI_T hk, topG_len _ _ _ (mOf_le hk.2)]; have := mOf_le (xs := xs) hk.2; have := h.1; omega, fun x hx => ?_⟩
    obtain ⟨y, hy, rfl⟩ := topI_mem hk.1 hx
    exact ⟨(h.2 y hy).1, fun e => dec0_nil e⟩
  · rw [topI_F hk]; exact ⟨by simp, by simp⟩
theorem topR_sm {xs : List samT} {z : Int} (h : smS xs) : smS (topR xs z) := by
  have e := top_same xs z
  have hI := topI_sm (z := z) h
  refine ⟨by have := congrArg List.length e; rw [nnS_len, nnS_len] at this; have := hI.1; omega, fun x hx => ?_⟩
  have hk : samP xs ∧ 0 ≤ z := by
    unfold topR at hx
    split at hx
    · assumption
    · cases hx
  have hx2 : ((true, x.2) : samT) ∈ nnS (topI xs z) := by rw [e]; exact List.mem_map.2 ⟨x, hx, rfl⟩
  obtain ⟨y, hy, ey⟩ := List.mem_map.1 hx2
  have e2 : y.2 = x.2 := by injection ey
  refine ⟨by rw [← e2]; exact (hI.2 y hy).1, fun e1 => ?_⟩
  rw [topR_T hk] at hx
  unfold topS at hx
  have hm := List.mem_of_mem_take hx
  rw [← srt_fin] at hm
  obtain ⟨y, _, rfl⟩ := List.mem_map.1 hm
  cases e1
end Go.Proofs.Ytpobimdcphjljaa
