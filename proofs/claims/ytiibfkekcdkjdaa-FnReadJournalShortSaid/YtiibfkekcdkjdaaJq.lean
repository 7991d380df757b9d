/-
  Drawn journals.
-/
import Derived.Test.YtiibfkekcdkjdaaJo
namespace Go.Proofs.Ytiibfkekcdkjdaa
open Go
set_option linter.unusedVariables false
set_option linter.unusedSimpArgs false
set_option linter.unnecessarySimpa false

def jB (l : List Nat) (p : Nat) (L : List Nat) : List Nat × Nat :=
  if L.length = 0 then (L, p) else if pickN l p 6 = 0 then (L.set (pickN l (p + 1) (L.length : Int)) (pickN l (p + 1 + 1) 250), p + 1 + 1 + 1) else if pickN l p 6 = 1 then (L.take (pickN l (p + 1) (L.length : Int)), p + 1 + 1) else if pickN l p 6 = 2 then (L ++ [pickN l (p + 1) 8], p + 1 + 1) else (L, p + 1)
def jF (l : List Nat) (p : Nat) (L : List Nat) : List Nat := if pickN l (jB l p L).2 30 = 0 then List.replicate 201 0 else (jB l p L).1
theorem jB_bd (l : List Nat) (p : Nat) {L : List Nat} (hb : ∀ b ∈ L, b ≤ 255) : (∀ b ∈ (jB l p L).1, b ≤ 255) ∧ (jB l p L).1.length ≤ L.length + 1 ∧ (jB l p L).2 ≤ p + 3 ∧ p ≤ (jB l p L).2 := by
  have h1 := pickN_lt l (p + 1 + 1) 250 (by decide)
  have h2 := pickN_lt l (p + 1) 8 (by decide)
  unfold jB
  repeat' split
  · exact ⟨hb, by simp, by simp, by simp⟩
  · refine ⟨fun b h => ?_, by simp, by simp, by dsimp only; omega⟩
    rcases List.mem_or_eq_of_mem_set h with h | rfl
    · exact hb b h
    · omega
  · exact ⟨fun b h => hb b (List.mem_of_mem_take h), by simp; omega, by simp, by dsimp only; omega⟩
  · refine ⟨fun b h => ?_, by simp, by simp, by dsimp only; omega⟩
    rcases List.mem_append.1 h with h | h
    · exact hb b h
    · rw [List.mem_singleton.1 h]; omega
  · exact ⟨hb, by simp, by simp, by simp⟩
theorem jF_bd (l : List Nat) (p : Nat) {L : List Nat} (hb : ∀ b ∈ L, b ≤ 255) (hL : L.length ≤ 200) : (∀ b ∈ jF l p L, b ≤ 255) ∧ (jF l p L).length ≤ 201 := by
  obtain ⟨h1, h2, _, _⟩ := jB_bd l p hb
  unfold jF
  split
  · exact ⟨fun b h => by rw [List.eq_of_mem_replicate h]; omega, by rw [List.length_replicate]; exact Nat.le_refl _⟩
  · exact ⟨h1, by omega⟩
theorem wrL_len (xs : List rcdT) : (wrL xs).length ≤ 200 := by
  unfold wrL
  split
  · rename_i h; exact ((wrOk_iff xs).1 h).2
  · simp
theorem wrL_bd (xs : List rcdT) : ∀ b ∈ wrL xs, b ≤ 255 := by
  unfold wrL
  split
  · exact wrF_bd xs
  · intro b hb; cases hb
set_option maxHeartbeats 4000000 in
theorem someJournal_ok (nn : Bool) (l : List Nat) (p : Nat) (hl : l.length ≤ 2000) (hp : p ≤ 90000) (hnn : nn = false → l = []) (hb : ∀ b ∈ l, b ≤ 255) : ∃ (bs : List Nat) (q : Nat), bs.length ≤ 201 ∧ (∀ b ∈ bs, b ≤ 255) ∧ q ≤ 400 ∧ FnOk Try.prog noG 57 [.v false [.ref 0 0]] [rdr nn l p] (.v false [.sl true true bs.length (bs.map bD)]) [rdr nn l (p + q)] := by
  obtain ⟨xs, q, hx, hq, hr⟩ := someRecords_ok nn l p hl (by omega) hnn hb
  have hw := sWriteJournal_any true xs (by omega) (by simp)
  have hLl := wrL_len xs
  have hLb := wrL_bd xs
  obtain ⟨L, hL⟩ : ∃ L, L = wrL xs := ⟨_, rfl⟩
  rw [← hL] at hw hLl hLb
  obtain ⟨P, hP⟩ : ∃ P, P = p + q := ⟨_, rfl⟩
  rw [← hP] at hr
  obtain ⟨hj1, hj2⟩ := jF_bd l P hLb hLl
  obtain ⟨_, _, hj3, hj4⟩ := jB_bd l P hLb
  refine ⟨jF l P L, (jB l P L).2 + 1 - p, hj2, hj1, by omega, ?_⟩
  have hpe : p + ((jB l P L).2 + 1 - p) = (jB l P L).2 + 1 := by omega
  rw [hpe]
  have hbd250 := pickN_lt l (P + 1 + 1) 250 (by decide)
  have hbd8 := pickN_lt l (P + 1) 8 (by decide)
  have hpL : 0 < L.length → (pickN l (P + 1) (L.length : Int) : Int) < (L.length : Int) := fun h => pickN_lt l (P + 1) (L.length : Int) (by omega)
  refine fnOk_of' (k := 1) tyOk Try.func57 rfl (by kernel_rfl) Try.ntmps57 (by rw [Try.results57]) rfl (by simp only [List.length_cons, List.length_nil, Nat.reduceAdd, Nat.reduceSub, List.replicate_succ, List.replicate_zero, List.cons_append, List.nil_append]; rfl) (by simp) (by simp) (fun r hr => ((keptB_get (by first | rfl | (simp [keptB, notGone, R.live]; done))).2 r hr).2) fun base => ?_
  refine AW.seq ?_
  refine AW.region ?_
  refine ao0 (em_assign (by rfl) (by rfl)) (by rfl) (by rfl) ?_
  refine ao_nil (by first | dsimp only [setO, setE] | rfl) (by first | dsimp only [setM, setE, setR] | rfl) (by rfl) ?_
  refine AW.seq ?_
  refine AW.region ?_
  refine ao0 (em_move (by rfl) (by rfl)) (by rfl) (by rfl) ?_
  refine ao_callL [0] [] (hr) (by rfl) (by rfl) (by rfl) (by rfl) (by rfl) (by repeat' (first | exact True.intro | exact .inl ⟨by rfl, by rfl⟩ | exact rfl | exact .inr (.inl ⟨_, _, _, _, by rfl, by rfl⟩) | exact .inr (.inr ⟨_, _, _, _, _, _, by rfl, by rfl, by rfl, by first | exact .head _ | exact .tail _ (.head _) | exact .tail _ (.tail _ (.head _)) | exact .tail _ (.tail _ (.tail _ (.head _)))⟩) | refine And.intro ?_ ?_)) (by repeat' (first | exact True.intro | exact .inl ⟨by rfl, by rfl⟩ | exact rfl | exact .inl rfl | exact .inr (.inl ⟨_, _, _, _, by rfl, by rfl⟩) | exact .inr ⟨rfl, by simp [D.scalar, bD]⟩ | refine And.intro ?_ ?_)) (by rfl) (by rfl) (by rfl) (by decide) (by rfl) (by rfl) (by omega) (by first | rfl | (simp [keptB, notGone, (by rfl).live]; done)) (by rfl) (by rfl) (by rfl) (by rfl) (by rfl) (by rfl) (by rfl) ?_
  refine ao_callL [] [1] (hw) (by rfl) (by rfl) (by rfl) (by rfl) (by rfl) (by repeat' (first | exact True.intro | exact .inl ⟨by rfl, by rfl⟩ | exact rfl | exact .inr (.inl ⟨_, _, _, _, by rfl, by rfl⟩) | exact .inr (.inr ⟨_, _, _, _, _, _, by rfl, by rfl, by rfl, by first | exact .head _ | exact .tail _ (.head _) | exact .tail _ (.tail _ (.head _)) | exact .tail _ (.tail _ (.tail _ (.head _)))⟩) | refine And.intro ?_ ?_)) (by repeat' (first | exact True.intro | exact .inl ⟨by rfl, by rfl⟩ | exact rfl | exact .inl rfl | exact .inr (.inl ⟨_, _, _, _, by rfl, by rfl⟩) | exact .inr ⟨rfl, by simp [D.scalar, bD]⟩ | refine And.intro ?_ ?_)) (by rfl) (by rfl) (by rfl) (by decide) (by rfl) (by rfl) (by omega) (by first | rfl | (simp [keptB, notGone, (by rfl).live]; done)) (by rfl) (by rfl) (by rfl) (by rfl) (by rfl) (by rfl) (by rfl) ?_
  refine ao0 (sem_move (.inl (by rfl))) (by rfl) (by rfl) ?_
  refine ao0 (sem_extract (by rfl) (by rfl) (by rfl)) (by rfl) (by rfl) ?_
  refine ao0 (sem_extract (by rfl) (by rfl) (by rfl)) (by rfl) (by rfl) ?_
  refine ao0 (em_assign (by rfl) (by rfl)) (by rfl) (by rfl) ?_
  refine ao0 (em_assign (by rfl) (by rfl)) (by rfl) (by rfl) ?_
  refine ao_nil (by first | dsimp only [setO, setE] | rfl) (by first | dsimp only [setM, setE, setR] | rfl) (by rfl) ?_
  refine AW.seq ?_
  refine AW.region ?_
  refine ao1 (sem_buildSlice0 tyOk (by rfl) (by rfl) (by rfl) (by rfl)) (by omega) (by rfl) (by rfl) ?_
  refine ao0 (em_move (by rfl) (by rfl)) (by rfl) (by rfl) ?_
  refine ao_append_own tyOk (by rfl) (by rfl) (by rfl) (by rfl) (by rfl) (by rfl) (by rfl) (by rfl) (by rfl) (by rfl) (by first | rfl | exact sliceOf_own (by rfl)) (by first | rfl | decide | (simp; done) | omega) (by first | decide | omega | (unfold maxLen; omega)) (by first | decide | omega | (dsimp only; omega)) (by omega) (by omega) ?_
  refine ao0 (em_assign (by rfl) (by rfl)) (by rfl) (by rfl) ?_
  refine ao_nil (by first | dsimp only [setO, setE] | rfl) (by first | dsimp only [setM, setE, setR] | rfl) (by rfl) ?_
  rw [List.nil_append, Nat.zero_add]
  refine AW.seq ?_
  refine AW.seq ?_
  refine AW.region ?_
  refine ao0 (em_move (by rfl) (by rfl)) (by rfl) (by rfl) ?_
  refine ao0 (sem_len tyOk (by rfl) (by rfl) (by rfl) (by rfl) (by first | exact .inl ⟨_, _, _, rfl⟩ | exact .inr ⟨_, _, rfl⟩)) (by rfl) (by rfl) ?_
  refine ao0 (em_binI (by rfl) (by rfl) (by rfl) (by rfl) (by first | rfl | trivial | exact ⟨rfl, by decide⟩ | exact ⟨rfl, by omega⟩ | decide | omega)) (by rfl) (by rfl) ?_
  refine ao_nil (by first | dsimp only [setO, setE] | rfl) (by first | dsimp only [setM, setE, setR] | rfl) (by rfl) ?_
  refine AW.cond (by rfl) (fun hc1 => ?_) (fun hc1 => ?_)
  · skip
    have hpos : 0 < L.length := by simp at hc1; omega
    have hpL2 := hpL hpos
    refine AW.seq ?_
    refine AW.region ?_
    refine ao0 (em_move (by rfl) (by rfl)) (by rfl) (by rfl) ?_
    refine ao_callL [0] [] (pick_ok nn l P 6 hl (by omega) hnn hb) (by rfl) (by rfl) (by rfl) (by rfl) (by rfl) (by repeat' (first | exact True.intro | exact .inl ⟨by rfl, by rfl⟩ | exact rfl | exact .inr (.inl ⟨_, _, _, _, by rfl, by rfl⟩) | exact .inr (.inr ⟨_, _, _, _, _, _, by rfl, by rfl, by rfl, by first | exact .head _ | exact .tail _ (.head _) | exact .tail _ (.tail _ (.head _)) | exact .tail _ (.tail _ (.tail _ (.head _)))⟩) | refine And.intro ?_ ?_)) (by repeat' (first | exact True.intro | exact .inl ⟨by rfl, by rfl⟩ | exact rfl | exact .inl rfl | exact .inr (.inl ⟨_, _, _, _, by rfl, by rfl⟩) | exact .inr ⟨rfl, by simp [D.scalar, bD]⟩ | refine And.intro ?_ ?_)) (by rfl) (by rfl) (by rfl) (by decide) (by rfl) (by rfl) (by omega) (by first | rfl | (simp [keptB, notGone, (by rfl).live]; done)) (by rfl) (by rfl) (by rfl) (by rfl) (by rfl) (by rfl) (by rfl) ?_
    refine ao_nil (by first | dsimp only [setO, setE] | rfl) (by first | dsimp only [setM, setE, setR] | rfl) (by rfl) ?_
    refine AW.block ?_
    refine AW.seq ?_
    refine AW.region ?_
    refine ao0 (em_binI (by rfl) (by rfl) (by rfl) (by rfl) (by first | rfl | trivial | exact ⟨rfl, by decide⟩ | exact ⟨rfl, by omega⟩ | decide | omega)) (by rfl) (by rfl) ?_
    refine ao0 (em_assign (by rfl) (by rfl)) (by rfl) (by rfl) ?_
    refine ao_nil (by first | dsimp only [setO, setE] | rfl) (by first | dsimp only [setM, setE, setR] | rfl) (by rfl) ?_
    refine AW.cond (by rfl) (fun hc2 => ?_) (fun hc2 => ?_)
    · skip
      have c0 : pickN l P 6 = 0 := by simpa using hc2
      have hjb : jB l P L = (L.set (pickN l (P + 1) (L.length : Int)) (pickN l (P + 1 + 1) 250), P + 1 + 1 + 1) := by unfold jB; rw [if_neg (by omega), if_pos c0]
      refine AW.region ?_
      refine ao0 (em_move (by rfl) (by rfl)) (by rfl) (by rfl) ?_
      refine ao0 (em_move (by rfl) (by rfl)) (by rfl) (by rfl) ?_
      refine ao0 (em_move (by rfl) (by rfl)) (by rfl) (by rfl) ?_
      refine ao0 (sem_len tyOk (by rfl) (by rfl) (by rfl) (by rfl) (by first | exact .inl ⟨_, _, _, rfl⟩ | exact .inr ⟨_, _, rfl⟩)) (by rfl) (by rfl) ?_
      refine ao_callL [0] [] (pick_ok nn l (P + 1) (L.length : Int) hl (by omega) hnn hb) (by rfl) (by rfl) (by rfl) (by rfl) (by rfl) (by repeat' (first | exact True.intro | exact .inl ⟨by rfl, by rfl⟩ | exact rfl | exact .inr (.inl ⟨_, _, _, _, by rfl, by rfl⟩) | exact .inr (.inr ⟨_, _, _, _, _, _, by rfl, by rfl, by rfl, by first | exact .head _ | exact .tail _ (.head _) | exact .tail _ (.tail _ (.head _)) | exact .tail _ (.tail _ (.tail _ (.head _)))⟩) | refine And.intro ?_ ?_)) (by repeat' (first | exact True.intro | exact .inl ⟨by rfl, by rfl⟩ | exact rfl | exact .inl rfl | exact .inr (.inl ⟨_, _, _, _, by rfl, by rfl⟩) | exact .inr ⟨rfl, by simp [D.scalar, bD]⟩ | refine And.intro ?_ ?_)) (by rfl) (by rfl) (by rfl) (by decide) (by rfl) (by rfl) (by omega) (by first | rfl | (simp [keptB, notGone, (by rfl).live]; done)) (by rfl) (by rfl) (by rfl) (by rfl) (by rfl) (by rfl) (by rfl) ?_
      refine ao0 (em_move (by rfl) (by rfl)) (by rfl) (by rfl) ?_
      refine ao_callL [0] [] (pick_ok nn l (P + 1 + 1) 250 hl (by omega) hnn hb) (by rfl) (by rfl) (by rfl) (by rfl) (by rfl) (by repeat' (first | exact True.intro | exact .inl ⟨by rfl, by rfl⟩ | exact rfl | exact .inr (.inl ⟨_, _, _, _, by rfl, by rfl⟩) | exact .inr (.inr ⟨_, _, _, _, _, _, by rfl, by rfl, by rfl, by first | exact .head _ | exact .tail _ (.head _) | exact .tail _ (.tail _ (.head _)) | exact .tail _ (.tail _ (.tail _ (.head _)))⟩) | refine And.intro ?_ ?_)) (by repeat' (first | exact True.intro | exact .inl ⟨by rfl, by rfl⟩ | exact rfl | exact .inl rfl | exact .inr (.inl ⟨_, _, _, _, by rfl, by rfl⟩) | exact .inr ⟨rfl, by simp [D.scalar, bD]⟩ | refine And.intro ?_ ?_)) (by rfl) (by rfl) (by rfl) (by decide) (by rfl) (by rfl) (by omega) (by first | rfl | (simp [keptB, notGone, (by rfl).live]; done)) (by rfl) (by rfl) (by rfl) (by rfl) (by rfl) (by rfl) (by rfl) ?_
      refine ao0 (em_conv8 tyOk (by rfl) (by rfl) (by rfl) (by rfl) (by rfl) (by omega) (by omega)) (by rfl) (by rfl) ?_
      refine ao0 (sem_indexAddr tyOk (by rfl) (by rfl) (by rfl) (by rfl) (by rfl) (by rfl) (by omega) (by omega)) (by rfl) (by rfl) ?_
      refine ao_store_arr tyOk (by rfl) (by rfl) (by rfl) (by rfl) (by rfl) (by rfl) (by rfl) (by rfl) (by rfl) (by first | decide | (simp; done) | omega | (simp only [List.length_cons, List.length_nil, List.length_map]; omega) | (simp only [setR_len, List.length_cons, List.length_nil, List.length_map]; omega)) ?_
      refine ao_nil (by first | dsimp only [setO, setE] | rfl) (by first | dsimp only [setM, setE, setR] | rfl) (by rfl) ?_
      have hp30 := pick_ok nn l (P + 1 + 1 + 1) 30 hl (by omega) hnn hb
      rw [set_up L (pickN l (P + 1) (L.length : Int) : Int) (by omega) (by omega) (pickN l (P + 1 + 1) 250) _ rfl, Int.toNat_natCast]
      refine AW.seq ?_
      refine AW.seq ?_
      refine AW.region ?_
      refine ao0 (em_move (by rfl) (by rfl)) (by rfl) (by rfl) ?_
      refine ao_callL [0] [] (hp30) (by rfl) (by rfl) (by rfl) (by rfl) (by rfl) (by repeat' (first | exact True.intro | exact .inl ⟨by rfl, by rfl⟩ | exact rfl | exact .inr (.inl ⟨_, _, _, _, by rfl, by rfl⟩) | exact .inr (.inr ⟨_, _, _, _, _, _, by rfl, by rfl, by rfl, by first | exact .head _ | exact .tail _ (.head _) | exact .tail _ (.tail _ (.head _)) | exact .tail _ (.tail _ (.tail _ (.head _)))⟩) | refine And.intro ?_ ?_)) (by repeat' (first | exact True.intro | exact .inl ⟨by rfl, by rfl⟩ | exact rfl | exact .inl rfl | exact .inr (.inl ⟨_, _, _, _, by rfl, by rfl⟩) | exact .inr ⟨rfl, by simp [D.scalar, bD]⟩ | refine And.intro ?_ ?_)) (by rfl) (by rfl) (by rfl) (by decide) (by rfl) (by rfl) (by omega) (by first | rfl | (simp [keptB, notGone, (by rfl).live]; done)) (by rfl) (by rfl) (by rfl) (by rfl) (by rfl) (by rfl) (by rfl) ?_
      refine ao0 (em_binI (by rfl) (by rfl) (by rfl) (by rfl) (by first | rfl | trivial | exact ⟨rfl, by decide⟩ | exact ⟨rfl, by omega⟩ | decide | omega)) (by rfl) (by rfl) ?_
      refine ao_nil (by first | dsimp only [setO, setE] | rfl) (by first | dsimp only [setM, setE, setR] | rfl) (by rfl) ?_
      refine AW.cond (by rfl) (fun hc3 => ?_) (fun hc3 => ?_)
      · skip
        refine AW.cutU [(1, .any), (2, .any), (3, .any), (4, .any), (5, .any), (6, .any), (7, .any), (8, .any), (9, .any), (10, .any), (11, .any), (12, .any), (13, .any), (14, .any), (15, .any), (16, .any), (17, .any), (18, .any), (19, .any), (20, .any), (21, .any), (22, .any), (23, .any), (24, .any), (25, .any), (26, .any), (27, .any), (28, .any), (29, .any), (30, .any), (31, .any), (32, .any), (33, .any), (34, .any), (35, .any), (36, .any), (37, .any), (38, .any), (39, .any), (40, .any), (41, .any), (42, .any), (43, .any), (44, .any), (45, .any), (46, .any), (47, .any), (48, .any), (49, .any), (50, .any)] [rdr nn l (P + 1 + 1 + 1 + 1)] 1 ?_ ?_
        · dsimp only [updL, setE]
          refine into_lists [0] ?_ ?_ rfl rfl (by decide) (by rfl) (by rfl) (by rfl) (by rfl) (by omega)
          all_goals (try (repeat' (first | exact True.intro | exact Or.inl rfl | exact Or.inr (Or.inl rfl) | refine And.intro ?_ ?_ | exact le_i (by omega) | exact le_own (by rfl) (by rfl) (by first | rfl | omega) | exact le_arr (by rfl) (by rfl) (by first | rfl | omega) (by rfl) | exact Or.inr (Or.inr (Or.inl ⟨_, _, rfl, rfl⟩)) | exact Or.inr (Or.inr ⟨_, _, rfl⟩) | exact Or.inr (Or.inr (Or.inr ⟨_, _, _, _, rfl, rfl⟩)))))
          all_goals first | exact le_i (by omega) | exact le_rdr (by rfl) (by omega) | exact le_arr (by rfl) (by rfl) (by first | rfl | (simp; done) | omega) (by first | rfl | (simp [bD]; done)) | exact le_own (by rfl) (by rfl) (by first | rfl | (simp; done) | omega)
        refine AW.norm (by first | dsimp only [updL, setE] | rfl) rfl rfl ?_
        have hfin : jF l P L = List.replicate 201 0 := by unfold jF; rw [hjb, if_pos (by simpa using hc3)]
        refine AW.region ?_
        refine ao1 (sem_makeSlice tyOk (by rfl) (by rfl) (by rfl) (by rfl) (by rfl) (by rfl) (by rfl) (by omega) (by omega) (by dsimp only; omega) (by omega) (by first | omega | (unfold maxLen; omega))) (by omega) (by rfl) (by rfl) ?_
        refine ao0 (em_assign (by rfl) (by rfl)) (by rfl) (by rfl) ?_
        refine ao_nil (by first | dsimp only [setO, setE] | rfl) (by first | dsimp only [setM, setE, setR] | rfl) (by rfl) ?_
        rw [flat_rep]
        refine AW.frz 1 (by rfl) (by omega) (by repeat' (first | exact AFrzAs.nil | apply AFrzAs.cons | exact AFrzA.same (by rfl) | apply AFrzA.v | exact AFrzL.nil | apply AFrzL.cons | exact AFrzC.same (by rfl) | exact AFrzC.own)) (by repeat' (first | exact AFrzRs.nil | apply AFrzRs.at rfl | apply AFrzRs.cons (by rfl) | exact AFrzR.arr | apply AFrzR.box | exact AFrzR.gone | exact AFrzL.nil | apply AFrzL.cons | exact AFrzC.same (by rfl) | exact AFrzC.own)) ?_
        refine AW.seq ?_
        refine AW.region ?_
        refine ao0 (em_move (by rfl) (by rfl)) (by rfl) (by rfl) ?_
        refine ao0 (em_assign (by rfl) (by rfl)) (by rfl) (by rfl) ?_
        refine ao_nil (by first | dsimp only [setO, setE] | rfl) (by first | dsimp only [setM, setE, setR] | rfl) (by rfl) ?_
        refine AW.ret ?_
        refine retA_own (n := 0) [0] (by rfl) ?_ ?_ rfl (by simp) (by rfl) (by rfl) (by rfl) (by rfl) (by simp) _ (.inr rfl)
        · rw [hjb]; exact ⟨le_rdr (by rfl) (by rfl), trivial⟩
        · rw [hfin]; exact .inr (.inl (by first | (rw [List.length_replicate, List.map_replicate]; rfl) | rfl))
      · skip
        have hfin : jF l P L = L.set (pickN l (P + 1) (L.length : Int)) (pickN l (P + 1 + 1) 250) := by unfold jF; rw [hjb, if_neg (by simpa using hc3)]
        refine AW.cutU [(3, .v false [.own true 1 (L.set (pickN l (P + 1) (L.length : Int)) (pickN l (P + 1 + 1) 250)).length]), (1, .any), (2, .any), (4, .any), (5, .any), (6, .any), (7, .any), (8, .any), (9, .any), (10, .any), (11, .any), (12, .any), (13, .any), (14, .any), (15, .any), (16, .any), (17, .any), (18, .any), (19, .any), (20, .any), (21, .any), (22, .any), (23, .any), (24, .any), (25, .any), (26, .any), (27, .any), (28, .any), (29, .any), (30, .any), (31, .any), (32, .any), (33, .any), (34, .any), (35, .any), (36, .any), (37, .any), (38, .any), (39, .any), (40, .any), (41, .any), (42, .any), (43, .any), (44, .any), (45, .any), (46, .any), (47, .any), (48, .any), (49, .any), (50, .any)] [rdr nn l (P + 1 + 1 + 1 + 1), .arr 5 true true (L.set (pickN l (P + 1) (L.length : Int)) (pickN l (P + 1 + 1) 250)).length ((L.set (pickN l (P + 1) (L.length : Int)) (pickN l (P + 1 + 1) 250)).map bD)] 2 ?_ ?_
        · dsimp only [updL, setE]
          refine into_lists [0, 3] ?_ ?_ rfl rfl (by decide) (by rfl) (by rfl) (by rfl) (by rfl) (by omega)
          all_goals (try (repeat' (first | exact True.intro | exact Or.inl rfl | exact Or.inr (Or.inl rfl) | refine And.intro ?_ ?_ | exact le_i (by omega) | exact le_own (by rfl) (by rfl) (by first | rfl | omega) | exact le_arr (by rfl) (by rfl) (by first | rfl | omega) (by rfl) | exact Or.inr (Or.inr (Or.inl ⟨_, _, rfl, rfl⟩)) | exact Or.inr (Or.inr ⟨_, _, rfl⟩) | exact Or.inr (Or.inr (Or.inr ⟨_, _, _, _, rfl, rfl⟩)))))
          all_goals first | exact le_i (by omega) | exact le_rdr (by rfl) (by omega) | exact le_arr (by rfl) (by rfl) (by first | rfl | (simp; done) | omega) (by first | rfl | (simp [bD]; done)) | exact le_own (by rfl) (by rfl) (by first | rfl | (simp; done) | omega)
        refine AW.norm (by first | dsimp only [updL, setE] | rfl) rfl rfl ?_
        refine AW.frz 1 (by rfl) (by omega) (by repeat' (first | exact AFrzAs.nil | apply AFrzAs.cons | exact AFrzA.same (by rfl) | apply AFrzA.v | exact AFrzL.nil | apply AFrzL.cons | exact AFrzC.same (by rfl) | exact AFrzC.own)) (by repeat' (first | exact AFrzRs.nil | apply AFrzRs.at rfl | apply AFrzRs.cons (by rfl) | exact AFrzR.arr | apply AFrzR.box | exact AFrzR.gone | exact AFrzL.nil | apply AFrzL.cons | exact AFrzC.same (by rfl) | exact AFrzC.own)) ?_
        refine AW.skip ?_
        refine AW.seq ?_
        refine AW.region ?_
        refine ao0 (em_move (by rfl) (by rfl)) (by rfl) (by rfl) ?_
        refine ao0 (em_assign (by rfl) (by rfl)) (by rfl) (by rfl) ?_
        refine ao_nil (by first | dsimp only [setO, setE] | rfl) (by first | dsimp only [setM, setE, setR] | rfl) (by rfl) ?_
        refine AW.ret ?_
        refine retA_own (n := 0) [0] (by rfl) ?_ ?_ rfl (by simp) (by rfl) (by rfl) (by rfl) (by rfl) (by simp) _ (.inr rfl)
        · rw [hjb]; exact ⟨le_rdr (by rfl) (by rfl), trivial⟩
        · rw [hfin]; exact .inr (.inl (by first | (rw [List.length_replicate, List.map_replicate]; rfl) | rfl))
    · skip
      have c0 : ¬ pickN l P 6 = 0 := by simpa using hc2
      refine AW.seq ?_
      refine AW.region ?_
      refine ao0 (em_binI (by rfl) (by rfl) (by rfl) (by rfl) (by first | rfl | trivial | exact ⟨rfl, by decide⟩ | exact ⟨rfl, by omega⟩ | decide | omega)) (by rfl) (by rfl) ?_
      refine ao0 (em_assign (by rfl) (by rfl)) (by rfl) (by rfl) ?_
      refine ao_nil (by first | dsimp only [setO, setE] | rfl) (by first | dsimp only [setM, setE, setR] | rfl) (by rfl) ?_
      refine AW.cond (by rfl) (fun hc4 => ?_) (fun hc4 => ?_)
      · skip
        have c1 : pickN l P 6 = 1 := by simp at hc4; omega
        have hjb : jB l P L = (L.take (pickN l (P + 1) (L.length : Int)), P + 1 + 1) := by unfold jB; rw [if_neg (by omega), if_neg c0, if_pos c1]
        refine AW.cutU [(3, .v false [.own true 1 L.length]), (1, .any), (2, .any), (4, .any), (5, .any), (6, .any), (7, .any), (8, .any), (9, .any), (10, .any), (11, .any), (12, .any), (13, .any), (14, .any), (15, .any), (16, .any), (17, .any), (18, .any), (19, .any), (20, .any), (21, .any), (22, .any), (23, .any), (24, .any), (25, .any), (26, .any), (27, .any), (28, .any), (29, .any), (30, .any), (31, .any), (32, .any), (33, .any), (34, .any), (35, .any), (36, .any), (37, .any), (38, .any), (39, .any), (40, .any), (41, .any), (42, .any), (43, .any), (44, .any), (45, .any), (46, .any), (47, .any), (48, .any), (49, .any), (50, .any)] [rdr nn l (P + 1), .arr 5 true true L.length ((L).map bD)] 2 ?_ ?_
        · dsimp only [updL, setE]
          refine into_lists [0, 3] ?_ ?_ rfl rfl (by decide) (by rfl) (by rfl) (by rfl) (by rfl) (by omega)
          all_goals (try (repeat' (first | exact True.intro | exact Or.inl rfl | exact Or.inr (Or.inl rfl) | refine And.intro ?_ ?_ | exact le_i (by omega) | exact le_own (by rfl) (by rfl) (by first | rfl | omega) | exact le_arr (by rfl) (by rfl) (by first | rfl | omega) (by rfl) | exact Or.inr (Or.inr (Or.inl ⟨_, _, rfl, rfl⟩)) | exact Or.inr (Or.inr ⟨_, _, rfl⟩) | exact Or.inr (Or.inr (Or.inr ⟨_, _, _, _, rfl, rfl⟩)))))
          all_goals first | exact le_i (by omega) | exact le_rdr (by rfl) (by omega) | exact le_arr (by rfl) (by rfl) (by first | rfl | (simp; done) | omega) (by first | rfl | (simp [bD]; done)) | exact le_own (by rfl) (by rfl) (by first | rfl | (simp; done) | omega)
        refine AW.norm (by first | dsimp only [updL, setE] | rfl) rfl rfl ?_
        refine AW.frz 1 (by rfl) (by omega) (by repeat' (first | exact AFrzAs.nil | apply AFrzAs.cons | exact AFrzA.same (by rfl) | apply AFrzA.v | exact AFrzL.nil | apply AFrzL.cons | exact AFrzC.same (by rfl) | exact AFrzC.own)) (by repeat' (first | exact AFrzRs.nil | apply AFrzRs.at rfl | apply AFrzRs.cons (by rfl) | exact AFrzR.arr | apply AFrzR.box | exact AFrzR.gone | exact AFrzL.nil | apply AFrzL.cons | exact AFrzC.same (by rfl) | exact AFrzC.own)) ?_
        refine AW.region ?_
        refine ao0 (em_move (by rfl) (by rfl)) (by rfl) (by rfl) ?_
        refine ao0 (em_move (by rfl) (by rfl)) (by rfl) (by rfl) ?_
        refine ao0 (em_move (by rfl) (by rfl)) (by rfl) (by rfl) ?_
        refine ao0 (sem_len tyOk (by rfl) (by rfl) (by rfl) (by rfl) (by first | exact .inl ⟨_, _, _, rfl⟩ | exact .inr ⟨_, _, rfl⟩)) (by rfl) (by rfl) ?_
        refine ao_callL [0] [] (pick_ok nn l (P + 1) (L.length : Int) hl (by omega) hnn hb) (by rfl) (by rfl) (by rfl) (by rfl) (by rfl) (by repeat' (first | exact True.intro | exact .inl ⟨by rfl, by rfl⟩ | exact rfl | exact .inr (.inl ⟨_, _, _, _, by rfl, by rfl⟩) | exact .inr (.inr ⟨_, _, _, _, _, _, by rfl, by rfl, by rfl, by first | exact .head _ | exact .tail _ (.head _) | exact .tail _ (.tail _ (.head _)) | exact .tail _ (.tail _ (.tail _ (.head _)))⟩) | refine And.intro ?_ ?_)) (by repeat' (first | exact True.intro | exact .inl ⟨by rfl, by rfl⟩ | exact rfl | exact .inl rfl | exact .inr (.inl ⟨_, _, _, _, by rfl, by rfl⟩) | exact .inr ⟨rfl, by simp [D.scalar, bD]⟩ | refine And.intro ?_ ?_)) (by rfl) (by rfl) (by rfl) (by decide) (by rfl) (by rfl) (by omega) (by first | rfl | (simp [keptB, notGone, (by rfl).live]; done)) (by rfl) (by rfl) (by rfl) (by rfl) (by rfl) (by rfl) (by rfl) ?_
        refine ao0 (sem_slice tyOk (by rfl) (by rfl) (by rfl) (by rfl) (by rfl) (by rfl) (by omega) (by omega) (by omega)) (by rfl) (by rfl) ?_
        refine ao0 (em_assign (by rfl) (by rfl)) (by rfl) (by rfl) ?_
        refine ao_nil (by first | dsimp only [setO, setE] | rfl) (by first | dsimp only [setM, setE, setR] | rfl) (by rfl) ?_
        have hp30 := pick_ok nn l (P + 1 + 1) 30 hl (by omega) hnn hb
        obtain ⟨hs1, hs2⟩ := sl_head bD L (pickN l (P + 1) (L.length : Int) : Int) (by omega) (by omega)
        rw [hs2, hs1, Int.toNat_natCast]
        refine AW.seq ?_
        refine AW.seq ?_
        refine AW.region ?_
        refine ao0 (em_move (by rfl) (by rfl)) (by rfl) (by rfl) ?_
        refine ao_callL [0] [] (hp30) (by rfl) (by rfl) (by rfl) (by rfl) (by rfl) (by repeat' (first | exact True.intro | exact .inl ⟨by rfl, by rfl⟩ | exact rfl | exact .inr (.inl ⟨_, _, _, _, by rfl, by rfl⟩) | exact .inr (.inr ⟨_, _, _, _, _, _, by rfl, by rfl, by rfl, by first | exact .head _ | exact .tail _ (.head _) | exact .tail _ (.tail _ (.head _)) | exact .tail _ (.tail _ (.tail _ (.head _)))⟩) | refine And.intro ?_ ?_)) (by repeat' (first | exact True.intro | exact .inl ⟨by rfl, by rfl⟩ | exact rfl | exact .inl rfl | exact .inr (.inl ⟨_, _, _, _, by rfl, by rfl⟩) | exact .inr ⟨rfl, by simp [D.scalar, bD]⟩ | refine And.intro ?_ ?_)) (by rfl) (by rfl) (by rfl) (by decide) (by rfl) (by rfl) (by omega) (by first | rfl | (simp [keptB, notGone, (by rfl).live]; done)) (by rfl) (by rfl) (by rfl) (by rfl) (by rfl) (by rfl) (by rfl) ?_
        refine ao0 (em_binI (by rfl) (by rfl) (by rfl) (by rfl) (by first | rfl | trivial | exact ⟨rfl, by decide⟩ | exact ⟨rfl, by omega⟩ | decide | omega)) (by rfl) (by rfl) ?_
        refine ao_nil (by first | dsimp only [setO, setE] | rfl) (by first | dsimp only [setM, setE, setR] | rfl) (by rfl) ?_
        refine AW.cond (by rfl) (fun hc5 => ?_) (fun hc5 => ?_)
        · skip
          refine AW.cutU [(1, .any), (2, .any), (3, .any), (4, .any), (5, .any), (6, .any), (7, .any), (8, .any), (9, .any), (10, .any), (11, .any), (12, .any), (13, .any), (14, .any), (15, .any), (16, .any), (17, .any), (18, .any), (19, .any), (20, .any), (21, .any), (22, .any), (23, .any), (24, .any), (25, .any), (26, .any), (27, .any), (28, .any), (29, .any), (30, .any), (31, .any), (32, .any), (33, .any), (34, .any), (35, .any), (36, .any), (37, .any), (38, .any), (39, .any), (40, .any), (41, .any), (42, .any), (43, .any), (44, .any), (45, .any), (46, .any), (47, .any), (48, .any), (49, .any), (50, .any)] [rdr nn l (P + 1 + 1 + 1)] 1 ?_ ?_
          · dsimp only [updL, setE]
            refine into_lists [0] ?_ ?_ rfl rfl (by decide) (by rfl) (by rfl) (by rfl) (by rfl) (by omega)
            all_goals (try (repeat' (first | exact True.intro | exact Or.inl rfl | exact Or.inr (Or.inl rfl) | refine And.intro ?_ ?_ | exact le_i (by omega) | exact le_own (by rfl) (by rfl) (by first | rfl | omega) | exact le_arr (by rfl) (by rfl) (by first | rfl | omega) (by rfl) | exact Or.inr (Or.inr (Or.inl ⟨_, _, rfl, rfl⟩)) | exact Or.inr (Or.inr ⟨_, _, rfl⟩) | exact Or.inr (Or.inr (Or.inr ⟨_, _, _, _, rfl, rfl⟩)))))
            all_goals first | exact le_i (by omega) | exact le_rdr (by rfl) (by omega) | exact le_arr (by rfl) (by rfl) (by first | rfl | (simp; done) | omega) (by first | rfl | (simp [bD]; done)) | exact le_own (by rfl) (by rfl) (by first | rfl | (simp; done) | omega)
          refine AW.norm (by first | dsimp only [updL, setE] | rfl) rfl rfl ?_
          have hfin : jF l P L = List.replicate 201 0 := by unfold jF; rw [hjb, if_pos (by simpa using hc5)]
          refine AW.region ?_
          refine ao1 (sem_makeSlice tyOk (by rfl) (by rfl) (by rfl) (by rfl) (by rfl) (by rfl) (by rfl) (by omega) (by omega) (by dsimp only; omega) (by omega) (by first | omega | (unfold maxLen; omega))) (by omega) (by rfl) (by rfl) ?_
          refine ao0 (em_assign (by rfl) (by rfl)) (by rfl) (by rfl) ?_
          refine ao_nil (by first | dsimp only [setO, setE] | rfl) (by first | dsimp only [setM, setE, setR] | rfl) (by rfl) ?_
          rw [flat_rep]
          refine AW.frz 1 (by rfl) (by omega) (by repeat' (first | exact AFrzAs.nil | apply AFrzAs.cons | exact AFrzA.same (by rfl) | apply AFrzA.v | exact AFrzL.nil | apply AFrzL.cons | exact AFrzC.same (by rfl) | exact AFrzC.own)) (by repeat' (first | exact AFrzRs.nil | apply AFrzRs.at rfl | apply AFrzRs.cons (by rfl) | exact AFrzR.arr | apply AFrzR.box | exact AFrzR.gone | exact AFrzL.nil | apply AFrzL.cons | exact AFrzC.same (by rfl) | exact AFrzC.own)) ?_
          refine AW.seq ?_
          refine AW.region ?_
          refine ao0 (em_move (by rfl) (by rfl)) (by rfl) (by rfl) ?_
          refine ao0 (em_assign (by rfl) (by rfl)) (by rfl) (by rfl) ?_
          refine ao_nil (by first | dsimp only [setO, setE] | rfl) (by first | dsimp only [setM, setE, setR] | rfl) (by rfl) ?_
          refine AW.ret ?_
          refine retA_own (n := 0) [0] (by rfl) ?_ ?_ rfl (by simp) (by rfl) (by rfl) (by rfl) (by rfl) (by simp) _ (.inr rfl)
          · rw [hjb]; exact ⟨le_rdr (by rfl) (by rfl), trivial⟩
          · rw [hfin]; exact .inr (.inl (by first | (rw [List.length_replicate, List.map_replicate]; rfl) | rfl))
        · skip
          have hfin : jF l P L = L.take (pickN l (P + 1) (L.length : Int)) := by unfold jF; rw [hjb, if_neg (by simpa using hc5)]
          refine AW.skip ?_
          refine AW.seq ?_
          refine AW.region ?_
          refine ao0 (em_move (by rfl) (by rfl)) (by rfl) (by rfl) ?_
          refine ao0 (em_assign (by rfl) (by rfl)) (by rfl) (by rfl) ?_
          refine ao_nil (by first | dsimp only [setO, setE] | rfl) (by first | dsimp only [setM, setE, setR] | rfl) (by rfl) ?_
          refine AW.ret ?_
          refine retA_own (n := 0) [0] (by rfl) ?_ ?_ rfl (by simp) (by rfl) (by rfl) (by rfl) (by rfl) (by simp) _ (.inr rfl)
          · rw [hjb]; exact ⟨le_rdr (by rfl) (by rfl), trivial⟩
          · rw [hfin]; exact .inr (.inl (by first | (rw [List.length_replicate, List.map_replicate]; rfl) | rfl))
      · skip
        have c1 : ¬ pickN l P 6 = 1 := by simp at hc4; omega
        refine AW.seq ?_
        refine AW.region ?_
        refine ao0 (em_binI (by rfl) (by rfl) (by rfl) (by rfl) (by first | rfl | trivial | exact ⟨rfl, by decide⟩ | exact ⟨rfl, by omega⟩ | decide | omega)) (by rfl) (by rfl) ?_
        refine ao0 (em_assign (by rfl) (by rfl)) (by rfl) (by rfl) ?_
        refine ao_nil (by first | dsimp only [setO, setE] | rfl) (by first | dsimp only [setM, setE, setR] | rfl) (by rfl) ?_
        refine AW.cond (by rfl) (fun hc6 => ?_) (fun hc6 => ?_)
        · skip
          have hp30 := pick_ok nn l (P + 1 + 1) 30 hl (by omega) hnn hb
          have c2 : pickN l P 6 = 2 := by simp at hc6; omega
          have hjb : jB l P L = (L ++ [pickN l (P + 1) 8], P + 1 + 1) := by unfold jB; rw [if_neg (by omega), if_neg c0, if_neg c1, if_pos c2]
          refine AW.region ?_
          refine ao0 (em_move (by rfl) (by rfl)) (by rfl) (by rfl) ?_
          refine ao0 (em_move (by rfl) (by rfl)) (by rfl) (by rfl) ?_
          refine ao_callL [0] [] (pick_ok nn l (P + 1) 8 hl (by omega) hnn hb) (by rfl) (by rfl) (by rfl) (by rfl) (by rfl) (by repeat' (first | exact True.intro | exact .inl ⟨by rfl, by rfl⟩ | exact rfl | exact .inr (.inl ⟨_, _, _, _, by rfl, by rfl⟩) | exact .inr (.inr ⟨_, _, _, _, _, _, by rfl, by rfl, by rfl, by first | exact .head _ | exact .tail _ (.head _) | exact .tail _ (.tail _ (.head _)) | exact .tail _ (.tail _ (.tail _ (.head _)))⟩) | refine And.intro ?_ ?_)) (by repeat' (first | exact True.intro | exact .inl ⟨by rfl, by rfl⟩ | exact rfl | exact .inl rfl | exact .inr (.inl ⟨_, _, _, _, by rfl, by rfl⟩) | exact .inr ⟨rfl, by simp [D.scalar, bD]⟩ | refine And.intro ?_ ?_)) (by rfl) (by rfl) (by rfl) (by decide) (by rfl) (by rfl) (by omega) (by first | rfl | (simp [keptB, notGone, (by rfl).live]; done)) (by rfl) (by rfl) (by rfl) (by rfl) (by rfl) (by rfl) (by rfl) ?_
          refine ao0 (em_conv8 tyOk (by rfl) (by rfl) (by rfl) (by rfl) (by rfl) (by omega) (by omega)) (by rfl) (by rfl) ?_
          refine ao1 (sem_buildSlice tyOk (by rfl) (by rfl) (by rfl) (by rfl) (by rfl) (by rfl) (by rfl) (by decide) (by decide) (by rfl)) (by omega) (by rfl) (by rfl) ?_
          refine ao_append_own tyOk (by rfl) (by rfl) (by rfl) (by rfl) (by rfl) (by rfl) (by rfl) (by rfl) (by rfl) (by rfl) (by first | rfl | exact sliceOf_own (by rfl)) (by first | rfl | decide | (simp; done) | omega) (by first | decide | omega | (unfold maxLen; omega)) (by first | decide | omega | (dsimp only; omega)) (by omega) (by omega) ?_
          refine ao0 (em_assign (by rfl) (by rfl)) (by rfl) (by rfl) ?_
          refine ao_nil (by first | dsimp only [setO, setE] | rfl) (by first | dsimp only [setM, setE, setR] | rfl) (by rfl) ?_
          refine AW.seq ?_
          refine AW.seq ?_
          refine AW.region ?_
          refine ao0 (em_move (by rfl) (by rfl)) (by rfl) (by rfl) ?_
          refine ao_callL [0] [] (hp30) (by rfl) (by rfl) (by rfl) (by rfl) (by rfl) (by repeat' (first | exact True.intro | exact .inl ⟨by rfl, by rfl⟩ | exact rfl | exact .inr (.inl ⟨_, _, _, _, by rfl, by rfl⟩) | exact .inr (.inr ⟨_, _, _, _, _, _, by rfl, by rfl, by rfl, by first | exact .head _ | exact .tail _ (.head _) | exact .tail _ (.tail _ (.head _)) | exact .tail _ (.tail _ (.tail _ (.head _)))⟩) | refine And.intro ?_ ?_)) (by repeat' (first | exact True.intro | exact .inl ⟨by rfl, by rfl⟩ | exact rfl | exact .inl rfl | exact .inr (.inl ⟨_, _, _, _, by rfl, by rfl⟩) | exact .inr ⟨rfl, by simp [D.scalar, bD]⟩ | refine And.intro ?_ ?_)) (by rfl) (by rfl) (by rfl) (by decide) (by rfl) (by rfl) (by omega) (by first | rfl | (simp [keptB, notGone, (by rfl).live]; done)) (by rfl) (by rfl) (by rfl) (by rfl) (by rfl) (by rfl) (by rfl) ?_
          refine ao0 (em_binI (by rfl) (by rfl) (by rfl) (by rfl) (by first | rfl | trivial | exact ⟨rfl, by decide⟩ | exact ⟨rfl, by omega⟩ | decide | omega)) (by rfl) (by rfl) ?_
          refine ao_nil (by first | dsimp only [setO, setE] | rfl) (by first | dsimp only [setM, setE, setR] | rfl) (by rfl) ?_
          refine AW.cond (by rfl) (fun hc7 => ?_) (fun hc7 => ?_)
          · skip
            refine AW.cutU [(1, .any), (2, .any), (3, .any), (4, .any), (5, .any), (6, .any), (7, .any), (8, .any), (9, .any), (10, .any), (11, .any), (12, .any), (13, .any), (14, .any), (15, .any), (16, .any), (17, .any), (18, .any), (19, .any), (20, .any), (21, .any), (22, .any), (23, .any), (24, .any), (25, .any), (26, .any), (27, .any), (28, .any), (29, .any), (30, .any), (31, .any), (32, .any), (33, .any), (34, .any), (35, .any), (36, .any), (37, .any), (38, .any), (39, .any), (40, .any), (41, .any), (42, .any), (43, .any), (44, .any), (45, .any), (46, .any), (47, .any), (48, .any), (49, .any), (50, .any)] [rdr nn l (P + 1 + 1 + 1)] 1 ?_ ?_
            · dsimp only [updL, setE]
              refine into_lists [0] ?_ ?_ rfl rfl (by decide) (by rfl) (by rfl) (by rfl) (by rfl) (by omega)
              all_goals (try (repeat' (first | exact True.intro | exact Or.inl rfl | exact Or.inr (Or.inl rfl) | refine And.intro ?_ ?_ | exact le_i (by omega) | exact le_own (by rfl) (by rfl) (by first | rfl | omega) | exact le_arr (by rfl) (by rfl) (by first | rfl | omega) (by rfl) | exact Or.inr (Or.inr (Or.inl ⟨_, _, rfl, rfl⟩)) | exact Or.inr (Or.inr ⟨_, _, rfl⟩) | exact Or.inr (Or.inr (Or.inr ⟨_, _, _, _, rfl, rfl⟩)))))
              all_goals first | exact le_i (by omega) | exact le_rdr (by rfl) (by omega) | exact le_arr (by rfl) (by rfl) (by first | rfl | (simp; done) | omega) (by first | rfl | (simp [bD]; done)) | exact le_own (by rfl) (by rfl) (by first | rfl | (simp; done) | omega)
            refine AW.norm (by first | dsimp only [updL, setE] | rfl) rfl rfl ?_
            have hfin : jF l P L = List.replicate 201 0 := by unfold jF; rw [hjb, if_pos (by simpa using hc7)]
            refine AW.region ?_
            refine ao1 (sem_makeSlice tyOk (by rfl) (by rfl) (by rfl) (by rfl) (by rfl) (by rfl) (by rfl) (by omega) (by omega) (by dsimp only; omega) (by omega) (by first | omega | (unfold maxLen; omega))) (by omega) (by rfl) (by rfl) ?_
            refine ao0 (em_assign (by rfl) (by rfl)) (by rfl) (by rfl) ?_
            refine ao_nil (by first | dsimp only [setO, setE] | rfl) (by first | dsimp only [setM, setE, setR] | rfl) (by rfl) ?_
            rw [flat_rep]
            refine AW.frz 1 (by rfl) (by omega) (by repeat' (first | exact AFrzAs.nil | apply AFrzAs.cons | exact AFrzA.same (by rfl) | apply AFrzA.v | exact AFrzL.nil | apply AFrzL.cons | exact AFrzC.same (by rfl) | exact AFrzC.own)) (by repeat' (first | exact AFrzRs.nil | apply AFrzRs.at rfl | apply AFrzRs.cons (by rfl) | exact AFrzR.arr | apply AFrzR.box | exact AFrzR.gone | exact AFrzL.nil | apply AFrzL.cons | exact AFrzC.same (by rfl) | exact AFrzC.own)) ?_
            refine AW.seq ?_
            refine AW.region ?_
            refine ao0 (em_move (by rfl) (by rfl)) (by rfl) (by rfl) ?_
            refine ao0 (em_assign (by rfl) (by rfl)) (by rfl) (by rfl) ?_
            refine ao_nil (by first | dsimp only [setO, setE] | rfl) (by first | dsimp only [setM, setE, setR] | rfl) (by rfl) ?_
            refine AW.ret ?_
            refine retA_own (n := 0) [0] (by rfl) ?_ ?_ rfl (by simp) (by rfl) (by rfl) (by rfl) (by rfl) (by simp) _ (.inr rfl)
            · rw [hjb]; exact ⟨le_rdr (by rfl) (by rfl), trivial⟩
            · rw [hfin]; exact .inr (.inl (by first | (rw [List.length_replicate, List.map_replicate]; rfl) | rfl))
          · skip
            have hfin : jF l P L = L ++ [pickN l (P + 1) 8] := by unfold jF; rw [hjb, if_neg (by simpa using hc7)]
            refine AW.cutU [(3, .v false [.own true 1 (L ++ [pickN l (P + 1) 8]).length]), (1, .any), (2, .any), (4, .any), (5, .any), (6, .any), (7, .any), (8, .any), (9, .any), (10, .any), (11, .any), (12, .any), (13, .any), (14, .any), (15, .any), (16, .any), (17, .any), (18, .any), (19, .any), (20, .any), (21, .any), (22, .any), (23, .any), (24, .any), (25, .any), (26, .any), (27, .any), (28, .any), (29, .any), (30, .any), (31, .any), (32, .any), (33, .any), (34, .any), (35, .any), (36, .any), (37, .any), (38, .any), (39, .any), (40, .any), (41, .any), (42, .any), (43, .any), (44, .any), (45, .any), (46, .any), (47, .any), (48, .any), (49, .any), (50, .any)] [rdr nn l (P + 1 + 1 + 1), .arr 5 true true (L ++ [pickN l (P + 1) 8]).length ((L ++ [pickN l (P + 1) 8]).map bD)] 2 ?_ ?_
            · dsimp only [updL, setE]
              refine into_lists [0, 5] ?_ ?_ rfl rfl (by decide) (by rfl) (by rfl) (by rfl) (by rfl) (by omega)
              all_goals (try (repeat' (first | exact True.intro | exact Or.inl rfl | exact Or.inr (Or.inl rfl) | refine And.intro ?_ ?_ | exact le_i (by omega) | exact le_own (by rfl) (by rfl) (by first | rfl | omega) | exact le_arr (by rfl) (by rfl) (by first | rfl | omega) (by rfl) | exact Or.inr (Or.inr (Or.inl ⟨_, _, rfl, rfl⟩)) | exact Or.inr (Or.inr ⟨_, _, rfl⟩) | exact Or.inr (Or.inr (Or.inr ⟨_, _, _, _, rfl, rfl⟩)))))
              all_goals first | exact le_i (by omega) | exact le_rdr (by rfl) (by omega) | exact le_arr (by rfl) (by rfl) (by first | rfl | (simp; done) | omega) (by first | rfl | (simp [bD]; done)) | exact le_own (by rfl) (by rfl) (by first | rfl | (simp; done) | omega)
            refine AW.norm (by first | dsimp only [updL, setE] | rfl) rfl rfl ?_
            refine AW.frz 1 (by rfl) (by omega) (by repeat' (first | exact AFrzAs.nil | apply AFrzAs.cons | exact AFrzA.same (by rfl) | apply AFrzA.v | exact AFrzL.nil | apply AFrzL.cons | exact AFrzC.same (by rfl) | exact AFrzC.own)) (by repeat' (first | exact AFrzRs.nil | apply AFrzRs.at rfl | apply AFrzRs.cons (by rfl) | exact AFrzR.arr | apply AFrzR.box | exact AFrzR.gone | exact AFrzL.nil | apply AFrzL.cons | exact AFrzC.same (by rfl) | exact AFrzC.own)) ?_
            refine AW.skip ?_
            refine AW.seq ?_
            refine AW.region ?_
            refine ao0 (em_move (by rfl) (by rfl)) (by rfl) (by rfl) ?_
            refine ao0 (em_assign (by rfl) (by rfl)) (by rfl) (by rfl) ?_
            refine ao_nil (by first | dsimp only [setO, setE] | rfl) (by first | dsimp only [setM, setE, setR] | rfl) (by rfl) ?_
            refine AW.ret ?_
            refine retA_own (n := 0) [0] (by rfl) ?_ ?_ rfl (by simp) (by rfl) (by rfl) (by rfl) (by rfl) (by simp) _ (.inr rfl)
            · rw [hjb]; exact ⟨le_rdr (by rfl) (by rfl), trivial⟩
            · rw [hfin]; exact .inr (.inl (by first | (rw [List.length_replicate, List.map_replicate]; rfl) | rfl))
        · skip
          have hp30 := pick_ok nn l (P + 1) 30 hl (by omega) hnn hb
          have c2 : ¬ pickN l P 6 = 2 := by simp at hc6; omega
          have hjb : jB l P L = (L, P + 1) := by unfold jB; rw [if_neg (by omega), if_neg c0, if_neg c1, if_neg c2]
          refine AW.skip ?_
          refine AW.seq ?_
          refine AW.seq ?_
          refine AW.region ?_
          refine ao0 (em_move (by rfl) (by rfl)) (by rfl) (by rfl) ?_
          refine ao_callL [0] [] (hp30) (by rfl) (by rfl) (by rfl) (by rfl) (by rfl) (by repeat' (first | exact True.intro | exact .inl ⟨by rfl, by rfl⟩ | exact rfl | exact .inr (.inl ⟨_, _, _, _, by rfl, by rfl⟩) | exact .inr (.inr ⟨_, _, _, _, _, _, by rfl, by rfl, by rfl, by first | exact .head _ | exact .tail _ (.head _) | exact .tail _ (.tail _ (.head _)) | exact .tail _ (.tail _ (.tail _ (.head _)))⟩) | refine And.intro ?_ ?_)) (by repeat' (first | exact True.intro | exact .inl ⟨by rfl, by rfl⟩ | exact rfl | exact .inl rfl | exact .inr (.inl ⟨_, _, _, _, by rfl, by rfl⟩) | exact .inr ⟨rfl, by simp [D.scalar, bD]⟩ | refine And.intro ?_ ?_)) (by rfl) (by rfl) (by rfl) (by decide) (by rfl) (by rfl) (by omega) (by first | rfl | (simp [keptB, notGone, (by rfl).live]; done)) (by rfl) (by rfl) (by rfl) (by rfl) (by rfl) (by rfl) (by rfl) ?_
          refine ao0 (em_binI (by rfl) (by rfl) (by rfl) (by rfl) (by first | rfl | trivial | exact ⟨rfl, by decide⟩ | exact ⟨rfl, by omega⟩ | decide | omega)) (by rfl) (by rfl) ?_
          refine ao_nil (by first | dsimp only [setO, setE] | rfl) (by first | dsimp only [setM, setE, setR] | rfl) (by rfl) ?_
          refine AW.cond (by rfl) (fun hc8 => ?_) (fun hc8 => ?_)
          · skip
            refine AW.cutU [(1, .any), (2, .any), (3, .any), (4, .any), (5, .any), (6, .any), (7, .any), (8, .any), (9, .any), (10, .any), (11, .any), (12, .any), (13, .any), (14, .any), (15, .any), (16, .any), (17, .any), (18, .any), (19, .any), (20, .any), (21, .any), (22, .any), (23, .any), (24, .any), (25, .any), (26, .any), (27, .any), (28, .any), (29, .any), (30, .any), (31, .any), (32, .any), (33, .any), (34, .any), (35, .any), (36, .any), (37, .any), (38, .any), (39, .any), (40, .any), (41, .any), (42, .any), (43, .any), (44, .any), (45, .any), (46, .any), (47, .any), (48, .any), (49, .any), (50, .any)] [rdr nn l (P + 1 + 1)] 1 ?_ ?_
            · dsimp only [updL, setE]
              refine into_lists [0] ?_ ?_ rfl rfl (by decide) (by rfl) (by rfl) (by rfl) (by rfl) (by omega)
              all_goals (try (repeat' (first | exact True.intro | exact Or.inl rfl | exact Or.inr (Or.inl rfl) | refine And.intro ?_ ?_ | exact le_i (by omega) | exact le_own (by rfl) (by rfl) (by first | rfl | omega) | exact le_arr (by rfl) (by rfl) (by first | rfl | omega) (by rfl) | exact Or.inr (Or.inr (Or.inl ⟨_, _, rfl, rfl⟩)) | exact Or.inr (Or.inr ⟨_, _, rfl⟩) | exact Or.inr (Or.inr (Or.inr ⟨_, _, _, _, rfl, rfl⟩)))))
              all_goals first | exact le_i (by omega) | exact le_rdr (by rfl) (by omega) | exact le_arr (by rfl) (by rfl) (by first | rfl | (simp; done) | omega) (by first | rfl | (simp [bD]; done)) | exact le_own (by rfl) (by rfl) (by first | rfl | (simp; done) | omega)
            refine AW.norm (by first | dsimp only [updL, setE] | rfl) rfl rfl ?_
            have hfin : jF l P L = List.replicate 201 0 := by unfold jF; rw [hjb, if_pos (by simpa using hc8)]
            refine AW.region ?_
            refine ao1 (sem_makeSlice tyOk (by rfl) (by rfl) (by rfl) (by rfl) (by rfl) (by rfl) (by rfl) (by omega) (by omega) (by dsimp only; omega) (by omega) (by first | omega | (unfold maxLen; omega))) (by omega) (by rfl) (by rfl) ?_
            refine ao0 (em_assign (by rfl) (by rfl)) (by rfl) (by rfl) ?_
            refine ao_nil (by first | dsimp only [setO, setE] | rfl) (by first | dsimp only [setM, setE, setR] | rfl) (by rfl) ?_
            rw [flat_rep]
            refine AW.frz 1 (by rfl) (by omega) (by repeat' (first | exact AFrzAs.nil | apply AFrzAs.cons | exact AFrzA.same (by rfl) | apply AFrzA.v | exact AFrzL.nil | apply AFrzL.cons | exact AFrzC.same (by rfl) | exact AFrzC.own)) (by repeat' (first | exact AFrzRs.nil | apply AFrzRs.at rfl | apply AFrzRs.cons (by rfl) | exact AFrzR.arr | apply AFrzR.box | exact AFrzR.gone | exact AFrzL.nil | apply AFrzL.cons | exact AFrzC.same (by rfl) | exact AFrzC.own)) ?_
            refine AW.seq ?_
            refine AW.region ?_
            refine ao0 (em_move (by rfl) (by rfl)) (by rfl) (by rfl) ?_
            refine ao0 (em_assign (by rfl) (by rfl)) (by rfl) (by rfl) ?_
            refine ao_nil (by first | dsimp only [setO, setE] | rfl) (by first | dsimp only [setM, setE, setR] | rfl) (by rfl) ?_
            refine AW.ret ?_
            refine retA_own (n := 0) [0] (by rfl) ?_ ?_ rfl (by simp) (by rfl) (by rfl) (by rfl) (by rfl) (by simp) _ (.inr rfl)
            · rw [hjb]; exact ⟨le_rdr (by rfl) (by rfl), trivial⟩
            · rw [hfin]; exact .inr (.inl (by first | (rw [List.length_replicate, List.map_replicate]; rfl) | rfl))
          · skip
            have hfin : jF l P L = L := by unfold jF; rw [hjb, if_neg (by simpa using hc8)]
            refine AW.cutU [(3, .v false [.own true 1 L.length]), (1, .any), (2, .any), (4, .any), (5, .any), (6, .any), (7, .any), (8, .any), (9, .any), (10, .any), (11, .any), (12, .any), (13, .any), (14, .any), (15, .any), (16, .any), (17, .any), (18, .any), (19, .any), (20, .any), (21, .any), (22, .any), (23, .any), (24, .any), (25, .any), (26, .any), (27, .any), (28, .any), (29, .any), (30, .any), (31, .any), (32, .any), (33, .any), (34, .any), (35, .any), (36, .any), (37, .any), (38, .any), (39, .any), (40, .any), (41, .any), (42, .any), (43, .any), (44, .any), (45, .any), (46, .any), (47, .any), (48, .any), (49, .any), (50, .any)] [rdr nn l (P + 1 + 1), .arr 5 true true L.length ((L).map bD)] 2 ?_ ?_
            · dsimp only [updL, setE]
              refine into_lists [0, 3] ?_ ?_ rfl rfl (by decide) (by rfl) (by rfl) (by rfl) (by rfl) (by omega)
              all_goals (try (repeat' (first | exact True.intro | exact Or.inl rfl | exact Or.inr (Or.inl rfl) | refine And.intro ?_ ?_ | exact le_i (by omega) | exact le_own (by rfl) (by rfl) (by first | rfl | omega) | exact le_arr (by rfl) (by rfl) (by first | rfl | omega) (by rfl) | exact Or.inr (Or.inr (Or.inl ⟨_, _, rfl, rfl⟩)) | exact Or.inr (Or.inr ⟨_, _, rfl⟩) | exact Or.inr (Or.inr (Or.inr ⟨_, _, _, _, rfl, rfl⟩)))))
              all_goals first | exact le_i (by omega) | exact le_rdr (by rfl) (by omega) | exact le_arr (by rfl) (by rfl) (by first | rfl | (simp; done) | omega) (by first | rfl | (simp [bD]; done)) | exact le_own (by rfl) (by rfl) (by first | rfl | (simp; done) | omega)
            refine AW.norm (by first | dsimp only [updL, setE] | rfl) rfl rfl ?_
            refine AW.frz 1 (by rfl) (by omega) (by repeat' (first | exact AFrzAs.nil | apply AFrzAs.cons | exact AFrzA.same (by rfl) | apply AFrzA.v | exact AFrzL.nil | apply AFrzL.cons | exact AFrzC.same (by rfl) | exact AFrzC.own)) (by repeat' (first | exact AFrzRs.nil | apply AFrzRs.at rfl | apply AFrzRs.cons (by rfl) | exact AFrzR.arr | apply AFrzR.box | exact AFrzR.gone | exact AFrzL.nil | apply AFrzL.cons | exact AFrzC.same (by rfl) | exact AFrzC.own)) ?_
            refine AW.skip ?_
            refine AW.seq ?_
            refine AW.region ?_
            refine ao0 (em_move (by rfl) (by rfl)) (by rfl) (by rfl) ?_
            refine ao0 (em_assign (by rfl) (by rfl)) (by rfl) (by rfl) ?_
            refine ao_nil (by first | dsimp only [setO, setE] | rfl) (by first | dsimp only [setM, setE, setR] | rfl) (by rfl) ?_
            refine AW.ret ?_
            refine retA_own (n := 0) [0] (by rfl) ?_ ?_ rfl (by simp) (by rfl) (by rfl) (by rfl) (by rfl) (by simp) _ (.inr rfl)
            · rw [hjb]; exact ⟨le_rdr (by rfl) (by rfl), trivial⟩
            · rw [hfin]; exact .inr (.inl (by first | (rw [List.length_replicate, List.map_replicate]; rfl) | rfl))
  · skip
    have hp30 := pick_ok nn l (P) 30 hl (by omega) hnn hb
    have hz : L.length = 0 := by simp at hc1; first | omega | simp [hc1]
    have hjb : jB l P L = (L, P) := by unfold jB; rw [if_pos hz]
    refine AW.skip ?_
    refine AW.seq ?_
    refine AW.seq ?_
    refine AW.region ?_
    refine ao0 (em_move (by rfl) (by rfl)) (by rfl) (by rfl) ?_
    refine ao_callL [0] [] (hp30) (by rfl) (by rfl) (by rfl) (by rfl) (by rfl) (by repeat' (first | exact True.intro | exact .inl ⟨by rfl, by rfl⟩ | exact rfl | exact .inr (.inl ⟨_, _, _, _, by rfl, by rfl⟩) | exact .inr (.inr ⟨_, _, _, _, _, _, by rfl, by rfl, by rfl, by first | exact .head _ | exact .tail _ (.head _) | exact .tail _ (.tail _ (.head _)) | exact .tail _ (.tail _ (.tail _ (.head _)))⟩) | refine And.intro ?_ ?_)) (by repeat' (first | exact True.intro | exact .inl ⟨by rfl, by rfl⟩ | exact rfl | exact .inl rfl | exact .inr (.inl ⟨_, _, _, _, by rfl, by rfl⟩) | exact .inr ⟨rfl, by simp [D.scalar, bD]⟩ | refine And.intro ?_ ?_)) (by rfl) (by rfl) (by rfl) (by decide) (by rfl) (by rfl) (by omega) (by first | rfl | (simp [keptB, notGone, (by rfl).live]; done)) (by rfl) (by rfl) (by rfl) (by rfl) (by rfl) (by rfl) (by rfl) ?_
    refine ao0 (em_binI (by rfl) (by rfl) (by rfl) (by rfl) (by first | rfl | trivial | exact ⟨rfl, by decide⟩ | exact ⟨rfl, by omega⟩ | decide | omega)) (by rfl) (by rfl) ?_
    refine ao_nil (by first | dsimp only [setO, setE] | rfl) (by first | dsimp only [setM, setE, setR] | rfl) (by rfl) ?_
    refine AW.cond (by rfl) (fun hc9 => ?_) (fun hc9 => ?_)
    · skip
      refine AW.cutU [(1, .any), (2, .any), (3, .any), (4, .any), (5, .any), (6, .any), (7, .any), (8, .any), (9, .any), (10, .any), (11, .any), (12, .any), (13, .any), (14, .any), (15, .any), (16, .any), (17, .any), (18, .any), (19, .any), (20, .any), (21, .any), (22, .any), (23, .any), (24, .any), (25, .any), (26, .any), (27, .any), (28, .any), (29, .any), (30, .any), (31, .any), (32, .any), (33, .any), (34, .any), (35, .any), (36, .any), (37, .any), (38, .any), (39, .any), (40, .any), (41, .any), (42, .any), (43, .any), (44, .any), (45, .any), (46, .any), (47, .any), (48, .any), (49, .any), (50, .any)] [rdr nn l (P + 1)] 1 ?_ ?_
      · dsimp only [updL, setE]
        refine into_lists [0] ?_ ?_ rfl rfl (by decide) (by rfl) (by rfl) (by rfl) (by rfl) (by omega)
        all_goals (try (repeat' (first | exact True.intro | exact Or.inl rfl | exact Or.inr (Or.inl rfl) | refine And.intro ?_ ?_ | exact le_i (by omega) | exact le_own (by rfl) (by rfl) (by first | rfl | omega) | exact le_arr (by rfl) (by rfl) (by first | rfl | omega) (by rfl) | exact Or.inr (Or.inr (Or.inl ⟨_, _, rfl, rfl⟩)) | exact Or.inr (Or.inr ⟨_, _, rfl⟩) | exact Or.inr (Or.inr (Or.inr ⟨_, _, _, _, rfl, rfl⟩)))))
        all_goals first | exact le_i (by omega) | exact le_rdr (by rfl) (by omega) | exact le_arr (by rfl) (by rfl) (by first | rfl | (simp; done) | omega) (by first | rfl | (simp [bD]; done)) | exact le_own (by rfl) (by rfl) (by first | rfl | (simp; done) | omega)
      refine AW.norm (by first | dsimp only [updL, setE] | rfl) rfl rfl ?_
      have hfin : jF l P L = List.replicate 201 0 := by unfold jF; rw [hjb, if_pos (by simpa using hc9)]
      refine AW.region ?_
      refine ao1 (sem_makeSlice tyOk (by rfl) (by rfl) (by rfl) (by rfl) (by rfl) (by rfl) (by rfl) (by omega) (by omega) (by dsimp only; omega) (by omega) (by first | omega | (unfold maxLen; omega))) (by omega) (by rfl) (by rfl) ?_
      refine ao0 (em_assign (by rfl) (by rfl)) (by rfl) (by rfl) ?_
      refine ao_nil (by first | dsimp only [setO, setE] | rfl) (by first | dsimp only [setM, setE, setR] | rfl) (by rfl) ?_
      rw [flat_rep]
      refine AW.frz 1 (by rfl) (by omega) (by repeat' (first | exact AFrzAs.nil | apply AFrzAs.cons | exact AFrzA.same (by rfl) | apply AFrzA.v | exact AFrzL.nil | apply AFrzL.cons | exact AFrzC.same (by rfl) | exact AFrzC.own)) (by repeat' (first | exact AFrzRs.nil | apply AFrzRs.at rfl | apply AFrzRs.cons (by rfl) | exact AFrzR.arr | apply AFrzR.box | exact AFrzR.gone | exact AFrzL.nil | apply AFrzL.cons | exact AFrzC.same (by rfl) | exact AFrzC.own)) ?_
      refine AW.seq ?_
      refine AW.region ?_
      refine ao0 (em_move (by rfl) (by rfl)) (by rfl) (by rfl) ?_
      refine ao0 (em_assign (by rfl) (by rfl)) (by rfl) (by rfl) ?_
      refine ao_nil (by first | dsimp only [setO, setE] | rfl) (by first | dsimp only [setM, setE, setR] | rfl) (by rfl) ?_
      refine AW.ret ?_
      refine retA_own (n := 0) [0] (by rfl) ?_ ?_ rfl (by simp) (by rfl) (by rfl) (by rfl) (by rfl) (by simp) _ (.inr rfl)
      · rw [hjb]; exact ⟨le_rdr (by rfl) (by rfl), trivial⟩
      · rw [hfin]; exact .inr (.inl (by first | (rw [List.length_replicate, List.map_replicate]; rfl) | rfl))
    · skip
      have hfin : jF l P L = L := by unfold jF; rw [hjb, if_neg (by simpa using hc9)]
      refine AW.cutU [(3, .v false [.own true 1 L.length]), (1, .any), (2, .any), (4, .any), (5, .any), (6, .any), (7, .any), (8, .any), (9, .any), (10, .any), (11, .any), (12, .any), (13, .any), (14, .any), (15, .any), (16, .any), (17, .any), (18, .any), (19, .any), (20, .any), (21, .any), (22, .any), (23, .any), (24, .any), (25, .any), (26, .any), (27, .any), (28, .any), (29, .any), (30, .any), (31, .any), (32, .any), (33, .any), (34, .any), (35, .any), (36, .any), (37, .any), (38, .any), (39, .any), (40, .any), (41, .any), (42, .any), (43, .any), (44, .any), (45, .any), (46, .any), (47, .any), (48, .any), (49, .any), (50, .any)] [rdr nn l (P + 1), .arr 5 true true L.length ((L).map bD)] 2 ?_ ?_
      · dsimp only [updL, setE]
        refine into_lists [0, 3] ?_ ?_ rfl rfl (by decide) (by rfl) (by rfl) (by rfl) (by rfl) (by omega)
        all_goals (try (repeat' (first | exact True.intro | exact Or.inl rfl | exact Or.inr (Or.inl rfl) | refine And.intro ?_ ?_ | exact le_i (by omega) | exact le_own (by rfl) (by rfl) (by first | rfl | omega) | exact le_arr (by rfl) (by rfl) (by first | rfl | omega) (by rfl) | exact Or.inr (Or.inr (Or.inl ⟨_, _, rfl, rfl⟩)) | exact Or.inr (Or.inr ⟨_, _, rfl⟩) | exact Or.inr (Or.inr (Or.inr ⟨_, _, _, _, rfl, rfl⟩)))))
        all_goals first | exact le_i (by omega) | exact le_rdr (by rfl) (by omega) | exact le_arr (by rfl) (by rfl) (by first | rfl | (simp; done) | omega) (by first | rfl | (simp [bD]; done)) | exact le_own (by rfl) (by rfl) (by first | rfl | (simp; done) | omega)
      refine AW.norm (by first | dsimp only [updL, setE] | rfl) rfl rfl ?_
      refine AW.frz 1 (by rfl) (by omega) (by repeat' (first | exact AFrzAs.nil | apply AFrzAs.cons | exact AFrzA.same (by rfl) | apply AFrzA.v | exact AFrzL.nil | apply AFrzL.cons | exact AFrzC.same (by rfl) | exact AFrzC.own)) (by repeat' (first | exact AFrzRs.nil | apply AFrzRs.at rfl | apply AFrzRs.cons (by rfl) | exact AFrzR.arr | apply AFrzR.box | exact AFrzR.gone | exact AFrzL.nil | apply AFrzL.cons | exact AFrzC.same (by rfl) | exact AFrzC.own)) ?_
      refine AW.skip ?_
      refine AW.seq ?_
      refine AW.region ?_
      refine ao0 (em_move (by rfl) (by rfl)) (by rfl) (by rfl) ?_
      refine ao0 (em_assign (by rfl) (by rfl)) (by rfl) (by rfl) ?_
      refine ao_nil (by first | dsimp only [setO, setE] | rfl) (by first | dsimp only [setM, setE, setR] | rfl) (by rfl) ?_
      refine AW.ret ?_
      refine retA_own (n := 0) [0] (by rfl) ?_ ?_ rfl (by simp) (by rfl) (by rfl) (by rfl) (by rfl) (by simp) _ (.inr rfl)
      · rw [hjb]; exact ⟨le_rdr (by rfl) (by rfl), trivial⟩
      · rw [hfin]; exact .inr (.inl (by first | (rw [List.length_replicate, List.map_replicate]; rfl) | rfl))
theorem DrawReadJournal_ok (nn : Bool) (l : List Nat) (hnn : nn = false → l = []) (hb : ∀ b ∈ l, b ≤ 255) : ∃ bs : List Nat, bs.length ≤ 201 ∧ (∀ b ∈ bs, b ≤ 255) ∧ FnOk Try.prog noG 40 [.v false [.sl false nn l.length (l.map bD)]] [] (.v false [.sl true true bs.length (bs.map bD)]) [] := by
  have hl' : (l.take 2000).length ≤ 2000 := by simp; omega
  have hnn' : nn = false → l.take 2000 = [] := fun h => by rw [hnn h]; rfl
  have hb' : ∀ b ∈ l.take 2000, b ≤ 255 := fun b h => hb b (List.mem_of_mem_take h)
  obtain ⟨bs, q, hx, hbs, hq, hr⟩ := someJournal_ok nn (l.take 2000) 0 hl' (by omega) hnn' hb'
  refine ⟨bs, hx, hbs, ?_⟩
  refine fnOk_of' (k := 0) tyOk Try.func40 rfl (by kernel_rfl) Try.ntmps40 (by rw [Try.results40]) rfl (by simp only [List.length_cons, List.length_nil, Nat.reduceAdd, Nat.reduceSub, List.replicate_succ, List.replicate_zero, List.cons_append, List.nil_append]; rfl) (by simp) (by simp) (fun r hr => by simp at hr) fun base => ?_
  refine AW.seq ?_
  refine AW.region ?_
  refine ao0 (em_assign (by rfl) (by rfl)) (by rfl) (by rfl) ?_
  refine ao_nil (by first | dsimp only [setO, setE] | rfl) (by first | dsimp only [setM, setE, setR] | rfl) (by rfl) ?_
  refine AW.seq ?_
  refine AW.region ?_
  refine ao0 (em_move (by rfl) (by rfl)) (by rfl) (by rfl) ?_
  refine ao_callL [] [] (newReader_ok nn l hnn) (by rfl) (by rfl) (by rfl) (by rfl) (by rfl) (by repeat' (first | exact True.intro | exact .inl ⟨by rfl, by rfl⟩ | exact rfl | exact .inr (.inl ⟨_, _, _, _, by rfl, by rfl⟩) | exact .inr (.inr ⟨_, _, _, _, _, _, by rfl, by rfl, by rfl, by first | exact .head _ | exact .tail _ (.head _) | exact .tail _ (.tail _ (.head _)) | exact .tail _ (.tail _ (.tail _ (.head _)))⟩) | refine And.intro ?_ ?_)) (by repeat' (first | exact True.intro | exact .inl ⟨by rfl, by rfl⟩ | exact rfl | exact .inl rfl | exact .inr (.inl ⟨_, _, _, _, by rfl, by rfl⟩) | exact .inr ⟨rfl, by simp [D.scalar, bD]⟩ | refine And.intro ?_ ?_)) (by rfl) (by rfl) (by rfl) (by decide) (by rfl) (by rfl) (by omega) (by first | rfl | (simp [keptB, notGone, (by rfl).live]; done)) (by rfl) (by rfl) (by rfl) (by rfl) (by rfl) (by rfl) (by rfl) ?_
  refine ao_callL [0] [] (hr) (by rfl) (by rfl) (by rfl) (by rfl) (by rfl) (by repeat' (first | exact True.intro | exact .inl ⟨by rfl, by rfl⟩ | exact rfl | exact .inr (.inl ⟨_, _, _, _, by rfl, by rfl⟩) | exact .inr (.inr ⟨_, _, _, _, _, _, by rfl, by rfl, by rfl, by first | exact .head _ | exact .tail _ (.head _) | exact .tail _ (.tail _ (.head _)) | exact .tail _ (.tail _ (.tail _ (.head _)))⟩) | refine And.intro ?_ ?_)) (by repeat' (first | exact True.intro | exact .inl ⟨by rfl, by rfl⟩ | exact rfl | exact .inl rfl | exact .inr (.inl ⟨_, _, _, _, by rfl, by rfl⟩) | exact .inr ⟨rfl, by simp [D.scalar, bD]⟩ | refine And.intro ?_ ?_)) (by rfl) (by rfl) (by rfl) (by decide) (by rfl) (by rfl) (by omega) (by first | rfl | (simp [keptB, notGone, (by rfl).live]; done)) (by rfl) (by rfl) (by rfl) (by rfl) (by rfl) (by rfl) (by rfl) ?_
  refine ao0 (em_assign (by rfl) (by rfl)) (by rfl) (by rfl) ?_
  refine ao_nil (by first | dsimp only [setO, setE] | rfl) (by first | dsimp only [setM, setE, setR] | rfl) (by rfl) ?_
  refine AW.ret ?_
  refine retA_data (n := 0) rfl (by rfl) ?_ rfl rfl _ (.inr rfl)
  all_goals rfl
end Go.Proofs.Ytiibfkekcdkjdaa
