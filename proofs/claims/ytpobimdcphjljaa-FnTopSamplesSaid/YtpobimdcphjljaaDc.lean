/-
  Catalogues: the spec's functions that the drawn samples use.
-/
import Derived.Test.YtpobimdcphjljaaDl
namespace Go.Proofs.Ytpobimdcphjljaa
open Go
set_option linter.unusedVariables false
set_option linter.unusedSimpArgs false
set_option linter.unnecessarySimpa false
set_option maxRecDepth 4000

/-- An entry of a catalogue: a sample without its value. -/
def catD (x : samT) : List D := [.sl x.1 x.2.1.length (x.2.1.flatMap labD)]
theorem catD_len (x : samT) : (catD x).length = 1 := rfl
def catR (nn : Bool) (cs : List samT) : R := .arr 29 true nn cs.length (cs.flatMap catD)
def catQ (cs : List samT) (j : Nat) : Prop := labsP (atD cs sam0 j).2.1 ∧ ∀ k, k < j → keyS (atD cs sam0 k) ≠ keyS (atD cs sam0 j)
def catP (cs : List samT) : Prop := cs.length ≤ 8 ∧ AllTo (catQ cs) cs.length
open Classical in
noncomputable def catB (cs : List samT) : Bool := decide (catP cs)
theorem catB_T {cs : List samT} (h : catP cs) : catB cs = true := by unfold catB; simpa using h
theorem catB_F {cs : List samT} (h : ¬ catP cs) : catB cs = false := by unfold catB; simpa using h
theorem catB_of {cs : List samT} (h : catB cs = true) : catP cs := by unfold catB at h; simpa using h
theorem catQ_at {cs : List samT} {i : Nat} (h : i < cs.length) : catQ cs i ↔ labsP cs[i].2.1 ∧ ∀ k, k < i → keyS (atD cs sam0 k) ≠ keyS cs[i] := by unfold catQ; rw [getD_at h]
theorem catB_end {cs : List samT} (h : AllTo (catQ cs) cs.length) : catB cs = decide ((cs.length : Int) ≤ 8) := by
  by_cases h1 : cs.length ≤ 8
  · rw [catB_T ⟨h1, h⟩, decide_eq_true (by omega)]
  · rw [catB_F (fun k => h1 k.1), decide_eq_false (by omega)]
set_option maxHeartbeats 1000000 in
theorem placeIn_ok (n1 n2 : Bool) (cs : List samT) (ls : List labT) (hs : smS cs) (h2 : smL ls) (hn1 : n1 = false → cs = []) (hn2 : n2 = false → ls = []) : FnOk Try.prog noG 82 [.v false [.sl false n1 cs.length (cs.flatMap catD)], .v false [.sl false n2 ls.length (ls.flatMap labD)]] [] (.v false [.i .i64 (findK cs (keyL ls))]) [] := by
  obtain ⟨hl, hsm⟩ := hs
  by_cases hh : hasK cs (keyL ls)
  · obtain ⟨k, e, hk, ek, hb⟩ := findK_T hh
    rw [e]
    obtain rfl := nn_of hn1 (show 0 < cs.length by omega)
    refine fnOk_of' (k := 0) tyOk Try.func82 rfl (by kernel_rfl) Try.ntmps82 (by rw [Try.results82]) rfl (by simp only [List.length_cons, List.length_nil, Nat.reduceAdd, Nat.reduceSub, List.replicate_succ, List.replicate_zero, List.cons_append, List.nil_append]; rfl) (by simp) (by simp) (fun r hr => by simp at hr) fun base => ?_
    refine AW.seq ?_
    refine AW.region ?_
    first
      | refine ao0 (em_assign (by rfl) (by rfl)) (by rfl) (by rfl) ?_
      | refine ao0 (em_assignG (by rfl) (by rfl)) (by rfl) (by rfl) ?_
      | refine ao0 (sem_move (.inr (by rfl))) (by rfl) (by rfl) ?_
    refine ao_nil (by first | dsimp only [setO, setE] | rfl) (by first | dsimp only [setM, setE, setR] | rfl) (by rfl) ?_
    refine AW.seq ?_
    refine AW.seq ?_
    refine AW.region ?_
    first
      | refine ao0 (em_assign (by rfl) (by rfl)) (by rfl) (by rfl) ?_
      | refine ao0 (em_assignG (by rfl) (by rfl)) (by rfl) (by rfl) ?_
      | refine ao0 (sem_move (.inr (by rfl))) (by rfl) (by rfl) ?_
    refine ao_nil (by first | dsimp only [setO, setE] | rfl) (by first | dsimp only [setM, setE, setR] | rfl) (by rfl) ?_
    refine AW.block ?_
    refine AW.loopU (X := {i : Nat // i ≤ k}) (fun i => [(5, .v false [.i .i64 (i.1 : Int)]), (2, .any), (3, .any), (4, .any), (6, .any), (7, .any), (8, .any), (9, .any), (10, .any), (11, .any), (12, .any), (13, .any), (14, .any), (15, .any), (16, .any), (17, .any), (18, .any), (19, .any)]) (fun i => []) 0 (fun i => k - i.1) ⟨0, Nat.zero_le _⟩ ?_ ?_
    · skip
      dsimp only [updL, setE]
      refine into_lists [] ?_ ?_ rfl rfl (by decide) (by rfl) (by rfl) (by rfl) (by rfl) (by omega)
      all_goals (try (repeat' (first | exact True.intro | exact Or.inl rfl | exact Or.inr (Or.inl rfl) | refine And.intro ?_ ?_ | exact le_i (by omega) | exact le_own (by rfl) (by rfl) (by first | rfl | omega) | exact le_arr (by rfl) (by rfl) (by first | rfl | omega) (by rfl) | exact Or.inr (Or.inr (Or.inl ⟨_, _, rfl, rfl⟩)) | exact Or.inr (Or.inr ⟨_, _, rfl⟩) | exact Or.inr (Or.inr (Or.inr ⟨_, _, _, _, rfl, rfl⟩)))))
    · intro i
      refine AW.norm (by first | dsimp only [updL, setE] | rfl) rfl rfl ?_
      obtain ⟨i, hi⟩ := i
      dsimp only
      refine AW.seq ?_
      refine AW.seq ?_
      refine AW.region ?_
      first
        | refine ao0 (em_move (by rfl) (by rfl)) (by rfl) (by rfl) ?_
        | refine ao0 (em_moveG (by rfl) (by rfl)) (by rfl) (by rfl) ?_
        | refine ao0 (sem_move (.inl (by rfl))) (by rfl) (by rfl) ?_
      first
        | refine ao0 (em_move (by rfl) (by rfl)) (by rfl) (by rfl) ?_
        | refine ao0 (em_moveG (by rfl) (by rfl)) (by rfl) (by rfl) ?_
        | refine ao0 (sem_move (.inl (by rfl))) (by rfl) (by rfl) ?_
      first
        | refine ao0 (sem_len tyOk (by rfl) (by rfl) (by rfl) (by rfl) (by first | exact .inl ⟨_, _, _, rfl⟩ | exact .inr ⟨_, _, rfl⟩)) (by rfl) (by rfl) ?_
        | refine ao0 (sem_len_str tyOk (by rfl) (by rfl) (by rfl) (by rfl)) (by rfl) (by rfl) ?_
      first
        | refine ao0 (em_binI (by rfl) (by rfl) (by rfl) (by rfl) (by first | rfl | trivial | exact ⟨rfl, by decide⟩ | exact ⟨rfl, by omega⟩ | decide | omega)) (by rfl) (by rfl) ?_
        | refine ao0 (sem_binS (by rfl) (by rfl) (by rfl) (by rfl) (by trivial)) (by rfl) (by rfl) ?_
      refine ao_nil (by first | dsimp only [setO, setE] | rfl) (by first | dsimp only [setM, setE, setR] | rfl) (by rfl) ?_
      refine AW.cond (by rfl) (fun hc1 => ?_) (fun hc1 => ?_)
      · skip
        have HD := flat_at catD 1 catD_len cs i (by omega)
        have hm := hsm _ (List.getElem_mem (show i < cs.length by omega))
        have hC := compareLabels_ok (cs[i]'(by omega)).1 n2 (cs[i]'(by omega)).2.1 ls hm.1.1 h2.1 hm.2 hn2
        refine AW.skip ?_
        refine AW.seq ?_
        refine AW.block ?_
        refine AW.seq ?_
        refine AW.region ?_
        first
          | refine ao0 (em_move (by rfl) (by rfl)) (by rfl) (by rfl) ?_
          | refine ao0 (em_moveG (by rfl) (by rfl)) (by rfl) (by rfl) ?_
          | refine ao0 (sem_move (.inl (by rfl))) (by rfl) (by rfl) ?_
        first
          | refine ao0 (em_move (by rfl) (by rfl)) (by rfl) (by rfl) ?_
          | refine ao0 (em_moveG (by rfl) (by rfl)) (by rfl) (by rfl) ?_
          | refine ao0 (sem_move (.inl (by rfl))) (by rfl) (by rfl) ?_
        first
          | refine ao0 (sem_indexR tyOk (by rfl) (by rfl) (by rfl) (by rfl) (by rfl) HD (by omega) (by omega)) (by rfl) (by rfl) ?_
          | refine ao0 (sem_indexAddr tyOk (by rfl) (by rfl) (by rfl) (by rfl) (by rfl) (by rfl) (by omega) (by omega)) (by rfl) (by rfl) ?_
          | refine ao0 (sem_indexAddrA tyOk (by rfl) (by rfl) (by rfl) (by rfl) (by rfl) (by rfl) (by omega) (by omega)) (by rfl) (by rfl) ?_
        first
          | refine ao_load tyOk (by rfl) (by rfl) (by rfl) (by rfl) (by rfl) (by rfl) (by rfl) (by first | trivial | exact Nat.le_of_ble_eq_true rfl | decide | (simp; done) | omega) ?_
          | refine ao_load tyOk (by rfl) (by rfl) (by rfl) (by rfl) (by rfl) (cont_arr (by rfl) HD) (by rfl) (by first | trivial | exact Nat.le_of_ble_eq_true rfl | decide | (simp; done) | omega) ?_
        first
          | refine ao0 (em_move (by rfl) (by rfl)) (by rfl) (by rfl) ?_
          | refine ao0 (em_moveG (by rfl) (by rfl)) (by rfl) (by rfl) ?_
          | refine ao0 (sem_move (.inl (by rfl))) (by rfl) (by rfl) ?_
        refine ao_callL [] [] (hC) (by rfl) (by rfl) (by rfl) (by rfl) (by rfl) (by repeat' (first | exact True.intro | exact .inl ⟨by rfl, by rfl⟩ | exact rfl | exact .inr (.inl ⟨_, _, _, _, by rfl, by rfl⟩) | exact .inr (.inr ⟨_, _, _, _, _, _, by rfl, by rfl, by rfl, by first | exact .head _ | exact .tail _ (.head _) | exact .tail _ (.tail _ (.head _)) | exact .tail _ (.tail _ (.tail _ (.head _)))⟩) | refine And.intro ?_ ?_)) (by repeat' (first | exact True.intro | exact .inl ⟨by rfl, by rfl⟩ | exact rfl | exact .inl rfl | exact .inr (.inl ⟨_, _, _, _, by rfl, by rfl⟩) | exact .inr ⟨rfl, by simp [D.scalar, bD]⟩ | refine And.intro ?_ ?_)) (by rfl) (by rfl) (by rfl) (by decide) (by rfl) (by rfl) (by omega) (by first | rfl | (simp [keptB, notGone, (by rfl).live]; done)) (by rfl) (by rfl) (by rfl) (by rfl) (by rfl) (by rfl) (by rfl) ?_
        first
          | refine ao0 (em_binI (by rfl) (by rfl) (by rfl) (by rfl) (by first | rfl | trivial | exact ⟨rfl, by decide⟩ | exact ⟨rfl, by omega⟩ | decide | omega)) (by rfl) (by rfl) ?_
          | refine ao0 (sem_binB tyOk (by rfl) (by rfl) (by rfl) (by rfl) (by rfl) (by rfl)) (by rfl) (by rfl) ?_
          | refine ao0 (sem_nilS tyOk (by rfl) (by rfl) (by rfl) (by rfl) (by rfl) (by first | exact .inl ⟨rfl, rfl⟩ | exact .inr ⟨rfl, rfl⟩)) (by rfl) (by rfl) ?_
          | refine ao0 (sem_binS (by rfl) (by rfl) (by rfl) (by rfl) (by trivial)) (by rfl) (by rfl) ?_
        refine ao_nil (by first | dsimp only [setO, setE] | rfl) (by first | dsimp only [setM, setE, setR] | rfl) (by rfl) ?_
        refine AW.cond (by rfl) (fun hc2 => ?_) (fun hc2 => ?_)
        · skip
          have heq : i = k := Nat.le_antisymm hi (Nat.le_of_not_lt fun q => hb i q (by rw [getD_at (by omega)]; exact (cmpL_zero _ _).1 (by simpa using hc2)))
          refine AW.seq ?_
          refine AW.region ?_
          first
            | refine ao0 (em_move (by rfl) (by rfl)) (by rfl) (by rfl) ?_
            | refine ao0 (em_moveG (by rfl) (by rfl)) (by rfl) (by rfl) ?_
            | refine ao0 (sem_move (.inl (by rfl))) (by rfl) (by rfl) ?_
          first
            | refine ao0 (em_assign (by rfl) (by rfl)) (by rfl) (by rfl) ?_
            | refine ao0 (em_assignG (by rfl) (by rfl)) (by rfl) (by rfl) ?_
            | refine ao0 (sem_move (.inr (by rfl))) (by rfl) (by rfl) ?_
          refine ao_nil (by first | dsimp only [setO, setE] | rfl) (by first | dsimp only [setM, setE, setR] | rfl) (by rfl) ?_
          refine AW.ret ?_
          refine retA_data (n := 0) rfl (by rfl) ?_ rfl rfl _ (.inr rfl)
          exact pack_i (by rw [heq])
        · skip
          have hlt : i < k := Nat.lt_of_le_of_ne hi (fun q => by subst q; rw [getD_at hk] at ek; have := (cmpL_zero _ _).2 ek; simp at hc2; exact hc2 this)
          refine AW.skip ?_
          refine AW.region ?_
          first
            | refine ao0 (em_move (by rfl) (by rfl)) (by rfl) (by rfl) ?_
            | refine ao0 (em_moveG (by rfl) (by rfl)) (by rfl) (by rfl) ?_
            | refine ao0 (sem_move (.inl (by rfl))) (by rfl) (by rfl) ?_
          first
            | refine ao0 (em_add (by rfl) (by rfl) (by rfl) (by omega) (by omega)) (by rfl) (by rfl) ?_
            | refine ao0 (em_add8 (by rfl) (by rfl) (by rfl) (by omega) (by omega)) (by rfl) (by rfl) ?_
            | refine ao0 (em_binI (by rfl) (by rfl) (by rfl) (by rfl) (by first | rfl | trivial | exact ⟨rfl, by decide⟩ | exact ⟨rfl, by omega⟩ | decide | omega)) (by rfl) (by rfl) ?_
            | refine ao0 (sem_binS (by rfl) (by rfl) (by rfl) (by rfl) (by trivial)) (by rfl) (by rfl) ?_
          first
            | refine ao0 (em_assign (by rfl) (by rfl)) (by rfl) (by rfl) ?_
            | refine ao0 (em_assignG (by rfl) (by rfl)) (by rfl) (by rfl) ?_
            | refine ao0 (sem_move (.inr (by rfl))) (by rfl) (by rfl) ?_
          refine ao_nil (by first | dsimp only [setO, setE] | rfl) (by first | dsimp only [setM, setE, setR] | rfl) (by rfl) ?_
          refine ⟨⟨i + 1, hlt⟩, by dsimp only; omega, ?_⟩
          dsimp only [updL, setE]
          refine into_lists [] ?_ ?_ rfl rfl (by decide) (by rfl) (by rfl) (by rfl) (by rfl) (by omega)
          all_goals (try (repeat' (first | exact True.intro | exact Or.inl rfl | exact Or.inr (Or.inl rfl) | refine And.intro ?_ ?_ | exact le_i (by omega) | exact le_own (by rfl) (by rfl) (by first | rfl | omega) | exact le_arr (by rfl) (by rfl) (by first | rfl | omega) (by rfl) | exact Or.inr (Or.inr (Or.inl ⟨_, _, rfl, rfl⟩)) | exact Or.inr (Or.inr ⟨_, _, rfl⟩) | exact Or.inr (Or.inr (Or.inr ⟨_, _, _, _, rfl, rfl⟩)))))
      · skip
        exfalso; simp at hc1; omega
  · rw [findK_F hh]
    refine fnOk_of' (k := 0) tyOk Try.func82 rfl (by kernel_rfl) Try.ntmps82 (by rw [Try.results82]) rfl (by simp only [List.length_cons, List.length_nil, Nat.reduceAdd, Nat.reduceSub, List.replicate_succ, List.replicate_zero, List.cons_append, List.nil_append]; rfl) (by simp) (by simp) (fun r hr => by simp at hr) fun base => ?_
    refine AW.seq ?_
    refine AW.region ?_
    first
      | refine ao0 (em_assign (by rfl) (by rfl)) (by rfl) (by rfl) ?_
      | refine ao0 (em_assignG (by rfl) (by rfl)) (by rfl) (by rfl) ?_
      | refine ao0 (sem_move (.inr (by rfl))) (by rfl) (by rfl) ?_
    refine ao_nil (by first | dsimp only [setO, setE] | rfl) (by first | dsimp only [setM, setE, setR] | rfl) (by rfl) ?_
    refine AW.seq ?_
    refine AW.seq ?_
    refine AW.region ?_
    first
      | refine ao0 (em_assign (by rfl) (by rfl)) (by rfl) (by rfl) ?_
      | refine ao0 (em_assignG (by rfl) (by rfl)) (by rfl) (by rfl) ?_
      | refine ao0 (sem_move (.inr (by rfl))) (by rfl) (by rfl) ?_
    refine ao_nil (by first | dsimp only [setO, setE] | rfl) (by first | dsimp only [setM, setE, setR] | rfl) (by rfl) ?_
    refine AW.block ?_
    refine AW.loopU (X := {i : Nat // i ≤ cs.length}) (fun i => [(5, .v false [.i .i64 (i.1 : Int)]), (2, .any), (3, .any), (4, .any), (6, .any), (7, .any), (8, .any), (9, .any), (10, .any), (11, .any), (12, .any), (13, .any), (14, .any), (15, .any), (16, .any), (17, .any), (18, .any), (19, .any)]) (fun i => []) 0 (fun i => cs.length - i.1) ⟨0, Nat.zero_le _⟩ ?_ ?_
    · skip
      dsimp only [updL, setE]
      refine into_lists [] ?_ ?_ rfl rfl (by decide) (by rfl) (by rfl) (by rfl) (by rfl) (by omega)
      all_goals (try (repeat' (first | exact True.intro | exact Or.inl rfl | exact Or.inr (Or.inl rfl) | refine And.intro ?_ ?_ | exact le_i (by omega) | exact le_own (by rfl) (by rfl) (by first | rfl | omega) | exact le_arr (by rfl) (by rfl) (by first | rfl | omega) (by rfl) | exact Or.inr (Or.inr (Or.inl ⟨_, _, rfl, rfl⟩)) | exact Or.inr (Or.inr ⟨_, _, rfl⟩) | exact Or.inr (Or.inr (Or.inr ⟨_, _, _, _, rfl, rfl⟩)))))
    · intro i
      refine AW.norm (by first | dsimp only [updL, setE] | rfl) rfl rfl ?_
      obtain ⟨i, hi⟩ := i
      dsimp only
      refine AW.seq ?_
      refine AW.seq ?_
      refine AW.region ?_
      first
        | refine ao0 (em_move (by rfl) (by rfl)) (by rfl) (by rfl) ?_
        | refine ao0 (em_moveG (by rfl) (by rfl)) (by rfl) (by rfl) ?_
        | refine ao0 (sem_move (.inl (by rfl))) (by rfl) (by rfl) ?_
      first
        | refine ao0 (em_move (by rfl) (by rfl)) (by rfl) (by rfl) ?_
        | refine ao0 (em_moveG (by rfl) (by rfl)) (by rfl) (by rfl) ?_
        | refine ao0 (sem_move (.inl (by rfl))) (by rfl) (by rfl) ?_
      first
        | refine ao0 (sem_len tyOk (by rfl) (by rfl) (by rfl) (by rfl) (by first | exact .inl ⟨_, _, _, rfl⟩ | exact .inr ⟨_, _, rfl⟩)) (by rfl) (by rfl) ?_
        | refine ao0 (sem_len_str tyOk (by rfl) (by rfl) (by rfl) (by rfl)) (by rfl) (by rfl) ?_
      first
        | refine ao0 (em_binI (by rfl) (by rfl) (by rfl) (by rfl) (by first | rfl | trivial | exact ⟨rfl, by decide⟩ | exact ⟨rfl, by omega⟩ | decide | omega)) (by rfl) (by rfl) ?_
        | refine ao0 (sem_binS (by rfl) (by rfl) (by rfl) (by rfl) (by trivial)) (by rfl) (by rfl) ?_
      refine ao_nil (by first | dsimp only [setO, setE] | rfl) (by first | dsimp only [setM, setE, setR] | rfl) (by rfl) ?_
      refine AW.cond (by rfl) (fun hc1 => ?_) (fun hc1 => ?_)
      · skip
        have hlt : i < cs.length := by simpa using hc1
        obtain rfl := nn_of hn1 hlt
        have HD := flat_at catD 1 catD_len cs i hlt
        have hm := hsm _ (List.getElem_mem hlt)
        have hC := compareLabels_ok cs[i].1 n2 cs[i].2.1 ls hm.1.1 h2.1 hm.2 hn2
        refine AW.skip ?_
        refine AW.seq ?_
        refine AW.block ?_
        refine AW.seq ?_
        refine AW.region ?_
        first
          | refine ao0 (em_move (by rfl) (by rfl)) (by rfl) (by rfl) ?_
          | refine ao0 (em_moveG (by rfl) (by rfl)) (by rfl) (by rfl) ?_
          | refine ao0 (sem_move (.inl (by rfl))) (by rfl) (by rfl) ?_
        first
          | refine ao0 (em_move (by rfl) (by rfl)) (by rfl) (by rfl) ?_
          | refine ao0 (em_moveG (by rfl) (by rfl)) (by rfl) (by rfl) ?_
          | refine ao0 (sem_move (.inl (by rfl))) (by rfl) (by rfl) ?_
        first
          | refine ao0 (sem_indexR tyOk (by rfl) (by rfl) (by rfl) (by rfl) (by rfl) HD (by omega) (by omega)) (by rfl) (by rfl) ?_
          | refine ao0 (sem_indexAddr tyOk (by rfl) (by rfl) (by rfl) (by rfl) (by rfl) (by rfl) (by omega) (by omega)) (by rfl) (by rfl) ?_
          | refine ao0 (sem_indexAddrA tyOk (by rfl) (by rfl) (by rfl) (by rfl) (by rfl) (by rfl) (by omega) (by omega)) (by rfl) (by rfl) ?_
        first
          | refine ao_load tyOk (by rfl) (by rfl) (by rfl) (by rfl) (by rfl) (by rfl) (by rfl) (by first | trivial | exact Nat.le_of_ble_eq_true rfl | decide | (simp; done) | omega) ?_
          | refine ao_load tyOk (by rfl) (by rfl) (by rfl) (by rfl) (by rfl) (cont_arr (by rfl) HD) (by rfl) (by first | trivial | exact Nat.le_of_ble_eq_true rfl | decide | (simp; done) | omega) ?_
        first
          | refine ao0 (em_move (by rfl) (by rfl)) (by rfl) (by rfl) ?_
          | refine ao0 (em_moveG (by rfl) (by rfl)) (by rfl) (by rfl) ?_
          | refine ao0 (sem_move (.inl (by rfl))) (by rfl) (by rfl) ?_
        refine ao_callL [] [] (hC) (by rfl) (by rfl) (by rfl) (by rfl) (by rfl) (by repeat' (first | exact True.intro | exact .inl ⟨by rfl, by rfl⟩ | exact rfl | exact .inr (.inl ⟨_, _, _, _, by rfl, by rfl⟩) | exact .inr (.inr ⟨_, _, _, _, _, _, by rfl, by rfl, by rfl, by first | exact .head _ | exact .tail _ (.head _) | exact .tail _ (.tail _ (.head _)) | exact .tail _ (.tail _ (.tail _ (.head _)))⟩) | refine And.intro ?_ ?_)) (by repeat' (first | exact True.intro | exact .inl ⟨by rfl, by rfl⟩ | exact rfl | exact .inl rfl | exact .inr (.inl ⟨_, _, _, _, by rfl, by rfl⟩) | exact .inr ⟨rfl, by simp [D.scalar, bD]⟩ | refine And.intro ?_ ?_)) (by rfl) (by rfl) (by rfl) (by decide) (by rfl) (by rfl) (by omega) (by first | rfl | (simp [keptB, notGone, (by rfl).live]; done)) (by rfl) (by rfl) (by rfl) (by rfl) (by rfl) (by rfl) (by rfl) ?_
        first
          | refine ao0 (em_binI (by rfl) (by rfl) (by rfl) (by rfl) (by first | rfl | trivial | exact ⟨rfl, by decide⟩ | exact ⟨rfl, by omega⟩ | decide | omega)) (by rfl) (by rfl) ?_
          | refine ao0 (sem_binB tyOk (by rfl) (by rfl) (by rfl) (by rfl) (by rfl) (by rfl)) (by rfl) (by rfl) ?_
          | refine ao0 (sem_nilS tyOk (by rfl) (by rfl) (by rfl) (by rfl) (by rfl) (by first | exact .inl ⟨rfl, rfl⟩ | exact .inr ⟨rfl, rfl⟩)) (by rfl) (by rfl) ?_
          | refine ao0 (sem_binS (by rfl) (by rfl) (by rfl) (by rfl) (by trivial)) (by rfl) (by rfl) ?_
        refine ao_nil (by first | dsimp only [setO, setE] | rfl) (by first | dsimp only [setM, setE, setR] | rfl) (by rfl) ?_
        refine AW.cond (by rfl) (fun hc2 => ?_) (fun hc2 => ?_)
        · skip
          exfalso; exact hh ⟨i, hlt, by rw [getD_at hlt]; exact (cmpL_zero _ _).1 (by simpa using hc2)⟩
        · skip
          refine AW.skip ?_
          refine AW.region ?_
          first
            | refine ao0 (em_move (by rfl) (by rfl)) (by rfl) (by rfl) ?_
            | refine ao0 (em_moveG (by rfl) (by rfl)) (by rfl) (by rfl) ?_
            | refine ao0 (sem_move (.inl (by rfl))) (by rfl) (by rfl) ?_
          first
            | refine ao0 (em_add (by rfl) (by rfl) (by rfl) (by omega) (by omega)) (by rfl) (by rfl) ?_
            | refine ao0 (em_add8 (by rfl) (by rfl) (by rfl) (by omega) (by omega)) (by rfl) (by rfl) ?_
            | refine ao0 (em_binI (by rfl) (by rfl) (by rfl) (by rfl) (by first | rfl | trivial | exact ⟨rfl, by decide⟩ | exact ⟨rfl, by omega⟩ | decide | omega)) (by rfl) (by rfl) ?_
            | refine ao0 (sem_binS (by rfl) (by rfl) (by rfl) (by rfl) (by trivial)) (by rfl) (by rfl) ?_
          first
            | refine ao0 (em_assign (by rfl) (by rfl)) (by rfl) (by rfl) ?_
            | refine ao0 (em_assignG (by rfl) (by rfl)) (by rfl) (by rfl) ?_
            | refine ao0 (sem_move (.inr (by rfl))) (by rfl) (by rfl) ?_
          refine ao_nil (by first | dsimp only [setO, setE] | rfl) (by first | dsimp only [setM, setE, setR] | rfl) (by rfl) ?_
          refine ⟨⟨i + 1, hlt⟩, by dsimp only; omega, ?_⟩
          dsimp only [updL, setE]
          refine into_lists [] ?_ ?_ rfl rfl (by decide) (by rfl) (by rfl) (by rfl) (by rfl) (by omega)
          all_goals (try (repeat' (first | exact True.intro | exact Or.inl rfl | exact Or.inr (Or.inl rfl) | refine And.intro ?_ ?_ | exact le_i (by omega) | exact le_own (by rfl) (by rfl) (by first | rfl | omega) | exact le_arr (by rfl) (by rfl) (by first | rfl | omega) (by rfl) | exact Or.inr (Or.inr (Or.inl ⟨_, _, rfl, rfl⟩)) | exact Or.inr (Or.inr ⟨_, _, rfl⟩) | exact Or.inr (Or.inr (Or.inr ⟨_, _, _, _, rfl, rfl⟩)))))
      · skip
        refine AW.exit ?_
        refine AW.seq ?_
        refine AW.region ?_
        first
          | refine ao0 (em_assign (by rfl) (by rfl)) (by rfl) (by rfl) ?_
          | refine ao0 (em_assignG (by rfl) (by rfl)) (by rfl) (by rfl) ?_
          | refine ao0 (sem_move (.inr (by rfl))) (by rfl) (by rfl) ?_
        refine ao_nil (by first | dsimp only [setO, setE] | rfl) (by first | dsimp only [setM, setE, setR] | rfl) (by rfl) ?_
        refine AW.ret ?_
        refine retA_data (n := 0) rfl (by rfl) ?_ rfl rfl _ (.inr rfl)
        exact pack_i rfl
set_option maxHeartbeats 2000000 in
theorem validCatalog_ok (nn : Bool) (cs : List samT) (hs : smS cs) (hnn : nn = false → cs = []) : FnOk Try.prog noG 81 [.v false [.sl false nn cs.length (cs.flatMap catD)]] [] (.v false [.b (catB cs)]) [] := by
  obtain ⟨hl, hsm⟩ := id hs
  refine fnOk_of' (k := 0) tyOk Try.func81 rfl (by kernel_rfl) Try.ntmps81 (by rw [Try.results81]) rfl (by simp only [List.length_cons, List.length_nil, Nat.reduceAdd, Nat.reduceSub, List.replicate_succ, List.replicate_zero, List.cons_append, List.nil_append]; rfl) (by simp) (by simp) (fun r hr => by simp at hr) fun base => ?_
  refine AW.seq ?_
  refine AW.region ?_
  first
    | refine ao0 (em_assign (by rfl) (by rfl)) (by rfl) (by rfl) ?_
    | refine ao0 (em_assignG (by rfl) (by rfl)) (by rfl) (by rfl) ?_
    | refine ao0 (sem_move (.inr (by rfl))) (by rfl) (by rfl) ?_
  refine ao_nil (by first | dsimp only [setO, setE] | rfl) (by first | dsimp only [setM, setE, setR] | rfl) (by rfl) ?_
  refine AW.seq ?_
  refine AW.seq ?_
  refine AW.region ?_
  first
    | refine ao0 (em_assign (by rfl) (by rfl)) (by rfl) (by rfl) ?_
    | refine ao0 (em_assignG (by rfl) (by rfl)) (by rfl) (by rfl) ?_
    | refine ao0 (sem_move (.inr (by rfl))) (by rfl) (by rfl) ?_
  refine ao_nil (by first | dsimp only [setO, setE] | rfl) (by first | dsimp only [setM, setE, setR] | rfl) (by rfl) ?_
  refine AW.block ?_
  refine AW.loopU (X := {i : Nat // i ≤ cs.length ∧ AllTo (catQ cs) i}) (fun i => [(3, .v false [.i .i64 (i.1 : Int)]), (1, .any), (2, .any), (4, .any), (5, .any), (6, .any), (7, .any), (8, .any), (9, .any), (10, .any), (11, .any), (12, .any), (13, .any), (14, .any), (15, .any), (16, .any), (17, .any), (18, .any), (19, .any), (20, .any), (21, .any), (22, .any), (23, .any), (24, .any), (25, .any), (26, .any)]) (fun i => []) 0 (fun i => cs.length - i.1) ⟨0, Nat.zero_le _, AllTo.zero _⟩ ?_ ?_
  · skip
    dsimp only [updL, setE]
    refine into_lists [] ?_ ?_ rfl rfl (by decide) (by rfl) (by rfl) (by rfl) (by rfl) (by omega)
    all_goals (try (repeat' (first | exact True.intro | exact Or.inl rfl | exact Or.inr (Or.inl rfl) | refine And.intro ?_ ?_ | exact le_i (by omega) | exact le_own (by rfl) (by rfl) (by first | rfl | omega) | exact le_arr (by rfl) (by rfl) (by first | rfl | omega) (by rfl) | exact Or.inr (Or.inr (Or.inl ⟨_, _, rfl, rfl⟩)) | exact Or.inr (Or.inr ⟨_, _, rfl⟩) | exact Or.inr (Or.inr (Or.inr ⟨_, _, _, _, rfl, rfl⟩)))))
  · intro i
    refine AW.norm (by first | dsimp only [updL, setE] | rfl) rfl rfl ?_
    obtain ⟨i, hi, hall⟩ := i
    dsimp only
    refine AW.seq ?_
    refine AW.seq ?_
    refine AW.region ?_
    first
      | refine ao0 (em_move (by rfl) (by rfl)) (by rfl) (by rfl) ?_
      | refine ao0 (em_moveG (by rfl) (by rfl)) (by rfl) (by rfl) ?_
      | refine ao0 (sem_move (.inl (by rfl))) (by rfl) (by rfl) ?_
    first
      | refine ao0 (em_move (by rfl) (by rfl)) (by rfl) (by rfl) ?_
      | refine ao0 (em_moveG (by rfl) (by rfl)) (by rfl) (by rfl) ?_
      | refine ao0 (sem_move (.inl (by rfl))) (by rfl) (by rfl) ?_
    first
      | refine ao0 (sem_len tyOk (by rfl) (by rfl) (by rfl) (by rfl) (by first | exact .inl ⟨_, _, _, rfl⟩ | exact .inr ⟨_, _, rfl⟩)) (by rfl) (by rfl) ?_
      | refine ao0 (sem_len_str tyOk (by rfl) (by rfl) (by rfl) (by rfl)) (by rfl) (by rfl) ?_
    first
      | refine ao0 (em_binI (by rfl) (by rfl) (by rfl) (by rfl) (by first | rfl | trivial | exact ⟨rfl, by decide⟩ | exact ⟨rfl, by omega⟩ | decide | omega)) (by rfl) (by rfl) ?_
      | refine ao0 (sem_binS (by rfl) (by rfl) (by rfl) (by rfl) (by trivial)) (by rfl) (by rfl) ?_
    refine ao_nil (by first | dsimp only [setO, setE] | rfl) (by first | dsimp only [setM, setE, setR] | rfl) (by rfl) ?_
    refine AW.cond (by rfl) (fun hc1 => ?_) (fun hc1 => ?_)
    · skip
      have hlt : i < cs.length := by simpa using hc1
      obtain rfl := nn_of hnn hlt
      have HD := flat_at catD 1 catD_len cs i hlt
      have hm := hsm _ (List.getElem_mem hlt)
      have hV := svalidLabels_ok cs[i].1 cs[i].2.1 hm.1 hm.2
      have hP := placeIn_ok true cs[i].1 (cs.take i) cs[i].2.1 (smS_take hs i) hm.1 (by simp) hm.2
      obtain ⟨h1, h2⟩ := sl_headK catD 1 catD_len cs (i : Int) (by omega) (by omega)
      rw [Int.toNat_natCast] at h1 h2
      rw [← h1, ← h2] at hP
      refine AW.skip ?_
      refine AW.seq ?_
      refine AW.block ?_
      refine AW.seq ?_
      refine AW.draw follows0 (by kernel_rfl) ?_
      first
        | refine ao0 (em_move (by rfl) (by rfl)) (by rfl) (by rfl) ?_
        | refine ao0 (em_moveG (by rfl) (by rfl)) (by rfl) (by rfl) ?_
        | refine ao0 (sem_move (.inl (by rfl))) (by rfl) (by rfl) ?_
      first
        | refine ao0 (em_move (by rfl) (by rfl)) (by rfl) (by rfl) ?_
        | refine ao0 (em_moveG (by rfl) (by rfl)) (by rfl) (by rfl) ?_
        | refine ao0 (sem_move (.inl (by rfl))) (by rfl) (by rfl) ?_
      first
        | refine ao0 (sem_indexR tyOk (by rfl) (by rfl) (by rfl) (by rfl) (by rfl) HD (by omega) (by omega)) (by rfl) (by rfl) ?_
        | refine ao0 (sem_indexAddr tyOk (by rfl) (by rfl) (by rfl) (by rfl) (by rfl) (by rfl) (by omega) (by omega)) (by rfl) (by rfl) ?_
        | refine ao0 (sem_indexAddrA tyOk (by rfl) (by rfl) (by rfl) (by rfl) (by rfl) (by rfl) (by omega) (by omega)) (by rfl) (by rfl) ?_
      first
        | refine ao_load tyOk (by rfl) (by rfl) (by rfl) (by rfl) (by rfl) (by rfl) (by rfl) (by first | trivial | exact Nat.le_of_ble_eq_true rfl | decide | (simp; done) | omega) ?_
        | refine ao_load tyOk (by rfl) (by rfl) (by rfl) (by rfl) (by rfl) (cont_arr (by rfl) HD) (by rfl) (by first | trivial | exact Nat.le_of_ble_eq_true rfl | decide | (simp; done) | omega) ?_
      refine ao_callL [] [] (hV) (by rfl) (by rfl) (by rfl) (by rfl) (by rfl) (by repeat' (first | exact True.intro | exact .inl ⟨by rfl, by rfl⟩ | exact rfl | exact .inr (.inl ⟨_, _, _, _, by rfl, by rfl⟩) | exact .inr (.inr ⟨_, _, _, _, _, _, by rfl, by rfl, by rfl, by first | exact .head _ | exact .tail _ (.head _) | exact .tail _ (.tail _ (.head _)) | exact .tail _ (.tail _ (.tail _ (.head _)))⟩) | refine And.intro ?_ ?_)) (by repeat' (first | exact True.intro | exact .inl ⟨by rfl, by rfl⟩ | exact rfl | exact .inl rfl | exact .inr (.inl ⟨_, _, _, _, by rfl, by rfl⟩) | exact .inr ⟨rfl, by simp [D.scalar, bD]⟩ | refine And.intro ?_ ?_)) (by rfl) (by rfl) (by rfl) (by decide) (by rfl) (by rfl) (by omega) (by first | rfl | (simp [keptB, notGone, (by rfl).live]; done)) (by rfl) (by rfl) (by rfl) (by rfl) (by rfl) (by rfl) (by rfl) ?_
      refine ao0 (sem_unOp (by rfl) (by rfl) (by rfl)) (by rfl) (by rfl) ?_
      first
        | refine ao0 (em_move (by rfl) (by rfl)) (by rfl) (by rfl) ?_
        | refine ao0 (em_moveG (by rfl) (by rfl)) (by rfl) (by rfl) ?_
        | refine ao0 (sem_move (.inl (by rfl))) (by rfl) (by rfl) ?_
      first
        | refine ao_skip (by rfl) (by rfl) ?_
        | refine ao0 (em_move (by rfl) (by rfl)) (by rfl) (by rfl) ?_
        | refine ao0 (em_moveG (by rfl) (by rfl)) (by rfl) (by rfl) ?_
        | refine ao0 (sem_move (.inl (by rfl))) (by rfl) (by rfl) ?_
        | refine ao_opt (by rfl) (by rfl) (fun he => astep0 (em_move (by rfl) (by rfl))) ?_
        | refine ao_opt (by rfl) (by rfl) (fun he => astep0 (em_moveG (by rfl) (by rfl))) ?_
        | refine ao_opt (by rfl) (by rfl) (fun he => by rw [he]; exact astep0 (em_move (by rfl) (by rfl))) ?_
        | refine ao_opt (by rfl) (by rfl) (fun he => by rw [he]; exact astep0 (em_moveG (by rfl) (by rfl))) ?_
        | refine ao_opt (by rfl) (by rfl) (fun he => astep0 (sem_move (.inl (by rfl)))) ?_
        | refine ao_opt (by rfl) (by rfl) (fun he => by rw [he]; exact astep0 (sem_move (.inl (by rfl)))) ?_
      first
        | refine ao_skip (by rfl) (by rfl) ?_
        | refine ao0 (em_move (by rfl) (by rfl)) (by rfl) (by rfl) ?_
        | refine ao0 (em_moveG (by rfl) (by rfl)) (by rfl) (by rfl) ?_
        | refine ao0 (sem_move (.inl (by rfl))) (by rfl) (by rfl) ?_
        | refine ao_opt (by rfl) (by rfl) (fun he => astep0 (em_move (by rfl) (by rfl))) ?_
        | refine ao_opt (by rfl) (by rfl) (fun he => astep0 (em_moveG (by rfl) (by rfl))) ?_
        | refine ao_opt (by rfl) (by rfl) (fun he => by rw [he]; exact astep0 (em_move (by rfl) (by rfl))) ?_
        | refine ao_opt (by rfl) (by rfl) (fun he => by rw [he]; exact astep0 (em_moveG (by rfl) (by rfl))) ?_
        | refine ao_opt (by rfl) (by rfl) (fun he => astep0 (sem_move (.inl (by rfl)))) ?_
        | refine ao_opt (by rfl) (by rfl) (fun he => by rw [he]; exact astep0 (sem_move (.inl (by rfl)))) ?_
      first
        | refine ao_skip (by rfl) (by rfl) ?_
        | refine ao0 (sem_slice tyOk (by rfl) (by rfl) (by rfl) (by rfl) (by rfl) (by rfl) (by omega) (by omega) (by omega)) (by rfl) (by rfl) ?_
        | refine ao_opt (by rfl) (by rfl) (fun he => astep0 (sem_slice tyOk (by rfl) (by rfl) (by rfl) (by rfl) (by rfl) (by rfl) (by first | omega | (simp at he; omega) | (simp [wexp] at he; omega) | (simp [*] at *; done)) (by first | omega | (simp at he; omega) | (simp [wexp] at he; omega) | (simp [*] at *; done)) (by first | omega | (simp at he; omega) | (simp [wexp] at he; omega) | (simp [*] at *; done)))) ?_
        | refine ao_opt (by rfl) (by rfl) (fun he => by rw [he]; exact astep0 (sem_slice tyOk (by rfl) (by rfl) (by rfl) (by rfl) (by rfl) (by rfl) (by omega) (by omega) (by omega))) ?_
        | refine ao_opt (by rfl) (by rfl) (fun he => by rw [he]; exact astep0 (sem_slice tyOk (by rfl) (by rfl) (by rfl) (by rfl) (by rfl) (by rfl) (by first | omega | (simp at he; omega) | (simp [wexp] at he; omega) | (simp [*] at *; done)) (by first | omega | (simp at he; omega) | (simp [wexp] at he; omega) | (simp [*] at *; done)) (by first | omega | (simp at he; omega) | (simp [wexp] at he; omega) | (simp [*] at *; done)))) ?_
      first
        | refine ao_skip (by rfl) (by rfl) ?_
        | refine ao0 (em_move (by rfl) (by rfl)) (by rfl) (by rfl) ?_
        | refine ao0 (em_moveG (by rfl) (by rfl)) (by rfl) (by rfl) ?_
        | refine ao0 (sem_move (.inl (by rfl))) (by rfl) (by rfl) ?_
        | refine ao_opt (by rfl) (by rfl) (fun he => astep0 (em_move (by rfl) (by rfl))) ?_
        | refine ao_opt (by rfl) (by rfl) (fun he => astep0 (em_moveG (by rfl) (by rfl))) ?_
        | refine ao_opt (by rfl) (by rfl) (fun he => by rw [he]; exact astep0 (em_move (by rfl) (by rfl))) ?_
        | refine ao_opt (by rfl) (by rfl) (fun he => by rw [he]; exact astep0 (em_moveG (by rfl) (by rfl))) ?_
        | refine ao_opt (by rfl) (by rfl) (fun he => astep0 (sem_move (.inl (by rfl)))) ?_
        | refine ao_opt (by rfl) (by rfl) (fun he => by rw [he]; exact astep0 (sem_move (.inl (by rfl)))) ?_
      first
        | refine ao_skip (by rfl) (by rfl) ?_
        | refine ao0 (em_move (by rfl) (by rfl)) (by rfl) (by rfl) ?_
        | refine ao0 (em_moveG (by rfl) (by rfl)) (by rfl) (by rfl) ?_
        | refine ao0 (sem_move (.inl (by rfl))) (by rfl) (by rfl) ?_
        | refine ao_opt (by rfl) (by rfl) (fun he => astep0 (em_move (by rfl) (by rfl))) ?_
        | refine ao_opt (by rfl) (by rfl) (fun he => astep0 (em_moveG (by rfl) (by rfl))) ?_
        | refine ao_opt (by rfl) (by rfl) (fun he => by rw [he]; exact astep0 (em_move (by rfl) (by rfl))) ?_
        | refine ao_opt (by rfl) (by rfl) (fun he => by rw [he]; exact astep0 (em_moveG (by rfl) (by rfl))) ?_
        | refine ao_opt (by rfl) (by rfl) (fun he => astep0 (sem_move (.inl (by rfl)))) ?_
        | refine ao_opt (by rfl) (by rfl) (fun he => by rw [he]; exact astep0 (sem_move (.inl (by rfl)))) ?_
      dsimp only [setO, setE]
      first
        | refine ao_skip (by rfl) (by rfl) ?_
        | refine ao0 (sem_indexR tyOk (by rfl) (by rfl) (by rfl) (by rfl) (by rfl) HD (by omega) (by omega)) (by rfl) (by rfl) ?_
        | refine ao0 (sem_indexAddr tyOk (by rfl) (by rfl) (by rfl) (by rfl) (by rfl) (by rfl) (by omega) (by omega)) (by rfl) (by rfl) ?_
        | refine ao0 (sem_indexAddrA tyOk (by rfl) (by rfl) (by rfl) (by rfl) (by rfl) (by rfl) (by omega) (by omega)) (by rfl) (by rfl) ?_
        | refine ao_opt (by rfl) (by rfl) (fun he => astep0 (sem_indexR tyOk (by rfl) (by rfl) (by rfl) (by rfl) (by rfl) HD (by first | omega | (simp at he; omega) | (simp [wexp] at he; omega) | (simp [*] at *; done)) (by first | omega | (simp at he; omega) | (simp [wexp] at he; omega) | (simp [*] at *; done)))) ?_
        | refine ao_opt (by rfl) (by rfl) (fun he => astep0 (sem_indexAddr tyOk (by rfl) (by rfl) (by rfl) (by rfl) (by rfl) (by rfl) (by first | omega | (simp at he; omega) | (simp [wexp] at he; omega) | (simp [*] at *; done)) (by first | omega | (simp at he; omega) | (simp [wexp] at he; omega) | (simp [*] at *; done)))) ?_
        | refine ao_opt (by rfl) (by rfl) (fun he => astep0 (sem_indexAddrA tyOk (by rfl) (by rfl) (by rfl) (by rfl) (by rfl) (by rfl) (by first | omega | (simp at he; omega) | (simp [wexp] at he; omega) | (simp [*] at *; done)) (by first | omega | (simp at he; omega) | (simp [wexp] at he; omega) | (simp [*] at *; done)))) ?_
        | refine ao_opt (by rfl) (by rfl) (fun he => by rw [he]; exact astep0 (sem_indexR tyOk (by rfl) (by rfl) (by rfl) (by rfl) (by rfl) HD (by omega) (by omega))) ?_
        | refine ao_opt (by rfl) (by rfl) (fun he => by rw [he]; exact astep0 (sem_indexR tyOk (by rfl) (by rfl) (by rfl) (by rfl) (by rfl) HD (by first | omega | (simp at he; omega) | (simp [wexp] at he; omega) | (simp [*] at *; done)) (by first | omega | (simp at he; omega) | (simp [wexp] at he; omega) | (simp [*] at *; done)))) ?_
        | refine ao_opt (by rfl) (by rfl) (fun he => by rw [he]; exact astep0 (sem_indexAddr tyOk (by rfl) (by rfl) (by rfl) (by rfl) (by rfl) (by rfl) (by omega) (by omega))) ?_
        | refine ao_opt (by rfl) (by rfl) (fun he => by rw [he]; exact astep0 (sem_indexAddr tyOk (by rfl) (by rfl) (by rfl) (by rfl) (by rfl) (by rfl) (by first | omega | (simp at he; omega) | (simp [wexp] at he; omega) | (simp [*] at *; done)) (by first | omega | (simp at he; omega) | (simp [wexp] at he; omega) | (simp [*] at *; done)))) ?_
        | refine ao_opt (by rfl) (by rfl) (fun he => by rw [he]; exact astep0 (sem_indexAddrA tyOk (by rfl) (by rfl) (by rfl) (by rfl) (by rfl) (by rfl) (by omega) (by omega))) ?_
        | refine ao_opt (by rfl) (by rfl) (fun he => by rw [he]; exact astep0 (sem_indexAddrA tyOk (by rfl) (by rfl) (by rfl) (by rfl) (by rfl) (by rfl) (by first | omega | (simp at he; omega) | (simp [wexp] at he; omega) | (simp [*] at *; done)) (by first | omega | (simp at he; omega) | (simp [wexp] at he; omega) | (simp [*] at *; done)))) ?_
      first
        | refine ao_skip (by rfl) (by rfl) ?_
        | refine ao_load tyOk (by rfl) (by rfl) (by rfl) (by rfl) (by rfl) (by rfl) (by rfl) (by first | trivial | exact Nat.le_of_ble_eq_true rfl | decide | (simp; done) | omega) ?_
        | refine ao_opt (by rfl) (by rfl) (fun he => astep_load tyOk (by rfl) (by rfl) (by rfl) (by rfl) (by rfl) (by first | trivial | exact Nat.le_of_ble_eq_true rfl | decide | (simp; done) | omega)) ?_
        | refine ao_opt (by rfl) (by rfl) (fun he => by rw [he]; exact astep_load tyOk (by rfl) (by rfl) (by rfl) (by rfl) (by rfl) (by first | trivial | exact Nat.le_of_ble_eq_true rfl | decide | (simp; done) | omega)) ?_
        | refine ao_opt (by rfl) (by rfl) (fun he => astep_load tyOk (by rfl) (by rfl) (by rfl) (cont_arr (by rfl) HD) (by rfl) (by first | trivial | exact Nat.le_of_ble_eq_true rfl | decide | (simp; done) | omega)) ?_
        | refine ao_opt (by rfl) (by rfl) (fun he => by rw [he]; exact astep_load tyOk (by rfl) (by rfl) (by rfl) (cont_arr (by rfl) HD) (by rfl) (by first | trivial | exact Nat.le_of_ble_eq_true rfl | decide | (simp; done) | omega)) ?_
      first
        | refine ao_skip (by rfl) (by rfl) ?_
        | refine ao_callL [] [] (hP) (by rfl) (by rfl) (by rfl) (by rfl) (by rfl) (by repeat' (first | exact True.intro | exact .inl ⟨by rfl, by rfl⟩ | exact rfl | exact .inr (.inl ⟨_, _, _, _, by rfl, by rfl⟩) | exact .inr (.inr ⟨_, _, _, _, _, _, by rfl, by rfl, by rfl, by first | exact .head _ | exact .tail _ (.head _) | exact .tail _ (.tail _ (.head _)) | exact .tail _ (.tail _ (.tail _ (.head _)))⟩) | refine And.intro ?_ ?_)) (by repeat' (first | exact True.intro | exact .inl ⟨by rfl, by rfl⟩ | exact rfl | exact .inl rfl | exact .inr (.inl ⟨_, _, _, _, by rfl, by rfl⟩) | exact .inr ⟨rfl, by simp [D.scalar, bD]⟩ | refine And.intro ?_ ?_)) (by rfl) (by rfl) (by rfl) (by decide) (by rfl) (by rfl) (by omega) (by first | rfl | (simp [keptB, notGone, (by rfl).live]; done)) (by rfl) (by rfl) (by rfl) (by rfl) (by rfl) (by rfl) (by rfl) ?_
        | refine ao_opt (by rfl) (by rfl) (fun he => by rw [he]; exact astep_callL [] [] (hP) (by rfl) (by rfl) (by rfl) (by repeat' (first | exact True.intro | exact .inl ⟨by rfl, by rfl⟩ | exact rfl | exact .inr (.inl ⟨_, _, _, _, by rfl, by rfl⟩) | exact .inr (.inr ⟨_, _, _, _, _, _, by rfl, by rfl, by rfl, by first | exact .head _ | exact .tail _ (.head _) | exact .tail _ (.tail _ (.head _)) | exact .tail _ (.tail _ (.tail _ (.head _)))⟩) | refine And.intro ?_ ?_)) (by repeat' (first | exact True.intro | exact .inl ⟨by rfl, by rfl⟩ | exact rfl | exact .inl rfl | exact .inr (.inl ⟨_, _, _, _, by rfl, by rfl⟩) | exact .inr ⟨rfl, by simp [D.scalar, bD]⟩ | refine And.intro ?_ ?_)) (by rfl) (by rfl) (by rfl) (by decide) (by rfl) (by rfl) (by omega) (by first | rfl | (simp [keptB, notGone, (by rfl).live]; done)) (by rfl) (by rfl) (by rfl) (by rfl) (by rfl) (by rfl) (by rfl)) ?_
        | refine ao_opt (by rfl) (by rfl) (fun he => astep_callL [] [] (hP) (by rfl) (by rfl) (by rfl) (by repeat' (first | exact True.intro | exact .inl ⟨by rfl, by rfl⟩ | exact rfl | exact .inr (.inl ⟨_, _, _, _, by rfl, by rfl⟩) | exact .inr (.inr ⟨_, _, _, _, _, _, by rfl, by rfl, by rfl, by first | exact .head _ | exact .tail _ (.head _) | exact .tail _ (.tail _ (.head _)) | exact .tail _ (.tail _ (.tail _ (.head _)))⟩) | refine And.intro ?_ ?_)) (by repeat' (first | exact True.intro | exact .inl ⟨by rfl, by rfl⟩ | exact rfl | exact .inl rfl | exact .inr (.inl ⟨_, _, _, _, by rfl, by rfl⟩) | exact .inr ⟨rfl, by simp [D.scalar, bD]⟩ | refine And.intro ?_ ?_)) (by rfl) (by rfl) (by rfl) (by decide) (by rfl) (by rfl) (by omega) (by first | rfl | (simp [keptB, notGone, (by rfl).live]; done)) (by rfl) (by rfl) (by rfl) (by rfl) (by rfl) (by rfl) (by rfl)) ?_
      first
        | refine ao_skip (by rfl) (by rfl) ?_
        | refine ao0 (em_binI (by rfl) (by rfl) (by rfl) (by rfl) (by first | rfl | trivial | exact ⟨rfl, by decide⟩ | exact ⟨rfl, by omega⟩ | decide | omega)) (by rfl) (by rfl) ?_
        | refine ao0 (sem_binS (by rfl) (by rfl) (by rfl) (by rfl) (by trivial)) (by rfl) (by rfl) ?_
        | refine ao_opt (by rfl) (by rfl) (fun he => astep0 (em_binI (by rfl) (by rfl) (by rfl) (by rfl) (by first | rfl | trivial | exact ⟨rfl, by decide⟩ | exact ⟨rfl, by omega⟩ | decide | omega))) ?_
        | refine ao_opt (by rfl) (by rfl) (fun he => astep0 (sem_binS (by rfl) (by rfl) (by rfl) (by rfl) (by trivial))) ?_
        | refine ao_opt (by rfl) (by rfl) (fun he => by rw [he]; exact astep0 (em_binI (by rfl) (by rfl) (by rfl) (by rfl) (by first | rfl | trivial | exact ⟨rfl, by decide⟩ | exact ⟨rfl, by omega⟩ | decide | omega))) ?_
        | refine ao_opt (by rfl) (by rfl) (fun he => by rw [he]; exact astep0 (sem_binS (by rfl) (by rfl) (by rfl) (by rfl) (by trivial))) ?_
      first
        | refine ao0 (sem_pickg (by rfl) (by rfl) (by rfl) (by rfl) (by intro hh; first | rfl | exact hh | (exact Bool.noConfusion hh) | (simp [wexp]; done) | (simp [wexp] at hh; done) | (simpa [wexp] using hh) | (simp_all; done)) (by intro hh; first | rfl | exact hh | (exact Bool.noConfusion hh) | (simp [wexp]; done) | (simp [wexp] at hh; done) | (simpa [wexp] using hh) | (simp_all; done))) (by rfl) (by rfl) ?_
        | refine ao0 (sem_pick (by rfl) (by rfl)) (by rfl) (by rfl) ?_
      refine ao_nil (by first | dsimp only [setO, setE] | rfl) (by first | dsimp only [setM, setE, setR] | rfl) (by rfl) ?_
      refine ⟨by kernel_rfl, ?_⟩
      refine AW.cond (by rfl) (fun hc2 => ?_) (fun hc2 => ?_)
      · skip
        have hno : ¬ catP cs := fun h => by have h := (catQ_at hlt).1 (h.2 i hlt); rcases or_T hc2 with e | e; (simp [labsB_T h.1] at e); (obtain ⟨k, hk, ek⟩ := (hasK_take (by omega)).1 (findK_ge.1 (by simpa using e)); exact h.2 k hk ek)
        refine AW.seq ?_
        refine AW.region ?_
        first
          | refine ao0 (em_assign (by rfl) (by rfl)) (by rfl) (by rfl) ?_
          | refine ao0 (em_assignG (by rfl) (by rfl)) (by rfl) (by rfl) ?_
          | refine ao0 (sem_move (.inr (by rfl))) (by rfl) (by rfl) ?_
        refine ao_nil (by first | dsimp only [setO, setE] | rfl) (by first | dsimp only [setM, setE, setR] | rfl) (by rfl) ?_
        refine AW.ret ?_
        refine retA_data (n := 0) rfl (by rfl) ?_ rfl rfl _ (.inr rfl)
        first | exact pack_b (catB_F hno).symm | exact pack_b hys.symm
      · skip
        have hq : catQ cs i := (catQ_at hlt).2 (by obtain ⟨e1, e2⟩ := or_F hc2; refine ⟨labsB_of (by simpa using e1), fun k hk ek => ?_⟩; have := findK_ge.2 ((hasK_take (by omega)).2 ⟨k, hk, ek⟩); simp at e2; simp only [keyS] at this; omega)
        refine AW.skip ?_
        refine AW.region ?_
        first
          | refine ao0 (em_move (by rfl) (by rfl)) (by rfl) (by rfl) ?_
          | refine ao0 (em_moveG (by rfl) (by rfl)) (by rfl) (by rfl) ?_
          | refine ao0 (sem_move (.inl (by rfl))) (by rfl) (by rfl) ?_
        first
          | refine ao0 (em_add (by rfl) (by rfl) (by rfl) (by omega) (by omega)) (by rfl) (by rfl) ?_
          | refine ao0 (em_add8 (by rfl) (by rfl) (by rfl) (by omega) (by omega)) (by rfl) (by rfl) ?_
          | refine ao0 (em_binI (by rfl) (by rfl) (by rfl) (by rfl) (by first | rfl | trivial | exact ⟨rfl, by decide⟩ | exact ⟨rfl, by omega⟩ | decide | omega)) (by rfl) (by rfl) ?_
          | refine ao0 (sem_binS (by rfl) (by rfl) (by rfl) (by rfl) (by trivial)) (by rfl) (by rfl) ?_
        first
          | refine ao0 (em_assign (by rfl) (by rfl)) (by rfl) (by rfl) ?_
          | refine ao0 (em_assignG (by rfl) (by rfl)) (by rfl) (by rfl) ?_
          | refine ao0 (sem_move (.inr (by rfl))) (by rfl) (by rfl) ?_
        refine ao_nil (by first | dsimp only [setO, setE] | rfl) (by first | dsimp only [setM, setE, setR] | rfl) (by rfl) ?_
        refine ⟨⟨i + 1, hlt, hall.succ hq⟩, by dsimp only; omega, ?_⟩
        dsimp only [updL, setE]
        refine into_lists [] ?_ ?_ rfl rfl (by decide) (by rfl) (by rfl) (by rfl) (by rfl) (by omega)
        all_goals (try (repeat' (first | exact True.intro | exact Or.inl rfl | exact Or.inr (Or.inl rfl) | refine And.intro ?_ ?_ | exact le_i (by omega) | exact le_own (by rfl) (by rfl) (by first | rfl | omega) | exact le_arr (by rfl) (by rfl) (by first | rfl | omega) (by rfl) | exact Or.inr (Or.inr (Or.inl ⟨_, _, rfl, rfl⟩)) | exact Or.inr (Or.inr ⟨_, _, rfl⟩) | exact Or.inr (Or.inr (Or.inr ⟨_, _, _, _, rfl, rfl⟩)))))
    · skip
      have hge : i = cs.length := by simp at hc1; omega
      subst hge
      have hys := catB_end hall
      refine AW.exit ?_
      refine AW.seq ?_
      refine AW.region ?_
      first
        | refine ao0 (em_move (by rfl) (by rfl)) (by rfl) (by rfl) ?_
        | refine ao0 (em_moveG (by rfl) (by rfl)) (by rfl) (by rfl) ?_
        | refine ao0 (sem_move (.inl (by rfl))) (by rfl) (by rfl) ?_
      first
        | refine ao0 (sem_len tyOk (by rfl) (by rfl) (by rfl) (by rfl) (by first | exact .inl ⟨_, _, _, rfl⟩ | exact .inr ⟨_, _, rfl⟩)) (by rfl) (by rfl) ?_
        | refine ao0 (sem_len_str tyOk (by rfl) (by rfl) (by rfl) (by rfl)) (by rfl) (by rfl) ?_
      first
        | refine ao0 (em_binI (by rfl) (by rfl) (by rfl) (by rfl) (by first | rfl | trivial | exact ⟨rfl, by decide⟩ | exact ⟨rfl, by omega⟩ | decide | omega)) (by rfl) (by rfl) ?_
        | refine ao0 (sem_binS (by rfl) (by rfl) (by rfl) (by rfl) (by trivial)) (by rfl) (by rfl) ?_
      first
        | refine ao0 (em_assign (by rfl) (by rfl)) (by rfl) (by rfl) ?_
        | refine ao0 (em_assignG (by rfl) (by rfl)) (by rfl) (by rfl) ?_
        | refine ao0 (sem_move (.inr (by rfl))) (by rfl) (by rfl) ?_
      refine ao_nil (by first | dsimp only [setO, setE] | rfl) (by first | dsimp only [setM, setE, setR] | rfl) (by rfl) ?_
      refine AW.ret ?_
      refine retA_data (n := 0) rfl (by rfl) ?_ rfl rfl _ (.inr rfl)
      first | exact pack_b (catB_F hno).symm | exact pack_b hys.symm
end Go.Proofs.Ytpobimdcphjljaa
