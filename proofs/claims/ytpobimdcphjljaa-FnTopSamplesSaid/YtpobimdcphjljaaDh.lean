/-
  Drawn samples.
-/
import Derived.Test.YtpobimdcphjljaaDg
namespace Go.Proofs.Ytpobimdcphjljaa
open Go
set_option linter.unusedVariables false
set_option linter.unusedSimpArgs false
set_option linter.unnecessarySimpa false
set_option maxRecDepth 4000

theorem set1S (xs : List samT) (k : Nat) (h : k < xs.length) (z : Int) : setR (xs.flatMap samD) (k * 2 + 1) [.i .i64 z] = (xs.set k (xs[k].1, xs[k].2.1, z)).flatMap samD := by
  have hl := flat_len samD 2 samD_len xs
  have hd := flat_at samD 2 samD_len xs k h
  rw [Int.toNat_natCast] at hd
  rw [setR_eq _ _ _ (by rw [hl]; simp only [List.length_cons, List.length_nil]; omega), List.take_add, flat_take samD 2 samD_len, hd, List.set_eq_take_append_cons_drop, if_pos h, List.flatMap_append, List.flatMap_cons]
  rw [show k * 2 + 1 + [D.i IntKind.i64 z].length = (k + 1) * 2 by simp only [List.length_cons, List.length_nil]; omega, flat_drop samD 2 samD_len]
  simp [samD]
def samGo (l : List Nat) (p : Nat) (cs : List samT) (i : Nat) : List samT := (List.range i).map fun j => ((atD cs sam0 j).1, (atD cs sam0 j).2.1, someValueZ l (p + 3 * j))
theorem samGo_len (l : List Nat) (p : Nat) (cs : List samT) (i : Nat) : (samGo l p cs i).length = i := by simp [samGo]
theorem samGo_snoc (l : List Nat) (p : Nat) (cs : List samT) (i : Nat) (h : i < cs.length) : (samGo l p cs i).flatMap samD ++ samD (cs[i].1, cs[i].2.1, someValueZ l (p + 3 * i)) = (samGo l p cs (i + 1)).flatMap samD := by
  have e : samGo l p cs (i + 1) = samGo l p cs i ++ [(cs[i].1, cs[i].2.1, someValueZ l (p + 3 * i))] := by
    unfold samGo; rw [List.range_succ, List.map_append, List.map_singleton, getD_at h]
  rw [e, List.flatMap_append, List.flatMap_cons, List.flatMap_nil, List.append_nil]
theorem samGo_I {n : Nat} {l : List Nat} {p : Nat} {cs : List samT} (h : catI n cs) : catI n (samGo l p cs cs.length) := by
  refine ⟨by rw [samGo_len]; exact h.1, fun x hx => ?_⟩
  unfold samGo at hx
  obtain ⟨j, hj, rfl⟩ := List.mem_map.1 hx
  have hj := List.mem_range.1 hj
  have := h.2 _ (List.getElem_mem hj)
  rw [← getD_at (d := sam0) hj] at this
  exact this
theorem catI_set {n : Nat} {xs : List samT} (h : catI n xs) (k : Nat) (hk : k < xs.length) (z : Int) : catI n (xs.set k (xs[k].1, xs[k].2.1, z)) := by
  refine ⟨by rw [List.length_set]; exact h.1, fun x hx => ?_⟩
  rcases List.mem_or_eq_of_mem_set hx with hx | rfl
  · exact h.2 x hx
  · exact h.2 xs[k] (List.getElem_mem hk)
set_option maxHeartbeats 2000000 in
theorem anySamples_ok (nn : Bool) (l : List Nat) (p : Nat) (hl : l.length ≤ 2000) (hp : p ≤ 40000) (hnn : nn = false → l = []) (hb : ∀ b ∈ l, b ≤ 255) : ∃ (xs : List samT) (q : Nat), catI 13 xs ∧ q ≤ 250 ∧ FnOk Try.prog noG 31 [.v false [.ref 0 0]] [rdr nn l p] (.v false [.own true 1 xs.length]) [rdr nn l (p + q), samR true xs] := by
  obtain ⟨cs, q, hcs, hq, hC⟩ := someCatalog_ok nn l p hl (by omega) hnn hb
  obtain ⟨P, hP⟩ : ∃ P, P = p + q := ⟨_, rfl⟩
  rw [← hP] at hC
  have hcl := hcs.1
  have hfc := flat_len catD 1 catD_len cs
  have hxs := samGo_I (l := l) (p := P) hcs
  have hxl := samGo_len l P cs cs.length
  have hfx := flat_len samD 2 samD_len (samGo l P cs cs.length)
  by_cases c0 : cs.length = 0
  · refine ⟨samGo l P cs cs.length, P - p, hxs, by omega, ?_⟩
    rw [hxl]
    refine fnOk_of' (k := 1) tyOk Try.func31 rfl (by kernel_rfl) Try.ntmps31 (by rw [Try.results31]) rfl (by simp only [List.length_cons, List.length_nil, Nat.reduceAdd, Nat.reduceSub, List.replicate_succ, List.replicate_zero, List.cons_append, List.nil_append]; rfl) (by simp) (by simp) (fun r hr => ((keptB_get (by first | rfl | (simp [keptB, notGone, R.live]; done))).2 r hr).2) fun base => ?_
    refine AW.seq ?_
    refine AW.region ?_
    refine ao0 (em_assign (by rfl) (by rfl)) (by rfl) (by rfl) ?_
    refine ao_nil (by first | dsimp only [setO, setE] | rfl) (by first | dsimp only [setM, setE, setR] | rfl) (by rfl) ?_
    refine AW.seq ?_
    refine AW.region ?_
    refine ao1 (sem_buildSlice0 tyOk (by rfl) (by rfl) (by rfl) (by rfl)) (by omega) (by rfl) (by rfl) ?_
    refine ao0 (em_assign (by rfl) (by rfl)) (by rfl) (by rfl) ?_
    refine ao_nil (by first | dsimp only [setO, setE] | rfl) (by first | dsimp only [setM, setE, setR] | rfl) (by rfl) ?_
    refine AW.seq ?_
    refine AW.region ?_
    refine ao0 (em_move (by rfl) (by rfl)) (by rfl) (by rfl) ?_
    refine ao_callL [0] [] (hC) (by rfl) (by rfl) (by rfl) (by rfl) (by rfl) (by repeat' (first | exact True.intro | exact .inl ⟨by rfl, by rfl⟩ | exact rfl | exact .inr (.inl ⟨_, _, _, _, by rfl, by rfl⟩) | exact .inr (.inr ⟨_, _, _, _, _, _, by rfl, by rfl, by rfl, by first | exact .head _ | exact .tail _ (.head _) | exact .tail _ (.tail _ (.head _)) | exact .tail _ (.tail _ (.tail _ (.head _)))⟩) | refine And.intro ?_ ?_)) (by repeat' (first | exact True.intro | exact .inl ⟨by rfl, by rfl⟩ | exact rfl | exact .inl rfl | exact .inr (.inl ⟨_, _, _, _, by rfl, by rfl⟩) | exact .inr ⟨rfl, by simp [D.scalar, bD]⟩ | refine And.intro ?_ ?_)) (by rfl) (by rfl) (by rfl) (by decide) (by rfl) (by rfl) (by omega) (by first | rfl | (simp [keptB, notGone, (by rfl).live]; done)) (by rfl) (by rfl) (by rfl) (by rfl) (by rfl) (by rfl) (by rfl) ?_
    refine ao0 (em_assign (by rfl) (by rfl)) (by rfl) (by rfl) ?_
    refine ao_nil (by first | dsimp only [setO, setE] | rfl) (by first | dsimp only [setM, setE, setR] | rfl) (by rfl) ?_
    refine AW.seq ?_
    refine AW.seq ?_
    refine AW.region ?_
    refine ao0 (em_assign (by rfl) (by rfl)) (by rfl) (by rfl) ?_
    refine ao_nil (by first | dsimp only [setO, setE] | rfl) (by first | dsimp only [setM, setE, setR] | rfl) (by rfl) ?_
    refine AW.block ?_
    refine AW.loopU (X := {i : Nat // i ≤ cs.length}) (fun i => [(5, .v false [.i .i64 (i.1 : Int)]), (3, .v false [.own true 1 i.1]), (4, .v false [.own true 2 cs.length]), (1, .any), (6, .any), (7, .any), (8, .any), (9, .any), (10, .any), (11, .any), (12, .any), (13, .any), (14, .any), (15, .any), (16, .any), (17, .any), (18, .any), (19, .any), (20, .any), (21, .any), (22, .any), (23, .any), (24, .any)]) (fun i => [rdr nn l (P + 3 * i.1), .arr 31 true true i.1 ((samGo l P cs i.1).flatMap samD), catR true cs]) 3 (fun i => cs.length - i.1) ⟨0, Nat.zero_le _⟩ ?_ ?_
    · skip
      dsimp only [updL, setE]
      refine into_lists [0, 1, 2] ?_ ?_ rfl rfl (by decide) (by rfl) (by rfl) (by rfl) (by rfl) (by omega)
      all_goals (try (repeat' (first | exact True.intro | exact Or.inl rfl | exact Or.inr (Or.inl rfl) | refine And.intro ?_ ?_ | exact le_i (by omega) | exact le_own (by rfl) (by rfl) (by first | rfl | omega) | exact le_arr (by rfl) (by rfl) (by first | rfl | omega) (by rfl) | exact Or.inr (Or.inr (Or.inl ⟨_, _, rfl, rfl⟩)) | exact Or.inr (Or.inr ⟨_, _, rfl⟩) | exact Or.inr (Or.inr (Or.inr ⟨_, _, _, _, rfl, rfl⟩)))))
      all_goals first | exact le_i (by rfl) | exact le_rdr (by rfl) (by rfl) | exact le_arr (by rfl) (by rfl) (by rfl) (by rfl) | exact le_own (by rfl) (by rfl) (by rfl)
    · intro i
      refine AW.norm (by first | dsimp only [updL, setE] | rfl) rfl rfl ?_
      obtain ⟨i, hi⟩ := i
      dsimp only
      refine AW.seq ?_
      refine AW.seq ?_
      refine AW.region ?_
      refine ao0 (em_move (by rfl) (by rfl)) (by rfl) (by rfl) ?_
      refine ao0 (em_move (by rfl) (by rfl)) (by rfl) (by rfl) ?_
      refine ao0 (sem_len tyOk (by rfl) (by rfl) (by rfl) (by rfl) (by first | exact .inl ⟨_, _, _, rfl⟩ | exact .inr ⟨_, _, rfl⟩)) (by rfl) (by rfl) ?_
      refine ao0 (em_binI (by rfl) (by rfl) (by rfl) (by rfl) (by first | rfl | trivial | exact ⟨rfl, by decide⟩ | exact ⟨rfl, by omega⟩ | decide | omega)) (by rfl) (by rfl) ?_
      refine ao_nil (by first | dsimp only [setO, setE] | rfl) (by first | dsimp only [setM, setE, setR] | rfl) (by rfl) ?_
      refine AW.cond (by rfl) (fun hc1 => ?_) (fun hc1 => ?_)
      · skip
        exfalso; simp at hc1; omega
      · skip
        have hge : i = cs.length := by simp at hc1; omega
        subst hge
        refine AW.exit ?_
        refine AW.seq ?_
        refine AW.seq ?_
        refine AW.region ?_
        refine ao0 (em_move (by rfl) (by rfl)) (by rfl) (by rfl) ?_
        refine ao0 (sem_len tyOk (by rfl) (by rfl) (by rfl) (by rfl) (by first | exact .inl ⟨_, _, _, rfl⟩ | exact .inr ⟨_, _, rfl⟩)) (by rfl) (by rfl) ?_
        refine ao0 (em_binI (by rfl) (by rfl) (by rfl) (by rfl) (by first | rfl | trivial | exact ⟨rfl, by decide⟩ | exact ⟨rfl, by omega⟩ | decide | omega)) (by rfl) (by rfl) ?_
        rw [decide_eq_false (show ¬ (0 : Int) < (cs.length : Int) by omega)]
        refine ao0 (em_move (by rfl) (by rfl)) (by rfl) (by rfl) ?_
        refine ao_skip (by rfl) (by rfl) ?_
        refine ao_skip (by rfl) (by rfl) ?_
        refine ao_skip (by rfl) (by rfl) ?_
        refine ao0 (sem_pick (by rfl) (by rfl)) (by rfl) (by rfl) ?_
        refine ao_nil (by first | dsimp only [setO, setE] | rfl) (by first | dsimp only [setM, setE, setR] | rfl) (by rfl) ?_
        refine AW.cond (by rfl) (fun hc2 => ?_) (fun hc2 => ?_)
        · skip
          exfalso; simp at hc2
        · skip
          refine AW.skip ?_
          refine AW.seq ?_
          refine AW.region ?_
          refine ao0 (em_move (by rfl) (by rfl)) (by rfl) (by rfl) ?_
          refine ao0 (em_assign (by rfl) (by rfl)) (by rfl) (by rfl) ?_
          refine ao_nil (by first | dsimp only [setO, setE] | rfl) (by first | dsimp only [setM, setE, setR] | rfl) (by rfl) ?_
          refine AW.ret ?_
          refine retA_own (n := 0) [0, 1] (by rfl) ?_ ?_ rfl (by simp) (by rfl) (by rfl) (by rfl) (by rfl) (by simp) _ (.inr rfl)
          · exact ⟨le_rdr (by rfl) (by omega), le_arr (by rfl) (by rfl) (by rw [hxl]) (by rfl), trivial⟩
          · exact le_own (by rfl) (by rfl) (by rfl)
  · have hk := pick_ok nn l (P + 3 * cs.length) 20 hl (by omega) hnn hb
    by_cases c1 : pickN l (P + 3 * cs.length) 20 = 0
    · have hm := pick_ok nn l (P + 3 * cs.length + 1) cs.length hl (by omega) hnn hb
      have hmb := pickN_lt l (P + 3 * cs.length + 1) cs.length (by omega)
      have h1 := one_ok nn l (P + 3 * cs.length + 1 + 1) [1001, -1001] hl (by omega) hnn hb (by decide)
      obtain ⟨k, hkk⟩ : ∃ k, k = pickN l (P + 3 * cs.length + 1) cs.length := ⟨_, rfl⟩
      rw [← hkk] at hm hmb
      obtain ⟨z, hz⟩ : ∃ z, z = oneZ l (P + 3 * cs.length + 1 + 1) [1001, -1001] := ⟨_, rfl⟩
      rw [← hz] at h1
      obtain ⟨Y, hYl, hYI, hst⟩ : ∃ Y : List samT, Y.length = cs.length ∧ catI 13 Y ∧ setR ((samGo l P cs cs.length).flatMap samD) (k * 2 + 1) [.i .i64 z] = Y.flatMap samD := ⟨_, by rw [List.length_set, hxl], catI_set hxs k (by omega) z, set1S (samGo l P cs cs.length) k (by omega) z⟩
      refine ⟨Y, P + 3 * cs.length + 3 - p, hYI, by omega, ?_⟩
      rw [hYl]
      refine fnOk_of' (k := 1) tyOk Try.func31 rfl (by kernel_rfl) Try.ntmps31 (by rw [Try.results31]) rfl (by simp only [List.length_cons, List.length_nil, Nat.reduceAdd, Nat.reduceSub, List.replicate_succ, List.replicate_zero, List.cons_append, List.nil_append]; rfl) (by simp) (by simp) (fun r hr => ((keptB_get (by first | rfl | (simp [keptB, notGone, R.live]; done))).2 r hr).2) fun base => ?_
      refine AW.seq ?_
      refine AW.region ?_
      refine ao0 (em_assign (by rfl) (by rfl)) (by rfl) (by rfl) ?_
      refine ao_nil (by first | dsimp only [setO, setE] | rfl) (by first | dsimp only [setM, setE, setR] | rfl) (by rfl) ?_
      refine AW.seq ?_
      refine AW.region ?_
      refine ao1 (sem_buildSlice0 tyOk (by rfl) (by rfl) (by rfl) (by rfl)) (by omega) (by rfl) (by rfl) ?_
      refine ao0 (em_assign (by rfl) (by rfl)) (by rfl) (by rfl) ?_
      refine ao_nil (by first | dsimp only [setO, setE] | rfl) (by first | dsimp only [setM, setE, setR] | rfl) (by rfl) ?_
      refine AW.seq ?_
      refine AW.region ?_
      refine ao0 (em_move (by rfl) (by rfl)) (by rfl) (by rfl) ?_
      refine ao_callL [0] [] (hC) (by rfl) (by rfl) (by rfl) (by rfl) (by rfl) (by repeat' (first | exact True.intro | exact .inl ⟨by rfl, by rfl⟩ | exact rfl | exact .inr (.inl ⟨_, _, _, _, by rfl, by rfl⟩) | exact .inr (.inr ⟨_, _, _, _, _, _, by rfl, by rfl, by rfl, by first | exact .head _ | exact .tail _ (.head _) | exact .tail _ (.tail _ (.head _)) | exact .tail _ (.tail _ (.tail _ (.head _)))⟩) | refine And.intro ?_ ?_)) (by repeat' (first | exact True.intro | exact .inl ⟨by rfl, by rfl⟩ | exact rfl | exact .inl rfl | exact .inr (.inl ⟨_, _, _, _, by rfl, by rfl⟩) | exact .inr ⟨rfl, by simp [D.scalar, bD]⟩ | refine And.intro ?_ ?_)) (by rfl) (by rfl) (by rfl) (by decide) (by rfl) (by rfl) (by omega) (by first | rfl | (simp [keptB, notGone, (by rfl).live]; done)) (by rfl) (by rfl) (by rfl) (by rfl) (by rfl) (by rfl) (by rfl) ?_
      refine ao0 (em_assign (by rfl) (by rfl)) (by rfl) (by rfl) ?_
      refine ao_nil (by first | dsimp only [setO, setE] | rfl) (by first | dsimp only [setM, setE, setR] | rfl) (by rfl) ?_
      refine AW.seq ?_
      refine AW.seq ?_
      refine AW.region ?_
      refine ao0 (em_assign (by rfl) (by rfl)) (by rfl) (by rfl) ?_
      refine ao_nil (by first | dsimp only [setO, setE] | rfl) (by first | dsimp only [setM, setE, setR] | rfl) (by rfl) ?_
      refine AW.block ?_
      refine AW.loopU (X := {i : Nat // i ≤ cs.length}) (fun i => [(5, .v false [.i .i64 (i.1 : Int)]), (3, .v false [.own true 1 i.1]), (4, .v false [.own true 2 cs.length]), (1, .any), (6, .any), (7, .any), (8, .any), (9, .any), (10, .any), (11, .any), (12, .any), (13, .any), (14, .any), (15, .any), (16, .any), (17, .any), (18, .any), (19, .any), (20, .any), (21, .any), (22, .any), (23, .any), (24, .any)]) (fun i => [rdr nn l (P + 3 * i.1), .arr 31 true true i.1 ((samGo l P cs i.1).flatMap samD), catR true cs]) 3 (fun i => cs.length - i.1) ⟨0, Nat.zero_le _⟩ ?_ ?_
      · skip
        dsimp only [updL, setE]
        refine into_lists [0, 1, 2] ?_ ?_ rfl rfl (by decide) (by rfl) (by rfl) (by rfl) (by rfl) (by omega)
        all_goals (try (repeat' (first | exact True.intro | exact Or.inl rfl | exact Or.inr (Or.inl rfl) | refine And.intro ?_ ?_ | exact le_i (by omega) | exact le_own (by rfl) (by rfl) (by first | rfl | omega) | exact le_arr (by rfl) (by rfl) (by first | rfl | omega) (by rfl) | exact Or.inr (Or.inr (Or.inl ⟨_, _, rfl, rfl⟩)) | exact Or.inr (Or.inr ⟨_, _, rfl⟩) | exact Or.inr (Or.inr (Or.inr ⟨_, _, _, _, rfl, rfl⟩)))))
        all_goals first | exact le_i (by rfl) | exact le_rdr (by rfl) (by rfl) | exact le_arr (by rfl) (by rfl) (by rfl) (by rfl) | exact le_own (by rfl) (by rfl) (by rfl)
      · intro i
        refine AW.norm (by first | dsimp only [updL, setE] | rfl) rfl rfl ?_
        obtain ⟨i, hi⟩ := i
        dsimp only
        have hgl := samGo_len l P cs i
        have hfg := flat_len samD 2 samD_len (samGo l P cs i)
        refine AW.seq ?_
        refine AW.seq ?_
        refine AW.region ?_
        refine ao0 (em_move (by rfl) (by rfl)) (by rfl) (by rfl) ?_
        refine ao0 (em_move (by rfl) (by rfl)) (by rfl) (by rfl) ?_
        refine ao0 (sem_len tyOk (by rfl) (by rfl) (by rfl) (by rfl) (by first | exact .inl ⟨_, _, _, rfl⟩ | exact .inr ⟨_, _, rfl⟩)) (by rfl) (by rfl) ?_
        refine ao0 (em_binI (by rfl) (by rfl) (by rfl) (by rfl) (by first | rfl | trivial | exact ⟨rfl, by decide⟩ | exact ⟨rfl, by omega⟩ | decide | omega)) (by rfl) (by rfl) ?_
        refine ao_nil (by first | dsimp only [setO, setE] | rfl) (by first | dsimp only [setM, setE, setR] | rfl) (by rfl) ?_
        refine AW.cond (by rfl) (fun hc1 => ?_) (fun hc1 => ?_)
        · skip
          have hlt : i < cs.length := by simp at hc1; omega
          have HD := flat_at catD 1 catD_len cs i hlt
          refine AW.skip ?_
          refine AW.seq ?_
          refine AW.block ?_
          refine AW.draw follows0 (by kernel_rfl) ?_
          refine ao0 (em_move (by rfl) (by rfl)) (by rfl) (by rfl) ?_
          refine ao0 (em_move (by rfl) (by rfl)) (by rfl) (by rfl) ?_
          refine ao0 (em_move (by rfl) (by rfl)) (by rfl) (by rfl) ?_
          refine ao0 (sem_indexAddr tyOk (by rfl) (by rfl) (by rfl) (by rfl) (by rfl) (by rfl) (by omega) (by omega)) (by rfl) (by rfl) ?_
          refine ao_load tyOk (by rfl) (by rfl) (by rfl) (by rfl) (by rfl) (cont_arr (by rfl) HD) (by rfl) (by first | trivial | exact Nat.le_of_ble_eq_true rfl | decide | (simp; done) | omega) ?_
          refine ao0 (em_move (by rfl) (by rfl)) (by rfl) (by rfl) ?_
          refine ao_callL [0] [] (someValue_fn nn l (P + 3 * i) hl (by omega) hnn hb) (by rfl) (by rfl) (by rfl) (by rfl) (by rfl) (by repeat' (first | exact True.intro | exact .inl ⟨by rfl, by rfl⟩ | exact rfl | exact .inr (.inl ⟨_, _, _, _, by rfl, by rfl⟩) | exact .inr (.inr ⟨_, _, _, _, _, _, by rfl, by rfl, by rfl, by first | exact .head _ | exact .tail _ (.head _) | exact .tail _ (.tail _ (.head _)) | exact .tail _ (.tail _ (.tail _ (.head _)))⟩) | refine And.intro ?_ ?_)) (by repeat' (first | exact True.intro | exact .inl ⟨by rfl, by rfl⟩ | exact rfl | exact .inl rfl | exact .inr (.inl ⟨_, _, _, _, by rfl, by rfl⟩) | exact .inr ⟨rfl, by simp [D.scalar, bD]⟩ | refine And.intro ?_ ?_)) (by rfl) (by rfl) (by rfl) (by decide) (by rfl) (by rfl) (by omega) (by first | rfl | (simp [keptB, notGone, (by rfl).live]; done)) (by rfl) (by rfl) (by rfl) (by rfl) (by rfl) (by rfl) (by rfl) ?_
          refine ao0 (sem_build tyOk (by rfl) (by rfl) (by rfl) (by rfl)) (by rfl) (by rfl) ?_
          refine ao1 (sem_buildSlice tyOk (by rfl) (by rfl) (by rfl) (by rfl) (by rfl) (by rfl) (by rfl) (by decide) (by decide) (by rfl)) (by omega) (by rfl) (by rfl) ?_
          refine ao_append_own tyOk (by rfl) (by rfl) (by rfl) (by rfl) (by rfl) (by rfl) (by rfl) (by rfl) (by rfl) (by rfl) (by first | rfl | exact sliceOf_own (by rfl)) (by first | rfl | decide | (simp; done) | omega) (by first | decide | omega | (unfold maxLen; omega)) (by first | decide | omega | (dsimp only; omega)) (by first | omega | exact Nat.le_of_ble_eq_true rfl) (by first | omega | exact Nat.le_of_ble_eq_true rfl) ?_
          refine ao0 (em_assign (by rfl) (by rfl)) (by rfl) (by rfl) ?_
          refine ao_nil (by first | dsimp only [setO, setE] | rfl) (by first | dsimp only [setM, setE, setR] | rfl) (by rfl) ?_
          refine ⟨by kernel_rfl, ?_⟩
          refine AW.region ?_
          refine ao0 (em_move (by rfl) (by rfl)) (by rfl) (by rfl) ?_
          refine ao0 (em_add (by rfl) (by rfl) (by rfl) (by omega) (by omega)) (by rfl) (by rfl) ?_
          refine ao0 (em_assign (by rfl) (by rfl)) (by rfl) (by rfl) ?_
          refine ao_nil (by first | dsimp only [setO, setE] | rfl) (by first | dsimp only [setM, setE, setR] | rfl) (by rfl) ?_
          refine ⟨⟨i + 1, hlt⟩, by dsimp only; omega, ?_⟩
          dsimp only [updL, setE]
          refine into_lists [0, 4, 2] ?_ ?_ rfl rfl (by decide) (by rfl) (by rfl) (by rfl) (by rfl) (by omega)
          all_goals (try (repeat' (first | exact True.intro | exact Or.inl rfl | exact Or.inr (Or.inl rfl) | refine And.intro ?_ ?_ | exact le_i (by omega) | exact le_own (by rfl) (by rfl) (by first | rfl | omega) | exact le_arr (by rfl) (by rfl) (by first | rfl | omega) (by rfl) | exact Or.inr (Or.inr (Or.inl ⟨_, _, rfl, rfl⟩)) | exact Or.inr (Or.inr ⟨_, _, rfl⟩) | exact Or.inr (Or.inr (Or.inr ⟨_, _, _, _, rfl, rfl⟩)))))
          all_goals first | exact le_i (by dsimp only; omega) | exact le_rdr (by rfl) (by omega) | exact le_arr (by rfl) (by rfl) (by rfl) (by rw [← samGo_snoc l P cs i hlt]; rfl) | exact le_arr (by rfl) (by rfl) (by rfl) (by rfl) | exact le_own (by rfl) (by rfl) (by rfl)
        · skip
          have hge : i = cs.length := by simp at hc1; omega
          subst hge
          refine AW.exit ?_
          refine AW.seq ?_
          refine AW.seq ?_
          refine AW.region ?_
          refine ao0 (em_move (by rfl) (by rfl)) (by rfl) (by rfl) ?_
          refine ao0 (sem_len tyOk (by rfl) (by rfl) (by rfl) (by rfl) (by first | exact .inl ⟨_, _, _, rfl⟩ | exact .inr ⟨_, _, rfl⟩)) (by rfl) (by rfl) ?_
          refine ao0 (em_binI (by rfl) (by rfl) (by rfl) (by rfl) (by first | rfl | trivial | exact ⟨rfl, by decide⟩ | exact ⟨rfl, by omega⟩ | decide | omega)) (by rfl) (by rfl) ?_
          rw [decide_eq_true (show (0 : Int) < (cs.length : Int) by omega)]
          refine ao0 (em_move (by rfl) (by rfl)) (by rfl) (by rfl) ?_
          refine ao0 (em_move (by rfl) (by rfl)) (by rfl) (by rfl) ?_
          refine ao_callL [0] [] (hk) (by rfl) (by rfl) (by rfl) (by rfl) (by rfl) (by repeat' (first | exact True.intro | exact .inl ⟨by rfl, by rfl⟩ | exact rfl | exact .inr (.inl ⟨_, _, _, _, by rfl, by rfl⟩) | exact .inr (.inr ⟨_, _, _, _, _, _, by rfl, by rfl, by rfl, by first | exact .head _ | exact .tail _ (.head _) | exact .tail _ (.tail _ (.head _)) | exact .tail _ (.tail _ (.tail _ (.head _)))⟩) | refine And.intro ?_ ?_)) (by repeat' (first | exact True.intro | exact .inl ⟨by rfl, by rfl⟩ | exact rfl | exact .inl rfl | exact .inr (.inl ⟨_, _, _, _, by rfl, by rfl⟩) | exact .inr ⟨rfl, by simp [D.scalar, bD]⟩ | refine And.intro ?_ ?_)) (by rfl) (by rfl) (by rfl) (by decide) (by rfl) (by rfl) (by omega) (by first | rfl | (simp [keptB, notGone, (by rfl).live]; done)) (by rfl) (by rfl) (by rfl) (by rfl) (by rfl) (by rfl) (by rfl) ?_
          refine ao0 (em_binI (by rfl) (by rfl) (by rfl) (by rfl) (by first | rfl | trivial | exact ⟨rfl, by decide⟩ | exact ⟨rfl, by omega⟩ | decide | omega)) (by rfl) (by rfl) ?_
          refine ao0 (sem_pickg (by rfl) (by rfl) (by rfl) (by rfl) (by intro hh; first | rfl | exact hh | (exact Bool.noConfusion hh) | (simp [wexp]; done) | (simp [wexp] at hh; done) | (simpa [wexp] using hh) | (simp_all; done)) (by intro hh; first | rfl | exact hh | (exact Bool.noConfusion hh) | (simp [wexp]; done) | (simp [wexp] at hh; done) | (simpa [wexp] using hh) | (simp_all; done))) (by rfl) (by rfl) ?_
          refine ao_nil (by first | dsimp only [setO, setE] | rfl) (by first | dsimp only [setM, setE, setR] | rfl) (by rfl) ?_
          refine AW.cond (by rfl) (fun hc2 => ?_) (fun hc2 => ?_)
          · skip
            refine AW.region ?_
            refine ao0 (em_move (by rfl) (by rfl)) (by rfl) (by rfl) ?_
            refine ao0 (em_move (by rfl) (by rfl)) (by rfl) (by rfl) ?_
            refine ao0 (em_move (by rfl) (by rfl)) (by rfl) (by rfl) ?_
            refine ao0 (sem_len tyOk (by rfl) (by rfl) (by rfl) (by rfl) (by first | exact .inl ⟨_, _, _, rfl⟩ | exact .inr ⟨_, _, rfl⟩)) (by rfl) (by rfl) ?_
            refine ao_callL [0] [] (hm) (by rfl) (by rfl) (by rfl) (by rfl) (by rfl) (by repeat' (first | exact True.intro | exact .inl ⟨by rfl, by rfl⟩ | exact rfl | exact .inr (.inl ⟨_, _, _, _, by rfl, by rfl⟩) | exact .inr (.inr ⟨_, _, _, _, _, _, by rfl, by rfl, by rfl, by first | exact .head _ | exact .tail _ (.head _) | exact .tail _ (.tail _ (.head _)) | exact .tail _ (.tail _ (.tail _ (.head _)))⟩) | refine And.intro ?_ ?_)) (by repeat' (first | exact True.intro | exact .inl ⟨by rfl, by rfl⟩ | exact rfl | exact .inl rfl | exact .inr (.inl ⟨_, _, _, _, by rfl, by rfl⟩) | exact .inr ⟨rfl, by simp [D.scalar, bD]⟩ | refine And.intro ?_ ?_)) (by rfl) (by rfl) (by rfl) (by decide) (by rfl) (by rfl) (by omega) (by first | rfl | (simp [keptB, notGone, (by rfl).live]; done)) (by rfl) (by rfl) (by rfl) (by rfl) (by rfl) (by rfl) (by rfl) ?_
            refine ao0 (em_move (by rfl) (by rfl)) (by rfl) (by rfl) ?_
            refine ao0 (sem_buildSliceV tyOk (by rfl) (by rfl) (by rfl) (by rfl) (by rfl) (by rfl) (by rfl) (by decide) (by decide) (by rfl)) (by rfl) (by rfl) ?_
            refine ao_callL [0] [] (h1) (by rfl) (by rfl) (by rfl) (by rfl) (by rfl) (by repeat' (first | exact True.intro | exact .inl ⟨by rfl, by rfl⟩ | exact rfl | exact .inr (.inl ⟨_, _, _, _, by rfl, by rfl⟩) | exact .inr (.inr ⟨_, _, _, _, _, _, by rfl, by rfl, by rfl, by first | exact .head _ | exact .tail _ (.head _) | exact .tail _ (.tail _ (.head _)) | exact .tail _ (.tail _ (.tail _ (.head _)))⟩) | refine And.intro ?_ ?_)) (by repeat' (first | exact True.intro | exact .inl ⟨by rfl, by rfl⟩ | exact rfl | exact .inl rfl | exact .inr (.inl ⟨_, _, _, _, by rfl, by rfl⟩) | exact .inr ⟨rfl, by simp [D.scalar, bD]⟩ | refine And.intro ?_ ?_)) (by rfl) (by rfl) (by rfl) (by decide) (by rfl) (by rfl) (by omega) (by first | rfl | (simp [keptB, notGone, (by rfl).live]; done)) (by rfl) (by rfl) (by rfl) (by rfl) (by rfl) (by rfl) (by rfl) ?_
            refine ao0 (sem_indexAddr tyOk (by rfl) (by rfl) (by rfl) (by rfl) (by rfl) (by rfl) (by omega) (by omega)) (by rfl) (by rfl) ?_
            refine ao0 (sem_fieldAddr tyOk (by rfl) (by rfl) (by rfl) (by rfl) (by rfl) (by rfl)) (by rfl) (by rfl) ?_
            refine ao_store_arr tyOk (by rfl) (by rfl) (by rfl) (by rfl) (by rfl) (by rfl) (by rfl) (by rfl) (by rfl) (by first | decide | (simp; done) | omega | (simp only [List.length_cons, List.length_nil, List.length_map]; omega) | (simp only [setR_len, List.length_cons, List.length_nil, List.length_map]; omega)) ?_
            refine ao_nil (by first | dsimp only [setO, setE] | rfl) (by first | dsimp only [setM, setE, setR] | rfl) (by rfl) ?_
            refine AW.seq ?_
            refine AW.region ?_
            refine ao0 (em_move (by rfl) (by rfl)) (by rfl) (by rfl) ?_
            refine ao0 (em_assign (by rfl) (by rfl)) (by rfl) (by rfl) ?_
            refine ao_nil (by first | dsimp only [setO, setE] | rfl) (by first | dsimp only [setM, setE, setR] | rfl) (by rfl) ?_
            refine AW.ret ?_
            refine retA_own (n := 0) [0, 1] (by rfl) ?_ ?_ rfl (by simp) (by rfl) (by rfl) (by rfl) (by rfl) (by simp) _ (.inr rfl)
            · exact ⟨le_rdr (by rfl) (by omega), le_arr (by rfl) (by rfl) (by rw [hYl]) (by rw [← hst]; rfl), trivial⟩
            · exact le_own (by rfl) (by rfl) (by rfl)
          · skip
            exfalso; simp [c1] at hc2
    · refine ⟨samGo l P cs cs.length, P + 3 * cs.length + 1 - p, hxs, by omega, ?_⟩
      rw [hxl]
      refine fnOk_of' (k := 1) tyOk Try.func31 rfl (by kernel_rfl) Try.ntmps31 (by rw [Try.results31]) rfl (by simp only [List.length_cons, List.length_nil, Nat.reduceAdd, Nat.reduceSub, List.replicate_succ, List.replicate_zero, List.cons_append, List.nil_append]; rfl) (by simp) (by simp) (fun r hr => ((keptB_get (by first | rfl | (simp [keptB, notGone, R.live]; done))).2 r hr).2) fun base => ?_
      refine AW.seq ?_
      refine AW.region ?_
      refine ao0 (em_assign (by rfl) (by rfl)) (by rfl) (by rfl) ?_
      refine ao_nil (by first | dsimp only [setO, setE] | rfl) (by first | dsimp only [setM, setE, setR] | rfl) (by rfl) ?_
      refine AW.seq ?_
      refine AW.region ?_
      refine ao1 (sem_buildSlice0 tyOk (by rfl) (by rfl) (by rfl) (by rfl)) (by omega) (by rfl) (by rfl) ?_
      refine ao0 (em_assign (by rfl) (by rfl)) (by rfl) (by rfl) ?_
      refine ao_nil (by first | dsimp only [setO, setE] | rfl) (by first | dsimp only [setM, setE, setR] | rfl) (by rfl) ?_
      refine AW.seq ?_
      refine AW.region ?_
      refine ao0 (em_move (by rfl) (by rfl)) (by rfl) (by rfl) ?_
      refine ao_callL [0] [] (hC) (by rfl) (by rfl) (by rfl) (by rfl) (by rfl) (by repeat' (first | exact True.intro | exact .inl ⟨by rfl, by rfl⟩ | exact rfl | exact .inr (.inl ⟨_, _, _, _, by rfl, by rfl⟩) | exact .inr (.inr ⟨_, _, _, _, _, _, by rfl, by rfl, by rfl, by first | exact .head _ | exact .tail _ (.head _) | exact .tail _ (.tail _ (.head _)) | exact .tail _ (.tail _ (.tail _ (.head _)))⟩) | refine And.intro ?_ ?_)) (by repeat' (first | exact True.intro | exact .inl ⟨by rfl, by rfl⟩ | exact rfl | exact .inl rfl | exact .inr (.inl ⟨_, _, _, _, by rfl, by rfl⟩) | exact .inr ⟨rfl, by simp [D.scalar, bD]⟩ | refine And.intro ?_ ?_)) (by rfl) (by rfl) (by rfl) (by decide) (by rfl) (by rfl) (by omega) (by first | rfl | (simp [keptB, notGone, (by rfl).live]; done)) (by rfl) (by rfl) (by rfl) (by rfl) (by rfl) (by rfl) (by rfl) ?_
      refine ao0 (em_assign (by rfl) (by rfl)) (by rfl) (by rfl) ?_
      refine ao_nil (by first | dsimp only [setO, setE] | rfl) (by first | dsimp only [setM, setE, setR] | rfl) (by rfl) ?_
      refine AW.seq ?_
      refine AW.seq ?_
      refine AW.region ?_
      refine ao0 (em_assign (by rfl) (by rfl)) (by rfl) (by rfl) ?_
      refine ao_nil (by first | dsimp only [setO, setE] | rfl) (by first | dsimp only [setM, setE, setR] | rfl) (by rfl) ?_
      refine AW.block ?_
      refine AW.loopU (X := {i : Nat // i ≤ cs.length}) (fun i => [(5, .v false [.i .i64 (i.1 : Int)]), (3, .v false [.own true 1 i.1]), (4, .v false [.own true 2 cs.length]), (1, .any), (6, .any), (7, .any), (8, .any), (9, .any), (10, .any), (11, .any), (12, .any), (13, .any), (14, .any), (15, .any), (16, .any), (17, .any), (18, .any), (19, .any), (20, .any), (21, .any), (22, .any), (23, .any), (24, .any)]) (fun i => [rdr nn l (P + 3 * i.1), .arr 31 true true i.1 ((samGo l P cs i.1).flatMap samD), catR true cs]) 3 (fun i => cs.length - i.1) ⟨0, Nat.zero_le _⟩ ?_ ?_
      · skip
        dsimp only [updL, setE]
        refine into_lists [0, 1, 2] ?_ ?_ rfl rfl (by decide) (by rfl) (by rfl) (by rfl) (by rfl) (by omega)
        all_goals (try (repeat' (first | exact True.intro | exact Or.inl rfl | exact Or.inr (Or.inl rfl) | refine And.intro ?_ ?_ | exact le_i (by omega) | exact le_own (by rfl) (by rfl) (by first | rfl | omega) | exact le_arr (by rfl) (by rfl) (by first | rfl | omega) (by rfl) | exact Or.inr (Or.inr (Or.inl ⟨_, _, rfl, rfl⟩)) | exact Or.inr (Or.inr ⟨_, _, rfl⟩) | exact Or.inr (Or.inr (Or.inr ⟨_, _, _, _, rfl, rfl⟩)))))
        all_goals first | exact le_i (by rfl) | exact le_rdr (by rfl) (by rfl) | exact le_arr (by rfl) (by rfl) (by rfl) (by rfl) | exact le_own (by rfl) (by rfl) (by rfl)
      · intro i
        refine AW.norm (by first | dsimp only [updL, setE] | rfl) rfl rfl ?_
        obtain ⟨i, hi⟩ := i
        dsimp only
        have hgl := samGo_len l P cs i
        have hfg := flat_len samD 2 samD_len (samGo l P cs i)
        refine AW.seq ?_
        refine AW.seq ?_
        refine AW.region ?_
        refine ao0 (em_move (by rfl) (by rfl)) (by rfl) (by rfl) ?_
        refine ao0 (em_move (by rfl) (by rfl)) (by rfl) (by rfl) ?_
        refine ao0 (sem_len tyOk (by rfl) (by rfl) (by rfl) (by rfl) (by first | exact .inl ⟨_, _, _, rfl⟩ | exact .inr ⟨_, _, rfl⟩)) (by rfl) (by rfl) ?_
        refine ao0 (em_binI (by rfl) (by rfl) (by rfl) (by rfl) (by first | rfl | trivial | exact ⟨rfl, by decide⟩ | exact ⟨rfl, by omega⟩ | decide | omega)) (by rfl) (by rfl) ?_
        refine ao_nil (by first | dsimp only [setO, setE] | rfl) (by first | dsimp only [setM, setE, setR] | rfl) (by rfl) ?_
        refine AW.cond (by rfl) (fun hc1 => ?_) (fun hc1 => ?_)
        · skip
          have hlt : i < cs.length := by simp at hc1; omega
          have HD := flat_at catD 1 catD_len cs i hlt
          refine AW.skip ?_
          refine AW.seq ?_
          refine AW.block ?_
          refine AW.draw follows0 (by kernel_rfl) ?_
          refine ao0 (em_move (by rfl) (by rfl)) (by rfl) (by rfl) ?_
          refine ao0 (em_move (by rfl) (by rfl)) (by rfl) (by rfl) ?_
          refine ao0 (em_move (by rfl) (by rfl)) (by rfl) (by rfl) ?_
          refine ao0 (sem_indexAddr tyOk (by rfl) (by rfl) (by rfl) (by rfl) (by rfl) (by rfl) (by omega) (by omega)) (by rfl) (by rfl) ?_
          refine ao_load tyOk (by rfl) (by rfl) (by rfl) (by rfl) (by rfl) (cont_arr (by rfl) HD) (by rfl) (by first | trivial | exact Nat.le_of_ble_eq_true rfl | decide | (simp; done) | omega) ?_
          refine ao0 (em_move (by rfl) (by rfl)) (by rfl) (by rfl) ?_
          refine ao_callL [0] [] (someValue_fn nn l (P + 3 * i) hl (by omega) hnn hb) (by rfl) (by rfl) (by rfl) (by rfl) (by rfl) (by repeat' (first | exact True.intro | exact .inl ⟨by rfl, by rfl⟩ | exact rfl | exact .inr (.inl ⟨_, _, _, _, by rfl, by rfl⟩) | exact .inr (.inr ⟨_, _, _, _, _, _, by rfl, by rfl, by rfl, by first | exact .head _ | exact .tail _ (.head _) | exact .tail _ (.tail _ (.head _)) | exact .tail _ (.tail _ (.tail _ (.head _)))⟩) | refine And.intro ?_ ?_)) (by repeat' (first | exact True.intro | exact .inl ⟨by rfl, by rfl⟩ | exact rfl | exact .inl rfl | exact .inr (.inl ⟨_, _, _, _, by rfl, by rfl⟩) | exact .inr ⟨rfl, by simp [D.scalar, bD]⟩ | refine And.intro ?_ ?_)) (by rfl) (by rfl) (by rfl) (by decide) (by rfl) (by rfl) (by omega) (by first | rfl | (simp [keptB, notGone, (by rfl).live]; done)) (by rfl) (by rfl) (by rfl) (by rfl) (by rfl) (by rfl) (by rfl) ?_
          refine ao0 (sem_build tyOk (by rfl) (by rfl) (by rfl) (by rfl)) (by rfl) (by rfl) ?_
          refine ao1 (sem_buildSlice tyOk (by rfl) (by rfl) (by rfl) (by rfl) (by rfl) (by rfl) (by rfl) (by decide) (by decide) (by rfl)) (by omega) (by rfl) (by rfl) ?_
          refine ao_append_own tyOk (by rfl) (by rfl) (by rfl) (by rfl) (by rfl) (by rfl) (by rfl) (by rfl) (by rfl) (by rfl) (by first | rfl | exact sliceOf_own (by rfl)) (by first | rfl | decide | (simp; done) | omega) (by first | decide | omega | (unfold maxLen; omega)) (by first | decide | omega | (dsimp only; omega)) (by first | omega | exact Nat.le_of_ble_eq_true rfl) (by first | omega | exact Nat.le_of_ble_eq_true rfl) ?_
          refine ao0 (em_assign (by rfl) (by rfl)) (by rfl) (by rfl) ?_
          refine ao_nil (by first | dsimp only [setO, setE] | rfl) (by first | dsimp only [setM, setE, setR] | rfl) (by rfl) ?_
          refine ⟨by kernel_rfl, ?_⟩
          refine AW.region ?_
          refine ao0 (em_move (by rfl) (by rfl)) (by rfl) (by rfl) ?_
          refine ao0 (em_add (by rfl) (by rfl) (by rfl) (by omega) (by omega)) (by rfl) (by rfl) ?_
          refine ao0 (em_assign (by rfl) (by rfl)) (by rfl) (by rfl) ?_
          refine ao_nil (by first | dsimp only [setO, setE] | rfl) (by first | dsimp only [setM, setE, setR] | rfl) (by rfl) ?_
          refine ⟨⟨i + 1, hlt⟩, by dsimp only; omega, ?_⟩
          dsimp only [updL, setE]
          refine into_lists [0, 4, 2] ?_ ?_ rfl rfl (by decide) (by rfl) (by rfl) (by rfl) (by rfl) (by omega)
          all_goals (try (repeat' (first | exact True.intro | exact Or.inl rfl | exact Or.inr (Or.inl rfl) | refine And.intro ?_ ?_ | exact le_i (by omega) | exact le_own (by rfl) (by rfl) (by first | rfl | omega) | exact le_arr (by rfl) (by rfl) (by first | rfl | omega) (by rfl) | exact Or.inr (Or.inr (Or.inl ⟨_, _, rfl, rfl⟩)) | exact Or.inr (Or.inr ⟨_, _, rfl⟩) | exact Or.inr (Or.inr (Or.inr ⟨_, _, _, _, rfl, rfl⟩)))))
          all_goals first | exact le_i (by dsimp only; omega) | exact le_rdr (by rfl) (by omega) | exact le_arr (by rfl) (by rfl) (by rfl) (by rw [← samGo_snoc l P cs i hlt]; rfl) | exact le_arr (by rfl) (by rfl) (by rfl) (by rfl) | exact le_own (by rfl) (by rfl) (by rfl)
        · skip
          have hge : i = cs.length := by simp at hc1; omega
          subst hge
          refine AW.exit ?_
          refine AW.seq ?_
          refine AW.seq ?_
          refine AW.region ?_
          refine ao0 (em_move (by rfl) (by rfl)) (by rfl) (by rfl) ?_
          refine ao0 (sem_len tyOk (by rfl) (by rfl) (by rfl) (by rfl) (by first | exact .inl ⟨_, _, _, rfl⟩ | exact .inr ⟨_, _, rfl⟩)) (by rfl) (by rfl) ?_
          refine ao0 (em_binI (by rfl) (by rfl) (by rfl) (by rfl) (by first | rfl | trivial | exact ⟨rfl, by decide⟩ | exact ⟨rfl, by omega⟩ | decide | omega)) (by rfl) (by rfl) ?_
          rw [decide_eq_true (show (0 : Int) < (cs.length : Int) by omega)]
          refine ao0 (em_move (by rfl) (by rfl)) (by rfl) (by rfl) ?_
          refine ao0 (em_move (by rfl) (by rfl)) (by rfl) (by rfl) ?_
          refine ao_callL [0] [] (hk) (by rfl) (by rfl) (by rfl) (by rfl) (by rfl) (by repeat' (first | exact True.intro | exact .inl ⟨by rfl, by rfl⟩ | exact rfl | exact .inr (.inl ⟨_, _, _, _, by rfl, by rfl⟩) | exact .inr (.inr ⟨_, _, _, _, _, _, by rfl, by rfl, by rfl, by first | exact .head _ | exact .tail _ (.head _) | exact .tail _ (.tail _ (.head _)) | exact .tail _ (.tail _ (.tail _ (.head _)))⟩) | refine And.intro ?_ ?_)) (by repeat' (first | exact True.intro | exact .inl ⟨by rfl, by rfl⟩ | exact rfl | exact .inl rfl | exact .inr (.inl ⟨_, _, _, _, by rfl, by rfl⟩) | exact .inr ⟨rfl, by simp [D.scalar, bD]⟩ | refine And.intro ?_ ?_)) (by rfl) (by rfl) (by rfl) (by decide) (by rfl) (by rfl) (by omega) (by first | rfl | (simp [keptB, notGone, (by rfl).live]; done)) (by rfl) (by rfl) (by rfl) (by rfl) (by rfl) (by rfl) (by rfl) ?_
          refine ao0 (em_binI (by rfl) (by rfl) (by rfl) (by rfl) (by first | rfl | trivial | exact ⟨rfl, by decide⟩ | exact ⟨rfl, by omega⟩ | decide | omega)) (by rfl) (by rfl) ?_
          refine ao0 (sem_pickg (by rfl) (by rfl) (by rfl) (by rfl) (by intro hh; first | rfl | exact hh | (exact Bool.noConfusion hh) | (simp [wexp]; done) | (simp [wexp] at hh; done) | (simpa [wexp] using hh) | (simp_all; done)) (by intro hh; first | rfl | exact hh | (exact Bool.noConfusion hh) | (simp [wexp]; done) | (simp [wexp] at hh; done) | (simpa [wexp] using hh) | (simp_all; done))) (by rfl) (by rfl) ?_
          refine ao_nil (by first | dsimp only [setO, setE] | rfl) (by first | dsimp only [setM, setE, setR] | rfl) (by rfl) ?_
          refine AW.cond (by rfl) (fun hc2 => ?_) (fun hc2 => ?_)
          · skip
            exfalso; simp at hc2; exact c1 hc2
          · skip
            refine AW.skip ?_
            refine AW.seq ?_
            refine AW.region ?_
            refine ao0 (em_move (by rfl) (by rfl)) (by rfl) (by rfl) ?_
            refine ao0 (em_assign (by rfl) (by rfl)) (by rfl) (by rfl) ?_
            refine ao_nil (by first | dsimp only [setO, setE] | rfl) (by first | dsimp only [setM, setE, setR] | rfl) (by rfl) ?_
            refine AW.ret ?_
            refine retA_own (n := 0) [0, 1] (by rfl) ?_ ?_ rfl (by simp) (by rfl) (by rfl) (by rfl) (by rfl) (by simp) _ (.inr rfl)
            · exact ⟨le_rdr (by rfl) (by omega), le_arr (by rfl) (by rfl) (by rw [hxl]) (by rfl), trivial⟩
            · exact le_own (by rfl) (by rfl) (by rfl)
end Go.Proofs.Ytpobimdcphjljaa
