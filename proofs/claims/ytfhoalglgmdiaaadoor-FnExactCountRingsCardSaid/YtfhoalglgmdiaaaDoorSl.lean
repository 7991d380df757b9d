/-
  The states of an alert and its rings: both texts.
-/
import Derived.Test.YtfhoalglgmdiaaaDoorSp
namespace Go.Proofs.YtfhoalglgmdiaaaDoor
open Go
set_option linter.unusedVariables false
set_option linter.unusedSimpArgs false
set_option linter.unnecessarySimpa false

abbrev intT := Int
def intD (x : intT) : List D := [iD x]
def intC (x : intT) : List C := [.i .i64 x]
theorem intD_len (x : intT) : (intD x).length = 1 := rfl
def intG (z : Int) : intT := (z)
noncomputable def alsB (r : Int × Int × Int) (xs : List pntT) : Bool := ruleB r.1 r.2.1 r.2.2 && serB xs
noncomputable def alsL (r : Int × Int × Int) (xs : List pntT) : List Int := if alsB r xs = true then stsL r (0, 0) xs else []
theorem alsL_T {r : Int × Int × Int} {xs : List pntT} (h : alsB r xs = true) : alsL r xs = stsL r (0, 0) xs := if_pos h
theorem alsL_F {r : Int × Int × Int} {xs : List pntT} (h : ¬ alsB r xs = true) : alsL r xs = [] := if_neg h
theorem alsB_of {r : Int × Int × Int} {xs : List pntT} (h : alsB r xs = true) : ruleB r.1 r.2.1 r.2.2 = true ∧ serB xs = true := by unfold alsB at h; simpa using h
theorem pt_of {xs : List pntT} (h : serB xs = true) {i : Nat} (hi : i < xs.length) : 0 ≤ xs[i].1 ∧ xs[i].1 ≤ 1000 ∧ -1000 ≤ xs[i].2 ∧ xs[i].2 ≤ 1000 := by
  have := ((sP_at hi).1 ((serB_of h).2 i hi)).1
  unfold pointB at this
  simpa using this
theorem aft_ok {r : Int × Int × Int} {xs : List pntT} (h : serB xs = true) : ∀ (i : Nat) (hi : i < xs.length), okA (aftA r (xs.take i)) xs[i].1
  | 0, hi => by
    have := pt_of h hi
    exact ⟨by simp [aftA], by simp [aftA], by simp [aftA], by simp only [List.take_zero]; exact this.1⟩
  | i + 1, hi => by
    have ih := aft_ok h (r := r) i (by omega)
    have h1 := (stA_ok (r := r) ih).1
    have h2 := ((sP_at hi).1 ((serB_of h).2 (i + 1) hi)).2 (by omega)
    rw [getD_at (by omega)] at h2
    rw [aftA_snoc r xs i (by omega)]
    simp only [Nat.add_sub_cancel] at h2
    exact ⟨h1.1, h1.2.1, h1.2.2.1, by have := h1.2.2.2; omega⟩
theorem asc_ser {xs : List pntT} (h : serB xs = true) : ascL 0 xs := asc_of xs 0 (serB_of h).2 fun hk => (pt_of h hk).1
theorem step_at {r : Int × Int × Int} {xs : List pntT} (h : alsB r xs = true) (i : Nat) (hi : i < xs.length) : stepB r (aftA r (xs.take i)) xs[i] = true := by
  obtain ⟨h1, h2⟩ := alsB_of h
  have h3 := aft_ok h2 (r := r) i hi
  have h4 := pt_of h2 hi
  obtain ⟨e1, e2, e3, e4⟩ := h3
  unfold stepB alertB pointB
  simp [h1]; omega
theorem snocI (r : Int × Int × Int) (xs : List pntT) (i : Nat) (h : i < xs.length) : (stsL r (0, 0) (xs.take i)).flatMap intD ++ intD (stA r (aftA r (xs.take i)) xs[i]).1 = (stsL r (0, 0) (xs.take (i + 1))).flatMap intD := by
  rw [stsL_snoc r xs i h, List.flatMap_append]; simp
set_option maxHeartbeats 2000000 in
theorem iAlertStates_own (ab ho ca : Int) (nn : Bool) (xs : List pntT) (hl : xs.length ≤ 1048576) (hnn : nn = false → xs = []) (hok : alsB (ab, ho, ca) xs = true) : FnOk Tryd.prog gT 23 [.v true [.i .i64 ab, .i .i64 ho, .i .i64 ca], .v false [.sl false nn xs.length (xs.flatMap pntD)]] []
    (.v false [.own (decide (0 < xs.length)) 0 xs.length]) [.arr 3 true (decide (0 < xs.length)) xs.length ((stsL (ab, ho, ca) (0, 0) xs).flatMap intD)] := by
  obtain ⟨b1, b2⟩ := alsB_of hok
  dsimp only at b1
  have hR : FnOk Tryd.prog gT _ _ _ _ _ := (ValidRule_ok ab ho ca).any
  have hV : FnOk Tryd.prog gT _ _ _ _ _ := (ivalidSeries_ok nn xs (by omega) hnn).any
  rw [b1] at hR
  rw [b2] at hV
  refine fnOk_of' (k := 0) tyOk Tryd.func23 rfl (by kernel_rfl) Tryd.ntmps23 (by rw [Tryd.results23]) rfl (by simp only [List.length_cons, List.length_nil, Nat.reduceAdd, Nat.reduceSub, List.replicate_succ, List.replicate_zero, List.cons_append, List.nil_append]; rfl) (by simp) (by simp) (fun r hr => by simp at hr) fun base => ?_
  refine AW.seq ?_
  refine AW.region ?_
  refine ao1 (sem_box (by rfl) (by rfl)) (by omega) (by rfl) (by rfl) ?_
  first
    | refine ao0 (em_assign (by rfl) (by rfl)) (by rfl) (by rfl) ?_
    | refine ao0 (em_assignG (by rfl) (by rfl)) (by rfl) (by rfl) ?_
    | refine ao0 (sem_move (.inr (by rfl))) (by rfl) (by rfl) ?_
  refine ao_nil (by first | dsimp only [setO, setE] | rfl) (by first | dsimp only [setM, setE, setR] | rfl) (by rfl) ?_
  refine AW.seq ?_
  refine AW.seq ?_
  refine AW.region ?_
  first
    | refine ao_load tyOk (by rfl) (by rfl) (by rfl) (by rfl) (by rfl) (by rfl) (by rfl) (by first | trivial | exact Nat.le_of_ble_eq_true rfl | decide | (simp; done) | omega) ?_
    | refine ao_load tyOk (by rfl) (by rfl) (by rfl) (by rfl) (by rfl) (cont_arr (by rfl) HD) (by rfl) (by first | trivial | exact Nat.le_of_ble_eq_true rfl | decide | (simp; done) | omega) ?_
  refine ao_callL [] [] (hR) (by rfl) (by rfl) (by rfl) (by rfl) (by rfl) (by repeat' (first | exact True.intro | exact .inl ⟨by rfl, by rfl⟩ | exact rfl | exact .inr (.inl ⟨_, _, _, _, by rfl, by rfl⟩) | exact .inr (.inr ⟨_, _, _, _, _, _, by rfl, by rfl, by rfl, by first | exact .head _ | exact .tail _ (.head _) | exact .tail _ (.tail _ (.head _)) | exact .tail _ (.tail _ (.tail _ (.head _)))⟩) | refine And.intro ?_ ?_)) (by repeat' (first | exact True.intro | exact .inl ⟨by rfl, by rfl⟩ | exact rfl | exact .inl rfl | exact .inr (.inl ⟨_, _, _, _, by rfl, by rfl⟩) | exact .inr ⟨rfl, by simp [D.scalar, bD]⟩ | refine And.intro ?_ ?_)) (by rfl) (by rfl) (by rfl) (by decide) (by rfl) (by rfl) (by omega) (by first | rfl | (simp [keptB, notGone, (by rfl).live]; done)) (by rfl) (by rfl) (by rfl) (by rfl) (by rfl) (by rfl) (by rfl) ?_
  refine ao0 (sem_unOp (by rfl) (by rfl) (by rfl)) (by rfl) (by rfl) ?_
  first
    | refine ao0 (em_move (by rfl) (by rfl)) (by rfl) (by rfl) ?_
    | refine ao0 (em_moveG (by rfl) (by rfl)) (by rfl) (by rfl) ?_
    | refine ao0 (sem_move (.inl (by rfl))) (by rfl) (by rfl) ?_
  first
    | refine ao_skip (by rfl) (by rfl) ?_
    | refine ao0 (em_move (by rfl) (by rfl)) (by rfl) (by rfl) ?_
    | refine ao0 (em_moveG (by rfl) (by rfl)) (by rfl) (by rfl) ?_
    | refine ao0 (sem_move (.inl (by rfl))) (by rfl) (by rfl) ?_
    | refine ao_opt (by rfl) (by rfl) (fun he => astep0 (em_move (by rfl) (by rfl))) ?_
    | refine ao_opt (by rfl) (by rfl) (fun he => astep0 (em_moveG (by rfl) (by rfl))) ?_
    | refine ao_opt (by rfl) (by rfl) (fun he => by rw [he]; exact astep0 (em_move (by rfl) (by rfl))) ?_
    | refine ao_opt (by rfl) (by rfl) (fun he => by rw [he]; exact astep0 (em_moveG (by rfl) (by rfl))) ?_
    | refine ao_opt (by rfl) (by rfl) (fun he => by rw [he]; exact astep0 (sem_move (.inl (by rfl)))) ?_
    | refine ao_opt (by rfl) (by rfl) (fun he => by rw [he]; exact astep0 (em_move (by rfl) (by rfl))) ?_
    | refine ao_opt (by rfl) (by rfl) (fun he => by rw [he]; exact astep0 (em_moveG (by rfl) (by rfl))) ?_
    | refine ao_opt (by rfl) (by rfl) (fun he => astep0 (sem_move (.inl (by rfl)))) ?_
    | refine ao_opt (by rfl) (by rfl) (fun he => by rw [he]; exact astep0 (sem_move (.inl (by rfl)))) ?_
  first
    | refine ao_skip (by rfl) (by rfl) ?_
    | refine ao_callL [] [] (hV) (by rfl) (by rfl) (by rfl) (by rfl) (by rfl) (by repeat' (first | exact True.intro | exact .inl ⟨by rfl, by rfl⟩ | exact rfl | exact .inr (.inl ⟨_, _, _, _, by rfl, by rfl⟩) | exact .inr (.inr ⟨_, _, _, _, _, _, by rfl, by rfl, by rfl, by first | exact .head _ | exact .tail _ (.head _) | exact .tail _ (.tail _ (.head _)) | exact .tail _ (.tail _ (.tail _ (.head _)))⟩) | refine And.intro ?_ ?_)) (by repeat' (first | exact True.intro | exact .inl ⟨by rfl, by rfl⟩ | exact rfl | exact .inl rfl | exact .inr (.inl ⟨_, _, _, _, by rfl, by rfl⟩) | exact .inr ⟨rfl, by simp [D.scalar, bD]⟩ | refine And.intro ?_ ?_)) (by rfl) (by rfl) (by rfl) (by decide) (by rfl) (by rfl) (by omega) (by first | rfl | (simp [keptB, notGone, (by rfl).live]; done)) (by rfl) (by rfl) (by rfl) (by rfl) (by rfl) (by rfl) (by rfl) ?_
    | refine ao_opt (by rfl) (by rfl) (fun he => by rw [he]; exact astep_callL [] [] (hV) (by rfl) (by rfl) (by rfl) (by repeat' (first | exact True.intro | exact .inl ⟨by rfl, by rfl⟩ | exact rfl | exact .inr (.inl ⟨_, _, _, _, by rfl, by rfl⟩) | exact .inr (.inr ⟨_, _, _, _, _, _, by rfl, by rfl, by rfl, by first | exact .head _ | exact .tail _ (.head _) | exact .tail _ (.tail _ (.head _)) | exact .tail _ (.tail _ (.tail _ (.head _)))⟩) | refine And.intro ?_ ?_)) (by repeat' (first | exact True.intro | exact .inl ⟨by rfl, by rfl⟩ | exact rfl | exact .inl rfl | exact .inr (.inl ⟨_, _, _, _, by rfl, by rfl⟩) | exact .inr ⟨rfl, by simp [D.scalar, bD]⟩ | refine And.intro ?_ ?_)) (by rfl) (by rfl) (by rfl) (by decide) (by rfl) (by rfl) (by omega) (by first | rfl | (simp [keptB, notGone, (by rfl).live]; done)) (by rfl) (by rfl) (by rfl) (by rfl) (by rfl) (by rfl) (by rfl)) ?_
    | refine ao_opt (by rfl) (by rfl) (fun he => astep_callL [] [] (hV) (by rfl) (by rfl) (by rfl) (by repeat' (first | exact True.intro | exact .inl ⟨by rfl, by rfl⟩ | exact rfl | exact .inr (.inl ⟨_, _, _, _, by rfl, by rfl⟩) | exact .inr (.inr ⟨_, _, _, _, _, _, by rfl, by rfl, by rfl, by first | exact .head _ | exact .tail _ (.head _) | exact .tail _ (.tail _ (.head _)) | exact .tail _ (.tail _ (.tail _ (.head _)))⟩) | refine And.intro ?_ ?_)) (by repeat' (first | exact True.intro | exact .inl ⟨by rfl, by rfl⟩ | exact rfl | exact .inl rfl | exact .inr (.inl ⟨_, _, _, _, by rfl, by rfl⟩) | exact .inr ⟨rfl, by simp [D.scalar, bD]⟩ | refine And.intro ?_ ?_)) (by rfl) (by rfl) (by rfl) (by decide) (by rfl) (by rfl) (by omega) (by first | rfl | (simp [keptB, notGone, (by rfl).live]; done)) (by rfl) (by rfl) (by rfl) (by rfl) (by rfl) (by rfl) (by rfl)) ?_
  first
    | refine ao_skip (by rfl) (by rfl) ?_
    | refine ao0 (sem_unOp (by rfl) (by rfl) (by rfl)) (by rfl) (by rfl) ?_
    | refine ao_opt (by rfl) (by rfl) (fun he => astep0 (sem_unOp (by rfl) (by rfl) (by rfl))) ?_
    | refine ao_opt (by rfl) (by rfl) (fun he => by rw [he]; exact astep0 (sem_unOp (by rfl) (by rfl) (by rfl))) ?_
    | refine ao_opt (by rfl) (by rfl) (fun he => by rw [he]; exact astep0 (sem_unOp (by rfl) (by rfl) (by rfl))) ?_
  first
    | refine ao0 (sem_pickg (by rfl) (by rfl) (by rfl) (by rfl) (by intro hh; first | rfl | exact hh | (exact Bool.noConfusion hh) | (simp [wexp]; done) | (simp [wexp] at hh; done) | (simpa [wexp] using hh) | (simp_all; done)) (by intro hh; first | rfl | exact hh | (exact Bool.noConfusion hh) | (simp [wexp]; done) | (simp [wexp] at hh; done) | (simpa [wexp] using hh) | (simp_all; done))) (by rfl) (by rfl) ?_
    | refine ao0 (sem_pick (by rfl) (by rfl)) (by rfl) (by rfl) ?_
  refine ao_nil (by first | dsimp only [setO, setE] | rfl) (by first | dsimp only [setM, setE, setR] | rfl) (by rfl) ?_
  refine AW.cond (by rfl) (fun hc1 => ?_) (fun hc1 => ?_)
  · skip
    exfalso; simp at hc1
  · skip
    refine AW.skip ?_
    refine AW.seq ?_
    refine AW.region ?_
    first
      | refine ao0 (em_assign (by rfl) (by rfl)) (by rfl) (by rfl) ?_
      | refine ao0 (em_assignG (by rfl) (by rfl)) (by rfl) (by rfl) ?_
      | refine ao0 (sem_move (.inr (by rfl))) (by rfl) (by rfl) ?_
    refine ao_nil (by first | dsimp only [setO, setE] | rfl) (by first | dsimp only [setM, setE, setR] | rfl) (by rfl) ?_
    refine AW.seq ?_
    refine AW.region ?_
    refine ao0 (sem_build tyOk (by rfl) (by rfl) (by rfl) (by rfl)) (by rfl) (by rfl) ?_
    refine ao1 (sem_alloc tyOk (by rfl) (by rfl)) (by omega) (by rfl) (by rfl) ?_
    first
      | refine ao_store_box tyOk (by rfl) (by rfl) (by rfl) (by rfl) (by rfl) (by rfl) (by rfl) (by rfl) (by first | exact Nat.le_of_ble_eq_true rfl | decide | (simp; done) | omega) ?_
      | refine ao_store_arr tyOk (by rfl) (by rfl) (by rfl) (by rfl) (by rfl) (by rfl) (by rfl) (by rfl) (by rfl) (by first | decide | (simp; done) | omega | (simp only [List.length_cons, List.length_nil, List.length_map]; omega) | (simp only [setR_len, List.length_cons, List.length_nil, List.length_map]; omega)) ?_
    refine ao_nil (by first | dsimp only [setO, setE] | rfl) (by first | dsimp only [setM, setE, setR] | rfl) (by rfl) ?_
    refine AW.seq ?_
    refine AW.seq ?_
    refine AW.region ?_
    first
      | refine ao0 (em_move (by rfl) (by rfl)) (by rfl) (by rfl) ?_
      | refine ao0 (em_moveG (by rfl) (by rfl)) (by rfl) (by rfl) ?_
      | refine ao0 (sem_move (.inl (by rfl))) (by rfl) (by rfl) ?_
    first
      | refine ao0 (sem_len tyOk (by rfl) (by rfl) (by rfl) (by rfl) (by first | exact .inl ⟨_, _, _, rfl⟩ | exact .inr ⟨_, _, rfl⟩)) (by rfl) (by rfl) ?_
      | refine ao0 (sem_len_str tyOk (by rfl) (by rfl) (by rfl) (by rfl)) (by rfl) (by rfl) ?_
    first
      | refine ao0 (em_move (by rfl) (by rfl)) (by rfl) (by rfl) ?_
      | refine ao0 (em_moveG (by rfl) (by rfl)) (by rfl) (by rfl) ?_
      | refine ao0 (sem_move (.inl (by rfl))) (by rfl) (by rfl) ?_
    refine ao_nil (by first | dsimp only [setO, setE] | rfl) (by first | dsimp only [setM, setE, setR] | rfl) (by rfl) ?_
    refine AW.block ?_
    refine AW.loopU (X := {i : Nat // i ≤ xs.length}) (fun i => [(20, .v false [.i .i64 (i.1 : Int)]), (5, .v false [.own (decide (0 < i.1)) 2 i.1]), (0, .any), (1, .any), (3, .any), (7, .any), (8, .any), (9, .any), (10, .any), (11, .any), (12, .any), (13, .any), (14, .any), (15, .any), (16, .any), (17, .any), (21, .any), (22, .any), (23, .any), (24, .any), (25, .any), (26, .any), (27, .any), (28, .any), (29, .any), (30, .any), (31, .any), (32, .any), (33, .any), (34, .any), (35, .any), (36, .any)]) (fun i => [.box [.i .i64 ab, .i .i64 ho, .i .i64 ca], .box [.i .i64 (aftA (ab, ho, ca) (xs.take i.1)).1, .i .i64 (aftA (ab, ho, ca) (xs.take i.1)).2], .arr 3 true (decide (0 < i.1)) i.1 ((stsL (ab, ho, ca) (0, 0) (xs.take i.1)).flatMap intD)]) 3 (fun i => xs.length - i.1) ⟨0, Nat.zero_le _⟩ ?_ ?_
    · skip
      dsimp only [updL, setE]
      refine into_lists [0, 1, 2] ?_ ?_ rfl rfl (by decide) (by rfl) (by rfl) (by rfl) (by rfl) (by omega)
      all_goals (try (repeat' (first | exact True.intro | exact Or.inl rfl | exact Or.inr (Or.inl rfl) | refine And.intro ?_ ?_ | exact le_i (by omega) | exact le_own (by rfl) (by rfl) (by first | rfl | omega) | exact le_arr (by rfl) (by rfl) (by first | rfl | omega) (by rfl) | exact Or.inr (Or.inr (Or.inl ⟨_, _, rfl, rfl⟩)) | exact Or.inr (Or.inr ⟨_, _, rfl⟩) | exact Or.inr (Or.inr (Or.inr ⟨_, _, _, _, rfl, rfl⟩)))))
    · intro i
      refine AW.norm (by first | dsimp only [updL, setE] | rfl) rfl rfl ?_
      obtain ⟨i, hi⟩ := i
      dsimp only
      have hsl : (stsL (ab, ho, ca) (0, 0) (xs.take i)).length = i := by rw [stsL_len, List.length_take]; omega
      refine AW.seq ?_
      refine AW.region ?_
      first
        | refine ao0 (em_binI (by rfl) (by rfl) (by rfl) (by rfl) (by first | rfl | trivial | exact ⟨rfl, by decide⟩ | exact ⟨rfl, by omega⟩ | decide | omega)) (by rfl) (by rfl) ?_
        | refine ao0 (sem_binS (by rfl) (by rfl) (by rfl) (by rfl) (by trivial)) (by rfl) (by rfl) ?_
      refine ao_nil (by first | dsimp only [setO, setE] | rfl) (by first | dsimp only [setM, setE, setR] | rfl) (by rfl) ?_
      refine AW.seq ?_
      refine AW.cond (by rfl) (fun hc2 => ?_) (fun hc2 => ?_)
      · skip
        have hlt : i < xs.length := by simpa using hc2
        obtain rfl := nn_of hnn hlt
        have HD := flat_at pntD 2 pntD_len xs i hlt
        have hS := iStepAlert_ok ab ho ca (aftA (ab, ho, ca) (xs.take i)).1 (aftA (ab, ho, ca) (xs.take i)).2 xs[i].1 xs[i].2
        rw [show stepR (ab, ho, ca) ((aftA (ab, ho, ca) (xs.take i)).1, (aftA (ab, ho, ca) (xs.take i)).2) (xs[i].1, xs[i].2) = (stA (ab, ho, ca) (aftA (ab, ho, ca) (xs.take i)) xs[i], true) from stepR_T (step_at hok i hlt)] at hS
        dsimp only at hS
        refine AW.skip ?_
        refine AW.seq ?_
        refine AW.block ?_
        refine AW.seq ?_
        refine AW.region ?_
        first
          | refine ao0 (sem_indexR tyOk (by rfl) (by rfl) (by rfl) (by rfl) (by rfl) HD (by omega) (by omega)) (by rfl) (by rfl) ?_
          | refine ao0 (sem_indexAddr tyOk (by rfl) (by rfl) (by rfl) (by rfl) (by rfl) (by rfl) (by omega) (by omega)) (by rfl) (by rfl) ?_
          | refine ao0 (sem_indexAddrA tyOk (by rfl) (by rfl) (by rfl) (by rfl) (by rfl) (by rfl) (by omega) (by omega)) (by rfl) (by rfl) ?_
        first
          | refine ao_load tyOk (by rfl) (by rfl) (by rfl) (by rfl) (by rfl) (by rfl) (by rfl) (by first | trivial | exact Nat.le_of_ble_eq_true rfl | decide | (simp; done) | omega) ?_
          | refine ao_load tyOk (by rfl) (by rfl) (by rfl) (by rfl) (by rfl) (cont_arr (by rfl) HD) (by rfl) (by first | trivial | exact Nat.le_of_ble_eq_true rfl | decide | (simp; done) | omega) ?_
        refine ao1 (sem_alloc tyOk (by rfl) (by rfl)) (by omega) (by rfl) (by rfl) ?_
        first
          | refine ao_store_box tyOk (by rfl) (by rfl) (by rfl) (by rfl) (by rfl) (by rfl) (by rfl) (by rfl) (by first | exact Nat.le_of_ble_eq_true rfl | decide | (simp; done) | omega) ?_
          | refine ao_store_arr tyOk (by rfl) (by rfl) (by rfl) (by rfl) (by rfl) (by rfl) (by rfl) (by rfl) (by rfl) (by first | decide | (simp; done) | omega | (simp only [List.length_cons, List.length_nil, List.length_map]; omega) | (simp only [setR_len, List.length_cons, List.length_nil, List.length_map]; omega)) ?_
        refine ao_nil (by first | dsimp only [setO, setE] | rfl) (by first | dsimp only [setM, setE, setR] | rfl) (by rfl) ?_
        refine AW.seq ?_
        refine AW.region ?_
        first
          | refine ao_load tyOk (by rfl) (by rfl) (by rfl) (by rfl) (by rfl) (by rfl) (by rfl) (by first | trivial | exact Nat.le_of_ble_eq_true rfl | decide | (simp; done) | omega) ?_
          | refine ao_load tyOk (by rfl) (by rfl) (by rfl) (by rfl) (by rfl) (cont_arr (by rfl) HD) (by rfl) (by first | trivial | exact Nat.le_of_ble_eq_true rfl | decide | (simp; done) | omega) ?_
        first
          | refine ao_load tyOk (by rfl) (by rfl) (by rfl) (by rfl) (by rfl) (by rfl) (by rfl) (by first | trivial | exact Nat.le_of_ble_eq_true rfl | decide | (simp; done) | omega) ?_
          | refine ao_load tyOk (by rfl) (by rfl) (by rfl) (by rfl) (by rfl) (cont_arr (by rfl) HD) (by rfl) (by first | trivial | exact Nat.le_of_ble_eq_true rfl | decide | (simp; done) | omega) ?_
        first
          | refine ao_load tyOk (by rfl) (by rfl) (by rfl) (by rfl) (by rfl) (by rfl) (by rfl) (by first | trivial | exact Nat.le_of_ble_eq_true rfl | decide | (simp; done) | omega) ?_
          | refine ao_load tyOk (by rfl) (by rfl) (by rfl) (by rfl) (by rfl) (cont_arr (by rfl) HD) (by rfl) (by first | trivial | exact Nat.le_of_ble_eq_true rfl | decide | (simp; done) | omega) ?_
        refine ao_callL [] [] (hS) (by rfl) (by rfl) (by rfl) (by rfl) (by rfl) (by repeat' (first | exact True.intro | exact .inl ⟨by rfl, by rfl⟩ | exact rfl | exact .inr (.inl ⟨_, _, _, _, by rfl, by rfl⟩) | exact .inr (.inr ⟨_, _, _, _, _, _, by rfl, by rfl, by rfl, by first | exact .head _ | exact .tail _ (.head _) | exact .tail _ (.tail _ (.head _)) | exact .tail _ (.tail _ (.tail _ (.head _)))⟩) | refine And.intro ?_ ?_)) (by repeat' (first | exact True.intro | exact .inl ⟨by rfl, by rfl⟩ | exact rfl | exact .inl rfl | exact .inr (.inl ⟨_, _, _, _, by rfl, by rfl⟩) | exact .inr ⟨rfl, by simp [D.scalar, bD]⟩ | refine And.intro ?_ ?_)) (by rfl) (by rfl) (by rfl) (by decide) (by rfl) (by rfl) (by omega) (by first | rfl | (simp [keptB, notGone, (by rfl).live]; done)) (by rfl) (by rfl) (by rfl) (by rfl) (by rfl) (by rfl) (by rfl) ?_
        first
          | refine ao0 (em_move (by rfl) (by rfl)) (by rfl) (by rfl) ?_
          | refine ao0 (em_moveG (by rfl) (by rfl)) (by rfl) (by rfl) ?_
          | refine ao0 (sem_move (.inl (by rfl))) (by rfl) (by rfl) ?_
        refine ao0 (sem_extract (by rfl) (by rfl) (by rfl)) (by rfl) (by rfl) ?_
        refine ao0 (sem_extract (by rfl) (by rfl) (by rfl)) (by rfl) (by rfl) ?_
        first
          | refine ao_store_box tyOk (by rfl) (by rfl) (by rfl) (by rfl) (by rfl) (by rfl) (by rfl) (by rfl) (by first | exact Nat.le_of_ble_eq_true rfl | decide | (simp; done) | omega) ?_
          | refine ao_store_arr tyOk (by rfl) (by rfl) (by rfl) (by rfl) (by rfl) (by rfl) (by rfl) (by rfl) (by rfl) (by first | decide | (simp; done) | omega | (simp only [List.length_cons, List.length_nil, List.length_map]; omega) | (simp only [setR_len, List.length_cons, List.length_nil, List.length_map]; omega)) ?_
        refine ao_nil (by first | dsimp only [setO, setE] | rfl) (by first | dsimp only [setM, setE, setR] | rfl) (by rfl) ?_
        refine AW.region ?_
        first
          | refine ao0 (em_move (by rfl) (by rfl)) (by rfl) (by rfl) ?_
          | refine ao0 (em_moveG (by rfl) (by rfl)) (by rfl) (by rfl) ?_
          | refine ao0 (sem_move (.inl (by rfl))) (by rfl) (by rfl) ?_
        refine ao0 (sem_fieldAddr tyOk (by rfl) (by rfl) (by rfl) (by rfl) (by rfl) (by rfl)) (by rfl) (by rfl) ?_
        first
          | refine ao_load tyOk (by rfl) (by rfl) (by rfl) (by rfl) (by rfl) (by rfl) (by rfl) (by first | trivial | exact Nat.le_of_ble_eq_true rfl | decide | (simp; done) | omega) ?_
          | refine ao_load tyOk (by rfl) (by rfl) (by rfl) (by rfl) (by rfl) (cont_arr (by rfl) HD) (by rfl) (by first | trivial | exact Nat.le_of_ble_eq_true rfl | decide | (simp; done) | omega) ?_
        first
          | refine ao1 (sem_buildSlice0 tyOk (by rfl) (by rfl) (by rfl) (by rfl)) (by omega) (by rfl) (by rfl) ?_
          | refine ao1 (sem_buildSlice tyOk (by rfl) (by rfl) (by rfl) (by rfl) (by rfl) (by rfl) (by rfl) (by decide) (by decide) (by rfl)) (by omega) (by rfl) (by rfl) ?_
        first
          | refine ao_append_nil tyOk (by rfl) (by rfl) (by rfl) (by rfl) (by rfl) (by rfl) (by rfl) (.inl ⟨_, _, rfl⟩) (fun r hr => by cases hr) (by rfl) (by first | rfl | exact sliceOf_own (by rfl)) (by first | rfl | decide | (simp; done) | omega) (by first | decide | omega | (unfold maxLen; omega)) (by first | decide | omega | (dsimp only; omega)) (by omega) ?_
          | refine ao_append_own tyOk (by rfl) (by rfl) (by rfl) (by rfl) (by rfl) (by rfl) (by rfl) (by rfl) (by rfl) (by rfl) (by first | rfl | exact sliceOf_own (by rfl)) (by first | rfl | decide | (simp; done) | omega) (by first | decide | omega | (unfold maxLen; omega)) (by first | decide | omega | (dsimp only; omega)) (by omega) (by omega) ?_
          | refine ao_append_any tyOk (by rfl) (by rfl) (by rfl) (by rfl) (by rfl) (by rfl) (by rfl) (by rfl) (by rfl) (by rfl) (by first | rfl | exact sliceOf_own (by rfl)) (by first | rfl | decide | (simp; done) | omega) (by first | decide | omega | (unfold maxLen; omega)) (by first | decide | omega | (dsimp only; omega)) (by omega) (by omega) (by first | (simp only [Nat.zero_lt_one, decide_true, Bool.or_true]; rfl) | rfl) ?_
        first
          | refine ao0 (em_assign (by rfl) (by rfl)) (by rfl) (by rfl) ?_
          | refine ao0 (em_assignG (by rfl) (by rfl)) (by rfl) (by rfl) ?_
          | refine ao0 (sem_move (.inr (by rfl))) (by rfl) (by rfl) ?_
        refine ao_nil (by first | dsimp only [setO, setE] | rfl) (by first | dsimp only [setM, setE, setR] | rfl) (by rfl) ?_
        refine AW.region ?_
        first
          | refine ao0 (em_add (by rfl) (by rfl) (by rfl) (by omega) (by omega)) (by rfl) (by rfl) ?_
          | refine ao0 (em_add8 (by rfl) (by rfl) (by rfl) (by omega) (by omega)) (by rfl) (by rfl) ?_
          | refine ao0 (em_binI (by rfl) (by rfl) (by rfl) (by rfl) (by first | rfl | trivial | exact ⟨rfl, by decide⟩ | exact ⟨rfl, by omega⟩ | decide | omega)) (by rfl) (by rfl) ?_
          | refine ao0 (sem_binS (by rfl) (by rfl) (by rfl) (by rfl) (by trivial)) (by rfl) (by rfl) ?_
        first
          | refine ao0 (em_move (by rfl) (by rfl)) (by rfl) (by rfl) ?_
          | refine ao0 (em_moveG (by rfl) (by rfl)) (by rfl) (by rfl) ?_
          | refine ao0 (sem_move (.inl (by rfl))) (by rfl) (by rfl) ?_
        refine ao_nil (by first | dsimp only [setO, setE] | rfl) (by first | dsimp only [setM, setE, setR] | rfl) (by rfl) ?_
        refine ⟨⟨i + 1, hlt⟩, by dsimp only; omega, ?_⟩
        dsimp only [updL, setE]
        refine into_lists [0, 1, 5] ?_ ?_ rfl rfl (by decide) (by rfl) (by rfl) (by rfl) (by rfl) (by omega)
        all_goals (try (repeat' (first | exact True.intro | exact Or.inl rfl | exact Or.inr (Or.inl rfl) | refine And.intro ?_ ?_ | exact le_i (by omega) | exact le_own (by rfl) (by rfl) (by first | rfl | omega) | exact le_arr (by rfl) (by rfl) (by first | rfl | omega) (by rfl) | exact Or.inr (Or.inr (Or.inl ⟨_, _, rfl, rfl⟩)) | exact Or.inr (Or.inr ⟨_, _, rfl⟩) | exact Or.inr (Or.inr (Or.inr ⟨_, _, _, _, rfl, rfl⟩)))))
        all_goals first | exact le_i (by dsimp only; omega) | exact le_box (by rfl) (by rfl) | exact le_box (by rfl) (by rw [aftA_snoc _ xs i hlt]; rfl) | exact le_own (by simp) (by rfl) (by rfl) | exact le_arr (by rfl) (by simp) (by rfl) (snocI _ xs i hlt)
      · skip
        have hge : i = xs.length := by simp at hc2; omega
        subst hge
        rw [List.take_length]
        refine AW.exit ?_
        refine AW.seq ?_
        refine AW.region ?_
        first
          | refine ao0 (em_move (by rfl) (by rfl)) (by rfl) (by rfl) ?_
          | refine ao0 (em_moveG (by rfl) (by rfl)) (by rfl) (by rfl) ?_
          | refine ao0 (sem_move (.inl (by rfl))) (by rfl) (by rfl) ?_
        first
          | refine ao0 (em_assign (by rfl) (by rfl)) (by rfl) (by rfl) ?_
          | refine ao0 (em_assignG (by rfl) (by rfl)) (by rfl) (by rfl) ?_
          | refine ao0 (sem_move (.inr (by rfl))) (by rfl) (by rfl) ?_
        refine ao_nil (by first | dsimp only [setO, setE] | rfl) (by first | dsimp only [setM, setE, setR] | rfl) (by rfl) ?_
        refine AW.ret ?_
        refine retA_own (n := 0) [2] (by rfl) ?_ ?_ rfl (by simp) (by rfl) (by rfl) (by rfl) (by rfl) (by simp) _ (.inr rfl)
        · exact ⟨le_arr (by rfl) (by rfl) (by rfl) (by rfl), trivial⟩
        · exact le_own (by rfl) (by rfl) (by rfl)
theorem iAlertStates_bad (ab ho ca : Int) (nn : Bool) (xs : List pntT) (hl : xs.length ≤ 1048576) (hnn : nn = false → xs = []) (hok : ¬ alsB (ab, ho, ca) xs = true) : FnOk Tryd.prog gT 23 [.v true [.i .i64 ab, .i .i64 ho, .i .i64 ca], .v false [.sl false nn xs.length (xs.flatMap pntD)]] []
    (.v false [.sl true false 0 []]) [] := by
  have hR : FnOk Tryd.prog gT _ _ _ _ _ := (ValidRule_ok ab ho ca).any
  have hV : FnOk Tryd.prog gT _ _ _ _ _ := (ivalidSeries_ok nn xs (by omega) hnn).any
  refine fnOk_of' (k := 0) tyOk Tryd.func23 rfl (by kernel_rfl) Tryd.ntmps23 (by rw [Tryd.results23]) rfl (by simp only [List.length_cons, List.length_nil, Nat.reduceAdd, Nat.reduceSub, List.replicate_succ, List.replicate_zero, List.cons_append, List.nil_append]; rfl) (by simp) (by simp) (fun r hr => by simp at hr) fun base => ?_
  refine AW.seq ?_
  refine AW.region ?_
  refine ao1 (sem_box (by rfl) (by rfl)) (by omega) (by rfl) (by rfl) ?_
  first
    | refine ao0 (em_assign (by rfl) (by rfl)) (by rfl) (by rfl) ?_
    | refine ao0 (em_assignG (by rfl) (by rfl)) (by rfl) (by rfl) ?_
    | refine ao0 (sem_move (.inr (by rfl))) (by rfl) (by rfl) ?_
  refine ao_nil (by first | dsimp only [setO, setE] | rfl) (by first | dsimp only [setM, setE, setR] | rfl) (by rfl) ?_
  refine AW.seq ?_
  refine AW.seq ?_
  refine AW.region ?_
  refine ao_load tyOk (by rfl) (by rfl) (by rfl) (by rfl) (by rfl) (by rfl) (by rfl) (by first | trivial | exact Nat.le_of_ble_eq_true rfl | decide | (simp; done) | omega) ?_
  refine ao_callL [] [] (hR) (by rfl) (by rfl) (by rfl) (by rfl) (by rfl) (by repeat' (first | exact True.intro | exact .inl ⟨by rfl, by rfl⟩ | exact rfl | exact .inr (.inl ⟨_, _, _, _, by rfl, by rfl⟩) | exact .inr (.inr ⟨_, _, _, _, _, _, by rfl, by rfl, by rfl, by first | exact .head _ | exact .tail _ (.head _) | exact .tail _ (.tail _ (.head _)) | exact .tail _ (.tail _ (.tail _ (.head _)))⟩) | refine And.intro ?_ ?_)) (by repeat' (first | exact True.intro | exact .inl ⟨by rfl, by rfl⟩ | exact rfl | exact .inl rfl | exact .inr (.inl ⟨_, _, _, _, by rfl, by rfl⟩) | exact .inr ⟨rfl, by simp [D.scalar, bD]⟩ | refine And.intro ?_ ?_)) (by rfl) (by rfl) (by rfl) (by decide) (by rfl) (by rfl) (by omega) (by first | rfl | (simp [keptB, notGone, (by rfl).live]; done)) (by rfl) (by rfl) (by rfl) (by rfl) (by rfl) (by rfl) (by rfl) ?_
  refine ao0 (sem_unOp (by rfl) (by rfl) (by rfl)) (by rfl) (by rfl) ?_
  first
    | refine ao0 (em_move (by rfl) (by rfl)) (by rfl) (by rfl) ?_
    | refine ao0 (em_moveG (by rfl) (by rfl)) (by rfl) (by rfl) ?_
    | refine ao0 (sem_move (.inl (by rfl))) (by rfl) (by rfl) ?_
  first
    | refine ao_skip (by rfl) (by rfl) ?_
    | refine ao0 (em_move (by rfl) (by rfl)) (by rfl) (by rfl) ?_
    | refine ao0 (em_moveG (by rfl) (by rfl)) (by rfl) (by rfl) ?_
    | refine ao0 (sem_move (.inl (by rfl))) (by rfl) (by rfl) ?_
    | refine ao_opt (by rfl) (by rfl) (fun he => astep0 (em_move (by rfl) (by rfl))) ?_
    | refine ao_opt (by rfl) (by rfl) (fun he => astep0 (em_moveG (by rfl) (by rfl))) ?_
    | refine ao_opt (by rfl) (by rfl) (fun he => by rw [he]; exact astep0 (em_move (by rfl) (by rfl))) ?_
    | refine ao_opt (by rfl) (by rfl) (fun he => by rw [he]; exact astep0 (em_moveG (by rfl) (by rfl))) ?_
    | refine ao_opt (by rfl) (by rfl) (fun he => by rw [he]; exact astep0 (sem_move (.inl (by rfl)))) ?_
    | refine ao_opt (by rfl) (by rfl) (fun he => by rw [he]; exact astep0 (em_move (by rfl) (by rfl))) ?_
    | refine ao_opt (by rfl) (by rfl) (fun he => by rw [he]; exact astep0 (em_moveG (by rfl) (by rfl))) ?_
    | refine ao_opt (by rfl) (by rfl) (fun he => astep0 (sem_move (.inl (by rfl)))) ?_
    | refine ao_opt (by rfl) (by rfl) (fun he => by rw [he]; exact astep0 (sem_move (.inl (by rfl)))) ?_
  first
    | refine ao_skip (by rfl) (by rfl) ?_
    | refine ao_callL [] [] (hV) (by rfl) (by rfl) (by rfl) (by rfl) (by rfl) (by repeat' (first | exact True.intro | exact .inl ⟨by rfl, by rfl⟩ | exact rfl | exact .inr (.inl ⟨_, _, _, _, by rfl, by rfl⟩) | exact .inr (.inr ⟨_, _, _, _, _, _, by rfl, by rfl, by rfl, by first | exact .head _ | exact .tail _ (.head _) | exact .tail _ (.tail _ (.head _)) | exact .tail _ (.tail _ (.tail _ (.head _)))⟩) | refine And.intro ?_ ?_)) (by repeat' (first | exact True.intro | exact .inl ⟨by rfl, by rfl⟩ | exact rfl | exact .inl rfl | exact .inr (.inl ⟨_, _, _, _, by rfl, by rfl⟩) | exact .inr ⟨rfl, by simp [D.scalar, bD]⟩ | refine And.intro ?_ ?_)) (by rfl) (by rfl) (by rfl) (by decide) (by rfl) (by rfl) (by omega) (by first | rfl | (simp [keptB, notGone, (by rfl).live]; done)) (by rfl) (by rfl) (by rfl) (by rfl) (by rfl) (by rfl) (by rfl) ?_
    | refine ao_opt (by rfl) (by rfl) (fun he => by rw [he]; exact astep_callL [] [] (hV) (by rfl) (by rfl) (by rfl) (by repeat' (first | exact True.intro | exact .inl ⟨by rfl, by rfl⟩ | exact rfl | exact .inr (.inl ⟨_, _, _, _, by rfl, by rfl⟩) | exact .inr (.inr ⟨_, _, _, _, _, _, by rfl, by rfl, by rfl, by first | exact .head _ | exact .tail _ (.head _) | exact .tail _ (.tail _ (.head _)) | exact .tail _ (.tail _ (.tail _ (.head _)))⟩) | refine And.intro ?_ ?_)) (by repeat' (first | exact True.intro | exact .inl ⟨by rfl, by rfl⟩ | exact rfl | exact .inl rfl | exact .inr (.inl ⟨_, _, _, _, by rfl, by rfl⟩) | exact .inr ⟨rfl, by simp [D.scalar, bD]⟩ | refine And.intro ?_ ?_)) (by rfl) (by rfl) (by rfl) (by decide) (by rfl) (by rfl) (by omega) (by first | rfl | (simp [keptB, notGone, (by rfl).live]; done)) (by rfl) (by rfl) (by rfl) (by rfl) (by rfl) (by rfl) (by rfl)) ?_
    | refine ao_opt (by rfl) (by rfl) (fun he => astep_callL [] [] (hV) (by rfl) (by rfl) (by rfl) (by repeat' (first | exact True.intro | exact .inl ⟨by rfl, by rfl⟩ | exact rfl | exact .inr (.inl ⟨_, _, _, _, by rfl, by rfl⟩) | exact .inr (.inr ⟨_, _, _, _, _, _, by rfl, by rfl, by rfl, by first | exact .head _ | exact .tail _ (.head _) | exact .tail _ (.tail _ (.head _)) | exact .tail _ (.tail _ (.tail _ (.head _)))⟩) | refine And.intro ?_ ?_)) (by repeat' (first | exact True.intro | exact .inl ⟨by rfl, by rfl⟩ | exact rfl | exact .inl rfl | exact .inr (.inl ⟨_, _, _, _, by rfl, by rfl⟩) | exact .inr ⟨rfl, by simp [D.scalar, bD]⟩ | refine And.intro ?_ ?_)) (by rfl) (by rfl) (by rfl) (by decide) (by rfl) (by rfl) (by omega) (by first | rfl | (simp [keptB, notGone, (by rfl).live]; done)) (by rfl) (by rfl) (by rfl) (by rfl) (by rfl) (by rfl) (by rfl)) ?_
  first
    | refine ao_skip (by rfl) (by rfl) ?_
    | refine ao0 (sem_unOp (by rfl) (by rfl) (by rfl)) (by rfl) (by rfl) ?_
    | refine ao_opt (by rfl) (by rfl) (fun he => astep0 (sem_unOp (by rfl) (by rfl) (by rfl))) ?_
    | refine ao_opt (by rfl) (by rfl) (fun he => by rw [he]; exact astep0 (sem_unOp (by rfl) (by rfl) (by rfl))) ?_
    | refine ao_opt (by rfl) (by rfl) (fun he => by rw [he]; exact astep0 (sem_unOp (by rfl) (by rfl) (by rfl))) ?_
  first
    | refine ao0 (sem_pickg (by rfl) (by rfl) (by rfl) (by rfl) (by intro hh; first | rfl | exact hh | (exact Bool.noConfusion hh) | (simp [wexp]; done) | (simp [wexp] at hh; done) | (simpa [wexp] using hh) | (simp_all; done)) (by intro hh; first | rfl | exact hh | (exact Bool.noConfusion hh) | (simp [wexp]; done) | (simp [wexp] at hh; done) | (simpa [wexp] using hh) | (simp_all; done))) (by rfl) (by rfl) ?_
    | refine ao0 (sem_pick (by rfl) (by rfl)) (by rfl) (by rfl) ?_
  refine ao_nil (by first | dsimp only [setO, setE] | rfl) (by first | dsimp only [setM, setE, setR] | rfl) (by rfl) ?_
  refine AW.cond (by rfl) (fun hc1 => ?_) (fun hc1 => ?_)
  · skip
    refine AW.seq ?_
    refine AW.region ?_
    first
      | refine ao0 (em_assign (by rfl) (by rfl)) (by rfl) (by rfl) ?_
      | refine ao0 (em_assignG (by rfl) (by rfl)) (by rfl) (by rfl) ?_
      | refine ao0 (sem_move (.inr (by rfl))) (by rfl) (by rfl) ?_
    refine ao_nil (by first | dsimp only [setO, setE] | rfl) (by first | dsimp only [setM, setE, setR] | rfl) (by rfl) ?_
    refine AW.ret ?_
    refine retA_data (n := 0) rfl (by rfl) ?_ rfl rfl _ (.inr rfl)
    all_goals rfl
  · skip
    exfalso; apply hok; simp at hc1; unfold alsB; simp [hc1]
theorem iAlertStates_any (ab ho ca : Int) (nn : Bool) (xs : List pntT) (hl : xs.length ≤ 1048576) (hnn : nn = false → xs = []) : FnOk Tryd.prog gT 23 [.v true [.i .i64 ab, .i .i64 ho, .i .i64 ca], .v false [.sl false nn xs.length (xs.flatMap pntD)]] []
    (.v false [.sl true (decide (0 < (alsL (ab, ho, ca) xs).length)) (alsL (ab, ho, ca) xs).length ((alsL (ab, ho, ca) xs).flatMap intD)]) [] := by
  by_cases h : alsB (ab, ho, ca) xs = true
  · rw [alsL_T h, stsL_len]
    exact (iAlertStates_own ab ho ca nn xs hl hnn h).frz (.v (.cons (.own rfl) .nil))
  · rw [alsL_F h]
    exact iAlertStates_bad ab ho ca nn xs hl hnn h
set_option maxHeartbeats 2000000 in
theorem sAlertStates_own (ab ho ca : Int) (nn : Bool) (xs : List pntT) (hl : xs.length ≤ 1048576) (hnn : nn = false → xs = []) (hok : alsB (ab, ho, ca) xs = true) : FnOk Tryd.prog noG 25 [.v true [.i .i64 ab, .i .i64 ho, .i .i64 ca], .v false [.sl false nn xs.length (xs.flatMap pntD)]] []
    (.v false [.own true 0 xs.length]) [.arr 3 true true xs.length ((stsL (ab, ho, ca) (0, 0) xs).flatMap intD)] := by
  obtain ⟨b1, b2⟩ := alsB_of hok
  dsimp only at b1
  have hR := validRule_ok ab ho ca
  have hV := validSeries_ok nn xs (by omega) hnn
  rw [b1] at hR
  rw [b2] at hV
  refine fnOk_of' (k := 0) tyOk Tryd.func25 rfl (by kernel_rfl) Tryd.ntmps25 (by rw [Tryd.results25]) rfl (by simp only [List.length_cons, List.length_nil, Nat.reduceAdd, Nat.reduceSub, List.replicate_succ, List.replicate_zero, List.cons_append, List.nil_append]; rfl) (by simp) (by simp) (fun r hr => by simp at hr) fun base => ?_
  refine AW.seq ?_
  refine AW.region ?_
  refine ao1 (sem_box (by rfl) (by rfl)) (by omega) (by rfl) (by rfl) ?_
  first
    | refine ao0 (em_assign (by rfl) (by rfl)) (by rfl) (by rfl) ?_
    | refine ao0 (em_assignG (by rfl) (by rfl)) (by rfl) (by rfl) ?_
    | refine ao0 (sem_move (.inr (by rfl))) (by rfl) (by rfl) ?_
  refine ao_nil (by first | dsimp only [setO, setE] | rfl) (by first | dsimp only [setM, setE, setR] | rfl) (by rfl) ?_
  refine AW.seq ?_
  refine AW.region ?_
  first
    | refine ao1 (sem_buildSlice0 tyOk (by rfl) (by rfl) (by rfl) (by rfl)) (by omega) (by rfl) (by rfl) ?_
    | refine ao1 (sem_buildSlice tyOk (by rfl) (by rfl) (by rfl) (by rfl) (by rfl) (by rfl) (by rfl) (by decide) (by decide) (by rfl)) (by omega) (by rfl) (by rfl) ?_
  first
    | refine ao0 (em_assign (by rfl) (by rfl)) (by rfl) (by rfl) ?_
    | refine ao0 (em_assignG (by rfl) (by rfl)) (by rfl) (by rfl) ?_
    | refine ao0 (sem_move (.inr (by rfl))) (by rfl) (by rfl) ?_
  refine ao_nil (by first | dsimp only [setO, setE] | rfl) (by first | dsimp only [setM, setE, setR] | rfl) (by rfl) ?_
  refine AW.seq ?_
  refine AW.seq ?_
  refine AW.region ?_
  first
    | refine ao_load tyOk (by rfl) (by rfl) (by rfl) (by rfl) (by rfl) (by rfl) (by rfl) (by first | trivial | exact Nat.le_of_ble_eq_true rfl | decide | (simp; done) | omega) ?_
    | refine ao_load tyOk (by rfl) (by rfl) (by rfl) (by rfl) (by rfl) (cont_arr (by rfl) HD) (by rfl) (by first | trivial | exact Nat.le_of_ble_eq_true rfl | decide | (simp; done) | omega) ?_
  refine ao_callL [] [] (hR) (by rfl) (by rfl) (by rfl) (by rfl) (by rfl) (by repeat' (first | exact True.intro | exact .inl ⟨by rfl, by rfl⟩ | exact rfl | exact .inr (.inl ⟨_, _, _, _, by rfl, by rfl⟩) | exact .inr (.inr ⟨_, _, _, _, _, _, by rfl, by rfl, by rfl, by first | exact .head _ | exact .tail _ (.head _) | exact .tail _ (.tail _ (.head _)) | exact .tail _ (.tail _ (.tail _ (.head _)))⟩) | refine And.intro ?_ ?_)) (by repeat' (first | exact True.intro | exact .inl ⟨by rfl, by rfl⟩ | exact rfl | exact .inl rfl | exact .inr (.inl ⟨_, _, _, _, by rfl, by rfl⟩) | exact .inr ⟨rfl, by simp [D.scalar, bD]⟩ | refine And.intro ?_ ?_)) (by rfl) (by rfl) (by rfl) (by decide) (by rfl) (by rfl) (by omega) (by first | rfl | (simp [keptB, notGone, (by rfl).live]; done)) (by rfl) (by rfl) (by rfl) (by rfl) (by rfl) (by rfl) (by rfl) ?_
  refine ao0 (sem_unOp (by rfl) (by rfl) (by rfl)) (by rfl) (by rfl) ?_
  first
    | refine ao0 (em_move (by rfl) (by rfl)) (by rfl) (by rfl) ?_
    | refine ao0 (em_moveG (by rfl) (by rfl)) (by rfl) (by rfl) ?_
    | refine ao0 (sem_move (.inl (by rfl))) (by rfl) (by rfl) ?_
  first
    | refine ao_skip (by rfl) (by rfl) ?_
    | refine ao0 (em_move (by rfl) (by rfl)) (by rfl) (by rfl) ?_
    | refine ao0 (em_moveG (by rfl) (by rfl)) (by rfl) (by rfl) ?_
    | refine ao0 (sem_move (.inl (by rfl))) (by rfl) (by rfl) ?_
    | refine ao_opt (by rfl) (by rfl) (fun he => astep0 (em_move (by rfl) (by rfl))) ?_
    | refine ao_opt (by rfl) (by rfl) (fun he => astep0 (em_moveG (by rfl) (by rfl))) ?_
    | refine ao_opt (by rfl) (by rfl) (fun he => by rw [he]; exact astep0 (em_move (by rfl) (by rfl))) ?_
    | refine ao_opt (by rfl) (by rfl) (fun he => by rw [he]; exact astep0 (em_moveG (by rfl) (by rfl))) ?_
    | refine ao_opt (by rfl) (by rfl) (fun he => by rw [he]; exact astep0 (sem_move (.inl (by rfl)))) ?_
    | refine ao_opt (by rfl) (by rfl) (fun he => by rw [he]; exact astep0 (em_move (by rfl) (by rfl))) ?_
    | refine ao_opt (by rfl) (by rfl) (fun he => by rw [he]; exact astep0 (em_moveG (by rfl) (by rfl))) ?_
    | refine ao_opt (by rfl) (by rfl) (fun he => astep0 (sem_move (.inl (by rfl)))) ?_
    | refine ao_opt (by rfl) (by rfl) (fun he => by rw [he]; exact astep0 (sem_move (.inl (by rfl)))) ?_
  first
    | refine ao_skip (by rfl) (by rfl) ?_
    | refine ao_callL [] [] (hV) (by rfl) (by rfl) (by rfl) (by rfl) (by rfl) (by repeat' (first | exact True.intro | exact .inl ⟨by rfl, by rfl⟩ | exact rfl | exact .inr (.inl ⟨_, _, _, _, by rfl, by rfl⟩) | exact .inr (.inr ⟨_, _, _, _, _, _, by rfl, by rfl, by rfl, by first | exact .head _ | exact .tail _ (.head _) | exact .tail _ (.tail _ (.head _)) | exact .tail _ (.tail _ (.tail _ (.head _)))⟩) | refine And.intro ?_ ?_)) (by repeat' (first | exact True.intro | exact .inl ⟨by rfl, by rfl⟩ | exact rfl | exact .inl rfl | exact .inr (.inl ⟨_, _, _, _, by rfl, by rfl⟩) | exact .inr ⟨rfl, by simp [D.scalar, bD]⟩ | refine And.intro ?_ ?_)) (by rfl) (by rfl) (by rfl) (by decide) (by rfl) (by rfl) (by omega) (by first | rfl | (simp [keptB, notGone, (by rfl).live]; done)) (by rfl) (by rfl) (by rfl) (by rfl) (by rfl) (by rfl) (by rfl) ?_
    | refine ao_opt (by rfl) (by rfl) (fun he => by rw [he]; exact astep_callL [] [] (hV) (by rfl) (by rfl) (by rfl) (by repeat' (first | exact True.intro | exact .inl ⟨by rfl, by rfl⟩ | exact rfl | exact .inr (.inl ⟨_, _, _, _, by rfl, by rfl⟩) | exact .inr (.inr ⟨_, _, _, _, _, _, by rfl, by rfl, by rfl, by first | exact .head _ | exact .tail _ (.head _) | exact .tail _ (.tail _ (.head _)) | exact .tail _ (.tail _ (.tail _ (.head _)))⟩) | refine And.intro ?_ ?_)) (by repeat' (first | exact True.intro | exact .inl ⟨by rfl, by rfl⟩ | exact rfl | exact .inl rfl | exact .inr (.inl ⟨_, _, _, _, by rfl, by rfl⟩) | exact .inr ⟨rfl, by simp [D.scalar, bD]⟩ | refine And.intro ?_ ?_)) (by rfl) (by rfl) (by rfl) (by decide) (by rfl) (by rfl) (by omega) (by first | rfl | (simp [keptB, notGone, (by rfl).live]; done)) (by rfl) (by rfl) (by rfl) (by rfl) (by rfl) (by rfl) (by rfl)) ?_
    | refine ao_opt (by rfl) (by rfl) (fun he => astep_callL [] [] (hV) (by rfl) (by rfl) (by rfl) (by repeat' (first | exact True.intro | exact .inl ⟨by rfl, by rfl⟩ | exact rfl | exact .inr (.inl ⟨_, _, _, _, by rfl, by rfl⟩) | exact .inr (.inr ⟨_, _, _, _, _, _, by rfl, by rfl, by rfl, by first | exact .head _ | exact .tail _ (.head _) | exact .tail _ (.tail _ (.head _)) | exact .tail _ (.tail _ (.tail _ (.head _)))⟩) | refine And.intro ?_ ?_)) (by repeat' (first | exact True.intro | exact .inl ⟨by rfl, by rfl⟩ | exact rfl | exact .inl rfl | exact .inr (.inl ⟨_, _, _, _, by rfl, by rfl⟩) | exact .inr ⟨rfl, by simp [D.scalar, bD]⟩ | refine And.intro ?_ ?_)) (by rfl) (by rfl) (by rfl) (by decide) (by rfl) (by rfl) (by omega) (by first | rfl | (simp [keptB, notGone, (by rfl).live]; done)) (by rfl) (by rfl) (by rfl) (by rfl) (by rfl) (by rfl) (by rfl)) ?_
  first
    | refine ao_skip (by rfl) (by rfl) ?_
    | refine ao0 (sem_unOp (by rfl) (by rfl) (by rfl)) (by rfl) (by rfl) ?_
    | refine ao_opt (by rfl) (by rfl) (fun he => astep0 (sem_unOp (by rfl) (by rfl) (by rfl))) ?_
    | refine ao_opt (by rfl) (by rfl) (fun he => by rw [he]; exact astep0 (sem_unOp (by rfl) (by rfl) (by rfl))) ?_
    | refine ao_opt (by rfl) (by rfl) (fun he => by rw [he]; exact astep0 (sem_unOp (by rfl) (by rfl) (by rfl))) ?_
  first
    | refine ao0 (sem_pickg (by rfl) (by rfl) (by rfl) (by rfl) (by intro hh; first | rfl | exact hh | (exact Bool.noConfusion hh) | (simp [wexp]; done) | (simp [wexp] at hh; done) | (simpa [wexp] using hh) | (simp_all; done)) (by intro hh; first | rfl | exact hh | (exact Bool.noConfusion hh) | (simp [wexp]; done) | (simp [wexp] at hh; done) | (simpa [wexp] using hh) | (simp_all; done))) (by rfl) (by rfl) ?_
    | refine ao0 (sem_pick (by rfl) (by rfl)) (by rfl) (by rfl) ?_
  refine ao_nil (by first | dsimp only [setO, setE] | rfl) (by first | dsimp only [setM, setE, setR] | rfl) (by rfl) ?_
  refine AW.cond (by rfl) (fun hc1 => ?_) (fun hc1 => ?_)
  · skip
    exfalso; simp at hc1
  · skip
    refine AW.skip ?_
    refine AW.seq ?_
    refine AW.region ?_
    refine ao0 (sem_build tyOk (by rfl) (by rfl) (by rfl) (by rfl)) (by rfl) (by rfl) ?_
    refine ao1 (sem_alloc tyOk (by rfl) (by rfl)) (by omega) (by rfl) (by rfl) ?_
    first
      | refine ao_store_box tyOk (by rfl) (by rfl) (by rfl) (by rfl) (by rfl) (by rfl) (by rfl) (by rfl) (by first | exact Nat.le_of_ble_eq_true rfl | decide | (simp; done) | omega) ?_
      | refine ao_store_arr tyOk (by rfl) (by rfl) (by rfl) (by rfl) (by rfl) (by rfl) (by rfl) (by rfl) (by rfl) (by first | decide | (simp; done) | omega | (simp only [List.length_cons, List.length_nil, List.length_map]; omega) | (simp only [setR_len, List.length_cons, List.length_nil, List.length_map]; omega)) ?_
    refine ao_nil (by first | dsimp only [setO, setE] | rfl) (by first | dsimp only [setM, setE, setR] | rfl) (by rfl) ?_
    refine AW.seq ?_
    refine AW.seq ?_
    refine AW.region ?_
    first
      | refine ao0 (em_assign (by rfl) (by rfl)) (by rfl) (by rfl) ?_
      | refine ao0 (em_assignG (by rfl) (by rfl)) (by rfl) (by rfl) ?_
      | refine ao0 (sem_move (.inr (by rfl))) (by rfl) (by rfl) ?_
    refine ao_nil (by first | dsimp only [setO, setE] | rfl) (by first | dsimp only [setM, setE, setR] | rfl) (by rfl) ?_
    refine AW.block ?_
    refine AW.loopU (X := {i : Nat // i ≤ xs.length}) (fun i => [(7, .v false [.i .i64 (i.1 : Int)]), (5, .v false [.own true 1 i.1]), (0, .any), (3, .any), (8, .any), (9, .any), (10, .any), (11, .any), (12, .any), (13, .any), (14, .any), (15, .any), (16, .any), (17, .any), (18, .any), (19, .any), (20, .any), (21, .any), (22, .any), (23, .any), (24, .any), (25, .any), (26, .any), (27, .any), (28, .any), (29, .any), (30, .any), (31, .any), (32, .any), (33, .any), (34, .any), (35, .any)]) (fun i => [.box [.i .i64 ab, .i .i64 ho, .i .i64 ca], .arr 3 true true i.1 ((stsL (ab, ho, ca) (0, 0) (xs.take i.1)).flatMap intD), .box [.i .i64 (aftA (ab, ho, ca) (xs.take i.1)).1, .i .i64 (aftA (ab, ho, ca) (xs.take i.1)).2]]) 3 (fun i => xs.length - i.1) ⟨0, Nat.zero_le _⟩ ?_ ?_
    · skip
      dsimp only [updL, setE]
      refine into_lists [0, 1, 2] ?_ ?_ rfl rfl (by decide) (by rfl) (by rfl) (by rfl) (by rfl) (by omega)
      all_goals (try (repeat' (first | exact True.intro | exact Or.inl rfl | exact Or.inr (Or.inl rfl) | refine And.intro ?_ ?_ | exact le_i (by omega) | exact le_own (by rfl) (by rfl) (by first | rfl | omega) | exact le_arr (by rfl) (by rfl) (by first | rfl | omega) (by rfl) | exact Or.inr (Or.inr (Or.inl ⟨_, _, rfl, rfl⟩)) | exact Or.inr (Or.inr ⟨_, _, rfl⟩) | exact Or.inr (Or.inr (Or.inr ⟨_, _, _, _, rfl, rfl⟩)))))
    · intro i
      refine AW.norm (by first | dsimp only [updL, setE] | rfl) rfl rfl ?_
      obtain ⟨i, hi⟩ := i
      dsimp only
      have hsl : (stsL (ab, ho, ca) (0, 0) (xs.take i)).length = i := by rw [stsL_len, List.length_take]; omega
      refine AW.seq ?_
      refine AW.seq ?_
      refine AW.region ?_
      first
        | refine ao0 (em_move (by rfl) (by rfl)) (by rfl) (by rfl) ?_
        | refine ao0 (em_moveG (by rfl) (by rfl)) (by rfl) (by rfl) ?_
        | refine ao0 (sem_move (.inl (by rfl))) (by rfl) (by rfl) ?_
      first
        | refine ao0 (em_move (by rfl) (by rfl)) (by rfl) (by rfl) ?_
        | refine ao0 (em_moveG (by rfl) (by rfl)) (by rfl) (by rfl) ?_
        | refine ao0 (sem_move (.inl (by rfl))) (by rfl) (by rfl) ?_
      first
        | refine ao0 (sem_len tyOk (by rfl) (by rfl) (by rfl) (by rfl) (by first | exact .inl ⟨_, _, _, rfl⟩ | exact .inr ⟨_, _, rfl⟩)) (by rfl) (by rfl) ?_
        | refine ao0 (sem_len_str tyOk (by rfl) (by rfl) (by rfl) (by rfl)) (by rfl) (by rfl) ?_
      first
        | refine ao0 (em_binI (by rfl) (by rfl) (by rfl) (by rfl) (by first | rfl | trivial | exact ⟨rfl, by decide⟩ | exact ⟨rfl, by omega⟩ | decide | omega)) (by rfl) (by rfl) ?_
        | refine ao0 (sem_binS (by rfl) (by rfl) (by rfl) (by rfl) (by trivial)) (by rfl) (by rfl) ?_
      refine ao_nil (by first | dsimp only [setO, setE] | rfl) (by first | dsimp only [setM, setE, setR] | rfl) (by rfl) ?_
      refine AW.cond (by rfl) (fun hc2 => ?_) (fun hc2 => ?_)
      · skip
        have hlt : i < xs.length := by simpa using hc2
        obtain rfl := nn_of hnn hlt
        have HD := flat_at pntD 2 pntD_len xs i hlt
        have hk := aft_ok b2 (r := (ab, ho, ca)) i hlt
        have hS := step_ok ab ho ca (aftA (ab, ho, ca) (xs.take i)).1 (aftA (ab, ho, ca) (xs.take i)).2 xs[i].1 xs[i].2 hk.1 hk.2.1 hk.2.2.1 hk.2.2.2 (pt_of b2 hlt).2.1
        refine AW.skip ?_
        refine AW.seq ?_
        refine AW.block ?_
        refine AW.seq ?_
        refine AW.draw follows0 (by kernel_rfl) ?_
        first
          | refine ao_load tyOk (by rfl) (by rfl) (by rfl) (by rfl) (by rfl) (by rfl) (by rfl) (by first | trivial | exact Nat.le_of_ble_eq_true rfl | decide | (simp; done) | omega) ?_
          | refine ao_load tyOk (by rfl) (by rfl) (by rfl) (by rfl) (by rfl) (cont_arr (by rfl) HD) (by rfl) (by first | trivial | exact Nat.le_of_ble_eq_true rfl | decide | (simp; done) | omega) ?_
        first
          | refine ao_load tyOk (by rfl) (by rfl) (by rfl) (by rfl) (by rfl) (by rfl) (by rfl) (by first | trivial | exact Nat.le_of_ble_eq_true rfl | decide | (simp; done) | omega) ?_
          | refine ao_load tyOk (by rfl) (by rfl) (by rfl) (by rfl) (by rfl) (cont_arr (by rfl) HD) (by rfl) (by first | trivial | exact Nat.le_of_ble_eq_true rfl | decide | (simp; done) | omega) ?_
        first
          | refine ao0 (em_move (by rfl) (by rfl)) (by rfl) (by rfl) ?_
          | refine ao0 (em_moveG (by rfl) (by rfl)) (by rfl) (by rfl) ?_
          | refine ao0 (sem_move (.inl (by rfl))) (by rfl) (by rfl) ?_
        first
          | refine ao0 (em_move (by rfl) (by rfl)) (by rfl) (by rfl) ?_
          | refine ao0 (em_moveG (by rfl) (by rfl)) (by rfl) (by rfl) ?_
          | refine ao0 (sem_move (.inl (by rfl))) (by rfl) (by rfl) ?_
        first
          | refine ao0 (sem_indexR tyOk (by rfl) (by rfl) (by rfl) (by rfl) (by rfl) HD (by omega) (by omega)) (by rfl) (by rfl) ?_
          | refine ao0 (sem_indexAddr tyOk (by rfl) (by rfl) (by rfl) (by rfl) (by rfl) (by rfl) (by omega) (by omega)) (by rfl) (by rfl) ?_
          | refine ao0 (sem_indexAddrA tyOk (by rfl) (by rfl) (by rfl) (by rfl) (by rfl) (by rfl) (by omega) (by omega)) (by rfl) (by rfl) ?_
        first
          | refine ao_load tyOk (by rfl) (by rfl) (by rfl) (by rfl) (by rfl) (by rfl) (by rfl) (by first | trivial | exact Nat.le_of_ble_eq_true rfl | decide | (simp; done) | omega) ?_
          | refine ao_load tyOk (by rfl) (by rfl) (by rfl) (by rfl) (by rfl) (cont_arr (by rfl) HD) (by rfl) (by first | trivial | exact Nat.le_of_ble_eq_true rfl | decide | (simp; done) | omega) ?_
        refine ao_callL [] [] (hS) (by rfl) (by rfl) (by rfl) (by rfl) (by rfl) (by repeat' (first | exact True.intro | exact .inl ⟨by rfl, by rfl⟩ | exact rfl | exact .inr (.inl ⟨_, _, _, _, by rfl, by rfl⟩) | exact .inr (.inr ⟨_, _, _, _, _, _, by rfl, by rfl, by rfl, by first | exact .head _ | exact .tail _ (.head _) | exact .tail _ (.tail _ (.head _)) | exact .tail _ (.tail _ (.tail _ (.head _)))⟩) | refine And.intro ?_ ?_)) (by repeat' (first | exact True.intro | exact .inl ⟨by rfl, by rfl⟩ | exact rfl | exact .inl rfl | exact .inr (.inl ⟨_, _, _, _, by rfl, by rfl⟩) | exact .inr ⟨rfl, by simp [D.scalar, bD]⟩ | refine And.intro ?_ ?_)) (by rfl) (by rfl) (by rfl) (by decide) (by rfl) (by rfl) (by omega) (by first | rfl | (simp [keptB, notGone, (by rfl).live]; done)) (by rfl) (by rfl) (by rfl) (by rfl) (by rfl) (by rfl) (by rfl) ?_
        first
          | refine ao_store_box tyOk (by rfl) (by rfl) (by rfl) (by rfl) (by rfl) (by rfl) (by rfl) (by rfl) (by first | exact Nat.le_of_ble_eq_true rfl | decide | (simp; done) | omega) ?_
          | refine ao_store_arr tyOk (by rfl) (by rfl) (by rfl) (by rfl) (by rfl) (by rfl) (by rfl) (by rfl) (by rfl) (by first | decide | (simp; done) | omega | (simp only [List.length_cons, List.length_nil, List.length_map]; omega) | (simp only [setR_len, List.length_cons, List.length_nil, List.length_map]; omega)) ?_
        refine ao_nil (by first | dsimp only [setO, setE] | rfl) (by first | dsimp only [setM, setE, setR] | rfl) (by rfl) ?_
        refine ⟨by kernel_rfl, ?_⟩
        refine AW.region ?_
        first
          | refine ao0 (em_move (by rfl) (by rfl)) (by rfl) (by rfl) ?_
          | refine ao0 (em_moveG (by rfl) (by rfl)) (by rfl) (by rfl) ?_
          | refine ao0 (sem_move (.inl (by rfl))) (by rfl) (by rfl) ?_
        refine ao0 (sem_fieldAddr tyOk (by rfl) (by rfl) (by rfl) (by rfl) (by rfl) (by rfl)) (by rfl) (by rfl) ?_
        first
          | refine ao_load tyOk (by rfl) (by rfl) (by rfl) (by rfl) (by rfl) (by rfl) (by rfl) (by first | trivial | exact Nat.le_of_ble_eq_true rfl | decide | (simp; done) | omega) ?_
          | refine ao_load tyOk (by rfl) (by rfl) (by rfl) (by rfl) (by rfl) (cont_arr (by rfl) HD) (by rfl) (by first | trivial | exact Nat.le_of_ble_eq_true rfl | decide | (simp; done) | omega) ?_
        first
          | refine ao1 (sem_buildSlice0 tyOk (by rfl) (by rfl) (by rfl) (by rfl)) (by omega) (by rfl) (by rfl) ?_
          | refine ao1 (sem_buildSlice tyOk (by rfl) (by rfl) (by rfl) (by rfl) (by rfl) (by rfl) (by rfl) (by decide) (by decide) (by rfl)) (by omega) (by rfl) (by rfl) ?_
        first
          | refine ao_append_nil tyOk (by rfl) (by rfl) (by rfl) (by rfl) (by rfl) (by rfl) (by rfl) (.inl ⟨_, _, rfl⟩) (fun r hr => by cases hr) (by rfl) (by first | rfl | exact sliceOf_own (by rfl)) (by first | rfl | decide | (simp; done) | omega) (by first | decide | omega | (unfold maxLen; omega)) (by first | decide | omega | (dsimp only; omega)) (by omega) ?_
          | refine ao_append_own tyOk (by rfl) (by rfl) (by rfl) (by rfl) (by rfl) (by rfl) (by rfl) (by rfl) (by rfl) (by rfl) (by first | rfl | exact sliceOf_own (by rfl)) (by first | rfl | decide | (simp; done) | omega) (by first | decide | omega | (unfold maxLen; omega)) (by first | decide | omega | (dsimp only; omega)) (by omega) (by omega) ?_
          | refine ao_append_any tyOk (by rfl) (by rfl) (by rfl) (by rfl) (by rfl) (by rfl) (by rfl) (by rfl) (by rfl) (by rfl) (by first | rfl | exact sliceOf_own (by rfl)) (by first | rfl | decide | (simp; done) | omega) (by first | decide | omega | (unfold maxLen; omega)) (by first | decide | omega | (dsimp only; omega)) (by omega) (by omega) (by first | (simp only [Nat.zero_lt_one, decide_true, Bool.or_true]; rfl) | rfl) ?_
        first
          | refine ao0 (em_assign (by rfl) (by rfl)) (by rfl) (by rfl) ?_
          | refine ao0 (em_assignG (by rfl) (by rfl)) (by rfl) (by rfl) ?_
          | refine ao0 (sem_move (.inr (by rfl))) (by rfl) (by rfl) ?_
        refine ao_nil (by first | dsimp only [setO, setE] | rfl) (by first | dsimp only [setM, setE, setR] | rfl) (by rfl) ?_
        refine AW.region ?_
        first
          | refine ao0 (em_move (by rfl) (by rfl)) (by rfl) (by rfl) ?_
          | refine ao0 (em_moveG (by rfl) (by rfl)) (by rfl) (by rfl) ?_
          | refine ao0 (sem_move (.inl (by rfl))) (by rfl) (by rfl) ?_
        first
          | refine ao0 (em_add (by rfl) (by rfl) (by rfl) (by omega) (by omega)) (by rfl) (by rfl) ?_
          | refine ao0 (em_add8 (by rfl) (by rfl) (by rfl) (by omega) (by omega)) (by rfl) (by rfl) ?_
          | refine ao0 (em_binI (by rfl) (by rfl) (by rfl) (by rfl) (by first | rfl | trivial | exact ⟨rfl, by decide⟩ | exact ⟨rfl, by omega⟩ | decide | omega)) (by rfl) (by rfl) ?_
          | refine ao0 (sem_binS (by rfl) (by rfl) (by rfl) (by rfl) (by trivial)) (by rfl) (by rfl) ?_
        first
          | refine ao0 (em_assign (by rfl) (by rfl)) (by rfl) (by rfl) ?_
          | refine ao0 (em_assignG (by rfl) (by rfl)) (by rfl) (by rfl) ?_
          | refine ao0 (sem_move (.inr (by rfl))) (by rfl) (by rfl) ?_
        refine ao_nil (by first | dsimp only [setO, setE] | rfl) (by first | dsimp only [setM, setE, setR] | rfl) (by rfl) ?_
        refine ⟨⟨i + 1, hlt⟩, by dsimp only; omega, ?_⟩
        dsimp only [updL, setE]
        refine into_lists [0, 4, 2] ?_ ?_ rfl rfl (by decide) (by rfl) (by rfl) (by rfl) (by rfl) (by omega)
        all_goals (try (repeat' (first | exact True.intro | exact Or.inl rfl | exact Or.inr (Or.inl rfl) | refine And.intro ?_ ?_ | exact le_i (by omega) | exact le_own (by rfl) (by rfl) (by first | rfl | omega) | exact le_arr (by rfl) (by rfl) (by first | rfl | omega) (by rfl) | exact Or.inr (Or.inr (Or.inl ⟨_, _, rfl, rfl⟩)) | exact Or.inr (Or.inr ⟨_, _, rfl⟩) | exact Or.inr (Or.inr (Or.inr ⟨_, _, _, _, rfl, rfl⟩)))))
        all_goals first | exact le_i (by dsimp only; omega) | exact le_box (by rfl) (by rfl) | exact le_box (by rfl) (by rw [aftA_snoc _ xs i hlt]; rfl) | exact le_own (by simp) (by rfl) (by rfl) | exact le_arr (by rfl) (by simp) (by rfl) (snocI _ xs i hlt)
      · skip
        have hge : i = xs.length := by simp at hc2; omega
        subst hge
        rw [List.take_length]
        refine AW.exit ?_
        refine AW.seq ?_
        refine AW.region ?_
        first
          | refine ao0 (em_move (by rfl) (by rfl)) (by rfl) (by rfl) ?_
          | refine ao0 (em_moveG (by rfl) (by rfl)) (by rfl) (by rfl) ?_
          | refine ao0 (sem_move (.inl (by rfl))) (by rfl) (by rfl) ?_
        first
          | refine ao0 (em_assign (by rfl) (by rfl)) (by rfl) (by rfl) ?_
          | refine ao0 (em_assignG (by rfl) (by rfl)) (by rfl) (by rfl) ?_
          | refine ao0 (sem_move (.inr (by rfl))) (by rfl) (by rfl) ?_
        refine ao_nil (by first | dsimp only [setO, setE] | rfl) (by first | dsimp only [setM, setE, setR] | rfl) (by rfl) ?_
        refine AW.ret ?_
        refine retA_own (n := 0) [1] (by rfl) ?_ ?_ rfl (by simp) (by rfl) (by rfl) (by rfl) (by rfl) (by simp) _ (.inr rfl)
        · exact ⟨le_arr (by rfl) (by rfl) (by rfl) (by rfl), trivial⟩
        · exact le_own (by rfl) (by rfl) (by rfl)
theorem sAlertStates_bad (ab ho ca : Int) (nn : Bool) (xs : List pntT) (hl : xs.length ≤ 1048576) (hnn : nn = false → xs = []) (hok : ¬ alsB (ab, ho, ca) xs = true) : FnOk Tryd.prog noG 25 [.v true [.i .i64 ab, .i .i64 ho, .i .i64 ca], .v false [.sl false nn xs.length (xs.flatMap pntD)]] []
    (.v false [.sl true false 0 []]) [] := by
  have hR := validRule_ok ab ho ca
  have hV := validSeries_ok nn xs (by omega) hnn
  refine fnOk_of' (k := 0) tyOk Tryd.func25 rfl (by kernel_rfl) Tryd.ntmps25 (by rw [Tryd.results25]) rfl (by simp only [List.length_cons, List.length_nil, Nat.reduceAdd, Nat.reduceSub, List.replicate_succ, List.replicate_zero, List.cons_append, List.nil_append]; rfl) (by simp) (by simp) (fun r hr => by simp at hr) fun base => ?_
  refine AW.seq ?_
  refine AW.region ?_
  refine ao1 (sem_box (by rfl) (by rfl)) (by omega) (by rfl) (by rfl) ?_
  first
    | refine ao0 (em_assign (by rfl) (by rfl)) (by rfl) (by rfl) ?_
    | refine ao0 (em_assignG (by rfl) (by rfl)) (by rfl) (by rfl) ?_
    | refine ao0 (sem_move (.inr (by rfl))) (by rfl) (by rfl) ?_
  refine ao_nil (by first | dsimp only [setO, setE] | rfl) (by first | dsimp only [setM, setE, setR] | rfl) (by rfl) ?_
  refine AW.seq ?_
  refine AW.region ?_
  first
    | refine ao1 (sem_buildSlice0 tyOk (by rfl) (by rfl) (by rfl) (by rfl)) (by omega) (by rfl) (by rfl) ?_
    | refine ao1 (sem_buildSlice tyOk (by rfl) (by rfl) (by rfl) (by rfl) (by rfl) (by rfl) (by rfl) (by decide) (by decide) (by rfl)) (by omega) (by rfl) (by rfl) ?_
  first
    | refine ao0 (em_assign (by rfl) (by rfl)) (by rfl) (by rfl) ?_
    | refine ao0 (em_assignG (by rfl) (by rfl)) (by rfl) (by rfl) ?_
    | refine ao0 (sem_move (.inr (by rfl))) (by rfl) (by rfl) ?_
  refine ao_nil (by first | dsimp only [setO, setE] | rfl) (by first | dsimp only [setM, setE, setR] | rfl) (by rfl) ?_
  refine AW.seq ?_
  refine AW.seq ?_
  refine AW.region ?_
  refine ao_load tyOk (by rfl) (by rfl) (by rfl) (by rfl) (by rfl) (by rfl) (by rfl) (by first | trivial | exact Nat.le_of_ble_eq_true rfl | decide | (simp; done) | omega) ?_
  refine ao_callL [] [] (hR) (by rfl) (by rfl) (by rfl) (by rfl) (by rfl) (by repeat' (first | exact True.intro | exact .inl ⟨by rfl, by rfl⟩ | exact rfl | exact .inr (.inl ⟨_, _, _, _, by rfl, by rfl⟩) | exact .inr (.inr ⟨_, _, _, _, _, _, by rfl, by rfl, by rfl, by first | exact .head _ | exact .tail _ (.head _) | exact .tail _ (.tail _ (.head _)) | exact .tail _ (.tail _ (.tail _ (.head _)))⟩) | refine And.intro ?_ ?_)) (by repeat' (first | exact True.intro | exact .inl ⟨by rfl, by rfl⟩ | exact rfl | exact .inl rfl | exact .inr (.inl ⟨_, _, _, _, by rfl, by rfl⟩) | exact .inr ⟨rfl, by simp [D.scalar, bD]⟩ | refine And.intro ?_ ?_)) (by rfl) (by rfl) (by rfl) (by decide) (by rfl) (by rfl) (by omega) (by first | rfl | (simp [keptB, notGone, (by rfl).live]; done)) (by rfl) (by rfl) (by rfl) (by rfl) (by rfl) (by rfl) (by rfl) ?_
  refine ao0 (sem_unOp (by rfl) (by rfl) (by rfl)) (by rfl) (by rfl) ?_
  first
    | refine ao0 (em_move (by rfl) (by rfl)) (by rfl) (by rfl) ?_
    | refine ao0 (em_moveG (by rfl) (by rfl)) (by rfl) (by rfl) ?_
    | refine ao0 (sem_move (.inl (by rfl))) (by rfl) (by rfl) ?_
  first
    | refine ao_skip (by rfl) (by rfl) ?_
    | refine ao0 (em_move (by rfl) (by rfl)) (by rfl) (by rfl) ?_
    | refine ao0 (em_moveG (by rfl) (by rfl)) (by rfl) (by rfl) ?_
    | refine ao0 (sem_move (.inl (by rfl))) (by rfl) (by rfl) ?_
    | refine ao_opt (by rfl) (by rfl) (fun he => astep0 (em_move (by rfl) (by rfl))) ?_
    | refine ao_opt (by rfl) (by rfl) (fun he => astep0 (em_moveG (by rfl) (by rfl))) ?_
    | refine ao_opt (by rfl) (by rfl) (fun he => by rw [he]; exact astep0 (em_move (by rfl) (by rfl))) ?_
    | refine ao_opt (by rfl) (by rfl) (fun he => by rw [he]; exact astep0 (em_moveG (by rfl) (by rfl))) ?_
    | refine ao_opt (by rfl) (by rfl) (fun he => by rw [he]; exact astep0 (sem_move (.inl (by rfl)))) ?_
    | refine ao_opt (by rfl) (by rfl) (fun he => by rw [he]; exact astep0 (em_move (by rfl) (by rfl))) ?_
    | refine ao_opt (by rfl) (by rfl) (fun he => by rw [he]; exact astep0 (em_moveG (by rfl) (by rfl))) ?_
    | refine ao_opt (by rfl) (by rfl) (fun he => astep0 (sem_move (.inl (by rfl)))) ?_
    | refine ao_opt (by rfl) (by rfl) (fun he => by rw [he]; exact astep0 (sem_move (.inl (by rfl)))) ?_
  first
    | refine ao_skip (by rfl) (by rfl) ?_
    | refine ao_callL [] [] (hV) (by rfl) (by rfl) (by rfl) (by rfl) (by rfl) (by repeat' (first | exact True.intro | exact .inl ⟨by rfl, by rfl⟩ | exact rfl | exact .inr (.inl ⟨_, _, _, _, by rfl, by rfl⟩) | exact .inr (.inr ⟨_, _, _, _, _, _, by rfl, by rfl, by rfl, by first | exact .head _ | exact .tail _ (.head _) | exact .tail _ (.tail _ (.head _)) | exact .tail _ (.tail _ (.tail _ (.head _)))⟩) | refine And.intro ?_ ?_)) (by repeat' (first | exact True.intro | exact .inl ⟨by rfl, by rfl⟩ | exact rfl | exact .inl rfl | exact .inr (.inl ⟨_, _, _, _, by rfl, by rfl⟩) | exact .inr ⟨rfl, by simp [D.scalar, bD]⟩ | refine And.intro ?_ ?_)) (by rfl) (by rfl) (by rfl) (by decide) (by rfl) (by rfl) (by omega) (by first | rfl | (simp [keptB, notGone, (by rfl).live]; done)) (by rfl) (by rfl) (by rfl) (by rfl) (by rfl) (by rfl) (by rfl) ?_
    | refine ao_opt (by rfl) (by rfl) (fun he => by rw [he]; exact astep_callL [] [] (hV) (by rfl) (by rfl) (by rfl) (by repeat' (first | exact True.intro | exact .inl ⟨by rfl, by rfl⟩ | exact rfl | exact .inr (.inl ⟨_, _, _, _, by rfl, by rfl⟩) | exact .inr (.inr ⟨_, _, _, _, _, _, by rfl, by rfl, by rfl, by first | exact .head _ | exact .tail _ (.head _) | exact .tail _ (.tail _ (.head _)) | exact .tail _ (.tail _ (.tail _ (.head _)))⟩) | refine And.intro ?_ ?_)) (by repeat' (first | exact True.intro | exact .inl ⟨by rfl, by rfl⟩ | exact rfl | exact .inl rfl | exact .inr (.inl ⟨_, _, _, _, by rfl, by rfl⟩) | exact .inr ⟨rfl, by simp [D.scalar, bD]⟩ | refine And.intro ?_ ?_)) (by rfl) (by rfl) (by rfl) (by decide) (by rfl) (by rfl) (by omega) (by first | rfl | (simp [keptB, notGone, (by rfl).live]; done)) (by rfl) (by rfl) (by rfl) (by rfl) (by rfl) (by rfl) (by rfl)) ?_
    | refine ao_opt (by rfl) (by rfl) (fun he => astep_callL [] [] (hV) (by rfl) (by rfl) (by rfl) (by repeat' (first | exact True.intro | exact .inl ⟨by rfl, by rfl⟩ | exact rfl | exact .inr (.inl ⟨_, _, _, _, by rfl, by rfl⟩) | exact .inr (.inr ⟨_, _, _, _, _, _, by rfl, by rfl, by rfl, by first | exact .head _ | exact .tail _ (.head _) | exact .tail _ (.tail _ (.head _)) | exact .tail _ (.tail _ (.tail _ (.head _)))⟩) | refine And.intro ?_ ?_)) (by repeat' (first | exact True.intro | exact .inl ⟨by rfl, by rfl⟩ | exact rfl | exact .inl rfl | exact .inr (.inl ⟨_, _, _, _, by rfl, by rfl⟩) | exact .inr ⟨rfl, by simp [D.scalar, bD]⟩ | refine And.intro ?_ ?_)) (by rfl) (by rfl) (by rfl) (by decide) (by rfl) (by rfl) (by omega) (by first | rfl | (simp [keptB, notGone, (by rfl).live]; done)) (by rfl) (by rfl) (by rfl) (by rfl) (by rfl) (by rfl) (by rfl)) ?_
  first
    | refine ao_skip (by rfl) (by rfl) ?_
    | refine ao0 (sem_unOp (by rfl) (by rfl) (by rfl)) (by rfl) (by rfl) ?_
    | refine ao_opt (by rfl) (by rfl) (fun he => astep0 (sem_unOp (by rfl) (by rfl) (by rfl))) ?_
    | refine ao_opt (by rfl) (by rfl) (fun he => by rw [he]; exact astep0 (sem_unOp (by rfl) (by rfl) (by rfl))) ?_
    | refine ao_opt (by rfl) (by rfl) (fun he => by rw [he]; exact astep0 (sem_unOp (by rfl) (by rfl) (by rfl))) ?_
  first
    | refine ao0 (sem_pickg (by rfl) (by rfl) (by rfl) (by rfl) (by intro hh; first | rfl | exact hh | (exact Bool.noConfusion hh) | (simp [wexp]; done) | (simp [wexp] at hh; done) | (simpa [wexp] using hh) | (simp_all; done)) (by intro hh; first | rfl | exact hh | (exact Bool.noConfusion hh) | (simp [wexp]; done) | (simp [wexp] at hh; done) | (simpa [wexp] using hh) | (simp_all; done))) (by rfl) (by rfl) ?_
    | refine ao0 (sem_pick (by rfl) (by rfl)) (by rfl) (by rfl) ?_
  refine ao_nil (by first | dsimp only [setO, setE] | rfl) (by first | dsimp only [setM, setE, setR] | rfl) (by rfl) ?_
  refine AW.cond (by rfl) (fun hc1 => ?_) (fun hc1 => ?_)
  · skip
    refine AW.seq ?_
    refine AW.region ?_
    first
      | refine ao0 (em_assign (by rfl) (by rfl)) (by rfl) (by rfl) ?_
      | refine ao0 (em_assignG (by rfl) (by rfl)) (by rfl) (by rfl) ?_
      | refine ao0 (sem_move (.inr (by rfl))) (by rfl) (by rfl) ?_
    refine ao_nil (by first | dsimp only [setO, setE] | rfl) (by first | dsimp only [setM, setE, setR] | rfl) (by rfl) ?_
    refine AW.ret ?_
    refine retA_data (n := 0) rfl (by rfl) ?_ rfl rfl _ (.inr rfl)
    all_goals rfl
  · skip
    exfalso; apply hok; simp at hc1; unfold alsB; simp [hc1]
theorem sAlertStates_any (ab ho ca : Int) (nn : Bool) (xs : List pntT) (hl : xs.length ≤ 1048576) (hnn : nn = false → xs = []) : FnOk Tryd.prog noG 25 [.v true [.i .i64 ab, .i .i64 ho, .i .i64 ca], .v false [.sl false nn xs.length (xs.flatMap pntD)]] []
    (.v false [.sl true (alsB (ab, ho, ca) xs) (alsL (ab, ho, ca) xs).length ((alsL (ab, ho, ca) xs).flatMap intD)]) [] := by
  by_cases h : alsB (ab, ho, ca) xs = true
  · rw [alsL_T h, stsL_len, h]
    exact (sAlertStates_own ab ho ca nn xs hl hnn h).frz (.v (.cons (.own rfl) .nil))
  · rw [alsL_F h, show alsB (ab, ho, ca) xs = false by simpa using h]
    exact sAlertStates_bad ab ho ca nn xs hl hnn h
/-! Rings -/
noncomputable def ctR (r : Int × Int × Int) (xs : List pntT) : Int := if alsB r xs = true then (cntR r xs : Int) else -1
theorem ctR_T {r : Int × Int × Int} {xs : List pntT} (h : alsB r xs = true) : ctR r xs = (cntR r xs : Int) := if_pos h
theorem ctR_F {r : Int × Int × Int} {xs : List pntT} (h : ¬ alsB r xs = true) : ctR r xs = -1 := if_neg h
theorem rngL_take (L : List Int) (i : Nat) (h : i < L.length) : rngL 0 (L.take (i + 1)) = rngL 0 (L.take i) + rngI (lstL 0 (L.take i)) L[i] ∧ lstL 0 (L.take (i + 1)) = L[i] := by
  rw [List.take_succ_eq_append_getElem h]
  exact ⟨rngL_snoc _ _ _, lstL_snoc _ _ _⟩
end Go.Proofs.YtfhoalglgmdiaaaDoor
