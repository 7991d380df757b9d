/-
  The laws of versions that look at a version's series: contracts.
-/
import Derived.Test.YtfnplbplmcilpaaVma
namespace Go.Proofs.Ytfnplbplmcilpaa
open Go
set_option linter.unusedVariables false
set_option linter.unusedSimpArgs false
set_option linter.unnecessarySimpa false

section
variable (nn : Bool) (l : List Nat) (hnn : nn = false → l = []) (hb : ∀ b ∈ l, b ≤ 255)
include hnn hb
set_option maxHeartbeats 2000000 in
theorem FnAddPut_ok : FnOk Try.prog noG 6 [.v false [.sl false nn l.length (l.map bD)]] [] (.v false [.b true]) [] := by
  obtain ⟨v, x, ⟨g1, g2, g3, g4⟩, hdraw⟩ := DrawAddPut_ok nn l hnn hb
  by_cases hok : addP v x
  · have hI := iAdd_T true true v (by omega) (by omega) (by simp) (by simp) x hok
    have hS := sAdd_T true true v (by omega) (by omega) (by simp) (by simp) x hok
    have hvw := verP_add hok
    obtain ⟨w, hw⟩ : ∃ w, w = addV v x := ⟨_, rfl⟩
    have hw1 : w.1.length = v.1.length + 1 := by rw [hw]; simp [addV]
    have hw2 : w.2.2 = v.2.2 := by rw [hw]; rfl
    have hwx : serAt (w.1.take (w.1.length : Int).toNat) = insF (serAt v.1) x := by
      rw [Int.toNat_natCast, List.take_length, hw]
      show (v.1 ++ [x]).foldl insF [] = _
      rw [List.foldl_append]; rfl
    rw [← hw] at hI hS hvw
    have hE := equalVersions_self true (dec0 v.2.2) true true w (by omega) (by rw [hw2]; omega) (by simp) (fun h => by rw [hw2]; exact dec0_nil h) (by simp) (by simp)
    have hA := SeriesAt_T true (dec0 v.2.2) w (w.1.length : Int) (by omega) (by rw [hw2]; omega) (by simp) (fun h => by rw [hw2]; exact dec0_nil h) ⟨hvw, hvw.2.2.2.1, Int.le_refl _⟩
    have hV := iValidVersions_ok true (dec0 v.2.2) w (by omega) (by rw [hw2]; omega) (by simp) (fun h => by rw [hw2]; exact dec0_nil h)
    rw [verB_T hvw] at hV
    have hwp := (verP_iff.1 hvw).2.2.2.2.1
    obtain ⟨a1, a2⟩ := ser_ok v.1 (verP_iff.1 hok.1).2.2.2.2.1
    obtain ⟨b1, b2⟩ := ins_value a1 x
    have hil := insF_len (serAt v.1) x
    have hsl := serAt_len v.1
    have h16 : v.1.length ≤ 15 := by have := hok.2.2; omega
    have hsv : serB (insF (serAt v.1) x) = true := ser_valid (ins_asc a1 x) (fun y hy => (ins_mem hy).elim (a2 y) (fun e => by rw [e]; exact hok.2.1)) (by omega)
    rw [hwx] at hA
    obtain ⟨S, hSd⟩ : ∃ S, S = insF (serAt v.1) x := ⟨_, rfl⟩
    rw [← hSd] at hA b1 b2 hil hsv
    have hdS : dec0 S = true := by unfold dec0; simp; omega
    have hX := ValueAt_T (dec0 S) S x.1 hsv (fun h => dec0_nil h) (by omega) b1
    rw [b2] at hX
    refine fnOk_of' (k := 0) tyOk Try.func6 rfl (by kernel_rfl) Try.ntmps6 (by rw [Try.results6]) rfl (by simp only [List.length_cons, List.length_nil, Nat.reduceAdd, Nat.reduceSub, List.replicate_succ, List.replicate_zero, List.cons_append, List.nil_append]; rfl) (by simp) (by simp) (fun r hr => by simp at hr) fun base => ?_
    refine AW.seq ?_
    refine AW.region ?_
    first
      | refine ao0 (em_assign (by rfl) (by rfl)) (by rfl) (by rfl) ?_
      | refine ao0 (em_assignG (by rfl) (by rfl)) (by rfl) (by rfl) ?_
      | refine ao0 (sem_move (.inr (by rfl))) (by rfl) (by rfl) ?_
    refine ao_nil (by first | dsimp only [setO, setE] | rfl) (by first | dsimp only [setM, setE, setR] | rfl) (by rfl) ?_
    refine AW.seq ?_
    refine AW.seq ?_
    refine AW.region ?_
    first
      | refine ao0 (em_move (by rfl) (by rfl)) (by rfl) (by rfl) ?_
      | refine ao0 (em_moveG (by rfl) (by rfl)) (by rfl) (by rfl) ?_
      | refine ao0 (sem_move (.inl (by rfl))) (by rfl) (by rfl) ?_
    first
      | refine ao0 (sem_len tyOk (by rfl) (by rfl) (by rfl) (by rfl) (by first | exact .inl ⟨_, _, _, rfl⟩ | exact .inr ⟨_, _, rfl⟩)) (by rfl) (by rfl) ?_
      | refine ao0 (sem_len_str tyOk (by rfl) (by rfl) (by rfl) (by rfl)) (by rfl) (by rfl) ?_
    first
      | refine ao0 (em_binI (by rfl) (by rfl) (by rfl) (by rfl) (by first | rfl | trivial | exact ⟨rfl, by decide⟩ | exact ⟨rfl, by omega⟩ | decide | omega)) (by rfl) (by rfl) ?_
      | refine ao0 (sem_binS (by rfl) (by rfl) (by rfl) (by rfl) (by trivial)) (by rfl) (by rfl) ?_
    refine ao_nil (by first | dsimp only [setO, setE] | rfl) (by first | dsimp only [setM, setE, setR] | rfl) (by rfl) ?_
    refine AW.cond (by rfl) (fun hc1 => ?_) (fun hc1 => ?_)
    · skip
      refine AW.seq ?_
      refine AW.region ?_
      first
        | refine ao0 (em_assign (by rfl) (by rfl)) (by rfl) (by rfl) ?_
        | refine ao0 (em_assignG (by rfl) (by rfl)) (by rfl) (by rfl) ?_
        | refine ao0 (sem_move (.inr (by rfl))) (by rfl) (by rfl) ?_
      refine ao_nil (by first | dsimp only [setO, setE] | rfl) (by first | dsimp only [setM, setE, setR] | rfl) (by rfl) ?_
      refine AW.ret ?_
      refine retA_data (n := 0) rfl (by rfl) ?_ rfl rfl _ (.inr rfl)
      exact pack_b (by simp [hw1])
    · skip
      refine AW.skip ?_
      refine AW.seq ?_
      refine AW.region ?_
      first
        | refine ao0 (em_move (by rfl) (by rfl)) (by rfl) (by rfl) ?_
        | refine ao0 (em_moveG (by rfl) (by rfl)) (by rfl) (by rfl) ?_
        | refine ao0 (sem_move (.inl (by rfl))) (by rfl) (by rfl) ?_
      refine ao_callL [] [] (hdraw) (by rfl) (by rfl) (by rfl) (by rfl) (by rfl) (by repeat' (first | exact True.intro | exact .inl ⟨by rfl, by rfl⟩ | exact rfl | exact .inr (.inl ⟨_, _, _, _, by rfl, by rfl⟩) | exact .inr (.inr ⟨_, _, _, _, _, _, by rfl, by rfl, by rfl, by first | exact .head _ | exact .tail _ (.head _) | exact .tail _ (.tail _ (.head _)) | exact .tail _ (.tail _ (.tail _ (.head _)))⟩) | refine And.intro ?_ ?_)) (by repeat' (first | exact True.intro | exact .inl ⟨by rfl, by rfl⟩ | exact rfl | exact .inl rfl | exact .inr (.inl ⟨_, _, _, _, by rfl, by rfl⟩) | exact .inr ⟨rfl, by simp [D.scalar, bD]⟩ | refine And.intro ?_ ?_)) (by rfl) (by rfl) (by rfl) (by decide) (by rfl) (by rfl) (by omega) (by first | rfl | (simp [keptB, notGone, (by rfl).live]; done)) (by rfl) (by rfl) (by rfl) (by rfl) (by rfl) (by rfl) (by rfl) ?_
      first
        | refine ao0 (em_move (by rfl) (by rfl)) (by rfl) (by rfl) ?_
        | refine ao0 (em_moveG (by rfl) (by rfl)) (by rfl) (by rfl) ?_
        | refine ao0 (sem_move (.inl (by rfl))) (by rfl) (by rfl) ?_
      refine ao0 (sem_extract (by rfl) (by rfl) (by rfl)) (by rfl) (by rfl) ?_
      refine ao0 (sem_extract (by rfl) (by rfl) (by rfl)) (by rfl) (by rfl) ?_
      refine ao1 (sem_alloc tyOk (by rfl) (by rfl)) (by omega) (by rfl) (by rfl) ?_
      refine ao1 (sem_alloc tyOk (by rfl) (by rfl)) (by omega) (by rfl) (by rfl) ?_
      first
        | refine ao_store_box tyOk (by rfl) (by rfl) (by rfl) (by rfl) (by rfl) (by rfl) (by rfl) (by rfl) (by first | exact Nat.le_of_ble_eq_true rfl | decide | (simp; done) | omega) ?_
        | refine ao_store_arr tyOk (by rfl) (by rfl) (by rfl) (by rfl) (by rfl) (by rfl) (by rfl) (by rfl) (by rfl) (by first | decide | (simp; done) | omega | (simp only [List.length_cons, List.length_nil, List.length_map]; omega) | (simp only [setR_len, List.length_cons, List.length_nil, List.length_map]; omega)) ?_
      first
        | refine ao_store_box tyOk (by rfl) (by rfl) (by rfl) (by rfl) (by rfl) (by rfl) (by rfl) (by rfl) (by first | exact Nat.le_of_ble_eq_true rfl | decide | (simp; done) | omega) ?_
        | refine ao_store_arr tyOk (by rfl) (by rfl) (by rfl) (by rfl) (by rfl) (by rfl) (by rfl) (by rfl) (by rfl) (by first | decide | (simp; done) | omega | (simp only [List.length_cons, List.length_nil, List.length_map]; omega) | (simp only [setR_len, List.length_cons, List.length_nil, List.length_map]; omega)) ?_
      refine ao_nil (by first | dsimp only [setO, setE] | rfl) (by first | dsimp only [setM, setE, setR] | rfl) (by rfl) ?_
      refine AW.seq ?_
      refine AW.region ?_
      refine ao_load tyOk (by rfl) (by rfl) (by rfl) (by rfl) (by rfl) (by rfl) (by rfl) (by first | trivial | exact Nat.le_of_ble_eq_true rfl | decide | (simp; done) | omega) ?_
      refine ao_load tyOk (by rfl) (by rfl) (by rfl) (by rfl) (by rfl) (by rfl) (by rfl) (by first | trivial | exact Nat.le_of_ble_eq_true rfl | decide | (simp; done) | omega) ?_
      refine ao_callL [] [] (hI) (by rfl) (by rfl) (by rfl) (by rfl) (by rfl) (by repeat' (first | exact True.intro | exact .inl ⟨by rfl, by rfl⟩ | exact rfl | exact .inr (.inl ⟨_, _, _, _, by rfl, by rfl⟩) | exact .inr (.inr ⟨_, _, _, _, _, _, by rfl, by rfl, by rfl, by first | exact .head _ | exact .tail _ (.head _) | exact .tail _ (.tail _ (.head _)) | exact .tail _ (.tail _ (.tail _ (.head _)))⟩) | refine And.intro ?_ ?_)) (by repeat' (first | exact True.intro | exact .inl ⟨by rfl, by rfl⟩ | exact rfl | exact .inl rfl | exact .inr (.inl ⟨_, _, _, _, by rfl, by rfl⟩) | exact .inr ⟨rfl, by simp [D.scalar, bD]⟩ | refine And.intro ?_ ?_)) (by rfl) (by rfl) (by rfl) (by decide) (by rfl) (by rfl) (by omega) (by first | rfl | (simp [keptB, notGone, (by rfl).live]; done)) (by rfl) (by rfl) (by rfl) (by rfl) (by rfl) (by rfl) (by rfl) ?_
      first
        | refine ao0 (em_move (by rfl) (by rfl)) (by rfl) (by rfl) ?_
        | refine ao0 (em_moveG (by rfl) (by rfl)) (by rfl) (by rfl) ?_
        | refine ao0 (sem_move (.inl (by rfl))) (by rfl) (by rfl) ?_
      refine ao0 (sem_extract (by rfl) (by rfl) (by rfl)) (by rfl) (by rfl) ?_
      refine ao0 (sem_extract (by rfl) (by rfl) (by rfl)) (by rfl) (by rfl) ?_
      refine ao1 (sem_alloc tyOk (by rfl) (by rfl)) (by omega) (by rfl) (by rfl) ?_
      first
        | refine ao_store_box tyOk (by rfl) (by rfl) (by rfl) (by rfl) (by rfl) (by rfl) (by rfl) (by rfl) (by first | exact Nat.le_of_ble_eq_true rfl | decide | (simp; done) | omega) ?_
        | refine ao_store_arr tyOk (by rfl) (by rfl) (by rfl) (by rfl) (by rfl) (by rfl) (by rfl) (by rfl) (by rfl) (by first | decide | (simp; done) | omega | (simp only [List.length_cons, List.length_nil, List.length_map]; omega) | (simp only [setR_len, List.length_cons, List.length_nil, List.length_map]; omega)) ?_
      first
        | refine ao0 (em_assign (by rfl) (by rfl)) (by rfl) (by rfl) ?_
        | refine ao0 (em_assignG (by rfl) (by rfl)) (by rfl) (by rfl) ?_
        | refine ao0 (sem_move (.inr (by rfl))) (by rfl) (by rfl) ?_
      refine ao_nil (by first | dsimp only [setO, setE] | rfl) (by first | dsimp only [setM, setE, setR] | rfl) (by rfl) ?_
      refine AW.seq ?_
      refine AW.region ?_
      refine ao_load tyOk (by rfl) (by rfl) (by rfl) (by rfl) (by rfl) (by rfl) (by rfl) (by first | trivial | exact Nat.le_of_ble_eq_true rfl | decide | (simp; done) | omega) ?_
      refine ao_load tyOk (by rfl) (by rfl) (by rfl) (by rfl) (by rfl) (by rfl) (by rfl) (by first | trivial | exact Nat.le_of_ble_eq_true rfl | decide | (simp; done) | omega) ?_
      refine ao_callL [] [] (hS) (by rfl) (by rfl) (by rfl) (by rfl) (by rfl) (by repeat' (first | exact True.intro | exact .inl ⟨by rfl, by rfl⟩ | exact rfl | exact .inr (.inl ⟨_, _, _, _, by rfl, by rfl⟩) | exact .inr (.inr ⟨_, _, _, _, _, _, by rfl, by rfl, by rfl, by first | exact .head _ | exact .tail _ (.head _) | exact .tail _ (.tail _ (.head _)) | exact .tail _ (.tail _ (.tail _ (.head _)))⟩) | refine And.intro ?_ ?_)) (by repeat' (first | exact True.intro | exact .inl ⟨by rfl, by rfl⟩ | exact rfl | exact .inl rfl | exact .inr (.inl ⟨_, _, _, _, by rfl, by rfl⟩) | exact .inr ⟨rfl, by simp [D.scalar, bD]⟩ | refine And.intro ?_ ?_)) (by rfl) (by rfl) (by rfl) (by decide) (by rfl) (by rfl) (by omega) (by first | rfl | (simp [keptB, notGone, (by rfl).live]; done)) (by rfl) (by rfl) (by rfl) (by rfl) (by rfl) (by rfl) (by rfl) ?_
      first
        | refine ao0 (em_move (by rfl) (by rfl)) (by rfl) (by rfl) ?_
        | refine ao0 (em_moveG (by rfl) (by rfl)) (by rfl) (by rfl) ?_
        | refine ao0 (sem_move (.inl (by rfl))) (by rfl) (by rfl) ?_
      refine ao0 (sem_extract (by rfl) (by rfl) (by rfl)) (by rfl) (by rfl) ?_
      refine ao0 (sem_extract (by rfl) (by rfl) (by rfl)) (by rfl) (by rfl) ?_
      refine ao1 (sem_alloc tyOk (by rfl) (by rfl)) (by omega) (by rfl) (by rfl) ?_
      first
        | refine ao_store_box tyOk (by rfl) (by rfl) (by rfl) (by rfl) (by rfl) (by rfl) (by rfl) (by rfl) (by first | exact Nat.le_of_ble_eq_true rfl | decide | (simp; done) | omega) ?_
        | refine ao_store_arr tyOk (by rfl) (by rfl) (by rfl) (by rfl) (by rfl) (by rfl) (by rfl) (by rfl) (by rfl) (by first | decide | (simp; done) | omega | (simp only [List.length_cons, List.length_nil, List.length_map]; omega) | (simp only [setR_len, List.length_cons, List.length_nil, List.length_map]; omega)) ?_
      first
        | refine ao0 (em_assign (by rfl) (by rfl)) (by rfl) (by rfl) ?_
        | refine ao0 (em_assignG (by rfl) (by rfl)) (by rfl) (by rfl) ?_
        | refine ao0 (sem_move (.inr (by rfl))) (by rfl) (by rfl) ?_
      refine ao_nil (by first | dsimp only [setO, setE] | rfl) (by first | dsimp only [setM, setE, setR] | rfl) (by rfl) ?_
      refine AW.seq ?_
      refine AW.seq ?_
      refine AW.region ?_
      refine ao_load tyOk (by rfl) (by rfl) (by rfl) (by rfl) (by rfl) (by rfl) (by rfl) (by first | trivial | exact Nat.le_of_ble_eq_true rfl | decide | (simp; done) | omega) ?_
      refine ao_load tyOk (by rfl) (by rfl) (by rfl) (by rfl) (by rfl) (by rfl) (by rfl) (by first | trivial | exact Nat.le_of_ble_eq_true rfl | decide | (simp; done) | omega) ?_
      refine ao_callL [] [] (hE) (by rfl) (by rfl) (by rfl) (by rfl) (by rfl) (by repeat' (first | exact True.intro | exact .inl ⟨by rfl, by rfl⟩ | exact rfl | exact .inr (.inl ⟨_, _, _, _, by rfl, by rfl⟩) | exact .inr (.inr ⟨_, _, _, _, _, _, by rfl, by rfl, by rfl, by first | exact .head _ | exact .tail _ (.head _) | exact .tail _ (.tail _ (.head _)) | exact .tail _ (.tail _ (.tail _ (.head _)))⟩) | refine And.intro ?_ ?_)) (by repeat' (first | exact True.intro | exact .inl ⟨by rfl, by rfl⟩ | exact rfl | exact .inl rfl | exact .inr (.inl ⟨_, _, _, _, by rfl, by rfl⟩) | exact .inr ⟨rfl, by simp [D.scalar, bD]⟩ | refine And.intro ?_ ?_)) (by rfl) (by rfl) (by rfl) (by decide) (by rfl) (by rfl) (by omega) (by first | rfl | (simp [keptB, notGone, (by rfl).live]; done)) (by rfl) (by rfl) (by rfl) (by rfl) (by rfl) (by rfl) (by rfl) ?_
      refine ao0 (sem_unOp (by rfl) (by rfl) (by rfl)) (by rfl) (by rfl) ?_
      first
        | refine ao0 (em_move (by rfl) (by rfl)) (by rfl) (by rfl) ?_
        | refine ao0 (em_moveG (by rfl) (by rfl)) (by rfl) (by rfl) ?_
        | refine ao0 (sem_move (.inl (by rfl))) (by rfl) (by rfl) ?_
      first
        | refine ao_skip (by rfl) (by rfl) ?_
        | refine ao0 (em_move (by rfl) (by rfl)) (by rfl) (by rfl) ?_
        | refine ao0 (em_moveG (by rfl) (by rfl)) (by rfl) (by rfl) ?_
        | refine ao0 (sem_move (.inl (by rfl))) (by rfl) (by rfl) ?_
        | refine ao_opt (by rfl) (by rfl) (fun he => astep0 (em_move (by rfl) (by rfl))) ?_
        | refine ao_opt (by rfl) (by rfl) (fun he => astep0 (em_moveG (by rfl) (by rfl))) ?_
        | refine ao_opt (by rfl) (by rfl) (fun he => by rw [he]; exact astep0 (em_move (by rfl) (by rfl))) ?_
        | refine ao_opt (by rfl) (by rfl) (fun he => by rw [he]; exact astep0 (em_moveG (by rfl) (by rfl))) ?_
        | refine ao_opt (by rfl) (by rfl) (fun he => astep0 (sem_move (.inl (by rfl)))) ?_
        | refine ao_opt (by rfl) (by rfl) (fun he => by rw [he]; exact astep0 (sem_move (.inl (by rfl)))) ?_
      first
        | refine ao_skip (by rfl) (by rfl) ?_
        | refine ao0 (em_move (by rfl) (by rfl)) (by rfl) (by rfl) ?_
        | refine ao0 (em_moveG (by rfl) (by rfl)) (by rfl) (by rfl) ?_
        | refine ao0 (sem_move (.inl (by rfl))) (by rfl) (by rfl) ?_
        | refine ao_opt (by rfl) (by rfl) (fun he => astep0 (em_move (by rfl) (by rfl))) ?_
        | refine ao_opt (by rfl) (by rfl) (fun he => astep0 (em_moveG (by rfl) (by rfl))) ?_
        | refine ao_opt (by rfl) (by rfl) (fun he => by rw [he]; exact astep0 (em_move (by rfl) (by rfl))) ?_
        | refine ao_opt (by rfl) (by rfl) (fun he => by rw [he]; exact astep0 (em_moveG (by rfl) (by rfl))) ?_
        | refine ao_opt (by rfl) (by rfl) (fun he => astep0 (sem_move (.inl (by rfl)))) ?_
        | refine ao_opt (by rfl) (by rfl) (fun he => by rw [he]; exact astep0 (sem_move (.inl (by rfl)))) ?_
      first
        | refine ao_skip (by rfl) (by rfl) ?_
        | refine ao0 (em_binI (by rfl) (by rfl) (by rfl) (by rfl) (by first | rfl | trivial | exact ⟨rfl, by decide⟩ | exact ⟨rfl, by omega⟩ | decide | omega)) (by rfl) (by rfl) ?_
        | refine ao0 (sem_binB tyOk (by rfl) (by rfl) (by rfl) (by rfl) (by rfl) (by rfl)) (by rfl) (by rfl) ?_
        | refine ao0 (sem_nilS tyOk (by rfl) (by rfl) (by rfl) (by rfl) (by rfl) (by first | exact .inl ⟨rfl, rfl⟩ | exact .inr ⟨rfl, rfl⟩)) (by rfl) (by rfl) ?_
        | refine ao0 (sem_binS (by rfl) (by rfl) (by rfl) (by rfl) (by trivial)) (by rfl) (by rfl) ?_
        | refine ao_opt (by rfl) (by rfl) (fun he => astep0 (em_binI (by rfl) (by rfl) (by rfl) (by rfl) (by first | rfl | trivial | exact ⟨rfl, by decide⟩ | exact ⟨rfl, by omega⟩ | decide | omega))) ?_
        | refine ao_opt (by rfl) (by rfl) (fun he => astep0 (sem_binB tyOk (by rfl) (by rfl) (by rfl) (by rfl) (by rfl) (by rfl))) ?_
        | refine ao_opt (by rfl) (by rfl) (fun he => astep0 (sem_nilS tyOk (by rfl) (by rfl) (by rfl) (by rfl) (by rfl) (by first | exact .inl ⟨rfl, rfl⟩ | exact .inr ⟨rfl, rfl⟩))) ?_
        | refine ao_opt (by rfl) (by rfl) (fun he => astep0 (sem_binS (by rfl) (by rfl) (by rfl) (by rfl) (by trivial))) ?_
        | refine ao_opt (by rfl) (by rfl) (fun he => by rw [he]; exact astep0 (em_binI (by rfl) (by rfl) (by rfl) (by rfl) (by first | rfl | trivial | exact ⟨rfl, by decide⟩ | exact ⟨rfl, by omega⟩ | decide | omega))) ?_
        | refine ao_opt (by rfl) (by rfl) (fun he => by rw [he]; exact astep0 (sem_binB tyOk (by rfl) (by rfl) (by rfl) (by rfl) (by rfl) (by rfl))) ?_
        | refine ao_opt (by rfl) (by rfl) (fun he => by rw [he]; exact astep0 (sem_nilS tyOk (by rfl) (by rfl) (by rfl) (by rfl) (by rfl) (by first | exact .inl ⟨rfl, rfl⟩ | exact .inr ⟨rfl, rfl⟩))) ?_
        | refine ao_opt (by rfl) (by rfl) (fun he => by rw [he]; exact astep0 (sem_binS (by rfl) (by rfl) (by rfl) (by rfl) (by trivial))) ?_
      first
        | refine ao0 (sem_pickg (by rfl) (by rfl) (by rfl) (by rfl) (by intro hh; first | rfl | exact hh | (exact Bool.noConfusion hh) | (simp [wexp]; done) | (simp [wexp] at hh; done) | (simpa [wexp] using hh) | (simp_all; done)) (by intro hh; first | rfl | exact hh | (exact Bool.noConfusion hh) | (simp [wexp]; done) | (simp [wexp] at hh; done) | (simpa [wexp] using hh) | (simp_all; done))) (by rfl) (by rfl) ?_
        | refine ao0 (sem_pick (by rfl) (by rfl)) (by rfl) (by rfl) ?_
      first
        | refine ao0 (em_move (by rfl) (by rfl)) (by rfl) (by rfl) ?_
        | refine ao0 (em_moveG (by rfl) (by rfl)) (by rfl) (by rfl) ?_
        | refine ao0 (sem_move (.inl (by rfl))) (by rfl) (by rfl) ?_
      first
        | refine ao_skip (by rfl) (by rfl) ?_
        | refine ao0 (em_move (by rfl) (by rfl)) (by rfl) (by rfl) ?_
        | refine ao0 (em_moveG (by rfl) (by rfl)) (by rfl) (by rfl) ?_
        | refine ao0 (sem_move (.inl (by rfl))) (by rfl) (by rfl) ?_
        | refine ao_opt (by rfl) (by rfl) (fun he => astep0 (em_move (by rfl) (by rfl))) ?_
        | refine ao_opt (by rfl) (by rfl) (fun he => astep0 (em_moveG (by rfl) (by rfl))) ?_
        | refine ao_opt (by rfl) (by rfl) (fun he => by rw [he]; exact astep0 (em_move (by rfl) (by rfl))) ?_
        | refine ao_opt (by rfl) (by rfl) (fun he => by rw [he]; exact astep0 (em_moveG (by rfl) (by rfl))) ?_
        | refine ao_opt (by rfl) (by rfl) (fun he => astep0 (sem_move (.inl (by rfl)))) ?_
        | refine ao_opt (by rfl) (by rfl) (fun he => by rw [he]; exact astep0 (sem_move (.inl (by rfl)))) ?_
      first
        | refine ao_skip (by rfl) (by rfl) ?_
        | refine ao0 (sem_unOp (by rfl) (by rfl) (by rfl)) (by rfl) (by rfl) ?_
        | refine ao_opt (by rfl) (by rfl) (fun he => astep0 (sem_unOp (by rfl) (by rfl) (by rfl))) ?_
        | refine ao_opt (by rfl) (by rfl) (fun he => by rw [he]; exact astep0 (sem_unOp (by rfl) (by rfl) (by rfl))) ?_
      dsimp only [setO, setE]
      first
        | refine ao0 (sem_pickg (by rfl) (by rfl) (by rfl) (by rfl) (by intro hh; first | rfl | exact hh | (exact Bool.noConfusion hh) | (simp [wexp]; done) | (simp [wexp] at hh; done) | (simpa [wexp] using hh) | (simp_all; done)) (by intro hh; first | rfl | exact hh | (exact Bool.noConfusion hh) | (simp [wexp]; done) | (simp [wexp] at hh; done) | (simpa [wexp] using hh) | (simp_all; done))) (by rfl) (by rfl) ?_
        | refine ao0 (sem_pick (by rfl) (by rfl)) (by rfl) (by rfl) ?_
      refine ao_nil (by first | dsimp only [setO, setE] | rfl) (by first | dsimp only [setM, setE, setR] | rfl) (by rfl) ?_
      refine AW.cond (by rfl) (fun hc2 => ?_) (fun hc2 => ?_)
      · skip
        exfalso; simp at hc2
      · skip
        refine AW.skip ?_
        refine AW.seq ?_
        refine AW.region ?_
        refine ao_load tyOk (by rfl) (by rfl) (by rfl) (by rfl) (by rfl) (by rfl) (by rfl) (by first | trivial | exact Nat.le_of_ble_eq_true rfl | decide | (simp; done) | omega) ?_
        refine ao0 (sem_fieldAddr tyOk (by rfl) (by rfl) (by rfl) (by rfl) (by rfl) (by rfl)) (by rfl) (by rfl) ?_
        refine ao_load tyOk (by rfl) (by rfl) (by rfl) (by rfl) (by rfl) (by rfl) (by rfl) (by first | trivial | exact Nat.le_of_ble_eq_true rfl | decide | (simp; done) | omega) ?_
        first
          | refine ao0 (sem_len tyOk (by rfl) (by rfl) (by rfl) (by rfl) (by first | exact .inl ⟨_, _, _, rfl⟩ | exact .inr ⟨_, _, rfl⟩)) (by rfl) (by rfl) ?_
          | refine ao0 (sem_len_str tyOk (by rfl) (by rfl) (by rfl) (by rfl)) (by rfl) (by rfl) ?_
        refine ao_callL [] [] (hA) (by rfl) (by rfl) (by rfl) (by rfl) (by rfl) (by repeat' (first | exact True.intro | exact .inl ⟨by rfl, by rfl⟩ | exact rfl | exact .inr (.inl ⟨_, _, _, _, by rfl, by rfl⟩) | exact .inr (.inr ⟨_, _, _, _, _, _, by rfl, by rfl, by rfl, by first | exact .head _ | exact .tail _ (.head _) | exact .tail _ (.tail _ (.head _)) | exact .tail _ (.tail _ (.tail _ (.head _)))⟩) | refine And.intro ?_ ?_)) (by repeat' (first | exact True.intro | exact .inl ⟨by rfl, by rfl⟩ | exact rfl | exact .inl rfl | exact .inr (.inl ⟨_, _, _, _, by rfl, by rfl⟩) | exact .inr ⟨rfl, by simp [D.scalar, bD]⟩ | refine And.intro ?_ ?_)) (by rfl) (by rfl) (by rfl) (by decide) (by rfl) (by rfl) (by omega) (by first | rfl | (simp [keptB, notGone, (by rfl).live]; done)) (by rfl) (by rfl) (by rfl) (by rfl) (by rfl) (by rfl) (by rfl) ?_
        first
          | refine ao0 (em_move (by rfl) (by rfl)) (by rfl) (by rfl) ?_
          | refine ao0 (em_moveG (by rfl) (by rfl)) (by rfl) (by rfl) ?_
          | refine ao0 (sem_move (.inl (by rfl))) (by rfl) (by rfl) ?_
        refine ao0 (sem_extract (by rfl) (by rfl) (by rfl)) (by rfl) (by rfl) ?_
        refine ao0 (sem_extract (by rfl) (by rfl) (by rfl)) (by rfl) (by rfl) ?_
        first
          | refine ao0 (em_assign (by rfl) (by rfl)) (by rfl) (by rfl) ?_
          | refine ao0 (em_assignG (by rfl) (by rfl)) (by rfl) (by rfl) ?_
          | refine ao0 (sem_move (.inr (by rfl))) (by rfl) (by rfl) ?_
        first
          | refine ao0 (em_assign (by rfl) (by rfl)) (by rfl) (by rfl) ?_
          | refine ao0 (em_assignG (by rfl) (by rfl)) (by rfl) (by rfl) ?_
          | refine ao0 (sem_move (.inr (by rfl))) (by rfl) (by rfl) ?_
        refine ao_nil (by first | dsimp only [setO, setE] | rfl) (by first | dsimp only [setM, setE, setR] | rfl) (by rfl) ?_
        refine AW.seq ?_
        refine AW.region ?_
        first
          | refine ao0 (em_move (by rfl) (by rfl)) (by rfl) (by rfl) ?_
          | refine ao0 (em_moveG (by rfl) (by rfl)) (by rfl) (by rfl) ?_
          | refine ao0 (sem_move (.inl (by rfl))) (by rfl) (by rfl) ?_
        refine ao0 (sem_fieldAddr tyOk (by rfl) (by rfl) (by rfl) (by rfl) (by rfl) (by rfl)) (by rfl) (by rfl) ?_
        refine ao_load tyOk (by rfl) (by rfl) (by rfl) (by rfl) (by rfl) (by rfl) (by rfl) (by first | trivial | exact Nat.le_of_ble_eq_true rfl | decide | (simp; done) | omega) ?_
        refine ao_callL [] [] (hX) (by rfl) (by rfl) (by rfl) (by rfl) (by rfl) (by repeat' (first | exact True.intro | exact .inl ⟨by rfl, by rfl⟩ | exact rfl | exact .inr (.inl ⟨_, _, _, _, by rfl, by rfl⟩) | exact .inr (.inr ⟨_, _, _, _, _, _, by rfl, by rfl, by rfl, by first | exact .head _ | exact .tail _ (.head _) | exact .tail _ (.tail _ (.head _)) | exact .tail _ (.tail _ (.tail _ (.head _)))⟩) | refine And.intro ?_ ?_)) (by repeat' (first | exact True.intro | exact .inl ⟨by rfl, by rfl⟩ | exact rfl | exact .inl rfl | exact .inr (.inl ⟨_, _, _, _, by rfl, by rfl⟩) | exact .inr ⟨rfl, by simp [D.scalar, bD]⟩ | refine And.intro ?_ ?_)) (by rfl) (by rfl) (by rfl) (by decide) (by rfl) (by rfl) (by omega) (by first | rfl | (simp [keptB, notGone, (by rfl).live]; done)) (by rfl) (by rfl) (by rfl) (by rfl) (by rfl) (by rfl) (by rfl) ?_
        first
          | refine ao0 (em_move (by rfl) (by rfl)) (by rfl) (by rfl) ?_
          | refine ao0 (em_moveG (by rfl) (by rfl)) (by rfl) (by rfl) ?_
          | refine ao0 (sem_move (.inl (by rfl))) (by rfl) (by rfl) ?_
        refine ao0 (sem_extract (by rfl) (by rfl) (by rfl)) (by rfl) (by rfl) ?_
        refine ao0 (sem_extract (by rfl) (by rfl) (by rfl)) (by rfl) (by rfl) ?_
        first
          | refine ao0 (em_assign (by rfl) (by rfl)) (by rfl) (by rfl) ?_
          | refine ao0 (em_assignG (by rfl) (by rfl)) (by rfl) (by rfl) ?_
          | refine ao0 (sem_move (.inr (by rfl))) (by rfl) (by rfl) ?_
        first
          | refine ao0 (em_assign (by rfl) (by rfl)) (by rfl) (by rfl) ?_
          | refine ao0 (em_assignG (by rfl) (by rfl)) (by rfl) (by rfl) ?_
          | refine ao0 (sem_move (.inr (by rfl))) (by rfl) (by rfl) ?_
        refine ao_nil (by first | dsimp only [setO, setE] | rfl) (by first | dsimp only [setM, setE, setR] | rfl) (by rfl) ?_
        refine AW.seq ?_
        refine AW.region ?_
        first
          | refine ao0 (em_move (by rfl) (by rfl)) (by rfl) (by rfl) ?_
          | refine ao0 (em_moveG (by rfl) (by rfl)) (by rfl) (by rfl) ?_
          | refine ao0 (sem_move (.inl (by rfl))) (by rfl) (by rfl) ?_
        first
          | refine ao0 (em_move (by rfl) (by rfl)) (by rfl) (by rfl) ?_
          | refine ao0 (em_moveG (by rfl) (by rfl)) (by rfl) (by rfl) ?_
          | refine ao0 (sem_move (.inl (by rfl))) (by rfl) (by rfl) ?_
        first
          | refine ao_skip (by rfl) (by rfl) ?_
          | refine ao0 (em_move (by rfl) (by rfl)) (by rfl) (by rfl) ?_
          | refine ao0 (em_moveG (by rfl) (by rfl)) (by rfl) (by rfl) ?_
          | refine ao0 (sem_move (.inl (by rfl))) (by rfl) (by rfl) ?_
          | refine ao_opt (by rfl) (by rfl) (fun he => astep0 (em_move (by rfl) (by rfl))) ?_
          | refine ao_opt (by rfl) (by rfl) (fun he => astep0 (em_moveG (by rfl) (by rfl))) ?_
          | refine ao_opt (by rfl) (by rfl) (fun he => by rw [he]; exact astep0 (em_move (by rfl) (by rfl))) ?_
          | refine ao_opt (by rfl) (by rfl) (fun he => by rw [he]; exact astep0 (em_moveG (by rfl) (by rfl))) ?_
          | refine ao_opt (by rfl) (by rfl) (fun he => astep0 (sem_move (.inl (by rfl)))) ?_
          | refine ao_opt (by rfl) (by rfl) (fun he => by rw [he]; exact astep0 (sem_move (.inl (by rfl)))) ?_
        first
          | refine ao0 (sem_pickg (by rfl) (by rfl) (by rfl) (by rfl) (by intro hh; first | rfl | exact hh | (exact Bool.noConfusion hh) | (simp [wexp]; done) | (simp [wexp] at hh; done) | (simpa [wexp] using hh) | (simp_all; done)) (by intro hh; first | rfl | exact hh | (exact Bool.noConfusion hh) | (simp [wexp]; done) | (simp [wexp] at hh; done) | (simpa [wexp] using hh) | (simp_all; done))) (by rfl) (by rfl) ?_
          | refine ao0 (sem_pick (by rfl) (by rfl)) (by rfl) (by rfl) ?_
        first
          | refine ao0 (em_move (by rfl) (by rfl)) (by rfl) (by rfl) ?_
          | refine ao0 (em_moveG (by rfl) (by rfl)) (by rfl) (by rfl) ?_
          | refine ao0 (sem_move (.inl (by rfl))) (by rfl) (by rfl) ?_
        first
          | refine ao_skip (by rfl) (by rfl) ?_
          | refine ao0 (em_move (by rfl) (by rfl)) (by rfl) (by rfl) ?_
          | refine ao0 (em_moveG (by rfl) (by rfl)) (by rfl) (by rfl) ?_
          | refine ao0 (sem_move (.inl (by rfl))) (by rfl) (by rfl) ?_
          | refine ao_opt (by rfl) (by rfl) (fun he => astep0 (em_move (by rfl) (by rfl))) ?_
          | refine ao_opt (by rfl) (by rfl) (fun he => astep0 (em_moveG (by rfl) (by rfl))) ?_
          | refine ao_opt (by rfl) (by rfl) (fun he => by rw [he]; exact astep0 (em_move (by rfl) (by rfl))) ?_
          | refine ao_opt (by rfl) (by rfl) (fun he => by rw [he]; exact astep0 (em_moveG (by rfl) (by rfl))) ?_
          | refine ao_opt (by rfl) (by rfl) (fun he => astep0 (sem_move (.inl (by rfl)))) ?_
          | refine ao_opt (by rfl) (by rfl) (fun he => by rw [he]; exact astep0 (sem_move (.inl (by rfl)))) ?_
        first
          | refine ao_skip (by rfl) (by rfl) ?_
          | refine ao0 (sem_fieldAddr tyOk (by rfl) (by rfl) (by rfl) (by rfl) (by rfl) (by rfl)) (by rfl) (by rfl) ?_
          | refine ao_opt (by rfl) (by rfl) (fun he => astep0 (sem_fieldAddr tyOk (by rfl) (by rfl) (by rfl) (by rfl) (by rfl) (by rfl))) ?_
          | refine ao_opt (by rfl) (by rfl) (fun he => by rw [he]; exact astep0 (sem_fieldAddr tyOk (by rfl) (by rfl) (by rfl) (by rfl) (by rfl) (by rfl))) ?_
        first
          | refine ao_skip (by rfl) (by rfl) ?_
          | refine ao_load tyOk (by rfl) (by rfl) (by rfl) (by rfl) (by rfl) (by rfl) (by rfl) (by first | trivial | exact Nat.le_of_ble_eq_true rfl | decide | (simp; done) | omega) ?_
          | refine ao_opt (by rfl) (by rfl) (fun he => astep_load tyOk (by rfl) (by rfl) (by rfl) (by rfl) (by rfl) (by first | trivial | exact Nat.le_of_ble_eq_true rfl | decide | (simp; done) | omega)) ?_
          | refine ao_opt (by rfl) (by rfl) (fun he => by rw [he]; exact astep_load tyOk (by rfl) (by rfl) (by rfl) (by rfl) (by rfl) (by first | trivial | exact Nat.le_of_ble_eq_true rfl | decide | (simp; done) | omega)) ?_
        first
          | refine ao_skip (by rfl) (by rfl) ?_
          | refine ao0 (em_binI (by rfl) (by rfl) (by rfl) (by rfl) (by first | rfl | trivial | exact ⟨rfl, by decide⟩ | exact ⟨rfl, by omega⟩ | decide | omega)) (by rfl) (by rfl) ?_
          | refine ao0 (sem_binB tyOk (by rfl) (by rfl) (by rfl) (by rfl) (by rfl) (by rfl)) (by rfl) (by rfl) ?_
          | refine ao0 (sem_nilS tyOk (by rfl) (by rfl) (by rfl) (by rfl) (by rfl) (by first | exact .inl ⟨rfl, rfl⟩ | exact .inr ⟨rfl, rfl⟩)) (by rfl) (by rfl) ?_
          | refine ao0 (sem_binS (by rfl) (by rfl) (by rfl) (by rfl) (by trivial)) (by rfl) (by rfl) ?_
          | refine ao_opt (by rfl) (by rfl) (fun he => astep0 (em_binI (by rfl) (by rfl) (by rfl) (by rfl) (by first | rfl | trivial | exact ⟨rfl, by decide⟩ | exact ⟨rfl, by omega⟩ | decide | omega))) ?_
          | refine ao_opt (by rfl) (by rfl) (fun he => astep0 (sem_binB tyOk (by rfl) (by rfl) (by rfl) (by rfl) (by rfl) (by rfl))) ?_
          | refine ao_opt (by rfl) (by rfl) (fun he => astep0 (sem_nilS tyOk (by rfl) (by rfl) (by rfl) (by rfl) (by rfl) (by first | exact .inl ⟨rfl, rfl⟩ | exact .inr ⟨rfl, rfl⟩))) ?_
          | refine ao_opt (by rfl) (by rfl) (fun he => astep0 (sem_binS (by rfl) (by rfl) (by rfl) (by rfl) (by trivial))) ?_
          | refine ao_opt (by rfl) (by rfl) (fun he => by rw [he]; exact astep0 (em_binI (by rfl) (by rfl) (by rfl) (by rfl) (by first | rfl | trivial | exact ⟨rfl, by decide⟩ | exact ⟨rfl, by omega⟩ | decide | omega))) ?_
          | refine ao_opt (by rfl) (by rfl) (fun he => by rw [he]; exact astep0 (sem_binB tyOk (by rfl) (by rfl) (by rfl) (by rfl) (by rfl) (by rfl))) ?_
          | refine ao_opt (by rfl) (by rfl) (fun he => by rw [he]; exact astep0 (sem_nilS tyOk (by rfl) (by rfl) (by rfl) (by rfl) (by rfl) (by first | exact .inl ⟨rfl, rfl⟩ | exact .inr ⟨rfl, rfl⟩))) ?_
          | refine ao_opt (by rfl) (by rfl) (fun he => by rw [he]; exact astep0 (sem_binS (by rfl) (by rfl) (by rfl) (by rfl) (by trivial))) ?_
        first
          | refine ao0 (sem_pickg (by rfl) (by rfl) (by rfl) (by rfl) (by intro hh; first | rfl | exact hh | (exact Bool.noConfusion hh) | (simp [wexp]; done) | (simp [wexp] at hh; done) | (simpa [wexp] using hh) | (simp_all; done)) (by intro hh; first | rfl | exact hh | (exact Bool.noConfusion hh) | (simp [wexp]; done) | (simp [wexp] at hh; done) | (simpa [wexp] using hh) | (simp_all; done))) (by rfl) (by rfl) ?_
          | refine ao0 (sem_pick (by rfl) (by rfl)) (by rfl) (by rfl) ?_
        first
          | refine ao0 (em_move (by rfl) (by rfl)) (by rfl) (by rfl) ?_
          | refine ao0 (em_moveG (by rfl) (by rfl)) (by rfl) (by rfl) ?_
          | refine ao0 (sem_move (.inl (by rfl))) (by rfl) (by rfl) ?_
        first
          | refine ao_skip (by rfl) (by rfl) ?_
          | refine ao0 (sem_fieldAddr tyOk (by rfl) (by rfl) (by rfl) (by rfl) (by rfl) (by rfl)) (by rfl) (by rfl) ?_
          | refine ao_opt (by rfl) (by rfl) (fun he => astep0 (sem_fieldAddr tyOk (by rfl) (by rfl) (by rfl) (by rfl) (by rfl) (by rfl))) ?_
          | refine ao_opt (by rfl) (by rfl) (fun he => by rw [he]; exact astep0 (sem_fieldAddr tyOk (by rfl) (by rfl) (by rfl) (by rfl) (by rfl) (by rfl))) ?_
        dsimp only [setO, setE]
        first
          | refine ao_skip (by rfl) (by rfl) ?_
          | refine ao_load tyOk (by rfl) (by rfl) (by rfl) (by rfl) (by rfl) (by rfl) (by rfl) (by first | trivial | exact Nat.le_of_ble_eq_true rfl | decide | (simp; done) | omega) ?_
          | refine ao_opt (by rfl) (by rfl) (fun he => astep_load tyOk (by rfl) (by rfl) (by rfl) (by rfl) (by rfl) (by first | trivial | exact Nat.le_of_ble_eq_true rfl | decide | (simp; done) | omega)) ?_
          | refine ao_opt (by rfl) (by rfl) (fun he => by rw [he]; exact astep_load tyOk (by rfl) (by rfl) (by rfl) (by rfl) (by rfl) (by first | trivial | exact Nat.le_of_ble_eq_true rfl | decide | (simp; done) | omega)) ?_
        first
          | refine ao_skip (by rfl) (by rfl) ?_
          | refine ao0 (sem_len tyOk (by rfl) (by rfl) (by rfl) (by rfl) (by first | exact .inl ⟨_, _, _, rfl⟩ | exact .inr ⟨_, _, rfl⟩)) (by rfl) (by rfl) ?_
          | refine ao0 (sem_len_str tyOk (by rfl) (by rfl) (by rfl) (by rfl)) (by rfl) (by rfl) ?_
          | refine ao_opt (by rfl) (by rfl) (fun he => astep0 (sem_len tyOk (by rfl) (by rfl) (by rfl) (by rfl) (by first | exact .inl ⟨_, _, _, rfl⟩ | exact .inr ⟨_, _, rfl⟩))) ?_
          | refine ao_opt (by rfl) (by rfl) (fun he => astep0 (sem_len_str tyOk (by rfl) (by rfl) (by rfl) (by rfl))) ?_
          | refine ao_opt (by rfl) (by rfl) (fun he => by rw [he]; exact astep0 (sem_len tyOk (by rfl) (by rfl) (by rfl) (by rfl) (by first | exact .inl ⟨_, _, _, rfl⟩ | exact .inr ⟨_, _, rfl⟩))) ?_
          | refine ao_opt (by rfl) (by rfl) (fun he => by rw [he]; exact astep0 (sem_len_str tyOk (by rfl) (by rfl) (by rfl) (by rfl))) ?_
        first
          | refine ao_skip (by rfl) (by rfl) ?_
          | refine ao0 (sem_fieldAddr tyOk (by rfl) (by rfl) (by rfl) (by rfl) (by rfl) (by rfl)) (by rfl) (by rfl) ?_
          | refine ao_opt (by rfl) (by rfl) (fun he => astep0 (sem_fieldAddr tyOk (by rfl) (by rfl) (by rfl) (by rfl) (by rfl) (by rfl))) ?_
          | refine ao_opt (by rfl) (by rfl) (fun he => by rw [he]; exact astep0 (sem_fieldAddr tyOk (by rfl) (by rfl) (by rfl) (by rfl) (by rfl) (by rfl))) ?_
        first
          | refine ao_skip (by rfl) (by rfl) ?_
          | refine ao_load tyOk (by rfl) (by rfl) (by rfl) (by rfl) (by rfl) (by rfl) (by rfl) (by first | trivial | exact Nat.le_of_ble_eq_true rfl | decide | (simp; done) | omega) ?_
          | refine ao_opt (by rfl) (by rfl) (fun he => astep_load tyOk (by rfl) (by rfl) (by rfl) (by rfl) (by rfl) (by first | trivial | exact Nat.le_of_ble_eq_true rfl | decide | (simp; done) | omega)) ?_
          | refine ao_opt (by rfl) (by rfl) (fun he => by rw [he]; exact astep_load tyOk (by rfl) (by rfl) (by rfl) (by rfl) (by rfl) (by first | trivial | exact Nat.le_of_ble_eq_true rfl | decide | (simp; done) | omega)) ?_
        first
          | refine ao_skip (by rfl) (by rfl) ?_
          | refine ao0 (sem_len tyOk (by rfl) (by rfl) (by rfl) (by rfl) (by first | exact .inl ⟨_, _, _, rfl⟩ | exact .inr ⟨_, _, rfl⟩)) (by rfl) (by rfl) ?_
          | refine ao0 (sem_len_str tyOk (by rfl) (by rfl) (by rfl) (by rfl)) (by rfl) (by rfl) ?_
          | refine ao_opt (by rfl) (by rfl) (fun he => astep0 (sem_len tyOk (by rfl) (by rfl) (by rfl) (by rfl) (by first | exact .inl ⟨_, _, _, rfl⟩ | exact .inr ⟨_, _, rfl⟩))) ?_
          | refine ao_opt (by rfl) (by rfl) (fun he => astep0 (sem_len_str tyOk (by rfl) (by rfl) (by rfl) (by rfl))) ?_
          | refine ao_opt (by rfl) (by rfl) (fun he => by rw [he]; exact astep0 (sem_len tyOk (by rfl) (by rfl) (by rfl) (by rfl) (by first | exact .inl ⟨_, _, _, rfl⟩ | exact .inr ⟨_, _, rfl⟩))) ?_
          | refine ao_opt (by rfl) (by rfl) (fun he => by rw [he]; exact astep0 (sem_len_str tyOk (by rfl) (by rfl) (by rfl) (by rfl))) ?_
        first
          | refine ao_skip (by rfl) (by rfl) ?_
          | refine ao0 (em_add (by rfl) (by rfl) (by rfl) (by omega) (by omega)) (by rfl) (by rfl) ?_
          | refine ao0 (em_add8 (by rfl) (by rfl) (by rfl) (by omega) (by omega)) (by rfl) (by rfl) ?_
          | refine ao0 (em_binI (by rfl) (by rfl) (by rfl) (by rfl) (by first | rfl | trivial | exact ⟨rfl, by decide⟩ | exact ⟨rfl, by omega⟩ | decide | omega)) (by rfl) (by rfl) ?_
          | refine ao0 (sem_binS (by rfl) (by rfl) (by rfl) (by rfl) (by trivial)) (by rfl) (by rfl) ?_
          | refine ao_opt (by rfl) (by rfl) (fun he => astep0 (em_add (by rfl) (by rfl) (by rfl) (by first | omega | (simp at he; omega) | (simp [wexp] at he; omega) | (simp [*] at *; done)) (by first | omega | (simp at he; omega) | (simp [wexp] at he; omega) | (simp [*] at *; done)))) ?_
          | refine ao_opt (by rfl) (by rfl) (fun he => astep0 (em_add8 (by rfl) (by rfl) (by rfl) (by first | omega | (simp at he; omega) | (simp [wexp] at he; omega) | (simp [*] at *; done)) (by first | omega | (simp at he; omega) | (simp [wexp] at he; omega) | (simp [*] at *; done)))) ?_
          | refine ao_opt (by rfl) (by rfl) (fun he => astep0 (em_binI (by rfl) (by rfl) (by rfl) (by rfl) (by first | rfl | trivial | exact ⟨rfl, by decide⟩ | exact ⟨rfl, by omega⟩ | decide | omega))) ?_
          | refine ao_opt (by rfl) (by rfl) (fun he => astep0 (sem_binS (by rfl) (by rfl) (by rfl) (by rfl) (by trivial))) ?_
          | refine ao_opt (by rfl) (by rfl) (fun he => by rw [he]; exact astep0 (em_add (by rfl) (by rfl) (by rfl) (by omega) (by omega))) ?_
          | refine ao_opt (by rfl) (by rfl) (fun he => by rw [he]; exact astep0 (em_add (by rfl) (by rfl) (by rfl) (by first | omega | (simp at he; omega) | (simp [wexp] at he; omega) | (simp [*] at *; done)) (by first | omega | (simp at he; omega) | (simp [wexp] at he; omega) | (simp [*] at *; done)))) ?_
          | refine ao_opt (by rfl) (by rfl) (fun he => by rw [he]; exact astep0 (em_add8 (by rfl) (by rfl) (by rfl) (by omega) (by omega))) ?_
          | refine ao_opt (by rfl) (by rfl) (fun he => by rw [he]; exact astep0 (em_add8 (by rfl) (by rfl) (by rfl) (by first | omega | (simp at he; omega) | (simp [wexp] at he; omega) | (simp [*] at *; done)) (by first | omega | (simp at he; omega) | (simp [wexp] at he; omega) | (simp [*] at *; done)))) ?_
          | refine ao_opt (by rfl) (by rfl) (fun he => by rw [he]; exact astep0 (em_binI (by rfl) (by rfl) (by rfl) (by rfl) (by first | rfl | trivial | exact ⟨rfl, by decide⟩ | exact ⟨rfl, by omega⟩ | decide | omega))) ?_
          | refine ao_opt (by rfl) (by rfl) (fun he => by rw [he]; exact astep0 (sem_binS (by rfl) (by rfl) (by rfl) (by rfl) (by trivial))) ?_
        first
          | refine ao_skip (by rfl) (by rfl) ?_
          | refine ao0 (em_binI (by rfl) (by rfl) (by rfl) (by rfl) (by first | rfl | trivial | exact ⟨rfl, by decide⟩ | exact ⟨rfl, by omega⟩ | decide | omega)) (by rfl) (by rfl) ?_
          | refine ao0 (sem_binB tyOk (by rfl) (by rfl) (by rfl) (by rfl) (by rfl) (by rfl)) (by rfl) (by rfl) ?_
          | refine ao0 (sem_nilS tyOk (by rfl) (by rfl) (by rfl) (by rfl) (by rfl) (by first | exact .inl ⟨rfl, rfl⟩ | exact .inr ⟨rfl, rfl⟩)) (by rfl) (by rfl) ?_
          | refine ao0 (sem_binS (by rfl) (by rfl) (by rfl) (by rfl) (by trivial)) (by rfl) (by rfl) ?_
          | refine ao_opt (by rfl) (by rfl) (fun he => astep0 (em_binI (by rfl) (by rfl) (by rfl) (by rfl) (by first | rfl | trivial | exact ⟨rfl, by decide⟩ | exact ⟨rfl, by omega⟩ | decide | omega))) ?_
          | refine ao_opt (by rfl) (by rfl) (fun he => astep0 (sem_binB tyOk (by rfl) (by rfl) (by rfl) (by rfl) (by rfl) (by rfl))) ?_
          | refine ao_opt (by rfl) (by rfl) (fun he => astep0 (sem_nilS tyOk (by rfl) (by rfl) (by rfl) (by rfl) (by rfl) (by first | exact .inl ⟨rfl, rfl⟩ | exact .inr ⟨rfl, rfl⟩))) ?_
          | refine ao_opt (by rfl) (by rfl) (fun he => astep0 (sem_binS (by rfl) (by rfl) (by rfl) (by rfl) (by trivial))) ?_
          | refine ao_opt (by rfl) (by rfl) (fun he => by rw [he]; exact astep0 (em_binI (by rfl) (by rfl) (by rfl) (by rfl) (by first | rfl | trivial | exact ⟨rfl, by decide⟩ | exact ⟨rfl, by omega⟩ | decide | omega))) ?_
          | refine ao_opt (by rfl) (by rfl) (fun he => by rw [he]; exact astep0 (sem_binB tyOk (by rfl) (by rfl) (by rfl) (by rfl) (by rfl) (by rfl))) ?_
          | refine ao_opt (by rfl) (by rfl) (fun he => by rw [he]; exact astep0 (sem_nilS tyOk (by rfl) (by rfl) (by rfl) (by rfl) (by rfl) (by first | exact .inl ⟨rfl, rfl⟩ | exact .inr ⟨rfl, rfl⟩))) ?_
          | refine ao_opt (by rfl) (by rfl) (fun he => by rw [he]; exact astep0 (sem_binS (by rfl) (by rfl) (by rfl) (by rfl) (by trivial))) ?_
        first
          | refine ao0 (sem_pickg (by rfl) (by rfl) (by rfl) (by rfl) (by intro hh; first | rfl | exact hh | (exact Bool.noConfusion hh) | (simp [wexp]; done) | (simp [wexp] at hh; done) | (simpa [wexp] using hh) | (simp_all; done)) (by intro hh; first | rfl | exact hh | (exact Bool.noConfusion hh) | (simp [wexp]; done) | (simp [wexp] at hh; done) | (simpa [wexp] using hh) | (simp_all; done))) (by rfl) (by rfl) ?_
          | refine ao0 (sem_pick (by rfl) (by rfl)) (by rfl) (by rfl) ?_
        first
          | refine ao0 (em_move (by rfl) (by rfl)) (by rfl) (by rfl) ?_
          | refine ao0 (em_moveG (by rfl) (by rfl)) (by rfl) (by rfl) ?_
          | refine ao0 (sem_move (.inl (by rfl))) (by rfl) (by rfl) ?_
        first
          | refine ao_skip (by rfl) (by rfl) ?_
          | refine ao_load tyOk (by rfl) (by rfl) (by rfl) (by rfl) (by rfl) (by rfl) (by rfl) (by first | trivial | exact Nat.le_of_ble_eq_true rfl | decide | (simp; done) | omega) ?_
          | refine ao_opt (by rfl) (by rfl) (fun he => astep_load tyOk (by rfl) (by rfl) (by rfl) (by rfl) (by rfl) (by first | trivial | exact Nat.le_of_ble_eq_true rfl | decide | (simp; done) | omega)) ?_
          | refine ao_opt (by rfl) (by rfl) (fun he => by rw [he]; exact astep_load tyOk (by rfl) (by rfl) (by rfl) (by rfl) (by rfl) (by first | trivial | exact Nat.le_of_ble_eq_true rfl | decide | (simp; done) | omega)) ?_
        first
          | refine ao_skip (by rfl) (by rfl) ?_
          | refine ao_callL [] [] (hV) (by rfl) (by rfl) (by rfl) (by rfl) (by rfl) (by repeat' (first | exact True.intro | exact .inl ⟨by rfl, by rfl⟩ | exact rfl | exact .inr (.inl ⟨_, _, _, _, by rfl, by rfl⟩) | exact .inr (.inr ⟨_, _, _, _, _, _, by rfl, by rfl, by rfl, by first | exact .head _ | exact .tail _ (.head _) | exact .tail _ (.tail _ (.head _)) | exact .tail _ (.tail _ (.tail _ (.head _)))⟩) | refine And.intro ?_ ?_)) (by repeat' (first | exact True.intro | exact .inl ⟨by rfl, by rfl⟩ | exact rfl | exact .inl rfl | exact .inr (.inl ⟨_, _, _, _, by rfl, by rfl⟩) | exact .inr ⟨rfl, by simp [D.scalar, bD]⟩ | refine And.intro ?_ ?_)) (by rfl) (by rfl) (by rfl) (by decide) (by rfl) (by rfl) (by omega) (by first | rfl | (simp [keptB, notGone, (by rfl).live]; done)) (by rfl) (by rfl) (by rfl) (by rfl) (by rfl) (by rfl) (by rfl) ?_
          | refine ao_opt (by rfl) (by rfl) (fun he => by rw [he]; exact astep_callL [] [] (hV) (by rfl) (by rfl) (by rfl) (by repeat' (first | exact True.intro | exact .inl ⟨by rfl, by rfl⟩ | exact rfl | exact .inr (.inl ⟨_, _, _, _, by rfl, by rfl⟩) | exact .inr (.inr ⟨_, _, _, _, _, _, by rfl, by rfl, by rfl, by first | exact .head _ | exact .tail _ (.head _) | exact .tail _ (.tail _ (.head _)) | exact .tail _ (.tail _ (.tail _ (.head _)))⟩) | refine And.intro ?_ ?_)) (by repeat' (first | exact True.intro | exact .inl ⟨by rfl, by rfl⟩ | exact rfl | exact .inl rfl | exact .inr (.inl ⟨_, _, _, _, by rfl, by rfl⟩) | exact .inr ⟨rfl, by simp [D.scalar, bD]⟩ | refine And.intro ?_ ?_)) (by rfl) (by rfl) (by rfl) (by decide) (by rfl) (by rfl) (by omega) (by first | rfl | (simp [keptB, notGone, (by rfl).live]; done)) (by rfl) (by rfl) (by rfl) (by rfl) (by rfl) (by rfl) (by rfl)) ?_
          | refine ao_opt (by rfl) (by rfl) (fun he => astep_callL [] [] (hV) (by rfl) (by rfl) (by rfl) (by repeat' (first | exact True.intro | exact .inl ⟨by rfl, by rfl⟩ | exact rfl | exact .inr (.inl ⟨_, _, _, _, by rfl, by rfl⟩) | exact .inr (.inr ⟨_, _, _, _, _, _, by rfl, by rfl, by rfl, by first | exact .head _ | exact .tail _ (.head _) | exact .tail _ (.tail _ (.head _)) | exact .tail _ (.tail _ (.tail _ (.head _)))⟩) | refine And.intro ?_ ?_)) (by repeat' (first | exact True.intro | exact .inl ⟨by rfl, by rfl⟩ | exact rfl | exact .inl rfl | exact .inr (.inl ⟨_, _, _, _, by rfl, by rfl⟩) | exact .inr ⟨rfl, by simp [D.scalar, bD]⟩ | refine And.intro ?_ ?_)) (by rfl) (by rfl) (by rfl) (by decide) (by rfl) (by rfl) (by omega) (by first | rfl | (simp [keptB, notGone, (by rfl).live]; done)) (by rfl) (by rfl) (by rfl) (by rfl) (by rfl) (by rfl) (by rfl)) ?_
        first
          | refine ao0 (sem_pickg (by rfl) (by rfl) (by rfl) (by rfl) (by intro hh; first | rfl | exact hh | (exact Bool.noConfusion hh) | (simp [wexp]; done) | (simp [wexp] at hh; done) | (simpa [wexp] using hh) | (simp_all; done)) (by intro hh; first | rfl | exact hh | (exact Bool.noConfusion hh) | (simp [wexp]; done) | (simp [wexp] at hh; done) | (simpa [wexp] using hh) | (simp_all; done))) (by rfl) (by rfl) ?_
          | refine ao0 (sem_pick (by rfl) (by rfl)) (by rfl) (by rfl) ?_
        dsimp only [setO, setE]
        first
          | refine ao0 (em_assign (by rfl) (by rfl)) (by rfl) (by rfl) ?_
          | refine ao0 (em_assignG (by rfl) (by rfl)) (by rfl) (by rfl) ?_
          | refine ao0 (sem_move (.inr (by rfl))) (by rfl) (by rfl) ?_
        refine ao_nil (by first | dsimp only [setO, setE] | rfl) (by first | dsimp only [setM, setE, setR] | rfl) (by rfl) ?_
        refine AW.ret ?_
        refine retA_data (n := 0) rfl (by rfl) ?_ rfl rfl _ (.inr rfl)
        exact pack_b (by simp [hw1])
  · have hI := iAddPut_bad true true v x (by omega) (by omega) (by simp) (by simp) hok
    have hS := sAddPut_bad true true v x (by omega) (by omega) (by simp) (by simp) hok
    have hE := equalVersions_zero
    refine fnOk_of' (k := 0) tyOk Try.func6 rfl (by kernel_rfl) Try.ntmps6 (by rw [Try.results6]) rfl (by simp only [List.length_cons, List.length_nil, Nat.reduceAdd, Nat.reduceSub, List.replicate_succ, List.replicate_zero, List.cons_append, List.nil_append]; rfl) (by simp) (by simp) (fun r hr => by simp at hr) fun base => ?_
    refine AW.seq ?_
    refine AW.region ?_
    first
      | refine ao0 (em_assign (by rfl) (by rfl)) (by rfl) (by rfl) ?_
      | refine ao0 (em_assignG (by rfl) (by rfl)) (by rfl) (by rfl) ?_
      | refine ao0 (sem_move (.inr (by rfl))) (by rfl) (by rfl) ?_
    refine ao_nil (by first | dsimp only [setO, setE] | rfl) (by first | dsimp only [setM, setE, setR] | rfl) (by rfl) ?_
    refine AW.seq ?_
    refine AW.seq ?_
    refine AW.region ?_
    first
      | refine ao0 (em_move (by rfl) (by rfl)) (by rfl) (by rfl) ?_
      | refine ao0 (em_moveG (by rfl) (by rfl)) (by rfl) (by rfl) ?_
      | refine ao0 (sem_move (.inl (by rfl))) (by rfl) (by rfl) ?_
    first
      | refine ao0 (sem_len tyOk (by rfl) (by rfl) (by rfl) (by rfl) (by first | exact .inl ⟨_, _, _, rfl⟩ | exact .inr ⟨_, _, rfl⟩)) (by rfl) (by rfl) ?_
      | refine ao0 (sem_len_str tyOk (by rfl) (by rfl) (by rfl) (by rfl)) (by rfl) (by rfl) ?_
    first
      | refine ao0 (em_binI (by rfl) (by rfl) (by rfl) (by rfl) (by first | rfl | trivial | exact ⟨rfl, by decide⟩ | exact ⟨rfl, by omega⟩ | decide | omega)) (by rfl) (by rfl) ?_
      | refine ao0 (sem_binS (by rfl) (by rfl) (by rfl) (by rfl) (by trivial)) (by rfl) (by rfl) ?_
    refine ao_nil (by first | dsimp only [setO, setE] | rfl) (by first | dsimp only [setM, setE, setR] | rfl) (by rfl) ?_
    refine AW.cond (by rfl) (fun hc1 => ?_) (fun hc1 => ?_)
    · skip
      refine AW.seq ?_
      refine AW.region ?_
      first
        | refine ao0 (em_assign (by rfl) (by rfl)) (by rfl) (by rfl) ?_
        | refine ao0 (em_assignG (by rfl) (by rfl)) (by rfl) (by rfl) ?_
        | refine ao0 (sem_move (.inr (by rfl))) (by rfl) (by rfl) ?_
      refine ao_nil (by first | dsimp only [setO, setE] | rfl) (by first | dsimp only [setM, setE, setR] | rfl) (by rfl) ?_
      refine AW.ret ?_
      refine retA_data (n := 0) rfl (by rfl) ?_ rfl rfl _ (.inr rfl)
      exact pack_b (by first | rfl | simp)
    · skip
      refine AW.skip ?_
      refine AW.seq ?_
      refine AW.region ?_
      first
        | refine ao0 (em_move (by rfl) (by rfl)) (by rfl) (by rfl) ?_
        | refine ao0 (em_moveG (by rfl) (by rfl)) (by rfl) (by rfl) ?_
        | refine ao0 (sem_move (.inl (by rfl))) (by rfl) (by rfl) ?_
      refine ao_callL [] [] (hdraw) (by rfl) (by rfl) (by rfl) (by rfl) (by rfl) (by repeat' (first | exact True.intro | exact .inl ⟨by rfl, by rfl⟩ | exact rfl | exact .inr (.inl ⟨_, _, _, _, by rfl, by rfl⟩) | exact .inr (.inr ⟨_, _, _, _, _, _, by rfl, by rfl, by rfl, by first | exact .head _ | exact .tail _ (.head _) | exact .tail _ (.tail _ (.head _)) | exact .tail _ (.tail _ (.tail _ (.head _)))⟩) | refine And.intro ?_ ?_)) (by repeat' (first | exact True.intro | exact .inl ⟨by rfl, by rfl⟩ | exact rfl | exact .inl rfl | exact .inr (.inl ⟨_, _, _, _, by rfl, by rfl⟩) | exact .inr ⟨rfl, by simp [D.scalar, bD]⟩ | refine And.intro ?_ ?_)) (by rfl) (by rfl) (by rfl) (by decide) (by rfl) (by rfl) (by omega) (by first | rfl | (simp [keptB, notGone, (by rfl).live]; done)) (by rfl) (by rfl) (by rfl) (by rfl) (by rfl) (by rfl) (by rfl) ?_
      first
        | refine ao0 (em_move (by rfl) (by rfl)) (by rfl) (by rfl) ?_
        | refine ao0 (em_moveG (by rfl) (by rfl)) (by rfl) (by rfl) ?_
        | refine ao0 (sem_move (.inl (by rfl))) (by rfl) (by rfl) ?_
      refine ao0 (sem_extract (by rfl) (by rfl) (by rfl)) (by rfl) (by rfl) ?_
      refine ao0 (sem_extract (by rfl) (by rfl) (by rfl)) (by rfl) (by rfl) ?_
      refine ao1 (sem_alloc tyOk (by rfl) (by rfl)) (by omega) (by rfl) (by rfl) ?_
      refine ao1 (sem_alloc tyOk (by rfl) (by rfl)) (by omega) (by rfl) (by rfl) ?_
      first
        | refine ao_store_box tyOk (by rfl) (by rfl) (by rfl) (by rfl) (by rfl) (by rfl) (by rfl) (by rfl) (by first | exact Nat.le_of_ble_eq_true rfl | decide | (simp; done) | omega) ?_
        | refine ao_store_arr tyOk (by rfl) (by rfl) (by rfl) (by rfl) (by rfl) (by rfl) (by rfl) (by rfl) (by rfl) (by first | decide | (simp; done) | omega | (simp only [List.length_cons, List.length_nil, List.length_map]; omega) | (simp only [setR_len, List.length_cons, List.length_nil, List.length_map]; omega)) ?_
      first
        | refine ao_store_box tyOk (by rfl) (by rfl) (by rfl) (by rfl) (by rfl) (by rfl) (by rfl) (by rfl) (by first | exact Nat.le_of_ble_eq_true rfl | decide | (simp; done) | omega) ?_
        | refine ao_store_arr tyOk (by rfl) (by rfl) (by rfl) (by rfl) (by rfl) (by rfl) (by rfl) (by rfl) (by rfl) (by first | decide | (simp; done) | omega | (simp only [List.length_cons, List.length_nil, List.length_map]; omega) | (simp only [setR_len, List.length_cons, List.length_nil, List.length_map]; omega)) ?_
      refine ao_nil (by first | dsimp only [setO, setE] | rfl) (by first | dsimp only [setM, setE, setR] | rfl) (by rfl) ?_
      refine AW.seq ?_
      refine AW.region ?_
      refine ao_load tyOk (by rfl) (by rfl) (by rfl) (by rfl) (by rfl) (by rfl) (by rfl) (by first | trivial | exact Nat.le_of_ble_eq_true rfl | decide | (simp; done) | omega) ?_
      refine ao_load tyOk (by rfl) (by rfl) (by rfl) (by rfl) (by rfl) (by rfl) (by rfl) (by first | trivial | exact Nat.le_of_ble_eq_true rfl | decide | (simp; done) | omega) ?_
      refine ao_callL [] [] (hI) (by rfl) (by rfl) (by rfl) (by rfl) (by rfl) (by repeat' (first | exact True.intro | exact .inl ⟨by rfl, by rfl⟩ | exact rfl | exact .inr (.inl ⟨_, _, _, _, by rfl, by rfl⟩) | exact .inr (.inr ⟨_, _, _, _, _, _, by rfl, by rfl, by rfl, by first | exact .head _ | exact .tail _ (.head _) | exact .tail _ (.tail _ (.head _)) | exact .tail _ (.tail _ (.tail _ (.head _)))⟩) | refine And.intro ?_ ?_)) (by repeat' (first | exact True.intro | exact .inl ⟨by rfl, by rfl⟩ | exact rfl | exact .inl rfl | exact .inr (.inl ⟨_, _, _, _, by rfl, by rfl⟩) | exact .inr ⟨rfl, by simp [D.scalar, bD]⟩ | refine And.intro ?_ ?_)) (by rfl) (by rfl) (by rfl) (by decide) (by rfl) (by rfl) (by omega) (by first | rfl | (simp [keptB, notGone, (by rfl).live]; done)) (by rfl) (by rfl) (by rfl) (by rfl) (by rfl) (by rfl) (by rfl) ?_
      first
        | refine ao0 (em_move (by rfl) (by rfl)) (by rfl) (by rfl) ?_
        | refine ao0 (em_moveG (by rfl) (by rfl)) (by rfl) (by rfl) ?_
        | refine ao0 (sem_move (.inl (by rfl))) (by rfl) (by rfl) ?_
      refine ao0 (sem_extract (by rfl) (by rfl) (by rfl)) (by rfl) (by rfl) ?_
      refine ao0 (sem_extract (by rfl) (by rfl) (by rfl)) (by rfl) (by rfl) ?_
      refine ao1 (sem_alloc tyOk (by rfl) (by rfl)) (by omega) (by rfl) (by rfl) ?_
      first
        | refine ao_store_box tyOk (by rfl) (by rfl) (by rfl) (by rfl) (by rfl) (by rfl) (by rfl) (by rfl) (by first | exact Nat.le_of_ble_eq_true rfl | decide | (simp; done) | omega) ?_
        | refine ao_store_arr tyOk (by rfl) (by rfl) (by rfl) (by rfl) (by rfl) (by rfl) (by rfl) (by rfl) (by rfl) (by first | decide | (simp; done) | omega | (simp only [List.length_cons, List.length_nil, List.length_map]; omega) | (simp only [setR_len, List.length_cons, List.length_nil, List.length_map]; omega)) ?_
      first
        | refine ao0 (em_assign (by rfl) (by rfl)) (by rfl) (by rfl) ?_
        | refine ao0 (em_assignG (by rfl) (by rfl)) (by rfl) (by rfl) ?_
        | refine ao0 (sem_move (.inr (by rfl))) (by rfl) (by rfl) ?_
      refine ao_nil (by first | dsimp only [setO, setE] | rfl) (by first | dsimp only [setM, setE, setR] | rfl) (by rfl) ?_
      refine AW.seq ?_
      refine AW.region ?_
      refine ao_load tyOk (by rfl) (by rfl) (by rfl) (by rfl) (by rfl) (by rfl) (by rfl) (by first | trivial | exact Nat.le_of_ble_eq_true rfl | decide | (simp; done) | omega) ?_
      refine ao_load tyOk (by rfl) (by rfl) (by rfl) (by rfl) (by rfl) (by rfl) (by rfl) (by first | trivial | exact Nat.le_of_ble_eq_true rfl | decide | (simp; done) | omega) ?_
      refine ao_callL [] [] (hS) (by rfl) (by rfl) (by rfl) (by rfl) (by rfl) (by repeat' (first | exact True.intro | exact .inl ⟨by rfl, by rfl⟩ | exact rfl | exact .inr (.inl ⟨_, _, _, _, by rfl, by rfl⟩) | exact .inr (.inr ⟨_, _, _, _, _, _, by rfl, by rfl, by rfl, by first | exact .head _ | exact .tail _ (.head _) | exact .tail _ (.tail _ (.head _)) | exact .tail _ (.tail _ (.tail _ (.head _)))⟩) | refine And.intro ?_ ?_)) (by repeat' (first | exact True.intro | exact .inl ⟨by rfl, by rfl⟩ | exact rfl | exact .inl rfl | exact .inr (.inl ⟨_, _, _, _, by rfl, by rfl⟩) | exact .inr ⟨rfl, by simp [D.scalar, bD]⟩ | refine And.intro ?_ ?_)) (by rfl) (by rfl) (by rfl) (by decide) (by rfl) (by rfl) (by omega) (by first | rfl | (simp [keptB, notGone, (by rfl).live]; done)) (by rfl) (by rfl) (by rfl) (by rfl) (by rfl) (by rfl) (by rfl) ?_
      first
        | refine ao0 (em_move (by rfl) (by rfl)) (by rfl) (by rfl) ?_
        | refine ao0 (em_moveG (by rfl) (by rfl)) (by rfl) (by rfl) ?_
        | refine ao0 (sem_move (.inl (by rfl))) (by rfl) (by rfl) ?_
      refine ao0 (sem_extract (by rfl) (by rfl) (by rfl)) (by rfl) (by rfl) ?_
      refine ao0 (sem_extract (by rfl) (by rfl) (by rfl)) (by rfl) (by rfl) ?_
      refine ao1 (sem_alloc tyOk (by rfl) (by rfl)) (by omega) (by rfl) (by rfl) ?_
      first
        | refine ao_store_box tyOk (by rfl) (by rfl) (by rfl) (by rfl) (by rfl) (by rfl) (by rfl) (by rfl) (by first | exact Nat.le_of_ble_eq_true rfl | decide | (simp; done) | omega) ?_
        | refine ao_store_arr tyOk (by rfl) (by rfl) (by rfl) (by rfl) (by rfl) (by rfl) (by rfl) (by rfl) (by rfl) (by first | decide | (simp; done) | omega | (simp only [List.length_cons, List.length_nil, List.length_map]; omega) | (simp only [setR_len, List.length_cons, List.length_nil, List.length_map]; omega)) ?_
      first
        | refine ao0 (em_assign (by rfl) (by rfl)) (by rfl) (by rfl) ?_
        | refine ao0 (em_assignG (by rfl) (by rfl)) (by rfl) (by rfl) ?_
        | refine ao0 (sem_move (.inr (by rfl))) (by rfl) (by rfl) ?_
      refine ao_nil (by first | dsimp only [setO, setE] | rfl) (by first | dsimp only [setM, setE, setR] | rfl) (by rfl) ?_
      refine AW.seq ?_
      refine AW.seq ?_
      refine AW.region ?_
      refine ao_load tyOk (by rfl) (by rfl) (by rfl) (by rfl) (by rfl) (by rfl) (by rfl) (by first | trivial | exact Nat.le_of_ble_eq_true rfl | decide | (simp; done) | omega) ?_
      refine ao_load tyOk (by rfl) (by rfl) (by rfl) (by rfl) (by rfl) (by rfl) (by rfl) (by first | trivial | exact Nat.le_of_ble_eq_true rfl | decide | (simp; done) | omega) ?_
      refine ao_callL [] [] (hE) (by rfl) (by rfl) (by rfl) (by rfl) (by rfl) (by repeat' (first | exact True.intro | exact .inl ⟨by rfl, by rfl⟩ | exact rfl | exact .inr (.inl ⟨_, _, _, _, by rfl, by rfl⟩) | exact .inr (.inr ⟨_, _, _, _, _, _, by rfl, by rfl, by rfl, by first | exact .head _ | exact .tail _ (.head _) | exact .tail _ (.tail _ (.head _)) | exact .tail _ (.tail _ (.tail _ (.head _)))⟩) | refine And.intro ?_ ?_)) (by repeat' (first | exact True.intro | exact .inl ⟨by rfl, by rfl⟩ | exact rfl | exact .inl rfl | exact .inr (.inl ⟨_, _, _, _, by rfl, by rfl⟩) | exact .inr ⟨rfl, by simp [D.scalar, bD]⟩ | refine And.intro ?_ ?_)) (by rfl) (by rfl) (by rfl) (by decide) (by rfl) (by rfl) (by omega) (by first | rfl | (simp [keptB, notGone, (by rfl).live]; done)) (by rfl) (by rfl) (by rfl) (by rfl) (by rfl) (by rfl) (by rfl) ?_
      refine ao0 (sem_unOp (by rfl) (by rfl) (by rfl)) (by rfl) (by rfl) ?_
      first
        | refine ao0 (em_move (by rfl) (by rfl)) (by rfl) (by rfl) ?_
        | refine ao0 (em_moveG (by rfl) (by rfl)) (by rfl) (by rfl) ?_
        | refine ao0 (sem_move (.inl (by rfl))) (by rfl) (by rfl) ?_
      first
        | refine ao_skip (by rfl) (by rfl) ?_
        | refine ao0 (em_move (by rfl) (by rfl)) (by rfl) (by rfl) ?_
        | refine ao0 (em_moveG (by rfl) (by rfl)) (by rfl) (by rfl) ?_
        | refine ao0 (sem_move (.inl (by rfl))) (by rfl) (by rfl) ?_
        | refine ao_opt (by rfl) (by rfl) (fun he => astep0 (em_move (by rfl) (by rfl))) ?_
        | refine ao_opt (by rfl) (by rfl) (fun he => astep0 (em_moveG (by rfl) (by rfl))) ?_
        | refine ao_opt (by rfl) (by rfl) (fun he => by rw [he]; exact astep0 (em_move (by rfl) (by rfl))) ?_
        | refine ao_opt (by rfl) (by rfl) (fun he => by rw [he]; exact astep0 (em_moveG (by rfl) (by rfl))) ?_
        | refine ao_opt (by rfl) (by rfl) (fun he => astep0 (sem_move (.inl (by rfl)))) ?_
        | refine ao_opt (by rfl) (by rfl) (fun he => by rw [he]; exact astep0 (sem_move (.inl (by rfl)))) ?_
      first
        | refine ao_skip (by rfl) (by rfl) ?_
        | refine ao0 (em_move (by rfl) (by rfl)) (by rfl) (by rfl) ?_
        | refine ao0 (em_moveG (by rfl) (by rfl)) (by rfl) (by rfl) ?_
        | refine ao0 (sem_move (.inl (by rfl))) (by rfl) (by rfl) ?_
        | refine ao_opt (by rfl) (by rfl) (fun he => astep0 (em_move (by rfl) (by rfl))) ?_
        | refine ao_opt (by rfl) (by rfl) (fun he => astep0 (em_moveG (by rfl) (by rfl))) ?_
        | refine ao_opt (by rfl) (by rfl) (fun he => by rw [he]; exact astep0 (em_move (by rfl) (by rfl))) ?_
        | refine ao_opt (by rfl) (by rfl) (fun he => by rw [he]; exact astep0 (em_moveG (by rfl) (by rfl))) ?_
        | refine ao_opt (by rfl) (by rfl) (fun he => astep0 (sem_move (.inl (by rfl)))) ?_
        | refine ao_opt (by rfl) (by rfl) (fun he => by rw [he]; exact astep0 (sem_move (.inl (by rfl)))) ?_
      first
        | refine ao_skip (by rfl) (by rfl) ?_
        | refine ao0 (em_binI (by rfl) (by rfl) (by rfl) (by rfl) (by first | rfl | trivial | exact ⟨rfl, by decide⟩ | exact ⟨rfl, by omega⟩ | decide | omega)) (by rfl) (by rfl) ?_
        | refine ao0 (sem_binB tyOk (by rfl) (by rfl) (by rfl) (by rfl) (by rfl) (by rfl)) (by rfl) (by rfl) ?_
        | refine ao0 (sem_nilS tyOk (by rfl) (by rfl) (by rfl) (by rfl) (by rfl) (by first | exact .inl ⟨rfl, rfl⟩ | exact .inr ⟨rfl, rfl⟩)) (by rfl) (by rfl) ?_
        | refine ao0 (sem_binS (by rfl) (by rfl) (by rfl) (by rfl) (by trivial)) (by rfl) (by rfl) ?_
        | refine ao_opt (by rfl) (by rfl) (fun he => astep0 (em_binI (by rfl) (by rfl) (by rfl) (by rfl) (by first | rfl | trivial | exact ⟨rfl, by decide⟩ | exact ⟨rfl, by omega⟩ | decide | omega))) ?_
        | refine ao_opt (by rfl) (by rfl) (fun he => astep0 (sem_binB tyOk (by rfl) (by rfl) (by rfl) (by rfl) (by rfl) (by rfl))) ?_
        | refine ao_opt (by rfl) (by rfl) (fun he => astep0 (sem_nilS tyOk (by rfl) (by rfl) (by rfl) (by rfl) (by rfl) (by first | exact .inl ⟨rfl, rfl⟩ | exact .inr ⟨rfl, rfl⟩))) ?_
        | refine ao_opt (by rfl) (by rfl) (fun he => astep0 (sem_binS (by rfl) (by rfl) (by rfl) (by rfl) (by trivial))) ?_
        | refine ao_opt (by rfl) (by rfl) (fun he => by rw [he]; exact astep0 (em_binI (by rfl) (by rfl) (by rfl) (by rfl) (by first | rfl | trivial | exact ⟨rfl, by decide⟩ | exact ⟨rfl, by omega⟩ | decide | omega))) ?_
        | refine ao_opt (by rfl) (by rfl) (fun he => by rw [he]; exact astep0 (sem_binB tyOk (by rfl) (by rfl) (by rfl) (by rfl) (by rfl) (by rfl))) ?_
        | refine ao_opt (by rfl) (by rfl) (fun he => by rw [he]; exact astep0 (sem_nilS tyOk (by rfl) (by rfl) (by rfl) (by rfl) (by rfl) (by first | exact .inl ⟨rfl, rfl⟩ | exact .inr ⟨rfl, rfl⟩))) ?_
        | refine ao_opt (by rfl) (by rfl) (fun he => by rw [he]; exact astep0 (sem_binS (by rfl) (by rfl) (by rfl) (by rfl) (by trivial))) ?_
      first
        | refine ao0 (sem_pickg (by rfl) (by rfl) (by rfl) (by rfl) (by intro hh; first | rfl | exact hh | (exact Bool.noConfusion hh) | (simp [wexp]; done) | (simp [wexp] at hh; done) | (simpa [wexp] using hh) | (simp_all; done)) (by intro hh; first | rfl | exact hh | (exact Bool.noConfusion hh) | (simp [wexp]; done) | (simp [wexp] at hh; done) | (simpa [wexp] using hh) | (simp_all; done))) (by rfl) (by rfl) ?_
        | refine ao0 (sem_pick (by rfl) (by rfl)) (by rfl) (by rfl) ?_
      first
        | refine ao0 (em_move (by rfl) (by rfl)) (by rfl) (by rfl) ?_
        | refine ao0 (em_moveG (by rfl) (by rfl)) (by rfl) (by rfl) ?_
        | refine ao0 (sem_move (.inl (by rfl))) (by rfl) (by rfl) ?_
      first
        | refine ao_skip (by rfl) (by rfl) ?_
        | refine ao0 (em_move (by rfl) (by rfl)) (by rfl) (by rfl) ?_
        | refine ao0 (em_moveG (by rfl) (by rfl)) (by rfl) (by rfl) ?_
        | refine ao0 (sem_move (.inl (by rfl))) (by rfl) (by rfl) ?_
        | refine ao_opt (by rfl) (by rfl) (fun he => astep0 (em_move (by rfl) (by rfl))) ?_
        | refine ao_opt (by rfl) (by rfl) (fun he => astep0 (em_moveG (by rfl) (by rfl))) ?_
        | refine ao_opt (by rfl) (by rfl) (fun he => by rw [he]; exact astep0 (em_move (by rfl) (by rfl))) ?_
        | refine ao_opt (by rfl) (by rfl) (fun he => by rw [he]; exact astep0 (em_moveG (by rfl) (by rfl))) ?_
        | refine ao_opt (by rfl) (by rfl) (fun he => astep0 (sem_move (.inl (by rfl)))) ?_
        | refine ao_opt (by rfl) (by rfl) (fun he => by rw [he]; exact astep0 (sem_move (.inl (by rfl)))) ?_
      first
        | refine ao_skip (by rfl) (by rfl) ?_
        | refine ao0 (sem_unOp (by rfl) (by rfl) (by rfl)) (by rfl) (by rfl) ?_
        | refine ao_opt (by rfl) (by rfl) (fun he => astep0 (sem_unOp (by rfl) (by rfl) (by rfl))) ?_
        | refine ao_opt (by rfl) (by rfl) (fun he => by rw [he]; exact astep0 (sem_unOp (by rfl) (by rfl) (by rfl))) ?_
      dsimp only [setO, setE]
      first
        | refine ao0 (sem_pickg (by rfl) (by rfl) (by rfl) (by rfl) (by intro hh; first | rfl | exact hh | (exact Bool.noConfusion hh) | (simp [wexp]; done) | (simp [wexp] at hh; done) | (simpa [wexp] using hh) | (simp_all; done)) (by intro hh; first | rfl | exact hh | (exact Bool.noConfusion hh) | (simp [wexp]; done) | (simp [wexp] at hh; done) | (simpa [wexp] using hh) | (simp_all; done))) (by rfl) (by rfl) ?_
        | refine ao0 (sem_pick (by rfl) (by rfl)) (by rfl) (by rfl) ?_
      refine ao_nil (by first | dsimp only [setO, setE] | rfl) (by first | dsimp only [setM, setE, setR] | rfl) (by rfl) ?_
      refine AW.cond (by rfl) (fun hc2 => ?_) (fun hc2 => ?_)
      · skip
        refine AW.seq ?_
        refine AW.region ?_
        refine ao_load tyOk (by rfl) (by rfl) (by rfl) (by rfl) (by rfl) (by rfl) (by rfl) (by first | trivial | exact Nat.le_of_ble_eq_true rfl | decide | (simp; done) | omega) ?_
        refine ao_load tyOk (by rfl) (by rfl) (by rfl) (by rfl) (by rfl) (by rfl) (by rfl) (by first | trivial | exact Nat.le_of_ble_eq_true rfl | decide | (simp; done) | omega) ?_
        refine ao_callL [] [] (hE) (by rfl) (by rfl) (by rfl) (by rfl) (by rfl) (by repeat' (first | exact True.intro | exact .inl ⟨by rfl, by rfl⟩ | exact rfl | exact .inr (.inl ⟨_, _, _, _, by rfl, by rfl⟩) | exact .inr (.inr ⟨_, _, _, _, _, _, by rfl, by rfl, by rfl, by first | exact .head _ | exact .tail _ (.head _) | exact .tail _ (.tail _ (.head _)) | exact .tail _ (.tail _ (.tail _ (.head _)))⟩) | refine And.intro ?_ ?_)) (by repeat' (first | exact True.intro | exact .inl ⟨by rfl, by rfl⟩ | exact rfl | exact .inl rfl | exact .inr (.inl ⟨_, _, _, _, by rfl, by rfl⟩) | exact .inr ⟨rfl, by simp [D.scalar, bD]⟩ | refine And.intro ?_ ?_)) (by rfl) (by rfl) (by rfl) (by decide) (by rfl) (by rfl) (by omega) (by first | rfl | (simp [keptB, notGone, (by rfl).live]; done)) (by rfl) (by rfl) (by rfl) (by rfl) (by rfl) (by rfl) (by rfl) ?_
        first
          | refine ao0 (em_move (by rfl) (by rfl)) (by rfl) (by rfl) ?_
          | refine ao0 (em_moveG (by rfl) (by rfl)) (by rfl) (by rfl) ?_
          | refine ao0 (sem_move (.inl (by rfl))) (by rfl) (by rfl) ?_
        first
          | refine ao_skip (by rfl) (by rfl) ?_
          | refine ao0 (em_move (by rfl) (by rfl)) (by rfl) (by rfl) ?_
          | refine ao0 (em_moveG (by rfl) (by rfl)) (by rfl) (by rfl) ?_
          | refine ao0 (sem_move (.inl (by rfl))) (by rfl) (by rfl) ?_
          | refine ao_opt (by rfl) (by rfl) (fun he => astep0 (em_move (by rfl) (by rfl))) ?_
          | refine ao_opt (by rfl) (by rfl) (fun he => astep0 (em_moveG (by rfl) (by rfl))) ?_
          | refine ao_opt (by rfl) (by rfl) (fun he => by rw [he]; exact astep0 (em_move (by rfl) (by rfl))) ?_
          | refine ao_opt (by rfl) (by rfl) (fun he => by rw [he]; exact astep0 (em_moveG (by rfl) (by rfl))) ?_
          | refine ao_opt (by rfl) (by rfl) (fun he => astep0 (sem_move (.inl (by rfl)))) ?_
          | refine ao_opt (by rfl) (by rfl) (fun he => by rw [he]; exact astep0 (sem_move (.inl (by rfl)))) ?_
        first
          | refine ao_skip (by rfl) (by rfl) ?_
          | refine ao0 (em_move (by rfl) (by rfl)) (by rfl) (by rfl) ?_
          | refine ao0 (em_moveG (by rfl) (by rfl)) (by rfl) (by rfl) ?_
          | refine ao0 (sem_move (.inl (by rfl))) (by rfl) (by rfl) ?_
          | refine ao_opt (by rfl) (by rfl) (fun he => astep0 (em_move (by rfl) (by rfl))) ?_
          | refine ao_opt (by rfl) (by rfl) (fun he => astep0 (em_moveG (by rfl) (by rfl))) ?_
          | refine ao_opt (by rfl) (by rfl) (fun he => by rw [he]; exact astep0 (em_move (by rfl) (by rfl))) ?_
          | refine ao_opt (by rfl) (by rfl) (fun he => by rw [he]; exact astep0 (em_moveG (by rfl) (by rfl))) ?_
          | refine ao_opt (by rfl) (by rfl) (fun he => astep0 (sem_move (.inl (by rfl)))) ?_
          | refine ao_opt (by rfl) (by rfl) (fun he => by rw [he]; exact astep0 (sem_move (.inl (by rfl)))) ?_
        first
          | refine ao_skip (by rfl) (by rfl) ?_
          | refine ao0 (em_binI (by rfl) (by rfl) (by rfl) (by rfl) (by first | rfl | trivial | exact ⟨rfl, by decide⟩ | exact ⟨rfl, by omega⟩ | decide | omega)) (by rfl) (by rfl) ?_
          | refine ao0 (sem_binB tyOk (by rfl) (by rfl) (by rfl) (by rfl) (by rfl) (by rfl)) (by rfl) (by rfl) ?_
          | refine ao0 (sem_nilS tyOk (by rfl) (by rfl) (by rfl) (by rfl) (by rfl) (by first | exact .inl ⟨rfl, rfl⟩ | exact .inr ⟨rfl, rfl⟩)) (by rfl) (by rfl) ?_
          | refine ao0 (sem_binS (by rfl) (by rfl) (by rfl) (by rfl) (by trivial)) (by rfl) (by rfl) ?_
          | refine ao_opt (by rfl) (by rfl) (fun he => astep0 (em_binI (by rfl) (by rfl) (by rfl) (by rfl) (by first | rfl | trivial | exact ⟨rfl, by decide⟩ | exact ⟨rfl, by omega⟩ | decide | omega))) ?_
          | refine ao_opt (by rfl) (by rfl) (fun he => astep0 (sem_binB tyOk (by rfl) (by rfl) (by rfl) (by rfl) (by rfl) (by rfl))) ?_
          | refine ao_opt (by rfl) (by rfl) (fun he => astep0 (sem_nilS tyOk (by rfl) (by rfl) (by rfl) (by rfl) (by rfl) (by first | exact .inl ⟨rfl, rfl⟩ | exact .inr ⟨rfl, rfl⟩))) ?_
          | refine ao_opt (by rfl) (by rfl) (fun he => astep0 (sem_binS (by rfl) (by rfl) (by rfl) (by rfl) (by trivial))) ?_
          | refine ao_opt (by rfl) (by rfl) (fun he => by rw [he]; exact astep0 (em_binI (by rfl) (by rfl) (by rfl) (by rfl) (by first | rfl | trivial | exact ⟨rfl, by decide⟩ | exact ⟨rfl, by omega⟩ | decide | omega))) ?_
          | refine ao_opt (by rfl) (by rfl) (fun he => by rw [he]; exact astep0 (sem_binB tyOk (by rfl) (by rfl) (by rfl) (by rfl) (by rfl) (by rfl))) ?_
          | refine ao_opt (by rfl) (by rfl) (fun he => by rw [he]; exact astep0 (sem_nilS tyOk (by rfl) (by rfl) (by rfl) (by rfl) (by rfl) (by first | exact .inl ⟨rfl, rfl⟩ | exact .inr ⟨rfl, rfl⟩))) ?_
          | refine ao_opt (by rfl) (by rfl) (fun he => by rw [he]; exact astep0 (sem_binS (by rfl) (by rfl) (by rfl) (by rfl) (by trivial))) ?_
        first
          | refine ao0 (sem_pickg (by rfl) (by rfl) (by rfl) (by rfl) (by intro hh; first | rfl | exact hh | (exact Bool.noConfusion hh) | (simp [wexp]; done) | (simp [wexp] at hh; done) | (simpa [wexp] using hh) | (simp_all; done)) (by intro hh; first | rfl | exact hh | (exact Bool.noConfusion hh) | (simp [wexp]; done) | (simp [wexp] at hh; done) | (simpa [wexp] using hh) | (simp_all; done))) (by rfl) (by rfl) ?_
          | refine ao0 (sem_pick (by rfl) (by rfl)) (by rfl) (by rfl) ?_
        first
          | refine ao0 (em_assign (by rfl) (by rfl)) (by rfl) (by rfl) ?_
          | refine ao0 (em_assignG (by rfl) (by rfl)) (by rfl) (by rfl) ?_
          | refine ao0 (sem_move (.inr (by rfl))) (by rfl) (by rfl) ?_
        refine ao_nil (by first | dsimp only [setO, setE] | rfl) (by first | dsimp only [setM, setE, setR] | rfl) (by rfl) ?_
        refine AW.ret ?_
        refine retA_data (n := 0) rfl (by rfl) ?_ rfl rfl _ (.inr rfl)
        exact pack_b (by first | rfl | simp)
      · skip
        exfalso; simp at hc2
end
end Go.Proofs.Ytfnplbplmcilpaa
