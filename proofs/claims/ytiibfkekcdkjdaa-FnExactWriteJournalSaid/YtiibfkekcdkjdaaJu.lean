/-
  The entry at the beginning of bytes: the reference's text.
-/
import Derived.Test.YtiibfkekcdkjdaaJt
namespace Go.Proofs.Ytiibfkekcdkjdaa
open Go
set_option linter.unusedVariables false
set_option linter.unusedSimpArgs false
set_option linter.unnecessarySimpa false

theorem sv_bd : ∀ (bs : List Nat) (acc sc i : Nat), (sv bs acc sc i).1 ≤ 200000 ∧ (sv bs acc sc i).2 ≤ i + bs.length
  | [], _, _, _ => ⟨by simp [sv], by simp [sv]⟩
  | b :: bs, acc, sc, i => by
    rw [sv_cons]
    have ih := sv_bd bs (acc + sc * (b % 128)) (sc * 128) (i + 1)
    split
    · exact ⟨by decide, by simp⟩
    · split
      · split
        · exact ⟨by decide, by simp⟩
        · rename_i h; exact ⟨by dsimp only; omega, by simp⟩
      · exact ⟨ih.1, by have := ih.2; simp; omega⟩
theorem getD_take0 {l : List Nat} {n : Nat} (h : 0 < n) : (l.take n).getD 0 0 = l.getD 0 0 := by
  cases l <;> cases n <;> simp_all
theorem specE {b0 : Nat} {l' B : List Nat} (hb : ∀ b ∈ b0 :: l', b ≤ 255) (hB : B = l'.take b0) (h3 : 3 ≤ b0) (hl : b0 + 1 ≤ l'.length) {t k v m : Nat} (h1 : sv (B.drop 1) 0 1 0 = (t, k)) (h2 : sv (B.drop (1 + k)) 0 1 0 = (v, m)) (hk : k ≠ 0) (hm : m ≠ 0) (hkm : 1 + k + m = b0) (hs : ((l'.getD b0 0 : Nat) : Int) = sumF B) (h8 : B.getD 0 0 ≤ 7) (hp : pointB t (unz v) = true) : IsE (b0 :: l') (B.getD 0 0) t (unz v) := by
  have hBl : B.length = b0 := by rw [hB]; simp; omega
  have hbB : ∀ b ∈ B, b ≤ 255 := fun b h => hb b (List.mem_cons_of_mem _ (List.mem_of_mem_take (hB ▸ h)))
  have hpp : 0 ≤ (t : Int) ∧ (t : Int) ≤ 1000 ∧ -1000 ≤ unz v ∧ unz v ≤ 1000 := of_decide_eq_true hp
  obtain ⟨_, r1, e1, e2⟩ := sv_inv (fun b h => hbB b (List.mem_of_mem_drop h)) h1 hk
  have e3 : B.drop (1 + k) = r1 := by rw [← List.drop_drop, e1, e2, drop_put]
  rw [e3] at h2
  obtain ⟨_, r2, e4, e5⟩ := sv_inv (fun b h => hbB b (List.mem_of_mem_drop (e3 ▸ h))) h2 hm
  have e6 : (B.drop 1).length = k + r1.length := by rw [e1, e2]; simp
  have e7 : r1.length = m + r2.length := by rw [e4, e5]; simp
  have e8 : (B.drop 1).length = b0 - 1 := by simp [hBl]
  have e9 : r2 = [] := List.eq_nil_of_length_eq_zero (by omega)
  subst e9
  have eB : B = B.getD 0 0 :: B.drop 1 := by
    cases B with
    | nil => simp at hBl; omega
    | cons x B => simp
  have hE : entB (B.getD 0 0) t (unz v) = B := by
    unfold entB
    rw [zig_unz]
    conv => rhs; rw [eB, e1, e4]
    simp
  refine ⟨h8, by omega, hpp.2.2.1, hpp.2.2.2, l'.drop (b0 + 1), ?_⟩
  unfold entL
  rw [hE, hBl, ← hs]
  have hsplit : l' = B ++ l'.getD b0 0 :: l'.drop (b0 + 1) := by
    rw [hB]
    conv => lhs; rw [← List.take_append_drop b0 l', List.drop_eq_getElem_cons (by omega : b0 < l'.length)]
    rw [List.getD_eq_getElem?_getD, List.getElem?_eq_getElem (by omega), Option.getD_some]
  conv => lhs; rw [hsplit]
  simp
theorem IsE.body {b0 : Nat} {l' : List Nat} {k t : Nat} {v : Int} (h : IsE (b0 :: l') k t v) : b0 = (entB k t v).length ∧ ∃ r, l' = entB k t v ++ (sumF (entB k t v)).toNat :: r := by
  obtain ⟨_, _, _, _, r, h5⟩ := h
  unfold entL at h5
  simp only [List.cons_append, List.nil_append, List.append_assoc, List.cons.injEq] at h5
  exact ⟨h5.1, r, h5.2⟩
set_option maxHeartbeats 2000000 in
theorem sReadEntry_ok (nn : Bool) (l : List Nat) (hl : l.length ≤ 1048576) (hnn : nn = false → l = []) (hb : ∀ b ∈ l, b ≤ 255) : FnOk Try.prog noG 56 [.v false [.sl false nn l.length (l.map bD)]] [] (resS (rdE l)) [] := by
  cases l with
  | nil =>
    have hfin : rdE [] = none := rfl
    refine fnOk_of' (k := 0) tyOk Try.func56 rfl (by kernel_rfl) Try.ntmps56 (by rw [Try.results56]) rfl (by simp only [List.length_cons, List.length_nil, Nat.reduceAdd, Nat.reduceSub, List.replicate_succ, List.replicate_zero, List.cons_append, List.nil_append]; rfl) (by simp) (by simp) (fun r hr => by simp at hr) fun base => ?_
    refine AW.seq ?_
    refine AW.region ?_
    refine ao1 (sem_alloc tyOk (by rfl) (by rfl)) (by omega) (by rfl) (by rfl) ?_
    refine ao0 (em_assign (by rfl) (by rfl)) (by rfl) (by rfl) ?_
    refine ao_nil (by first | dsimp only [setO, setE] | rfl) (by first | dsimp only [setM, setE, setR] | rfl) (by rfl) ?_
    refine AW.seq ?_
    refine AW.seq ?_
    refine AW.region ?_
    refine ao0 (em_move (by rfl) (by rfl)) (by rfl) (by rfl) ?_
    refine ao0 (sem_len tyOk (by rfl) (by rfl) (by rfl) (by rfl) (by first | exact .inl ⟨_, _, _, rfl⟩ | exact .inr ⟨_, _, rfl⟩)) (by rfl) (by rfl) ?_
    refine ao0 (em_binI (by rfl) (by rfl) (by rfl) (by rfl) (by first | rfl | trivial | exact ⟨rfl, by decide⟩ | exact ⟨rfl, by omega⟩ | decide | omega)) (by rfl) (by rfl) ?_
    refine ao0 (em_move (by rfl) (by rfl)) (by rfl) (by rfl) ?_
    refine ao_skip (by rfl) (by rfl) ?_
    refine ao_skip (by rfl) (by rfl) ?_
    refine ao_skip (by rfl) (by rfl) ?_
    refine ao_skip (by rfl) (by rfl) ?_
    refine ao_skip (by rfl) (by rfl) ?_
    refine ao_skip (by rfl) (by rfl) ?_
    refine ao_skip (by rfl) (by rfl) ?_
    refine ao_skip (by rfl) (by rfl) ?_
    dsimp only [setO, setE]
    refine ao0 (sem_pick (by rfl) (by rfl)) (by rfl) (by rfl) ?_
    refine ao0 (em_move (by rfl) (by rfl)) (by rfl) (by rfl) ?_
    refine ao_skip (by rfl) (by rfl) ?_
    refine ao_skip (by rfl) (by rfl) ?_
    refine ao_skip (by rfl) (by rfl) ?_
    refine ao_skip (by rfl) (by rfl) ?_
    refine ao0 (sem_pick (by rfl) (by rfl)) (by rfl) (by rfl) ?_
    refine ao_nil (by first | dsimp only [setO, setE] | rfl) (by first | dsimp only [setM, setE, setR] | rfl) (by rfl) ?_
    refine AW.cond (by rfl) (fun hc1 => ?_) (fun hc1 => ?_)
    · skip
      refine AW.seq ?_
      refine AW.region ?_
      refine ao0 (sem_build tyOk (by rfl) (by rfl) (by rfl) (by rfl)) (by rfl) (by rfl) ?_
      refine ao_store_box tyOk (by rfl) (by rfl) (by rfl) (by rfl) (by rfl) (by rfl) (by rfl) (by rfl) (by first | exact Nat.le_of_ble_eq_true rfl | decide | (simp; done) | omega) ?_
      refine ao0 (em_assign (by rfl) (by rfl)) (by rfl) (by rfl) ?_
      refine ao_nil (by first | dsimp only [setO, setE] | rfl) (by first | dsimp only [setM, setE, setR] | rfl) (by rfl) ?_
      refine AW.ret ?_
      refine retA_data (n := 0) rfl (by rfl) ?_ rfl rfl _ (.inr rfl)
      rfl
    · skip
      exfalso; simp at hc1
  | cons b0 l' =>
    obtain rfl := nn_of (i := 0) hnn (by simp)
    have hb0 : b0 ≤ 255 := hb b0 (by simp)
    have hlen : (b0 :: l').length = l'.length + 1 := rfl
    have HD0 : List.drop ((0 : Int).toNat * 1) ((b0 :: l').map bD) = bD b0 :: l'.map bD := rfl
    refine fnOk_of' (k := 0) tyOk Try.func56 rfl (by kernel_rfl) Try.ntmps56 (by rw [Try.results56]) rfl (by simp only [List.length_cons, List.length_nil, Nat.reduceAdd, Nat.reduceSub, List.replicate_succ, List.replicate_zero, List.cons_append, List.nil_append]; rfl) (by simp) (by simp) (fun r hr => by simp at hr) fun base => ?_
    refine AW.seq ?_
    refine AW.region ?_
    refine ao1 (sem_alloc tyOk (by rfl) (by rfl)) (by omega) (by rfl) (by rfl) ?_
    refine ao0 (em_assign (by rfl) (by rfl)) (by rfl) (by rfl) ?_
    refine ao_nil (by first | dsimp only [setO, setE] | rfl) (by first | dsimp only [setM, setE, setR] | rfl) (by rfl) ?_
    refine AW.seq ?_
    refine AW.seq ?_
    refine AW.region ?_
    refine ao0 (em_move (by rfl) (by rfl)) (by rfl) (by rfl) ?_
    refine ao0 (sem_len tyOk (by rfl) (by rfl) (by rfl) (by rfl) (by first | exact .inl ⟨_, _, _, rfl⟩ | exact .inr ⟨_, _, rfl⟩)) (by rfl) (by rfl) ?_
    refine ao0 (em_binI (by rfl) (by rfl) (by rfl) (by rfl) (by first | rfl | trivial | exact ⟨rfl, by decide⟩ | exact ⟨rfl, by omega⟩ | decide | omega)) (by rfl) (by rfl) ?_
    refine ao0 (em_move (by rfl) (by rfl)) (by rfl) (by rfl) ?_
    refine ao0 (em_move (by rfl) (by rfl)) (by rfl) (by rfl) ?_
    refine ao0 (sem_len tyOk (by rfl) (by rfl) (by rfl) (by rfl) (by first | exact .inl ⟨_, _, _, rfl⟩ | exact .inr ⟨_, _, rfl⟩)) (by rfl) (by rfl) ?_
    refine ao0 (em_move (by rfl) (by rfl)) (by rfl) (by rfl) ?_
    refine ao0 (sem_indexR tyOk (by rfl) (by rfl) (by rfl) (by rfl) (by rfl) HD0 (by omega) (by omega)) (by rfl) (by rfl) ?_
    refine ao_load tyOk (by rfl) (by rfl) (by rfl) (by rfl) (by rfl) (by rfl) (by rfl) (by first | trivial | exact Nat.le_of_ble_eq_true rfl | decide | (simp; done) | omega) ?_
    refine ao0 (em_conv tyOk (by rfl) (by rfl) (by rfl) (by rfl) (by rfl) (by omega) (by omega)) (by rfl) (by rfl) ?_
    refine ao0 (em_add (by rfl) (by rfl) (by rfl) (by omega) (by omega)) (by rfl) (by rfl) ?_
    refine ao0 (em_binI (by rfl) (by rfl) (by rfl) (by rfl) (by first | rfl | trivial | exact ⟨rfl, by decide⟩ | exact ⟨rfl, by omega⟩ | decide | omega)) (by rfl) (by rfl) ?_
    dsimp only [setO, setE]
    refine ao0 (sem_pickg (by rfl) (by rfl) (by rfl) (by rfl) (by intro hh; first | rfl | exact hh | (exact Bool.noConfusion hh) | (simp [wexp]; done) | (simp [wexp] at hh; done) | (simpa [wexp] using hh) | (simp_all; done)) (by intro hh; first | rfl | exact hh | (exact Bool.noConfusion hh) | (simp [wexp]; done) | (simp [wexp] at hh; done) | (simpa [wexp] using hh) | (simp_all; done))) (by rfl) (by rfl) ?_
    refine ao0 (em_move (by rfl) (by rfl)) (by rfl) (by rfl) ?_
    refine ao_opt (by rfl) (by rfl) (fun he => astep0 (em_move (by rfl) (by rfl))) ?_
    refine ao_opt (by rfl) (by rfl) (fun he => by rw [he]; exact astep0 (sem_indexR tyOk (by rfl) (by rfl) (by rfl) (by rfl) (by rfl) HD0 (by omega) (by omega))) ?_
    refine ao_opt (by rfl) (by rfl) (fun he => by rw [he]; exact astep_load tyOk (by rfl) (by rfl) (by rfl) (by rfl) (by rfl) (by first | trivial | exact Nat.le_of_ble_eq_true rfl | decide | (simp; done) | omega)) ?_
    refine ao_opt (by rfl) (by rfl) (fun he => by rw [he]; exact astep0 (em_binI (by rfl) (by rfl) (by rfl) (by rfl) (by first | rfl | trivial | exact ⟨rfl, by decide⟩ | exact ⟨rfl, by omega⟩ | decide | omega))) ?_
    refine ao0 (sem_pickg (by rfl) (by rfl) (by rfl) (by rfl) (by intro hh; first | rfl | exact hh | (exact Bool.noConfusion hh) | (simp [wexp]; done) | (simp [wexp] at hh; done) | (simpa [wexp] using hh) | (simp_all; done)) (by intro hh; first | rfl | exact hh | (exact Bool.noConfusion hh) | (simp [wexp]; done) | (simp [wexp] at hh; done) | (simpa [wexp] using hh) | (simp_all; done))) (by rfl) (by rfl) ?_
    refine ao_nil (by first | dsimp only [setO, setE] | rfl) (by first | dsimp only [setM, setE, setR] | rfl) (by rfl) ?_
    refine AW.cond (by rfl) (fun hc1 => ?_) (fun hc1 => ?_)
    · skip
      have hfin : rdE (b0 :: l') = none := rdE_none fun k t v h => by
        obtain ⟨e1, r, e2⟩ := h.body
        have e3 := entB_len (k := k) h.2.1 h.2.2.1 h.2.2.2.1
        have e4 : l'.length = (entB k t v).length + (1 + r.length) := by rw [e2]; simp; omega
        rcases or_T hc1 with h | h
        · rcases or_T h with h | h
          · simp at h; omega
          · simp at h; omega
        · simp at h; omega
      refine AW.seq ?_
      refine AW.region ?_
      refine ao0 (sem_build tyOk (by rfl) (by rfl) (by rfl) (by rfl)) (by rfl) (by rfl) ?_
      refine ao_store_box tyOk (by rfl) (by rfl) (by rfl) (by rfl) (by rfl) (by rfl) (by rfl) (by rfl) (by first | exact Nat.le_of_ble_eq_true rfl | decide | (simp; done) | omega) ?_
      refine ao0 (em_assign (by rfl) (by rfl)) (by rfl) (by rfl) ?_
      refine ao_nil (by first | dsimp only [setO, setE] | rfl) (by first | dsimp only [setM, setE, setR] | rfl) (by rfl) ?_
      refine AW.ret ?_
      refine retA_data (n := 0) rfl (by rfl) ?_ rfl rfl _ (.inr rfl)
      rw [hfin]; first | rfl | (show _ = A.tup [(true, [C.i .i64 (kk : Int), C.i .i64 (t : Int), C.i .i64 (unz v)]), (false, [C.i .i64 ((entL kk t (unz v)).length : Int)])]; rw [hEl]; rfl)
    · skip
      obtain ⟨h1, h3⟩ := or_F hc1
      have hn3 : 3 ≤ b0 := by simp at h3; omega
      have hn2 : b0 + 1 ≤ l'.length := by have := (or_F h1).2; simp at this; omega
      obtain ⟨B, hB⟩ : ∃ B, B = l'.take b0 := ⟨_, rfl⟩
      have hBl : B.length = b0 := by rw [hB]; simp; omega
      have hbB : ∀ b ∈ B, b ≤ 255 := fun b h => hb b (List.mem_cons_of_mem _ (List.mem_of_mem_take (hB ▸ h)))
      have hB0 : ((b0 : Int) + 1 - 1).toNat = B.length := by omega
      have hB2 : List.take (B.length * 1) (List.drop ((1 : Int).toNat * 1) ((b0 :: l').map bD)) = B.map bD := by rw [Nat.mul_one, hBl, hB, List.map_take]; rfl
      have hd1 : (B.drop 1).length = b0 - 1 := by simp [hBl]
      obtain ⟨hs1, hs2⟩ := sl_tail bD B 1 (by omega) (by omega)
      rw [show (1 : Int).toNat = 1 from rfl] at hs1 hs2
      refine AW.skip ?_
      refine AW.seq ?_
      refine AW.region ?_
      refine ao0 (em_move (by rfl) (by rfl)) (by rfl) (by rfl) ?_
      refine ao0 (sem_indexR tyOk (by rfl) (by rfl) (by rfl) (by rfl) (by rfl) HD0 (by omega) (by omega)) (by rfl) (by rfl) ?_
      refine ao_load tyOk (by rfl) (by rfl) (by rfl) (by rfl) (by rfl) (by rfl) (by rfl) (by first | trivial | exact Nat.le_of_ble_eq_true rfl | decide | (simp; done) | omega) ?_
      refine ao0 (em_conv tyOk (by rfl) (by rfl) (by rfl) (by rfl) (by rfl) (by omega) (by omega)) (by rfl) (by rfl) ?_
      refine ao0 (em_assign (by rfl) (by rfl)) (by rfl) (by rfl) ?_
      refine ao_nil (by first | dsimp only [setO, setE] | rfl) (by first | dsimp only [setM, setE, setR] | rfl) (by rfl) ?_
      refine AW.seq ?_
      refine AW.region ?_
      refine ao0 (em_move (by rfl) (by rfl)) (by rfl) (by rfl) ?_
      refine ao0 (em_move (by rfl) (by rfl)) (by rfl) (by rfl) ?_
      refine ao0 (em_add (by rfl) (by rfl) (by rfl) (by omega) (by omega)) (by rfl) (by rfl) ?_
      refine ao0 (sem_slice tyOk (by rfl) (by rfl) (by rfl) (by rfl) (by rfl) (by rfl) (by omega) (by omega) (by omega)) (by rfl) (by rfl) ?_
      refine ao0 (em_assign (by rfl) (by rfl)) (by rfl) (by rfl) ?_
      refine ao_nil (by first | dsimp only [setO, setE] | rfl) (by first | dsimp only [setM, setE, setR] | rfl) (by rfl) ?_
      rw [hB0, hB2]
      refine AW.seq ?_
      refine AW.region ?_
      refine ao0 (em_move (by rfl) (by rfl)) (by rfl) (by rfl) ?_
      refine ao0 (sem_slice tyOk (by rfl) (by rfl) (by rfl) (by rfl) (by rfl) (by rfl) (by omega) (by omega) (by omega)) (by rfl) (by rfl) ?_
      rw [show (1 : Int).toNat = 1 from rfl, hs2, hs1]
      refine ao_callL [] [] (getVar_ok true (B.drop 1) (by simp) (fun b h => hbB b (List.mem_of_mem_drop h)) (by omega)) (by rfl) (by rfl) (by rfl) (by rfl) (by rfl) (by repeat' (first | exact True.intro | exact .inl ⟨by rfl, by rfl⟩ | exact rfl | exact .inr (.inl ⟨_, _, _, _, by rfl, by rfl⟩) | exact .inr (.inr ⟨_, _, _, _, _, _, by rfl, by rfl, by rfl, by first | exact .head _ | exact .tail _ (.head _) | exact .tail _ (.tail _ (.head _)) | exact .tail _ (.tail _ (.tail _ (.head _)))⟩) | refine And.intro ?_ ?_)) (by repeat' (first | exact True.intro | exact .inl ⟨by rfl, by rfl⟩ | exact rfl | exact .inl rfl | exact .inr (.inl ⟨_, _, _, _, by rfl, by rfl⟩) | exact .inr ⟨rfl, by simp [D.scalar, bD]⟩ | refine And.intro ?_ ?_)) (by rfl) (by rfl) (by rfl) (by decide) (by rfl) (by rfl) (by omega) (by first | rfl | (simp [keptB, notGone, (by rfl).live]; done)) (by rfl) (by rfl) (by rfl) (by rfl) (by rfl) (by rfl) (by rfl) ?_
      refine ao0 (sem_move (.inl (by rfl))) (by rfl) (by rfl) ?_
      refine ao0 (sem_extract (by rfl) (by rfl) (by rfl)) (by rfl) (by rfl) ?_
      refine ao0 (sem_extract (by rfl) (by rfl) (by rfl)) (by rfl) (by rfl) ?_
      refine ao0 (em_assign (by rfl) (by rfl)) (by rfl) (by rfl) ?_
      refine ao0 (em_assign (by rfl) (by rfl)) (by rfl) (by rfl) ?_
      refine ao_nil (by first | dsimp only [setO, setE] | rfl) (by first | dsimp only [setM, setE, setR] | rfl) (by rfl) ?_
      obtain ⟨t, k, hsv1⟩ : ∃ t k, sv (B.drop 1) 0 1 0 = (t, k) := ⟨_, _, rfl⟩
      have hbd1 := sv_bd (B.drop 1) 0 1 0
      rw [hsv1] at hbd1
      dsimp only at hbd1
      rw [hsv1]
      dsimp only
      obtain ⟨hq1, hq2⟩ := sl_tail bD B (1 + (k : Int)) (by omega) (by omega)
      rw [show (1 + (k : Int)).toNat = 1 + k by omega] at hq1 hq2
      have hd2 : (B.drop (1 + k)).length = b0 - (1 + k) := by simp [hBl]
      refine AW.seq ?_
      refine AW.region ?_
      refine ao0 (em_move (by rfl) (by rfl)) (by rfl) (by rfl) ?_
      refine ao0 (em_move (by rfl) (by rfl)) (by rfl) (by rfl) ?_
      refine ao0 (em_add (by rfl) (by rfl) (by rfl) (by omega) (by omega)) (by rfl) (by rfl) ?_
      refine ao0 (sem_slice tyOk (by rfl) (by rfl) (by rfl) (by rfl) (by rfl) (by rfl) (by omega) (by omega) (by omega)) (by rfl) (by rfl) ?_
      rw [show (1 + (k : Int)).toNat = 1 + k by omega, hq2, hq1]
      refine ao_callL [] [] (getVar_ok true (B.drop (1 + k)) (by simp) (fun b h => hbB b (List.mem_of_mem_drop h)) (by omega)) (by rfl) (by rfl) (by rfl) (by rfl) (by rfl) (by repeat' (first | exact True.intro | exact .inl ⟨by rfl, by rfl⟩ | exact rfl | exact .inr (.inl ⟨_, _, _, _, by rfl, by rfl⟩) | exact .inr (.inr ⟨_, _, _, _, _, _, by rfl, by rfl, by rfl, by first | exact .head _ | exact .tail _ (.head _) | exact .tail _ (.tail _ (.head _)) | exact .tail _ (.tail _ (.tail _ (.head _)))⟩) | refine And.intro ?_ ?_)) (by repeat' (first | exact True.intro | exact .inl ⟨by rfl, by rfl⟩ | exact rfl | exact .inl rfl | exact .inr (.inl ⟨_, _, _, _, by rfl, by rfl⟩) | exact .inr ⟨rfl, by simp [D.scalar, bD]⟩ | refine And.intro ?_ ?_)) (by rfl) (by rfl) (by rfl) (by decide) (by rfl) (by rfl) (by omega) (by first | rfl | (simp [keptB, notGone, (by rfl).live]; done)) (by rfl) (by rfl) (by rfl) (by rfl) (by rfl) (by rfl) (by rfl) ?_
      refine ao0 (sem_move (.inl (by rfl))) (by rfl) (by rfl) ?_
      refine ao0 (sem_extract (by rfl) (by rfl) (by rfl)) (by rfl) (by rfl) ?_
      refine ao0 (sem_extract (by rfl) (by rfl) (by rfl)) (by rfl) (by rfl) ?_
      refine ao0 (em_assign (by rfl) (by rfl)) (by rfl) (by rfl) ?_
      refine ao0 (em_assign (by rfl) (by rfl)) (by rfl) (by rfl) ?_
      refine ao_nil (by first | dsimp only [setO, setE] | rfl) (by first | dsimp only [setM, setE, setR] | rfl) (by rfl) ?_
      obtain ⟨v, m, hsv2⟩ : ∃ v m, sv (B.drop (1 + k)) 0 1 0 = (v, m) := ⟨_, _, rfl⟩
      have hbd2 := sv_bd (B.drop (1 + k)) 0 1 0
      rw [hsv2] at hbd2
      dsimp only at hbd2
      rw [hsv2]
      dsimp only
      have HD1 := drop_bZ B 0 (by omega) (by omega)
      have HD2 := drop_bZ (b0 :: l') ((b0 : Int) + 1) (by omega) (by omega)
      have hk0 := getD_255 hbB (0 : Int).toNat
      have hsum := getD_255 hb ((b0 : Int) + 1).toNat
      obtain ⟨s, hs⟩ : ∃ s, s = (b0 :: l').getD ((b0 : Int) + 1).toNat 0 := ⟨_, rfl⟩
      have hs' : s = l'.getD b0 0 := by rw [hs, show ((b0 : Int) + 1).toNat = b0 + 1 by omega]; rfl
      obtain ⟨kk, hkk⟩ : ∃ kk, kk = B.getD (0 : Int).toNat 0 := ⟨_, rfl⟩
      have hkk' : kk = B.getD 0 0 := hkk
      rw [← hkk] at HD1 hk0
      rw [← hs] at HD2 hsum
      have hsb := sumF_bd B
      refine AW.seq ?_
      refine AW.draw follows0 (by kernel_rfl) ?_
      refine ao0 (em_move (by rfl) (by rfl)) (by rfl) (by rfl) ?_
      refine ao0 (sem_indexR tyOk (by rfl) (by rfl) (by rfl) (by rfl) (by rfl) HD1 (by omega) (by omega)) (by rfl) (by rfl) ?_
      refine ao_load tyOk (by rfl) (by rfl) (by rfl) (by rfl) (by rfl) (by rfl) (by rfl) (by first | trivial | exact Nat.le_of_ble_eq_true rfl | decide | (simp; done) | omega) ?_
      refine ao0 (em_conv tyOk (by rfl) (by rfl) (by rfl) (by rfl) (by rfl) (by omega) (by omega)) (by rfl) (by rfl) ?_
      refine ao0 (em_move (by rfl) (by rfl)) (by rfl) (by rfl) ?_
      refine ao0 (em_move (by rfl) (by rfl)) (by rfl) (by rfl) ?_
      refine ao_callL [] [] (sUnzig_ok v (by omega)) (by rfl) (by rfl) (by rfl) (by rfl) (by rfl) (by repeat' (first | exact True.intro | exact .inl ⟨by rfl, by rfl⟩ | exact rfl | exact .inr (.inl ⟨_, _, _, _, by rfl, by rfl⟩) | exact .inr (.inr ⟨_, _, _, _, _, _, by rfl, by rfl, by rfl, by first | exact .head _ | exact .tail _ (.head _) | exact .tail _ (.tail _ (.head _)) | exact .tail _ (.tail _ (.tail _ (.head _)))⟩) | refine And.intro ?_ ?_)) (by repeat' (first | exact True.intro | exact .inl ⟨by rfl, by rfl⟩ | exact rfl | exact .inl rfl | exact .inr (.inl ⟨_, _, _, _, by rfl, by rfl⟩) | exact .inr ⟨rfl, by simp [D.scalar, bD]⟩ | refine And.intro ?_ ?_)) (by rfl) (by rfl) (by rfl) (by decide) (by rfl) (by rfl) (by omega) (by first | rfl | (simp [keptB, notGone, (by rfl).live]; done)) (by rfl) (by rfl) (by rfl) (by rfl) (by rfl) (by rfl) (by rfl) ?_
      refine ao0 (sem_build tyOk (by rfl) (by rfl) (by rfl) (by rfl)) (by rfl) (by rfl) ?_
      refine ao0 (sem_build tyOk (by rfl) (by rfl) (by rfl) (by rfl)) (by rfl) (by rfl) ?_
      refine ao1 (sem_alloc tyOk (by rfl) (by rfl)) (by omega) (by rfl) (by rfl) ?_
      refine ao_store_box tyOk (by rfl) (by rfl) (by rfl) (by rfl) (by rfl) (by rfl) (by rfl) (by rfl) (by first | exact Nat.le_of_ble_eq_true rfl | decide | (simp; done) | omega) ?_
      refine ao_nil (by first | dsimp only [setO, setE] | rfl) (by first | dsimp only [setM, setE, setR] | rfl) (by rfl) ?_
      refine ⟨by kernel_rfl, ?_⟩
      refine AW.seq ?_
      refine AW.seq ?_
      refine AW.draw follows0 (by kernel_rfl) ?_
      refine ao0 (em_move (by rfl) (by rfl)) (by rfl) (by rfl) ?_
      refine ao0 (em_binI (by rfl) (by rfl) (by rfl) (by rfl) (by first | rfl | trivial | exact ⟨rfl, by decide⟩ | exact ⟨rfl, by omega⟩ | decide | omega)) (by rfl) (by rfl) ?_
      refine ao0 (em_move (by rfl) (by rfl)) (by rfl) (by rfl) ?_
      refine ao_opt (by rfl) (by rfl) (fun he => astep0 (em_move (by rfl) (by rfl))) ?_
      refine ao_opt (by rfl) (by rfl) (fun he => by rw [he]; exact astep0 (em_binI (by rfl) (by rfl) (by rfl) (by rfl) (by first | rfl | trivial | exact ⟨rfl, by decide⟩ | exact ⟨rfl, by omega⟩ | decide | omega))) ?_
      refine ao0 (sem_pickg (by rfl) (by rfl) (by rfl) (by rfl) (by intro hh; first | rfl | exact hh | (exact Bool.noConfusion hh) | (simp [wexp]; done) | (simp [wexp] at hh; done) | (simpa [wexp] using hh) | (simp_all; done)) (by intro hh; first | rfl | exact hh | (exact Bool.noConfusion hh) | (simp [wexp]; done) | (simp [wexp] at hh; done) | (simpa [wexp] using hh) | (simp_all; done))) (by rfl) (by rfl) ?_
      refine ao0 (em_move (by rfl) (by rfl)) (by rfl) (by rfl) ?_
      refine ao_opt (by rfl) (by rfl) (fun he => astep0 (em_move (by rfl) (by rfl))) ?_
      refine ao_opt (by rfl) (by rfl) (fun he => by rw [he]; exact astep0 (em_add (by rfl) (by rfl) (by rfl) (by omega) (by omega))) ?_
      refine ao_opt (by rfl) (by rfl) (fun he => astep0 (em_move (by rfl) (by rfl))) ?_
      refine ao_opt (by rfl) (by rfl) (fun he => by rw [he]; exact astep0 (em_add (by rfl) (by rfl) (by rfl) (by omega) (by omega))) ?_
      refine ao_opt (by rfl) (by rfl) (fun he => astep0 (em_move (by rfl) (by rfl))) ?_
      dsimp only [setO, setE]
      refine ao_opt (by rfl) (by rfl) (fun he => by rw [he]; exact astep0 (em_binI (by rfl) (by rfl) (by rfl) (by rfl) (by first | rfl | trivial | exact ⟨rfl, by decide⟩ | exact ⟨rfl, by omega⟩ | decide | omega))) ?_
      refine ao0 (sem_pickg (by rfl) (by rfl) (by rfl) (by rfl) (by intro hh; first | rfl | exact hh | (exact Bool.noConfusion hh) | (simp [wexp]; done) | (simp [wexp] at hh; done) | (simpa [wexp] using hh) | (simp_all; done)) (by intro hh; first | rfl | exact hh | (exact Bool.noConfusion hh) | (simp [wexp]; done) | (simp [wexp] at hh; done) | (simpa [wexp] using hh) | (simp_all; done))) (by rfl) (by rfl) ?_
      refine ao0 (em_move (by rfl) (by rfl)) (by rfl) (by rfl) ?_
      refine ao_opt (by rfl) (by rfl) (fun he => astep0 (em_move (by rfl) (by rfl))) ?_
      refine ao_opt (by rfl) (by rfl) (fun he => astep0 (em_move (by rfl) (by rfl))) ?_
      refine ao_opt (by rfl) (by rfl) (fun he => by rw [he]; exact astep0 (em_add (by rfl) (by rfl) (by rfl) (by omega) (by omega))) ?_
      refine ao_opt (by rfl) (by rfl) (fun he => by rw [he]; exact astep0 (sem_indexR tyOk (by rfl) (by rfl) (by rfl) (by rfl) (by rfl) HD2 (by omega) (by omega))) ?_
      refine ao_opt (by rfl) (by rfl) (fun he => by rw [he]; exact astep_load tyOk (by rfl) (by rfl) (by rfl) (by rfl) (by rfl) (by first | trivial | exact Nat.le_of_ble_eq_true rfl | decide | (simp; done) | omega)) ?_
      refine ao_opt (by rfl) (by rfl) (fun he => by rw [he]; exact astep0 (em_conv tyOk (by rfl) (by rfl) (by rfl) (by rfl) (by rfl) (by omega) (by omega))) ?_
      refine ao_opt (by rfl) (by rfl) (fun he => astep0 (em_move (by rfl) (by rfl))) ?_
      refine ao_opt (by rfl) (by rfl) (fun he => by rw [he]; exact astep_callL [] [] (sumOf_ok true B (by omega) (by simp) hbB) (by rfl) (by rfl) (by rfl) (by repeat' (first | exact True.intro | exact .inl ⟨by rfl, by rfl⟩ | exact rfl | exact .inr (.inl ⟨_, _, _, _, by rfl, by rfl⟩) | exact .inr (.inr ⟨_, _, _, _, _, _, by rfl, by rfl, by rfl, by first | exact .head _ | exact .tail _ (.head _) | exact .tail _ (.tail _ (.head _)) | exact .tail _ (.tail _ (.tail _ (.head _)))⟩) | refine And.intro ?_ ?_)) (by repeat' (first | exact True.intro | exact .inl ⟨by rfl, by rfl⟩ | exact rfl | exact .inl rfl | exact .inr (.inl ⟨_, _, _, _, by rfl, by rfl⟩) | exact .inr ⟨rfl, by simp [D.scalar, bD]⟩ | refine And.intro ?_ ?_)) (by rfl) (by rfl) (by rfl) (by decide) (by rfl) (by rfl) (by omega) (by first | rfl | (simp [keptB, notGone, (by rfl).live]; done)) (by rfl) (by rfl) (by rfl) (by rfl) (by rfl) (by rfl) (by rfl)) ?_
      refine ao_opt (by rfl) (by rfl) (fun he => by rw [he]; exact astep0 (em_binI (by rfl) (by rfl) (by rfl) (by rfl) (by first | rfl | trivial | exact ⟨rfl, by decide⟩ | exact ⟨rfl, by omega⟩ | decide | omega))) ?_
      dsimp only [setO, setE]
      refine ao0 (sem_pickg (by rfl) (by rfl) (by rfl) (by rfl) (by intro hh; first | rfl | exact hh | (exact Bool.noConfusion hh) | (simp [wexp]; done) | (simp [wexp] at hh; done) | (simpa [wexp] using hh) | (simp_all; done)) (by intro hh; first | rfl | exact hh | (exact Bool.noConfusion hh) | (simp [wexp]; done) | (simp [wexp] at hh; done) | (simpa [wexp] using hh) | (simp_all; done))) (by rfl) (by rfl) ?_
      refine ao0 (em_move (by rfl) (by rfl)) (by rfl) (by rfl) ?_
      refine ao_opt (by rfl) (by rfl) (fun he => astep0 (sem_fieldAddr tyOk (by rfl) (by rfl) (by rfl) (by rfl) (by rfl) (by rfl))) ?_
      refine ao_opt (by rfl) (by rfl) (fun he => by rw [he]; exact astep_load tyOk (by rfl) (by rfl) (by rfl) (by rfl) (by rfl) (by first | trivial | exact Nat.le_of_ble_eq_true rfl | decide | (simp; done) | omega)) ?_
      refine ao_opt (by rfl) (by rfl) (fun he => by rw [he]; exact astep0 (em_binI (by rfl) (by rfl) (by rfl) (by rfl) (by first | rfl | trivial | exact ⟨rfl, by decide⟩ | exact ⟨rfl, by omega⟩ | decide | omega))) ?_
      refine ao0 (sem_pickg (by rfl) (by rfl) (by rfl) (by rfl) (by intro hh; first | rfl | exact hh | (exact Bool.noConfusion hh) | (simp [wexp]; done) | (simp [wexp] at hh; done) | (simpa [wexp] using hh) | (simp_all; done)) (by intro hh; first | rfl | exact hh | (exact Bool.noConfusion hh) | (simp [wexp]; done) | (simp [wexp] at hh; done) | (simpa [wexp] using hh) | (simp_all; done))) (by rfl) (by rfl) ?_
      refine ao0 (em_move (by rfl) (by rfl)) (by rfl) (by rfl) ?_
      refine ao_opt (by rfl) (by rfl) (fun he => astep0 (sem_fieldAddr tyOk (by rfl) (by rfl) (by rfl) (by rfl) (by rfl) (by rfl))) ?_
      refine ao_opt (by rfl) (by rfl) (fun he => by rw [he]; exact astep_load tyOk (by rfl) (by rfl) (by rfl) (by rfl) (by rfl) (by first | trivial | exact Nat.le_of_ble_eq_true rfl | decide | (simp; done) | omega)) ?_
      refine ao_opt (by rfl) (by rfl) (fun he => by rw [he]; exact astep_callL [] [] (validPoint_ok (t : Int) (unz v)) (by rfl) (by rfl) (by rfl) (by repeat' (first | exact True.intro | exact .inl ⟨by rfl, by rfl⟩ | exact rfl | exact .inr (.inl ⟨_, _, _, _, by rfl, by rfl⟩) | exact .inr (.inr ⟨_, _, _, _, _, _, by rfl, by rfl, by rfl, by first | exact .head _ | exact .tail _ (.head _) | exact .tail _ (.tail _ (.head _)) | exact .tail _ (.tail _ (.tail _ (.head _)))⟩) | refine And.intro ?_ ?_)) (by repeat' (first | exact True.intro | exact .inl ⟨by rfl, by rfl⟩ | exact rfl | exact .inl rfl | exact .inr (.inl ⟨_, _, _, _, by rfl, by rfl⟩) | exact .inr ⟨rfl, by simp [D.scalar, bD]⟩ | refine And.intro ?_ ?_)) (by rfl) (by rfl) (by rfl) (by decide) (by rfl) (by rfl) (by omega) (by first | rfl | (simp [keptB, notGone, (by rfl).live]; done)) (by rfl) (by rfl) (by rfl) (by rfl) (by rfl) (by rfl) (by rfl)) ?_
      refine ao_opt (by rfl) (by rfl) (fun he => by rw [he]; exact astep0 (sem_unOp (by rfl) (by rfl) (by rfl))) ?_
      refine ao0 (sem_pickg (by rfl) (by rfl) (by rfl) (by rfl) (by intro hh; first | rfl | exact hh | (exact Bool.noConfusion hh) | (simp [wexp]; done) | (simp [wexp] at hh; done) | (simpa [wexp] using hh) | (simp_all; done)) (by intro hh; first | rfl | exact hh | (exact Bool.noConfusion hh) | (simp [wexp]; done) | (simp [wexp] at hh; done) | (simpa [wexp] using hh) | (simp_all; done))) (by rfl) (by rfl) ?_
      refine ao_nil (by first | dsimp only [setO, setE] | rfl) (by first | dsimp only [setM, setE, setR] | rfl) (by rfl) ?_
      refine ⟨by kernel_rfl, ?_⟩
      refine AW.cond (by rfl) (fun hc2 => ?_) (fun hc2 => ?_)
      · skip
        have hfin : rdE (b0 :: l') = none := rdE_none fun k' t' v' h => by
          obtain ⟨e1, r, e2⟩ := h.body
          have hz := zig_le h.2.2.1 h.2.2.2.1
          have eB : B = entB k' t' v' := by rw [hB, e2, e1, List.take_left]
          have eB1 : B.drop 1 = putL t' ++ (putL (zig v') ++ []) := by rw [eB]; simp [entB]
          rw [eB1, sv_put (by have := h.2.1; omega)] at hsv1
          obtain ⟨rfl, ek⟩ := Prod.mk.inj hsv1
          have eB2 : B.drop (1 + k) = putL (zig v') ++ [] := by rw [← List.drop_drop, eB1, ← ek, drop_put]
          rw [eB2, sv_put (by omega)] at hsv2
          obtain ⟨ev, em⟩ := Prod.mk.inj hsv2
          have p1 := putL_len (n := t') (by have := h.2.1; omega)
          have p2 := putL_len (n := zig v') (by omega)
          have e3 : (B.drop 1).length = (putL t').length + (putL (zig v')).length := by rw [eB1]; simp
          have e4 : s = (sumF B).toNat := by
            rw [hs', e2, e1, eB]; simp
          have e5 : kk = k' := by rw [hkk', eB]; rfl
          have e6 : pointB (t' : Int) (unz v) = true := by rw [← ev, unz_zig]; exact decide_eq_true ⟨by omega, by have := h.2.1; omega, h.2.2.1, h.2.2.2.1⟩
          have e7 := h.1
          rcases or_T hc2 with q | q
          · rcases or_T q with q | q
            · rcases or_T q with q | q
              · rcases or_T q with q | q
                · rcases or_T q with q | q <;> simp at q <;> omega
                · simp at q; omega
              · simp at q; omega
            · simp at q; omega
          · rw [e6] at q; simp at q
        refine AW.seq ?_
        refine AW.region ?_
        refine ao0 (sem_build tyOk (by rfl) (by rfl) (by rfl) (by rfl)) (by rfl) (by rfl) ?_
        refine ao_store_box tyOk (by rfl) (by rfl) (by rfl) (by rfl) (by rfl) (by rfl) (by rfl) (by rfl) (by first | exact Nat.le_of_ble_eq_true rfl | decide | (simp; done) | omega) ?_
        refine ao0 (em_assign (by rfl) (by rfl)) (by rfl) (by rfl) ?_
        refine ao_nil (by first | dsimp only [setO, setE] | rfl) (by first | dsimp only [setM, setE, setR] | rfl) (by rfl) ?_
        refine AW.ret ?_
        refine retA_data (n := 0) rfl (by rfl) ?_ rfl rfl _ (.inr rfl)
        rw [hfin]; first | rfl | (show _ = A.tup [(true, [C.i .i64 (kk : Int), C.i .i64 (t : Int), C.i .i64 (unz v)]), (false, [C.i .i64 ((entL kk t (unz v)).length : Int)])]; rw [hEl]; rfl)
      · skip
        obtain ⟨q, q6⟩ := or_F hc2
        obtain ⟨q, q5⟩ := or_F q
        obtain ⟨q, q4⟩ := or_F q
        obtain ⟨q, q3⟩ := or_F q
        obtain ⟨q1, q2⟩ := or_F q
        have hE : IsE (b0 :: l') (B.getD 0 0) t (unz v) := specE hb hB hn3 hn2 hsv1 hsv2 (by simp at q1; omega) (by simp at q2; omega) (by simp at q3; omega) (by simp at q4; rw [← hs']; omega) (by simp at q5; omega) (by simpa using q6)
        have hfin := rdE_is hE
        rw [← hkk'] at hfin
        have hEl : (entL kk t (unz v)).length = b0 + 2 := by
          have := entL_len kk t (unz v)
          have := (rdE_some hfin).body.1
          omega
        refine AW.skip ?_
        refine AW.seq ?_
        refine AW.region ?_
        refine ao_load tyOk (by rfl) (by rfl) (by rfl) (by rfl) (by rfl) (by rfl) (by rfl) (by first | trivial | exact Nat.le_of_ble_eq_true rfl | decide | (simp; done) | omega) ?_
        refine ao0 (em_move (by rfl) (by rfl)) (by rfl) (by rfl) ?_
        refine ao0 (em_add (by rfl) (by rfl) (by rfl) (by omega) (by omega)) (by rfl) (by rfl) ?_
        refine ao_store_box tyOk (by rfl) (by rfl) (by rfl) (by rfl) (by rfl) (by rfl) (by rfl) (by rfl) (by first | exact Nat.le_of_ble_eq_true rfl | decide | (simp; done) | omega) ?_
        refine ao0 (em_assign (by rfl) (by rfl)) (by rfl) (by rfl) ?_
        refine ao_nil (by first | dsimp only [setO, setE] | rfl) (by first | dsimp only [setM, setE, setR] | rfl) (by rfl) ?_
        refine AW.ret ?_
        refine retA_data (n := 0) rfl (by rfl) ?_ rfl rfl _ (.inr rfl)
        rw [hfin]; first | rfl | (show _ = A.tup [(true, [C.i .i64 (kk : Int), C.i .i64 (t : Int), C.i .i64 (unz v)]), (false, [C.i .i64 ((entL kk t (unz v)).length : Int)])]; rw [hEl]; rfl)
end Go.Proofs.Ytiibfkekcdkjdaa
