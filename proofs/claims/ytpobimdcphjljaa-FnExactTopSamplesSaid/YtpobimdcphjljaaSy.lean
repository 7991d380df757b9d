/-
  The laws' helpers of samples: copies, comparison with the same.
-/
import Derived.Test.YtpobimdcphjljaaSx
namespace Go.Proofs.Ytpobimdcphjljaa
open Go
set_option linter.unusedVariables false
set_option linter.unusedSimpArgs false
set_option linter.unnecessarySimpa false
set_option maxRecDepth 4000
theorem atD_mem {α : Type} {d : α} {xs : List α} {i : Nat} (h : i < xs.length) : atD xs d i ∈ xs := by rw [getD_at h]; exact List.getElem_mem _

theorem toLabel_ok (x : labT) : FnOk Try.prog noG 78 [.v true (labC x)] [] (.v true (labC x)) [] := by
  refine fnOk_of' (k := 0) tyOk Try.func78 rfl (by kernel_rfl) Try.ntmps78 (by rw [Try.results78]) rfl (by simp only [List.length_cons, List.length_nil, Nat.reduceAdd, Nat.reduceSub, List.replicate_succ, List.replicate_zero, List.cons_append, List.nil_append]; rfl) (by simp) (by simp) (fun r hr => by simp at hr) fun base => ?_
  refine AW.seq ?_
  refine AW.region ?_
  refine ao1 (sem_box (by rfl) (by rfl)) (by omega) (by rfl) (by rfl) ?_
  refine ao1 (sem_alloc tyOk (by rfl) (by rfl)) (by omega) (by rfl) (by rfl) ?_
  refine ao_nil (by first | dsimp only [setO, setE] | rfl) (by first | dsimp only [setM, setE, setR] | rfl) (by rfl) ?_
  refine AW.seq ?_
  refine AW.region ?_
  refine ao1 (sem_alloc tyOk (by rfl) (by rfl)) (by omega) (by rfl) (by rfl) ?_
  refine ao_nil (by first | dsimp only [setO, setE] | rfl) (by first | dsimp only [setM, setE, setR] | rfl) (by rfl) ?_
  refine AW.seq ?_
  refine AW.region ?_
  refine ao0 (sem_fieldAddr tyOk (by rfl) (by rfl) (by rfl) (by rfl) (by rfl) (by rfl)) (by rfl) (by rfl) ?_
  refine ao_load tyOk (by rfl) (by rfl) (by rfl) (by rfl) (by rfl) (by rfl) (by rfl) (by first | trivial | exact Nat.le_of_ble_eq_true rfl | decide | (simp; done) | omega) ?_
  refine ao0 (sem_fieldAddr tyOk (by rfl) (by rfl) (by rfl) (by rfl) (by rfl) (by rfl)) (by rfl) (by rfl) ?_
  refine ao_store_box tyOk (by rfl) (by rfl) (by rfl) (by rfl) (by rfl) (by rfl) (by rfl) (by rfl) (by first | exact Nat.le_of_ble_eq_true rfl | decide | (simp; done) | omega) ?_
  refine ao_nil (by first | dsimp only [setO, setE] | rfl) (by first | dsimp only [setM, setE, setR] | rfl) (by rfl) ?_
  refine AW.seq ?_
  refine AW.region ?_
  refine ao0 (sem_fieldAddr tyOk (by rfl) (by rfl) (by rfl) (by rfl) (by rfl) (by rfl)) (by rfl) (by rfl) ?_
  refine ao_load tyOk (by rfl) (by rfl) (by rfl) (by rfl) (by rfl) (by rfl) (by rfl) (by first | trivial | exact Nat.le_of_ble_eq_true rfl | decide | (simp; done) | omega) ?_
  refine ao0 (sem_fieldAddr tyOk (by rfl) (by rfl) (by rfl) (by rfl) (by rfl) (by rfl)) (by rfl) (by rfl) ?_
  refine ao_store_box tyOk (by rfl) (by rfl) (by rfl) (by rfl) (by rfl) (by rfl) (by rfl) (by rfl) (by first | exact Nat.le_of_ble_eq_true rfl | decide | (simp; done) | omega) ?_
  refine ao_nil (by first | dsimp only [setO, setE] | rfl) (by first | dsimp only [setM, setE, setR] | rfl) (by rfl) ?_
  refine AW.seq ?_
  refine AW.region ?_
  refine ao_load tyOk (by rfl) (by rfl) (by rfl) (by rfl) (by rfl) (by rfl) (by rfl) (by first | trivial | exact Nat.le_of_ble_eq_true rfl | decide | (simp; done) | omega) ?_
  refine ao_store_box tyOk (by rfl) (by rfl) (by rfl) (by rfl) (by rfl) (by rfl) (by rfl) (by rfl) (by first | exact Nat.le_of_ble_eq_true rfl | decide | (simp; done) | omega) ?_
  refine ao_nil (by first | dsimp only [setO, setE] | rfl) (by first | dsimp only [setM, setE, setR] | rfl) (by rfl) ?_
  refine AW.ret ?_
  refine retA_data (n := 0) rfl (by rfl) ?_ rfl rfl _ (.inr rfl)
  all_goals rfl
set_option maxHeartbeats 1000000 in
theorem toLabelS_ok (nn : Bool) (xs : List labT) (hl : xs.length ≤ 1048576) (hnn : nn = false → xs = []) : FnOk Try.prog noG 65 [.v false [.sl false nn xs.length (xs.flatMap labD)]] [] (.v false [.own true 0 xs.length]) [.arr 61 true true xs.length (xs.flatMap labD)] := by
  refine fnOk_of' (k := 0) tyOk Try.func65 rfl (by kernel_rfl) Try.ntmps65 (by rw [Try.results65]) rfl (by simp only [List.length_cons, List.length_nil, Nat.reduceAdd, Nat.reduceSub, List.replicate_succ, List.replicate_zero, List.cons_append, List.nil_append]; rfl) (by simp) (by simp) (fun r hr => by simp at hr) fun base => ?_
  refine AW.seq ?_
  refine AW.region ?_
  refine ao0 (em_assign (by rfl) (by rfl)) (by rfl) (by rfl) ?_
  refine ao_nil (by first | dsimp only [setO, setE] | rfl) (by first | dsimp only [setM, setE, setR] | rfl) (by rfl) ?_
  refine AW.seq ?_
  refine AW.region ?_
  refine ao0 (em_move (by rfl) (by rfl)) (by rfl) (by rfl) ?_
  refine ao0 (sem_len tyOk (by rfl) (by rfl) (by rfl) (by rfl) (by first | exact .inl ⟨_, _, _, rfl⟩ | exact .inr ⟨_, _, rfl⟩)) (by rfl) (by rfl) ?_
  refine ao1 (sem_makeSlice tyOk (by rfl) (by rfl) (by rfl) (by rfl) (by rfl) (by rfl) (by rfl) (by omega) (by omega) (by dsimp only; omega) (by omega) (by first | omega | (unfold maxLen; omega))) (by omega) (by rfl) (by rfl) ?_
  refine ao0 (em_assign (by rfl) (by rfl)) (by rfl) (by rfl) ?_
  refine ao_nil (by first | dsimp only [setO, setE] | rfl) (by first | dsimp only [setM, setE, setR] | rfl) (by rfl) ?_
  refine AW.seq ?_
  refine AW.seq ?_
  refine AW.region ?_
  refine ao0 (em_assign (by rfl) (by rfl)) (by rfl) (by rfl) ?_
  refine ao_nil (by first | dsimp only [setO, setE] | rfl) (by first | dsimp only [setM, setE, setR] | rfl) (by rfl) ?_
  refine AW.block ?_
  refine AW.loopU (X := {i : Nat // i ≤ xs.length}) (fun i => [(4, .v false [.i .i64 (i.1 : Int)]), (1, .any), (5, .any), (6, .any), (7, .any), (8, .any), (9, .any), (10, .any), (11, .any), (12, .any), (13, .any), (14, .any), (15, .any), (16, .any), (17, .any), (18, .any), (19, .any), (20, .any), (21, .any)]) (fun i => [.arr 61 true true xs.length ((toG lab0 xs i.1).flatMap labD)]) 1 (fun i => xs.length - i.1) ⟨0, Nat.zero_le _⟩ ?_ ?_
  · skip
    dsimp only [updL, setE]
    refine into_lists [0] ?_ ?_ rfl rfl (by decide) (by rfl) (by rfl) (by rfl) (by rfl) (by omega)
    all_goals (try (repeat' (first | exact True.intro | exact Or.inl rfl | exact Or.inr (Or.inl rfl) | refine And.intro ?_ ?_ | exact le_i (by omega) | exact le_own (by rfl) (by rfl) (by first | rfl | omega) | exact le_arr (by rfl) (by rfl) (by first | rfl | omega) (by rfl) | exact Or.inr (Or.inr (Or.inl ⟨_, _, rfl, rfl⟩)) | exact Or.inr (Or.inr ⟨_, _, rfl⟩) | exact Or.inr (Or.inr (Or.inr ⟨_, _, _, _, rfl, rfl⟩)))))
    all_goals exact le_arr (by rfl) (by rfl) (by simp) (toG_zero labD lab0 _ rfl _ xs (by simp))
  · intro i
    refine AW.norm (by first | dsimp only [updL, setE] | rfl) rfl rfl ?_
    obtain ⟨i, hi⟩ := i
    dsimp only
    have htl := toG_len (lab0 : labT) xs i hi
    have hfl := flat_len labD 2 labD_len (toG (lab0 : labT) xs i)
    refine AW.seq ?_
    refine AW.seq ?_
    refine AW.region ?_
    refine ao0 (em_move (by rfl) (by rfl)) (by rfl) (by rfl) ?_
    refine ao0 (em_move (by rfl) (by rfl)) (by rfl) (by rfl) ?_
    refine ao0 (sem_len tyOk (by rfl) (by rfl) (by rfl) (by rfl) (by first | exact .inl ⟨_, _, _, rfl⟩ | exact .inr ⟨_, _, rfl⟩)) (by rfl) (by rfl) ?_
    refine ao0 (em_binI (by rfl) (by rfl) (by rfl) (by rfl) (by first | rfl | trivial | exact ⟨rfl, by decide⟩ | exact ⟨rfl, by omega⟩ | decide | omega)) (by rfl) (by rfl) ?_
    refine ao_nil (by first | dsimp only [setO, setE] | rfl) (by first | dsimp only [setM, setE, setR] | rfl) (by rfl) ?_
    refine AW.cond (by rfl) (fun hc1 => ?_) (fun hc1 => ?_)
    · skip
      have hlt : i < xs.length := by simpa using hc1
      obtain rfl := nn_of hnn hlt
      have HD := flat_at labD 2 labD_len xs i hlt
      have hcl : (labC xs[i]).length = 2 := rfl
      refine AW.skip ?_
      refine AW.seq ?_
      refine AW.block ?_
      refine AW.region ?_
      refine ao0 (em_move (by rfl) (by rfl)) (by rfl) (by rfl) ?_
      refine ao0 (em_move (by rfl) (by rfl)) (by rfl) (by rfl) ?_
      refine ao0 (em_move (by rfl) (by rfl)) (by rfl) (by rfl) ?_
      refine ao0 (em_move (by rfl) (by rfl)) (by rfl) (by rfl) ?_
      refine ao0 (sem_indexR tyOk (by rfl) (by rfl) (by rfl) (by rfl) (by rfl) HD (by omega) (by omega)) (by rfl) (by rfl) ?_
      refine ao_load tyOk (by rfl) (by rfl) (by rfl) (by rfl) (by rfl) (by rfl) (by rfl) (by first | trivial | exact Nat.le_of_ble_eq_true rfl | decide | (simp; done) | omega) ?_
      refine ao_callL [] [] (toLabel_ok xs[i]) (by rfl) (by rfl) (by rfl) (by rfl) (by rfl) (by repeat' (first | exact True.intro | exact .inl ⟨by rfl, by rfl⟩ | exact rfl | exact .inr (.inl ⟨_, _, _, _, by rfl, by rfl⟩) | exact .inr (.inr ⟨_, _, _, _, _, _, by rfl, by rfl, by rfl, by first | exact .head _ | exact .tail _ (.head _) | exact .tail _ (.tail _ (.head _)) | exact .tail _ (.tail _ (.tail _ (.head _)))⟩) | refine And.intro ?_ ?_)) (by repeat' (first | exact True.intro | exact .inl ⟨by rfl, by rfl⟩ | exact rfl | exact .inl rfl | exact .inr (.inl ⟨_, _, _, _, by rfl, by rfl⟩) | exact .inr ⟨rfl, by simp [D.scalar, bD]⟩ | refine And.intro ?_ ?_)) (by rfl) (by rfl) (by rfl) (by decide) (by rfl) (by rfl) (by omega) (by first | rfl | (simp [keptB, notGone, (by rfl).live]; done)) (by rfl) (by rfl) (by rfl) (by rfl) (by rfl) (by rfl) (by rfl) ?_
      refine ao0 (sem_indexAddr tyOk (by rfl) (by rfl) (by rfl) (by rfl) (by rfl) (by rfl) (by omega) (by omega)) (by rfl) (by rfl) ?_
      refine ao_store_arr tyOk (by rfl) (by rfl) (by rfl) (by rfl) (by rfl) (by rfl) (by rfl) (by rfl) (by rfl) (by first | decide | (simp; done) | omega | (simp only [List.length_cons, List.length_nil, List.length_map]; omega) | (simp only [setR_len, List.length_cons, List.length_nil, List.length_map]; omega)) ?_
      refine ao_nil (by first | dsimp only [setO, setE] | rfl) (by first | dsimp only [setM, setE, setR] | rfl) (by rfl) ?_
      refine AW.region ?_
      refine ao0 (em_move (by rfl) (by rfl)) (by rfl) (by rfl) ?_
      refine ao0 (em_add (by rfl) (by rfl) (by rfl) (by omega) (by omega)) (by rfl) (by rfl) ?_
      refine ao0 (em_assign (by rfl) (by rfl)) (by rfl) (by rfl) ?_
      refine ao_nil (by first | dsimp only [setO, setE] | rfl) (by first | dsimp only [setM, setE, setR] | rfl) (by rfl) ?_
      have hst := flat_set labD 2 labD_len (toG (lab0 : labT) xs i) i (by omega) xs[i]
      rw [toG_step _ xs i hlt] at hst
      refine ⟨⟨i + 1, hlt⟩, by dsimp only; omega, ?_⟩
      dsimp only [updL, setE]
      refine into_lists [0] ?_ ?_ rfl rfl (by decide) (by rfl) (by rfl) (by rfl) (by rfl) (by omega)
      all_goals (try (repeat' (first | exact True.intro | exact Or.inl rfl | exact Or.inr (Or.inl rfl) | refine And.intro ?_ ?_ | exact le_i (by omega) | exact le_own (by rfl) (by rfl) (by first | rfl | omega) | exact le_arr (by rfl) (by rfl) (by first | rfl | omega) (by rfl) | exact Or.inr (Or.inr (Or.inl ⟨_, _, rfl, rfl⟩)) | exact Or.inr (Or.inr ⟨_, _, rfl⟩) | exact Or.inr (Or.inr (Or.inr ⟨_, _, _, _, rfl, rfl⟩)))))
      all_goals exact le_arr (by rfl) (by rfl) (by rfl) (by rw [Int.toNat_natCast]; exact hst)
    · skip
      have hge : i = xs.length := by simp at hc1; omega
      subst hge
      refine AW.exit ?_
      refine AW.seq ?_
      refine AW.region ?_
      refine ao0 (em_move (by rfl) (by rfl)) (by rfl) (by rfl) ?_
      refine ao0 (em_assign (by rfl) (by rfl)) (by rfl) (by rfl) ?_
      refine ao_nil (by first | dsimp only [setO, setE] | rfl) (by first | dsimp only [setM, setE, setR] | rfl) (by rfl) ?_
      refine AW.ret ?_
      refine retA_own [0] (by rfl) ?_ ?_ rfl (by decide) (by rfl) (by rfl) (by rfl) (by rfl) (by simp) _ (.inr rfl)
      · exact ⟨le_arr (by rfl) (by rfl) (by rfl) (by rw [toG_all]), trivial⟩
      · exact le_own (by rfl) (by rfl) (by simp)
def labR (nn : Bool) (ls : List labT) : R := .arr 61 true nn ls.length (ls.flatMap labD)
theorem toSample_own (x : samT) (hl : x.2.1.length ≤ 1048576) (hnn : x.1 = false → x.2.1 = []) : FnOk Try.prog noG 44 [.v true (samC false x)] [] (.v true [.own true 0 x.2.1.length, .i .i64 x.2.2]) [labR true x.2.1] := by
  have hL := toLabelS_ok x.1 x.2.1 hl hnn
  refine fnOk_of' (k := 0) tyOk Try.func44 rfl (by kernel_rfl) Try.ntmps44 (by rw [Try.results44]) rfl (by simp only [List.length_cons, List.length_nil, Nat.reduceAdd, Nat.reduceSub, List.replicate_succ, List.replicate_zero, List.cons_append, List.nil_append]; rfl) (by simp) (by simp) (fun r hr => by simp at hr) fun base => ?_
  refine AW.seq ?_
  refine AW.region ?_
  refine ao1 (sem_box (by rfl) (by rfl)) (by omega) (by rfl) (by rfl) ?_
  refine ao1 (sem_alloc tyOk (by rfl) (by rfl)) (by omega) (by rfl) (by rfl) ?_
  refine ao_nil (by first | dsimp only [setO, setE] | rfl) (by first | dsimp only [setM, setE, setR] | rfl) (by rfl) ?_
  refine AW.seq ?_
  refine AW.region ?_
  refine ao1 (sem_alloc tyOk (by rfl) (by rfl)) (by omega) (by rfl) (by rfl) ?_
  refine ao_nil (by first | dsimp only [setO, setE] | rfl) (by first | dsimp only [setM, setE, setR] | rfl) (by rfl) ?_
  refine AW.seq ?_
  refine AW.region ?_
  refine ao0 (sem_fieldAddr tyOk (by rfl) (by rfl) (by rfl) (by rfl) (by rfl) (by rfl)) (by rfl) (by rfl) ?_
  refine ao_load tyOk (by rfl) (by rfl) (by rfl) (by rfl) (by rfl) (by rfl) (by rfl) (by first | trivial | exact Nat.le_of_ble_eq_true rfl | decide | (simp; done) | omega) ?_
  refine ao_callL [] [] (hL) (by rfl) (by rfl) (by rfl) (by rfl) (by rfl) (by repeat' (first | exact True.intro | exact .inl ⟨by rfl, by rfl⟩ | exact rfl | exact .inr (.inl ⟨_, _, _, _, by rfl, by rfl⟩) | exact .inr (.inr ⟨_, _, _, _, _, _, by rfl, by rfl, by rfl, by first | exact .head _ | exact .tail _ (.head _) | exact .tail _ (.tail _ (.head _)) | exact .tail _ (.tail _ (.tail _ (.head _)))⟩) | refine And.intro ?_ ?_)) (by repeat' (first | exact True.intro | exact .inl ⟨by rfl, by rfl⟩ | exact rfl | exact .inl rfl | exact .inr (.inl ⟨_, _, _, _, by rfl, by rfl⟩) | exact .inr ⟨rfl, by simp [D.scalar, bD]⟩ | refine And.intro ?_ ?_)) (by rfl) (by rfl) (by rfl) (by decide) (by rfl) (by rfl) (by omega) (by first | rfl | (simp [keptB, notGone, (by rfl).live]; done)) (by rfl) (by rfl) (by rfl) (by rfl) (by rfl) (by rfl) (by rfl) ?_
  refine ao0 (sem_fieldAddr tyOk (by rfl) (by rfl) (by rfl) (by rfl) (by rfl) (by rfl)) (by rfl) (by rfl) ?_
  refine ao_store_box tyOk (by rfl) (by rfl) (by rfl) (by rfl) (by rfl) (by rfl) (by rfl) (by rfl) (by first | exact Nat.le_of_ble_eq_true rfl | decide | (simp; done) | omega) ?_
  refine ao_nil (by first | dsimp only [setO, setE] | rfl) (by first | dsimp only [setM, setE, setR] | rfl) (by rfl) ?_
  refine AW.seq ?_
  refine AW.region ?_
  refine ao0 (sem_fieldAddr tyOk (by rfl) (by rfl) (by rfl) (by rfl) (by rfl) (by rfl)) (by rfl) (by rfl) ?_
  refine ao_load tyOk (by rfl) (by rfl) (by rfl) (by rfl) (by rfl) (by rfl) (by rfl) (by first | trivial | exact Nat.le_of_ble_eq_true rfl | decide | (simp; done) | omega) ?_
  refine ao0 (sem_fieldAddr tyOk (by rfl) (by rfl) (by rfl) (by rfl) (by rfl) (by rfl)) (by rfl) (by rfl) ?_
  refine ao_store_box tyOk (by rfl) (by rfl) (by rfl) (by rfl) (by rfl) (by rfl) (by rfl) (by rfl) (by first | exact Nat.le_of_ble_eq_true rfl | decide | (simp; done) | omega) ?_
  refine ao_nil (by first | dsimp only [setO, setE] | rfl) (by first | dsimp only [setM, setE, setR] | rfl) (by rfl) ?_
  refine AW.seq ?_
  refine AW.region ?_
  refine ao_load tyOk (by rfl) (by rfl) (by rfl) (by rfl) (by rfl) (by rfl) (by rfl) (by first | trivial | exact Nat.le_of_ble_eq_true rfl | decide | (simp; done) | omega) ?_
  refine ao_store_box tyOk (by rfl) (by rfl) (by rfl) (by rfl) (by rfl) (by rfl) (by rfl) (by rfl) (by first | exact Nat.le_of_ble_eq_true rfl | decide | (simp; done) | omega) ?_
  refine ao_nil (by first | dsimp only [setO, setE] | rfl) (by first | dsimp only [setM, setE, setR] | rfl) (by rfl) ?_
  refine AW.ret ?_
  refine retA_own (n := 0) [3] (by rfl) ?_ ?_ rfl (by simp) (by rfl) (by rfl) (by rfl) (by rfl) (by simp) _ (.inr rfl)
  · exact ⟨le_arr (by rfl) (by rfl) (by rfl) (by rfl), trivial⟩
  · exact .inr (.inl (by rfl))
theorem toSample_ok (x : samT) (hl : x.2.1.length ≤ 1048576) (hnn : x.1 = false → x.2.1 = []) : FnOk Try.prog noG 44 [.v true (samC false x)] [] (.v true (samC true (true, x.2))) [] :=
  (toSample_own x hl hnn).frz (.v (.cons (.own rfl) (.cons (.same rfl) .nil)))
def nnS (xs : List samT) : List samT := xs.map fun x => (true, x.2)
theorem nnS_len (xs : List samT) : (nnS xs).length = xs.length := by simp [nnS]
theorem nnS_at (xs : List samT) (i : Nat) (h : i < (nnS xs).length) : (nnS xs)[i] = (true, (xs[i]'(by rw [nnS_len] at h; exact h)).2) := by simp [nnS]
theorem nnS_sm {xs : List samT} (h : smS xs) : smS (nnS xs) := ⟨by rw [nnS_len]; exact h.1, fun x hx => by obtain ⟨y, hy, rfl⟩ := List.mem_map.1 hx; exact ⟨(h.2 y hy).1, by simp⟩⟩
def samZ : samT := (false, [], 0)
def samR (nn : Bool) (xs : List samT) : R := .arr 31 true nn xs.length (xs.flatMap samD)
set_option maxHeartbeats 1000000 in
theorem toSampleS_ok (nn : Bool) (xs : List samT) (hs : smS xs) (hnn : nn = false → xs = []) : FnOk Try.prog noG 20 [.v false [.sl false nn xs.length (xs.flatMap samD)]] [] (.v false [.own true 0 xs.length]) [samR true (nnS xs)] := by
  obtain ⟨hl, hsm⟩ := id hs
  have hnl := nnS_len xs
  refine fnOk_of' (k := 0) tyOk Try.func20 rfl (by kernel_rfl) Try.ntmps20 (by rw [Try.results20]) rfl (by simp only [List.length_cons, List.length_nil, Nat.reduceAdd, Nat.reduceSub, List.replicate_succ, List.replicate_zero, List.cons_append, List.nil_append]; rfl) (by simp) (by simp) (fun r hr => by simp at hr) fun base => ?_
  refine AW.seq ?_
  refine AW.region ?_
  refine ao0 (em_assign (by rfl) (by rfl)) (by rfl) (by rfl) ?_
  refine ao_nil (by first | dsimp only [setO, setE] | rfl) (by first | dsimp only [setM, setE, setR] | rfl) (by rfl) ?_
  refine AW.seq ?_
  refine AW.region ?_
  refine ao0 (em_move (by rfl) (by rfl)) (by rfl) (by rfl) ?_
  refine ao0 (sem_len tyOk (by rfl) (by rfl) (by rfl) (by rfl) (by first | exact .inl ⟨_, _, _, rfl⟩ | exact .inr ⟨_, _, rfl⟩)) (by rfl) (by rfl) ?_
  refine ao1 (sem_makeSlice tyOk (by rfl) (by rfl) (by rfl) (by rfl) (by rfl) (by rfl) (by rfl) (by omega) (by omega) (by dsimp only; omega) (by omega) (by first | omega | (unfold maxLen; omega))) (by omega) (by rfl) (by rfl) ?_
  refine ao0 (em_assign (by rfl) (by rfl)) (by rfl) (by rfl) ?_
  refine ao_nil (by first | dsimp only [setO, setE] | rfl) (by first | dsimp only [setM, setE, setR] | rfl) (by rfl) ?_
  refine AW.seq ?_
  refine AW.seq ?_
  refine AW.region ?_
  refine ao0 (em_assign (by rfl) (by rfl)) (by rfl) (by rfl) ?_
  refine ao_nil (by first | dsimp only [setO, setE] | rfl) (by first | dsimp only [setM, setE, setR] | rfl) (by rfl) ?_
  refine AW.block ?_
  refine AW.loopU (X := {i : Nat // i ≤ xs.length}) (fun i => [(4, .v false [.i .i64 (i.1 : Int)]), (1, .any), (5, .any), (6, .any), (7, .any), (8, .any), (9, .any), (10, .any), (11, .any), (12, .any), (13, .any), (14, .any), (15, .any), (16, .any), (17, .any), (18, .any), (19, .any), (20, .any), (21, .any)]) (fun i => [.arr 31 true true xs.length ((toG samZ (nnS xs) i.1).flatMap samD)]) 1 (fun i => xs.length - i.1) ⟨0, Nat.zero_le _⟩ ?_ ?_
  · skip
    dsimp only [updL, setE]
    refine into_lists [0] ?_ ?_ rfl rfl (by decide) (by rfl) (by rfl) (by rfl) (by rfl) (by omega)
    all_goals (try (repeat' (first | exact True.intro | exact Or.inl rfl | exact Or.inr (Or.inl rfl) | refine And.intro ?_ ?_ | exact le_i (by omega) | exact le_own (by rfl) (by rfl) (by first | rfl | omega) | exact le_arr (by rfl) (by rfl) (by first | rfl | omega) (by rfl) | exact Or.inr (Or.inr (Or.inl ⟨_, _, rfl, rfl⟩)) | exact Or.inr (Or.inr ⟨_, _, rfl⟩) | exact Or.inr (Or.inr (Or.inr ⟨_, _, _, _, rfl, rfl⟩)))))
    all_goals exact le_arr (by rfl) (by rfl) (by simp) (toG_zero samD samZ _ rfl _ (nnS xs) (by simp [hnl]))
  · intro i
    refine AW.norm (by first | dsimp only [updL, setE] | rfl) rfl rfl ?_
    obtain ⟨i, hi⟩ := i
    dsimp only
    have htl := toG_len samZ (nnS xs) i (by omega)
    have hfl := flat_len samD 2 samD_len (toG samZ (nnS xs) i)
    refine AW.seq ?_
    refine AW.seq ?_
    refine AW.region ?_
    refine ao0 (em_move (by rfl) (by rfl)) (by rfl) (by rfl) ?_
    refine ao0 (em_move (by rfl) (by rfl)) (by rfl) (by rfl) ?_
    refine ao0 (sem_len tyOk (by rfl) (by rfl) (by rfl) (by rfl) (by first | exact .inl ⟨_, _, _, rfl⟩ | exact .inr ⟨_, _, rfl⟩)) (by rfl) (by rfl) ?_
    refine ao0 (em_binI (by rfl) (by rfl) (by rfl) (by rfl) (by first | rfl | trivial | exact ⟨rfl, by decide⟩ | exact ⟨rfl, by omega⟩ | decide | omega)) (by rfl) (by rfl) ?_
    refine ao_nil (by first | dsimp only [setO, setE] | rfl) (by first | dsimp only [setM, setE, setR] | rfl) (by rfl) ?_
    refine AW.cond (by rfl) (fun hc1 => ?_) (fun hc1 => ?_)
    · skip
      have hlt : i < xs.length := by simpa using hc1
      obtain rfl := nn_of hnn hlt
      have HD := flat_at samD 2 samD_len xs i hlt
      have hm := hsm _ (List.getElem_mem hlt)
      have hT := toSample_ok xs[i] hm.1.1 hm.2
      have hcl : (samC true (true, xs[i].2)).length = 2 := rfl
      refine AW.skip ?_
      refine AW.seq ?_
      refine AW.block ?_
      refine AW.region ?_
      refine ao0 (em_move (by rfl) (by rfl)) (by rfl) (by rfl) ?_
      refine ao0 (em_move (by rfl) (by rfl)) (by rfl) (by rfl) ?_
      refine ao0 (em_move (by rfl) (by rfl)) (by rfl) (by rfl) ?_
      refine ao0 (em_move (by rfl) (by rfl)) (by rfl) (by rfl) ?_
      refine ao0 (sem_indexR tyOk (by rfl) (by rfl) (by rfl) (by rfl) (by rfl) HD (by omega) (by omega)) (by rfl) (by rfl) ?_
      refine ao_load tyOk (by rfl) (by rfl) (by rfl) (by rfl) (by rfl) (by rfl) (by rfl) (by first | trivial | exact Nat.le_of_ble_eq_true rfl | decide | (simp; done) | omega) ?_
      refine ao_callL [] [] (hT) (by rfl) (by rfl) (by rfl) (by rfl) (by rfl) (by repeat' (first | exact True.intro | exact .inl ⟨by rfl, by rfl⟩ | exact rfl | exact .inr (.inl ⟨_, _, _, _, by rfl, by rfl⟩) | exact .inr (.inr ⟨_, _, _, _, _, _, by rfl, by rfl, by rfl, by first | exact .head _ | exact .tail _ (.head _) | exact .tail _ (.tail _ (.head _)) | exact .tail _ (.tail _ (.tail _ (.head _)))⟩) | refine And.intro ?_ ?_)) (by repeat' (first | exact True.intro | exact .inl ⟨by rfl, by rfl⟩ | exact rfl | exact .inl rfl | exact .inr (.inl ⟨_, _, _, _, by rfl, by rfl⟩) | exact .inr ⟨rfl, by simp [D.scalar, bD]⟩ | refine And.intro ?_ ?_)) (by rfl) (by rfl) (by rfl) (by decide) (by rfl) (by rfl) (by omega) (by first | rfl | (simp [keptB, notGone, (by rfl).live]; done)) (by rfl) (by rfl) (by rfl) (by rfl) (by rfl) (by rfl) (by rfl) ?_
      refine ao0 (sem_indexAddr tyOk (by rfl) (by rfl) (by rfl) (by rfl) (by rfl) (by rfl) (by omega) (by omega)) (by rfl) (by rfl) ?_
      refine ao_store_arr tyOk (by rfl) (by rfl) (by rfl) (by rfl) (by rfl) (by rfl) (by rfl) (by rfl) (by rfl) (by first | decide | (simp; done) | omega | (simp only [List.length_cons, List.length_nil, List.length_map]; omega) | (simp only [setR_len, List.length_cons, List.length_nil, List.length_map]; omega)) ?_
      refine ao_nil (by first | dsimp only [setO, setE] | rfl) (by first | dsimp only [setM, setE, setR] | rfl) (by rfl) ?_
      refine AW.region ?_
      refine ao0 (em_move (by rfl) (by rfl)) (by rfl) (by rfl) ?_
      refine ao0 (em_add (by rfl) (by rfl) (by rfl) (by omega) (by omega)) (by rfl) (by rfl) ?_
      refine ao0 (em_assign (by rfl) (by rfl)) (by rfl) (by rfl) ?_
      refine ao_nil (by first | dsimp only [setO, setE] | rfl) (by first | dsimp only [setM, setE, setR] | rfl) (by rfl) ?_
      have hst := flat_set samD 2 samD_len (toG samZ (nnS xs) i) i (by omega) (true, xs[i].2)
      rw [← nnS_at xs i (by omega), toG_step _ (nnS xs) i (by omega), nnS_at] at hst
      refine ⟨⟨i + 1, hlt⟩, by dsimp only; omega, ?_⟩
      dsimp only [updL, setE]
      refine into_lists [0] ?_ ?_ rfl rfl (by decide) (by rfl) (by rfl) (by rfl) (by rfl) (by omega)
      all_goals (try (repeat' (first | exact True.intro | exact Or.inl rfl | exact Or.inr (Or.inl rfl) | refine And.intro ?_ ?_ | exact le_i (by omega) | exact le_own (by rfl) (by rfl) (by first | rfl | omega) | exact le_arr (by rfl) (by rfl) (by first | rfl | omega) (by rfl) | exact Or.inr (Or.inr (Or.inl ⟨_, _, rfl, rfl⟩)) | exact Or.inr (Or.inr ⟨_, _, rfl⟩) | exact Or.inr (Or.inr (Or.inr ⟨_, _, _, _, rfl, rfl⟩)))))
      all_goals exact le_arr (by rfl) (by rfl) (by rfl) (by rw [Int.toNat_natCast]; exact hst)
    · skip
      have hge : i = xs.length := by simp at hc1; omega
      subst hge
      refine AW.exit ?_
      refine AW.seq ?_
      refine AW.region ?_
      refine ao0 (em_move (by rfl) (by rfl)) (by rfl) (by rfl) ?_
      refine ao0 (em_assign (by rfl) (by rfl)) (by rfl) (by rfl) ?_
      refine ao_nil (by first | dsimp only [setO, setE] | rfl) (by first | dsimp only [setM, setE, setR] | rfl) (by rfl) ?_
      refine AW.ret ?_
      refine retA_own [0] (by rfl) ?_ ?_ rfl (by decide) (by rfl) (by rfl) (by rfl) (by rfl) (by simp) _ (.inr rfl)
      · exact ⟨le_arr (by rfl) (by rfl) hnl.symm (by rw [← hnl, toG_all]), trivial⟩
      · exact le_own (by rfl) (by rfl) (by simp)
/-! ### Comparison with the same -/
theorem eqLabel_self (x : labT) : FnOk Try.prog noG 79 [.v true (labC x), .v true (labC x)] [] (.v false [.b true]) [] := by
  refine fnOk_of' (k := 0) tyOk Try.func79 rfl (by kernel_rfl) Try.ntmps79 (by rw [Try.results79]) rfl (by simp only [List.length_cons, List.length_nil, Nat.reduceAdd, Nat.reduceSub, List.replicate_succ, List.replicate_zero, List.cons_append, List.nil_append]; rfl) (by simp) (by simp) (fun r hr => by simp at hr) fun base => ?_
  refine AW.seq ?_
  refine AW.region ?_
  refine ao1 (sem_box (by rfl) (by rfl)) (by omega) (by rfl) (by rfl) ?_
  refine ao1 (sem_box (by rfl) (by rfl)) (by omega) (by rfl) (by rfl) ?_
  refine ao0 (em_assign (by rfl) (by rfl)) (by rfl) (by rfl) ?_
  refine ao_nil (by first | dsimp only [setO, setE] | rfl) (by first | dsimp only [setM, setE, setR] | rfl) (by rfl) ?_
  refine AW.seq ?_
  refine AW.seq ?_
  refine AW.region ?_
  refine ao0 (sem_fieldAddr tyOk (by rfl) (by rfl) (by rfl) (by rfl) (by rfl) (by rfl)) (by rfl) (by rfl) ?_
  refine ao_load tyOk (by rfl) (by rfl) (by rfl) (by rfl) (by rfl) (by rfl) (by rfl) (by first | trivial | exact Nat.le_of_ble_eq_true rfl | decide | (simp; done) | omega) ?_
  refine ao0 (sem_fieldAddr tyOk (by rfl) (by rfl) (by rfl) (by rfl) (by rfl) (by rfl)) (by rfl) (by rfl) ?_
  refine ao_load tyOk (by rfl) (by rfl) (by rfl) (by rfl) (by rfl) (by rfl) (by rfl) (by first | trivial | exact Nat.le_of_ble_eq_true rfl | decide | (simp; done) | omega) ?_
  refine ao0 (sem_binS (by rfl) (by rfl) (by rfl) (by rfl) (by trivial)) (by rfl) (by rfl) ?_
  refine ao_nil (by first | dsimp only [setO, setE] | rfl) (by first | dsimp only [setM, setE, setR] | rfl) (by rfl) ?_
  refine AW.cond (by rfl) (fun hc1 => ?_) (fun hc1 => ?_)
  · skip
    exfalso; simp at hc1
  · skip
    refine AW.skip ?_
    refine AW.seq ?_
    refine AW.seq ?_
    refine AW.region ?_
    refine ao0 (sem_fieldAddr tyOk (by rfl) (by rfl) (by rfl) (by rfl) (by rfl) (by rfl)) (by rfl) (by rfl) ?_
    refine ao_load tyOk (by rfl) (by rfl) (by rfl) (by rfl) (by rfl) (by rfl) (by rfl) (by first | trivial | exact Nat.le_of_ble_eq_true rfl | decide | (simp; done) | omega) ?_
    refine ao0 (sem_fieldAddr tyOk (by rfl) (by rfl) (by rfl) (by rfl) (by rfl) (by rfl)) (by rfl) (by rfl) ?_
    refine ao_load tyOk (by rfl) (by rfl) (by rfl) (by rfl) (by rfl) (by rfl) (by rfl) (by first | trivial | exact Nat.le_of_ble_eq_true rfl | decide | (simp; done) | omega) ?_
    refine ao0 (sem_binS (by rfl) (by rfl) (by rfl) (by rfl) (by trivial)) (by rfl) (by rfl) ?_
    refine ao_nil (by first | dsimp only [setO, setE] | rfl) (by first | dsimp only [setM, setE, setR] | rfl) (by rfl) ?_
    refine AW.cond (by rfl) (fun hc2 => ?_) (fun hc2 => ?_)
    · skip
      exfalso; simp at hc2
    · skip
      refine AW.skip ?_
      refine AW.seq ?_
      refine AW.region ?_
      refine ao0 (em_assign (by rfl) (by rfl)) (by rfl) (by rfl) ?_
      refine ao_nil (by first | dsimp only [setO, setE] | rfl) (by first | dsimp only [setM, setE, setR] | rfl) (by rfl) ?_
      refine AW.ret ?_
      refine retA_data (n := 0) rfl (by rfl) ?_ rfl rfl _ (.inr rfl)
      exact pack_b rfl
set_option maxHeartbeats 1000000 in
theorem eqLabelS_self (n1 n2 : Bool) (xs : List labT) (h1 : xs.length ≤ 1048576) (hn1 : n1 = false → xs = []) (hn2 : n2 = false → xs = []) : FnOk Try.prog noG 66 [.v false [.sl false n1 xs.length (xs.flatMap labD)], .v false [.sl false n2 xs.length (xs.flatMap labD)]] [] (.v false [.b true]) [] := by
  refine fnOk_of' (k := 0) tyOk Try.func66 rfl (by kernel_rfl) Try.ntmps66 (by rw [Try.results66]) rfl (by simp only [List.length_cons, List.length_nil, Nat.reduceAdd, Nat.reduceSub, List.replicate_succ, List.replicate_zero, List.cons_append, List.nil_append]; rfl) (by simp) (by simp) (fun r hr => by simp at hr) fun base => ?_
  refine AW.seq ?_
  refine AW.region ?_
  refine ao0 (em_assign (by rfl) (by rfl)) (by rfl) (by rfl) ?_
  refine ao_nil (by first | dsimp only [setO, setE] | rfl) (by first | dsimp only [setM, setE, setR] | rfl) (by rfl) ?_
  refine AW.seq ?_
  refine AW.seq ?_
  refine AW.region ?_
  refine ao0 (em_move (by rfl) (by rfl)) (by rfl) (by rfl) ?_
  refine ao0 (sem_len tyOk (by rfl) (by rfl) (by rfl) (by rfl) (by first | exact .inl ⟨_, _, _, rfl⟩ | exact .inr ⟨_, _, rfl⟩)) (by rfl) (by rfl) ?_
  refine ao0 (em_move (by rfl) (by rfl)) (by rfl) (by rfl) ?_
  refine ao0 (sem_len tyOk (by rfl) (by rfl) (by rfl) (by rfl) (by first | exact .inl ⟨_, _, _, rfl⟩ | exact .inr ⟨_, _, rfl⟩)) (by rfl) (by rfl) ?_
  refine ao0 (em_binI (by rfl) (by rfl) (by rfl) (by rfl) (by first | rfl | trivial | exact ⟨rfl, by decide⟩ | exact ⟨rfl, by omega⟩ | decide | omega)) (by rfl) (by rfl) ?_
  refine ao_nil (by first | dsimp only [setO, setE] | rfl) (by first | dsimp only [setM, setE, setR] | rfl) (by rfl) ?_
  refine AW.cond (by rfl) (fun hc1 => ?_) (fun hc1 => ?_)
  · skip
    exfalso; simp at hc1
  · skip
    refine AW.skip ?_
    refine AW.seq ?_
    refine AW.seq ?_
    refine AW.region ?_
    refine ao0 (em_assign (by rfl) (by rfl)) (by rfl) (by rfl) ?_
    refine ao_nil (by first | dsimp only [setO, setE] | rfl) (by first | dsimp only [setM, setE, setR] | rfl) (by rfl) ?_
    refine AW.block ?_
    refine AW.loopU (X := {i : Nat // i ≤ xs.length}) (fun i => [(5, .v false [.i .i64 (i.1 : Int)]), (2, .any), (3, .any), (4, .any), (6, .any), (7, .any), (8, .any), (9, .any), (10, .any), (11, .any), (12, .any), (13, .any), (14, .any), (15, .any), (16, .any), (17, .any), (18, .any), (19, .any), (20, .any), (21, .any), (22, .any), (23, .any), (24, .any), (25, .any), (26, .any)]) (fun i => []) 0 (fun i => xs.length - i.1) ⟨0, Nat.zero_le _⟩ ?_ ?_
    · skip
      dsimp only [updL, setE]
      refine into_lists [] ?_ ?_ rfl rfl (by decide) (by rfl) (by rfl) (by rfl) (by rfl) (by omega)
      all_goals (try (repeat' (first | exact True.intro | exact Or.inl rfl | exact Or.inr (Or.inl rfl) | refine And.intro ?_ ?_ | exact le_i (by omega) | exact le_own (by rfl) (by rfl) (by first | rfl | omega) | exact le_arr (by rfl) (by rfl) (by first | rfl | omega) (by rfl) | exact Or.inr (Or.inr (Or.inl ⟨_, _, rfl, rfl⟩)) | exact Or.inr (Or.inr ⟨_, _, rfl⟩) | exact Or.inr (Or.inr (Or.inr ⟨_, _, _, _, rfl, rfl⟩)))))
    · intro i
      refine AW.norm (by first | dsimp only [updL, setE] | rfl) rfl rfl ?_
      obtain ⟨i, hi⟩ := i
      dsimp only
      refine AW.seq ?_
      refine AW.seq ?_
      refine AW.region ?_
      refine ao0 (em_move (by rfl) (by rfl)) (by rfl) (by rfl) ?_
      refine ao0 (em_move (by rfl) (by rfl)) (by rfl) (by rfl) ?_
      refine ao0 (sem_len tyOk (by rfl) (by rfl) (by rfl) (by rfl) (by first | exact .inl ⟨_, _, _, rfl⟩ | exact .inr ⟨_, _, rfl⟩)) (by rfl) (by rfl) ?_
      refine ao0 (em_binI (by rfl) (by rfl) (by rfl) (by rfl) (by first | rfl | trivial | exact ⟨rfl, by decide⟩ | exact ⟨rfl, by omega⟩ | decide | omega)) (by rfl) (by rfl) ?_
      refine ao_nil (by first | dsimp only [setO, setE] | rfl) (by first | dsimp only [setM, setE, setR] | rfl) (by rfl) ?_
      refine AW.cond (by rfl) (fun hc2 => ?_) (fun hc2 => ?_)
      · skip
        have hlt : i < xs.length := by simpa using hc2
        obtain rfl := nn_of hn1 hlt
        obtain rfl := nn_of hn2 hlt
        have HD := flat_at labD 2 labD_len xs i hlt
        refine AW.skip ?_
        refine AW.seq ?_
        refine AW.block ?_
        refine AW.seq ?_
        refine AW.draw follows0 (by kernel_rfl) ?_
        refine ao0 (em_move (by rfl) (by rfl)) (by rfl) (by rfl) ?_
        refine ao0 (em_move (by rfl) (by rfl)) (by rfl) (by rfl) ?_
        refine ao0 (sem_indexR tyOk (by rfl) (by rfl) (by rfl) (by rfl) (by rfl) HD (by omega) (by omega)) (by rfl) (by rfl) ?_
        refine ao_load tyOk (by rfl) (by rfl) (by rfl) (by rfl) (by rfl) (by rfl) (by rfl) (by first | trivial | exact Nat.le_of_ble_eq_true rfl | decide | (simp; done) | omega) ?_
        refine ao0 (em_move (by rfl) (by rfl)) (by rfl) (by rfl) ?_
        refine ao0 (em_move (by rfl) (by rfl)) (by rfl) (by rfl) ?_
        refine ao0 (sem_indexR tyOk (by rfl) (by rfl) (by rfl) (by rfl) (by rfl) HD (by omega) (by omega)) (by rfl) (by rfl) ?_
        refine ao_load tyOk (by rfl) (by rfl) (by rfl) (by rfl) (by rfl) (by rfl) (by rfl) (by first | trivial | exact Nat.le_of_ble_eq_true rfl | decide | (simp; done) | omega) ?_
        refine ao_callL [] [] (eqLabel_self xs[i]) (by rfl) (by rfl) (by rfl) (by rfl) (by rfl) (by repeat' (first | exact True.intro | exact .inl ⟨by rfl, by rfl⟩ | exact rfl | exact .inr (.inl ⟨_, _, _, _, by rfl, by rfl⟩) | exact .inr (.inr ⟨_, _, _, _, _, _, by rfl, by rfl, by rfl, by first | exact .head _ | exact .tail _ (.head _) | exact .tail _ (.tail _ (.head _)) | exact .tail _ (.tail _ (.tail _ (.head _)))⟩) | refine And.intro ?_ ?_)) (by repeat' (first | exact True.intro | exact .inl ⟨by rfl, by rfl⟩ | exact rfl | exact .inl rfl | exact .inr (.inl ⟨_, _, _, _, by rfl, by rfl⟩) | exact .inr ⟨rfl, by simp [D.scalar, bD]⟩ | refine And.intro ?_ ?_)) (by rfl) (by rfl) (by rfl) (by decide) (by rfl) (by rfl) (by omega) (by first | rfl | (simp [keptB, notGone, (by rfl).live]; done)) (by rfl) (by rfl) (by rfl) (by rfl) (by rfl) (by rfl) (by rfl) ?_
        refine ao0 (sem_unOp (by rfl) (by rfl) (by rfl)) (by rfl) (by rfl) ?_
        refine ao_nil (by first | dsimp only [setO, setE] | rfl) (by first | dsimp only [setM, setE, setR] | rfl) (by rfl) ?_
        refine ⟨by kernel_rfl, ?_⟩
        refine AW.cond (by rfl) (fun hc3 => ?_) (fun hc3 => ?_)
        · skip
          exfalso; simp at hc3
        · skip
          refine AW.skip ?_
          refine AW.region ?_
          refine ao0 (em_move (by rfl) (by rfl)) (by rfl) (by rfl) ?_
          refine ao0 (em_add (by rfl) (by rfl) (by rfl) (by omega) (by omega)) (by rfl) (by rfl) ?_
          refine ao0 (em_assign (by rfl) (by rfl)) (by rfl) (by rfl) ?_
          refine ao_nil (by first | dsimp only [setO, setE] | rfl) (by first | dsimp only [setM, setE, setR] | rfl) (by rfl) ?_
          refine ⟨⟨i + 1, hlt⟩, by dsimp only; omega, ?_⟩
          dsimp only [updL, setE]
          refine into_lists [] ?_ ?_ rfl rfl (by decide) (by rfl) (by rfl) (by rfl) (by rfl) (by omega)
          all_goals (try (repeat' (first | exact True.intro | exact Or.inl rfl | exact Or.inr (Or.inl rfl) | refine And.intro ?_ ?_ | exact le_i (by omega) | exact le_own (by rfl) (by rfl) (by first | rfl | omega) | exact le_arr (by rfl) (by rfl) (by first | rfl | omega) (by rfl) | exact Or.inr (Or.inr (Or.inl ⟨_, _, rfl, rfl⟩)) | exact Or.inr (Or.inr ⟨_, _, rfl⟩) | exact Or.inr (Or.inr (Or.inr ⟨_, _, _, _, rfl, rfl⟩)))))
      · skip
        refine AW.exit ?_
        refine AW.seq ?_
        refine AW.region ?_
        refine ao0 (em_assign (by rfl) (by rfl)) (by rfl) (by rfl) ?_
        refine ao_nil (by first | dsimp only [setO, setE] | rfl) (by first | dsimp only [setM, setE, setR] | rfl) (by rfl) ?_
        refine AW.ret ?_
        refine retA_data (n := 0) rfl (by rfl) ?_ rfl rfl _ (.inr rfl)
        exact pack_b rfl
theorem eqSample_self (n1 n2 : Bool) (p : List labT × Int) (h1 : p.1.length ≤ 1048576) (hn1 : n1 = false → p.1 = []) (hn2 : n2 = false → p.1 = []) : FnOk Try.prog noG 45 [.v true (samC false (n1, p)), .v true (samC false (n2, p))] [] (.v false [.b true]) [] := by
  have hL := eqLabelS_self n1 n2 p.1 h1 hn1 hn2
  refine fnOk_of' (k := 0) tyOk Try.func45 rfl (by kernel_rfl) Try.ntmps45 (by rw [Try.results45]) rfl (by simp only [List.length_cons, List.length_nil, Nat.reduceAdd, Nat.reduceSub, List.replicate_succ, List.replicate_zero, List.cons_append, List.nil_append]; rfl) (by simp) (by simp) (fun r hr => by simp at hr) fun base => ?_
  refine AW.seq ?_
  refine AW.region ?_
  refine ao1 (sem_box (by rfl) (by rfl)) (by omega) (by rfl) (by rfl) ?_
  refine ao1 (sem_box (by rfl) (by rfl)) (by omega) (by rfl) (by rfl) ?_
  refine ao0 (em_assign (by rfl) (by rfl)) (by rfl) (by rfl) ?_
  refine ao_nil (by first | dsimp only [setO, setE] | rfl) (by first | dsimp only [setM, setE, setR] | rfl) (by rfl) ?_
  refine AW.seq ?_
  refine AW.seq ?_
  refine AW.region ?_
  refine ao0 (sem_fieldAddr tyOk (by rfl) (by rfl) (by rfl) (by rfl) (by rfl) (by rfl)) (by rfl) (by rfl) ?_
  refine ao_load tyOk (by rfl) (by rfl) (by rfl) (by rfl) (by rfl) (by rfl) (by rfl) (by first | trivial | exact Nat.le_of_ble_eq_true rfl | decide | (simp; done) | omega) ?_
  refine ao0 (sem_fieldAddr tyOk (by rfl) (by rfl) (by rfl) (by rfl) (by rfl) (by rfl)) (by rfl) (by rfl) ?_
  refine ao_load tyOk (by rfl) (by rfl) (by rfl) (by rfl) (by rfl) (by rfl) (by rfl) (by first | trivial | exact Nat.le_of_ble_eq_true rfl | decide | (simp; done) | omega) ?_
  refine ao_callL [] [] (hL) (by rfl) (by rfl) (by rfl) (by rfl) (by rfl) (by repeat' (first | exact True.intro | exact .inl ⟨by rfl, by rfl⟩ | exact rfl | exact .inr (.inl ⟨_, _, _, _, by rfl, by rfl⟩) | exact .inr (.inr ⟨_, _, _, _, _, _, by rfl, by rfl, by rfl, by first | exact .head _ | exact .tail _ (.head _) | exact .tail _ (.tail _ (.head _)) | exact .tail _ (.tail _ (.tail _ (.head _)))⟩) | refine And.intro ?_ ?_)) (by repeat' (first | exact True.intro | exact .inl ⟨by rfl, by rfl⟩ | exact rfl | exact .inl rfl | exact .inr (.inl ⟨_, _, _, _, by rfl, by rfl⟩) | exact .inr ⟨rfl, by simp [D.scalar, bD]⟩ | refine And.intro ?_ ?_)) (by rfl) (by rfl) (by rfl) (by decide) (by rfl) (by rfl) (by omega) (by first | rfl | (simp [keptB, notGone, (by rfl).live]; done)) (by rfl) (by rfl) (by rfl) (by rfl) (by rfl) (by rfl) (by rfl) ?_
  refine ao0 (sem_unOp (by rfl) (by rfl) (by rfl)) (by rfl) (by rfl) ?_
  refine ao_nil (by first | dsimp only [setO, setE] | rfl) (by first | dsimp only [setM, setE, setR] | rfl) (by rfl) ?_
  refine AW.cond (by rfl) (fun hc1 => ?_) (fun hc1 => ?_)
  · skip
    exfalso; simp at hc1
  · skip
    refine AW.skip ?_
    refine AW.seq ?_
    refine AW.seq ?_
    refine AW.region ?_
    refine ao0 (sem_fieldAddr tyOk (by rfl) (by rfl) (by rfl) (by rfl) (by rfl) (by rfl)) (by rfl) (by rfl) ?_
    refine ao_load tyOk (by rfl) (by rfl) (by rfl) (by rfl) (by rfl) (by rfl) (by rfl) (by first | trivial | exact Nat.le_of_ble_eq_true rfl | decide | (simp; done) | omega) ?_
    refine ao0 (sem_fieldAddr tyOk (by rfl) (by rfl) (by rfl) (by rfl) (by rfl) (by rfl)) (by rfl) (by rfl) ?_
    refine ao_load tyOk (by rfl) (by rfl) (by rfl) (by rfl) (by rfl) (by rfl) (by rfl) (by first | trivial | exact Nat.le_of_ble_eq_true rfl | decide | (simp; done) | omega) ?_
    refine ao0 (em_binI (by rfl) (by rfl) (by rfl) (by rfl) (by first | rfl | trivial | exact ⟨rfl, by decide⟩ | exact ⟨rfl, by omega⟩ | decide | omega)) (by rfl) (by rfl) ?_
    refine ao_nil (by first | dsimp only [setO, setE] | rfl) (by first | dsimp only [setM, setE, setR] | rfl) (by rfl) ?_
    refine AW.cond (by rfl) (fun hc2 => ?_) (fun hc2 => ?_)
    · skip
      exfalso; simp at hc2
    · skip
      refine AW.skip ?_
      refine AW.seq ?_
      refine AW.region ?_
      refine ao0 (em_assign (by rfl) (by rfl)) (by rfl) (by rfl) ?_
      refine ao_nil (by first | dsimp only [setO, setE] | rfl) (by first | dsimp only [setM, setE, setR] | rfl) (by rfl) ?_
      refine AW.ret ?_
      refine retA_data (n := 0) rfl (by rfl) ?_ rfl rfl _ (.inr rfl)
      exact pack_b rfl
set_option maxHeartbeats 1000000 in
theorem eqSampleS_self (n1 n2 : Bool) (xs ys : List samT) (h1 : smS xs) (h2 : smS ys) (hn1 : n1 = false → xs = []) (hn2 : n2 = false → ys = []) (he : nnS xs = nnS ys) : FnOk Try.prog noG 21 [.v false [.sl false n1 xs.length (xs.flatMap samD)], .v false [.sl false n2 ys.length (ys.flatMap samD)]] [] (.v false [.b true]) [] := by
  have hll : xs.length = ys.length := by rw [← nnS_len xs, he, nnS_len]
  have hxl := h1.1
  have hyl := h2.1
  refine fnOk_of' (k := 0) tyOk Try.func21 rfl (by kernel_rfl) Try.ntmps21 (by rw [Try.results21]) rfl (by simp only [List.length_cons, List.length_nil, Nat.reduceAdd, Nat.reduceSub, List.replicate_succ, List.replicate_zero, List.cons_append, List.nil_append]; rfl) (by simp) (by simp) (fun r hr => by simp at hr) fun base => ?_
  refine AW.seq ?_
  refine AW.region ?_
  refine ao0 (em_assign (by rfl) (by rfl)) (by rfl) (by rfl) ?_
  refine ao_nil (by first | dsimp only [setO, setE] | rfl) (by first | dsimp only [setM, setE, setR] | rfl) (by rfl) ?_
  refine AW.seq ?_
  refine AW.seq ?_
  refine AW.region ?_
  refine ao0 (em_move (by rfl) (by rfl)) (by rfl) (by rfl) ?_
  refine ao0 (sem_len tyOk (by rfl) (by rfl) (by rfl) (by rfl) (by first | exact .inl ⟨_, _, _, rfl⟩ | exact .inr ⟨_, _, rfl⟩)) (by rfl) (by rfl) ?_
  refine ao0 (em_move (by rfl) (by rfl)) (by rfl) (by rfl) ?_
  refine ao0 (sem_len tyOk (by rfl) (by rfl) (by rfl) (by rfl) (by first | exact .inl ⟨_, _, _, rfl⟩ | exact .inr ⟨_, _, rfl⟩)) (by rfl) (by rfl) ?_
  refine ao0 (em_binI (by rfl) (by rfl) (by rfl) (by rfl) (by first | rfl | trivial | exact ⟨rfl, by decide⟩ | exact ⟨rfl, by omega⟩ | decide | omega)) (by rfl) (by rfl) ?_
  refine ao_nil (by first | dsimp only [setO, setE] | rfl) (by first | dsimp only [setM, setE, setR] | rfl) (by rfl) ?_
  refine AW.cond (by rfl) (fun hc1 => ?_) (fun hc1 => ?_)
  · skip
    exfalso; simp at hc1; omega
  · skip
    refine AW.skip ?_
    refine AW.seq ?_
    refine AW.seq ?_
    refine AW.region ?_
    refine ao0 (em_assign (by rfl) (by rfl)) (by rfl) (by rfl) ?_
    refine ao_nil (by first | dsimp only [setO, setE] | rfl) (by first | dsimp only [setM, setE, setR] | rfl) (by rfl) ?_
    refine AW.block ?_
    refine AW.loopU (X := {i : Nat // i ≤ xs.length}) (fun i => [(5, .v false [.i .i64 (i.1 : Int)]), (2, .any), (3, .any), (4, .any), (6, .any), (7, .any), (8, .any), (9, .any), (10, .any), (11, .any), (12, .any), (13, .any), (14, .any), (15, .any), (16, .any), (17, .any), (18, .any), (19, .any), (20, .any), (21, .any), (22, .any), (23, .any), (24, .any), (25, .any), (26, .any)]) (fun i => []) 0 (fun i => xs.length - i.1) ⟨0, Nat.zero_le _⟩ ?_ ?_
    · skip
      dsimp only [updL, setE]
      refine into_lists [] ?_ ?_ rfl rfl (by decide) (by rfl) (by rfl) (by rfl) (by rfl) (by omega)
      all_goals (try (repeat' (first | exact True.intro | exact Or.inl rfl | exact Or.inr (Or.inl rfl) | refine And.intro ?_ ?_ | exact le_i (by omega) | exact le_own (by rfl) (by rfl) (by first | rfl | omega) | exact le_arr (by rfl) (by rfl) (by first | rfl | omega) (by rfl) | exact Or.inr (Or.inr (Or.inl ⟨_, _, rfl, rfl⟩)) | exact Or.inr (Or.inr ⟨_, _, rfl⟩) | exact Or.inr (Or.inr (Or.inr ⟨_, _, _, _, rfl, rfl⟩)))))
    · intro i
      refine AW.norm (by first | dsimp only [updL, setE] | rfl) rfl rfl ?_
      obtain ⟨i, hi⟩ := i
      dsimp only
      refine AW.seq ?_
      refine AW.seq ?_
      refine AW.region ?_
      refine ao0 (em_move (by rfl) (by rfl)) (by rfl) (by rfl) ?_
      refine ao0 (em_move (by rfl) (by rfl)) (by rfl) (by rfl) ?_
      refine ao0 (sem_len tyOk (by rfl) (by rfl) (by rfl) (by rfl) (by first | exact .inl ⟨_, _, _, rfl⟩ | exact .inr ⟨_, _, rfl⟩)) (by rfl) (by rfl) ?_
      refine ao0 (em_binI (by rfl) (by rfl) (by rfl) (by rfl) (by first | rfl | trivial | exact ⟨rfl, by decide⟩ | exact ⟨rfl, by omega⟩ | decide | omega)) (by rfl) (by rfl) ?_
      refine ao_nil (by first | dsimp only [setO, setE] | rfl) (by first | dsimp only [setM, setE, setR] | rfl) (by rfl) ?_
      refine AW.cond (by rfl) (fun hc2 => ?_) (fun hc2 => ?_)
      · skip
        have hlt : i < xs.length := by simpa using hc2
        have hlt2 : i < ys.length := by omega
        obtain rfl := nn_of hn1 hlt
        obtain rfl := nn_of hn2 hlt2
        have HD := flat_at samD 2 samD_len xs i hlt
        have HE := flat_at samD 2 samD_len ys i hlt2
        have hx := h1.2 _ (List.getElem_mem hlt)
        have hy := h2.2 _ (List.getElem_mem hlt2)
        have hq : xs[i].2 = ys[i].2 := by have e : (nnS xs)[i]? = (nnS ys)[i]? := congrArg (·[i]?) he; rw [List.getElem?_eq_getElem (by rw [nnS_len]; exact hlt), List.getElem?_eq_getElem (by rw [nnS_len]; exact hlt2), nnS_at, nnS_at] at e; simpa using e
        have hS := eqSample_self xs[i].1 ys[i].1 xs[i].2 hx.1.1 hx.2 (by rw [hq]; exact hy.2)
        rw [show ((ys[i].1, xs[i].2) : samT) = ys[i] by rw [hq]] at hS
        refine AW.skip ?_
        refine AW.seq ?_
        refine AW.block ?_
        refine AW.seq ?_
        refine AW.draw follows0 (by kernel_rfl) ?_
        refine ao0 (em_move (by rfl) (by rfl)) (by rfl) (by rfl) ?_
        refine ao0 (em_move (by rfl) (by rfl)) (by rfl) (by rfl) ?_
        refine ao0 (sem_indexR tyOk (by rfl) (by rfl) (by rfl) (by rfl) (by rfl) HD (by omega) (by omega)) (by rfl) (by rfl) ?_
        refine ao_load tyOk (by rfl) (by rfl) (by rfl) (by rfl) (by rfl) (by rfl) (by rfl) (by first | trivial | exact Nat.le_of_ble_eq_true rfl | decide | (simp; done) | omega) ?_
        refine ao0 (em_move (by rfl) (by rfl)) (by rfl) (by rfl) ?_
        refine ao0 (em_move (by rfl) (by rfl)) (by rfl) (by rfl) ?_
        refine ao0 (sem_indexR tyOk (by rfl) (by rfl) (by rfl) (by rfl) (by rfl) HE (by omega) (by omega)) (by rfl) (by rfl) ?_
        refine ao_load tyOk (by rfl) (by rfl) (by rfl) (by rfl) (by rfl) (by rfl) (by rfl) (by first | trivial | exact Nat.le_of_ble_eq_true rfl | decide | (simp; done) | omega) ?_
        refine ao_callL [] [] (hS) (by rfl) (by rfl) (by rfl) (by rfl) (by rfl) (by repeat' (first | exact True.intro | exact .inl ⟨by rfl, by rfl⟩ | exact rfl | exact .inr (.inl ⟨_, _, _, _, by rfl, by rfl⟩) | exact .inr (.inr ⟨_, _, _, _, _, _, by rfl, by rfl, by rfl, by first | exact .head _ | exact .tail _ (.head _) | exact .tail _ (.tail _ (.head _)) | exact .tail _ (.tail _ (.tail _ (.head _)))⟩) | refine And.intro ?_ ?_)) (by repeat' (first | exact True.intro | exact .inl ⟨by rfl, by rfl⟩ | exact rfl | exact .inl rfl | exact .inr (.inl ⟨_, _, _, _, by rfl, by rfl⟩) | exact .inr ⟨rfl, by simp [D.scalar, bD]⟩ | refine And.intro ?_ ?_)) (by rfl) (by rfl) (by rfl) (by decide) (by rfl) (by rfl) (by omega) (by first | rfl | (simp [keptB, notGone, (by rfl).live]; done)) (by rfl) (by rfl) (by rfl) (by rfl) (by rfl) (by rfl) (by rfl) ?_
        refine ao0 (sem_unOp (by rfl) (by rfl) (by rfl)) (by rfl) (by rfl) ?_
        refine ao_nil (by first | dsimp only [setO, setE] | rfl) (by first | dsimp only [setM, setE, setR] | rfl) (by rfl) ?_
        refine ⟨by kernel_rfl, ?_⟩
        refine AW.cond (by rfl) (fun hc3 => ?_) (fun hc3 => ?_)
        · skip
          exfalso; simp at hc3
        · skip
          refine AW.skip ?_
          refine AW.region ?_
          refine ao0 (em_move (by rfl) (by rfl)) (by rfl) (by rfl) ?_
          refine ao0 (em_add (by rfl) (by rfl) (by rfl) (by omega) (by omega)) (by rfl) (by rfl) ?_
          refine ao0 (em_assign (by rfl) (by rfl)) (by rfl) (by rfl) ?_
          refine ao_nil (by first | dsimp only [setO, setE] | rfl) (by first | dsimp only [setM, setE, setR] | rfl) (by rfl) ?_
          refine ⟨⟨i + 1, hlt⟩, by dsimp only; omega, ?_⟩
          dsimp only [updL, setE]
          refine into_lists [] ?_ ?_ rfl rfl (by decide) (by rfl) (by rfl) (by rfl) (by rfl) (by omega)
          all_goals (try (repeat' (first | exact True.intro | exact Or.inl rfl | exact Or.inr (Or.inl rfl) | refine And.intro ?_ ?_ | exact le_i (by omega) | exact le_own (by rfl) (by rfl) (by first | rfl | omega) | exact le_arr (by rfl) (by rfl) (by first | rfl | omega) (by rfl) | exact Or.inr (Or.inr (Or.inl ⟨_, _, rfl, rfl⟩)) | exact Or.inr (Or.inr ⟨_, _, rfl⟩) | exact Or.inr (Or.inr (Or.inr ⟨_, _, _, _, rfl, rfl⟩)))))
      · skip
        refine AW.exit ?_
        refine AW.seq ?_
        refine AW.region ?_
        refine ao0 (em_assign (by rfl) (by rfl)) (by rfl) (by rfl) ?_
        refine ao_nil (by first | dsimp only [setO, setE] | rfl) (by first | dsimp only [setM, setE, setR] | rfl) (by rfl) ?_
        refine AW.ret ?_
        refine retA_data (n := 0) rfl (by rfl) ?_ rfl rfl _ (.inr rfl)
        exact pack_b rfl
end Go.Proofs.Ytpobimdcphjljaa
