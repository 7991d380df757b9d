/-
  The journals' exact laws: contracts.
-/
import Derived.Test.YtiibfkekcdkjdaaJn
import Derived.Test.YtiibfkekcdkjdaaJm
import Derived.Test.YtiibfkekcdkjdaaJb
namespace Go.Proofs.Ytiibfkekcdkjdaa
open Go
set_option linter.unusedVariables false
set_option linter.unusedSimpArgs false
set_option linter.unnecessarySimpa false

theorem flat_ge2 {xs : List Rec3} (h : ∀ x ∈ xs, okX x) : 5 * xs.length ≤ (xs.flatMap entX).length := by
  induction xs with
  | nil => simp
  | cons x xs ih =>
    have h1 := entX_len (h x (List.mem_cons_self ..))
    have h2 := ih fun y hy => h y (List.mem_cons_of_mem _ hy)
    rw [List.flatMap_cons, List.length_append, List.length_cons]; omega
theorem rdJ_len2 (l : List Nat) : 5 * (rdJ l).1.length ≤ l.length := by
  have h1 := flat_ge2 (rdJ_ok l)
  rw [rdJ_flat, List.length_take] at h1
  omega
theorem markRecNil_ok (m : Int) : FnOk Try.prog noG 35 [.v false [.sl false false 0 []], .v false [.i .i64 m]] [] (.v false [.i .i64 m]) [] := by
  refine fnOk_of' (k := 0) tyOk Try.func35 rfl (by kernel_rfl) Try.ntmps35 (by rw [Try.results35]) rfl (by simp only [List.length_cons, List.length_nil, Nat.reduceAdd, Nat.reduceSub, List.replicate_succ, List.replicate_zero, List.cons_append, List.nil_append]; rfl) (by simp) (by simp) (fun r hr => by simp at hr) fun base => ?_
  refine AW.seq ?_
  refine AW.region ?_
  refine ao0 (em_assign (by rfl) (by rfl)) (by rfl) (by rfl) ?_
  refine ao_nil (by first | dsimp only [setO, setE] | rfl) (by first | dsimp only [setM, setE, setR] | rfl) (by rfl) ?_
  refine AW.seq ?_
  refine AW.seq ?_
  refine AW.region ?_
  refine ao0 (em_assign (by rfl) (by rfl)) (by rfl) (by rfl) ?_
  refine ao_nil (by first | dsimp only [setO, setE] | rfl) (by first | dsimp only [setM, setE, setR] | rfl) (by rfl) ?_
  refine AW.block ?_
  refine AW.unroll 1 ?_
  refine AWr_step ?_
  refine AW.seq ?_
  refine AW.seq ?_
  refine AW.region ?_
  refine ao0 (em_move (by rfl) (by rfl)) (by rfl) (by rfl) ?_
  refine ao0 (em_move (by rfl) (by rfl)) (by rfl) (by rfl) ?_
  refine ao0 (sem_len tyOk (by rfl) (by rfl) (by rfl) (by rfl) (by first | exact .inl ⟨_, _, _, rfl⟩ | exact .inr ⟨_, _, rfl⟩)) (by rfl) (by rfl) ?_
  refine ao0 (em_binI (by rfl) (by rfl) (by rfl) (by rfl) (by first | rfl | trivial | exact ⟨rfl, by decide⟩ | exact ⟨rfl, by omega⟩ | decide | omega)) (by rfl) (by rfl) ?_
  refine ao_nil (by first | dsimp only [setO, setE] | rfl) (by first | dsimp only [setM, setE, setR] | rfl) (by rfl) ?_
  refine AW.cond (by rfl) (fun hc1 => ?_) (fun hc1 => ?_)
  · skip
    exfalso; simp at hc1
  · skip
    refine AW.exit ?_
    refine AW.seq ?_
    refine AW.region ?_
    refine ao0 (em_move (by rfl) (by rfl)) (by rfl) (by rfl) ?_
    refine ao0 (em_assign (by rfl) (by rfl)) (by rfl) (by rfl) ?_
    refine ao_nil (by first | dsimp only [setO, setE] | rfl) (by first | dsimp only [setM, setE, setR] | rfl) (by rfl) ?_
    refine AW.ret ?_
    refine retA_data (n := 0) rfl (by rfl) ?_ rfl rfl _ (.inr rfl)
    all_goals rfl
theorem heldRecNil_ok (m : Int) : FnOk Try.prog noG 39 [.v false [.sl false false 0 []], .v false [.i .i64 m]] [] (.v false [.i .i64 m]) [] := by
  refine fnOk_of' (k := 0) tyOk Try.func39 rfl (by kernel_rfl) Try.ntmps39 (by rw [Try.results39]) rfl (by simp only [List.length_cons, List.length_nil, Nat.reduceAdd, Nat.reduceSub, List.replicate_succ, List.replicate_zero, List.cons_append, List.nil_append]; rfl) (by simp) (by simp) (fun r hr => by simp at hr) fun base => ?_
  refine AW.seq ?_
  refine AW.region ?_
  refine ao0 (em_assign (by rfl) (by rfl)) (by rfl) (by rfl) ?_
  refine ao_nil (by first | dsimp only [setO, setE] | rfl) (by first | dsimp only [setM, setE, setR] | rfl) (by rfl) ?_
  refine AW.seq ?_
  refine AW.seq ?_
  refine AW.region ?_
  refine ao0 (em_assign (by rfl) (by rfl)) (by rfl) (by rfl) ?_
  refine ao_nil (by first | dsimp only [setO, setE] | rfl) (by first | dsimp only [setM, setE, setR] | rfl) (by rfl) ?_
  refine AW.block ?_
  refine AW.unroll 1 ?_
  refine AWr_step ?_
  refine AW.seq ?_
  refine AW.seq ?_
  refine AW.region ?_
  refine ao0 (em_move (by rfl) (by rfl)) (by rfl) (by rfl) ?_
  refine ao0 (em_move (by rfl) (by rfl)) (by rfl) (by rfl) ?_
  refine ao0 (sem_len tyOk (by rfl) (by rfl) (by rfl) (by rfl) (by first | exact .inl ⟨_, _, _, rfl⟩ | exact .inr ⟨_, _, rfl⟩)) (by rfl) (by rfl) ?_
  refine ao0 (em_binI (by rfl) (by rfl) (by rfl) (by rfl) (by first | rfl | trivial | exact ⟨rfl, by decide⟩ | exact ⟨rfl, by omega⟩ | decide | omega)) (by rfl) (by rfl) ?_
  refine ao_nil (by first | dsimp only [setO, setE] | rfl) (by first | dsimp only [setM, setE, setR] | rfl) (by rfl) ?_
  refine AW.cond (by rfl) (fun hc1 => ?_) (fun hc1 => ?_)
  · skip
    exfalso; simp at hc1
  · skip
    refine AW.exit ?_
    refine AW.seq ?_
    refine AW.region ?_
    refine ao0 (em_move (by rfl) (by rfl)) (by rfl) (by rfl) ?_
    refine ao0 (em_assign (by rfl) (by rfl)) (by rfl) (by rfl) ?_
    refine ao_nil (by first | dsimp only [setO, setE] | rfl) (by first | dsimp only [setM, setE, setR] | rfl) (by rfl) ?_
    refine AW.ret ?_
    refine retA_data (n := 0) rfl (by rfl) ?_ rfl rfl _ (.inr rfl)
    all_goals rfl
theorem markBNil_ok (m : Int) : FnOk Try.prog noG 25 [.v false [.sl false false 0 []], .v false [.i .i64 m]] [] (.v false [.i .i64 m]) [] := by
  refine fnOk_of' (k := 0) tyOk Try.func25 rfl (by kernel_rfl) Try.ntmps25 (by rw [Try.results25]) rfl (by simp only [List.length_cons, List.length_nil, Nat.reduceAdd, Nat.reduceSub, List.replicate_succ, List.replicate_zero, List.cons_append, List.nil_append]; rfl) (by simp) (by simp) (fun r hr => by simp at hr) fun base => ?_
  refine AW.seq ?_
  refine AW.region ?_
  refine ao0 (em_assign (by rfl) (by rfl)) (by rfl) (by rfl) ?_
  refine ao_nil (by first | dsimp only [setO, setE] | rfl) (by first | dsimp only [setM, setE, setR] | rfl) (by rfl) ?_
  refine AW.seq ?_
  refine AW.seq ?_
  refine AW.region ?_
  refine ao0 (em_assign (by rfl) (by rfl)) (by rfl) (by rfl) ?_
  refine ao_nil (by first | dsimp only [setO, setE] | rfl) (by first | dsimp only [setM, setE, setR] | rfl) (by rfl) ?_
  refine AW.block ?_
  refine AW.unroll 1 ?_
  refine AWr_step ?_
  refine AW.seq ?_
  refine AW.seq ?_
  refine AW.region ?_
  refine ao0 (em_move (by rfl) (by rfl)) (by rfl) (by rfl) ?_
  refine ao0 (em_move (by rfl) (by rfl)) (by rfl) (by rfl) ?_
  refine ao0 (sem_len tyOk (by rfl) (by rfl) (by rfl) (by rfl) (by first | exact .inl ⟨_, _, _, rfl⟩ | exact .inr ⟨_, _, rfl⟩)) (by rfl) (by rfl) ?_
  refine ao0 (em_binI (by rfl) (by rfl) (by rfl) (by rfl) (by first | rfl | trivial | exact ⟨rfl, by decide⟩ | exact ⟨rfl, by omega⟩ | decide | omega)) (by rfl) (by rfl) ?_
  refine ao_nil (by first | dsimp only [setO, setE] | rfl) (by first | dsimp only [setM, setE, setR] | rfl) (by rfl) ?_
  refine AW.cond (by rfl) (fun hc1 => ?_) (fun hc1 => ?_)
  · skip
    exfalso; simp at hc1
  · skip
    refine AW.exit ?_
    refine AW.seq ?_
    refine AW.region ?_
    refine ao0 (em_move (by rfl) (by rfl)) (by rfl) (by rfl) ?_
    refine ao0 (em_assign (by rfl) (by rfl)) (by rfl) (by rfl) ?_
    refine ao_nil (by first | dsimp only [setO, setE] | rfl) (by first | dsimp only [setM, setE, setR] | rfl) (by rfl) ?_
    refine AW.ret ?_
    refine retA_data (n := 0) rfl (by rfl) ?_ rfl rfl _ (.inr rfl)
    all_goals rfl
theorem heldBNil_ok (m : Int) : FnOk Try.prog noG 26 [.v false [.sl false false 0 []], .v false [.i .i64 m]] [] (.v false [.i .i64 m]) [] := by
  refine fnOk_of' (k := 0) tyOk Try.func26 rfl (by kernel_rfl) Try.ntmps26 (by rw [Try.results26]) rfl (by simp only [List.length_cons, List.length_nil, Nat.reduceAdd, Nat.reduceSub, List.replicate_succ, List.replicate_zero, List.cons_append, List.nil_append]; rfl) (by simp) (by simp) (fun r hr => by simp at hr) fun base => ?_
  refine AW.seq ?_
  refine AW.region ?_
  refine ao0 (em_assign (by rfl) (by rfl)) (by rfl) (by rfl) ?_
  refine ao_nil (by first | dsimp only [setO, setE] | rfl) (by first | dsimp only [setM, setE, setR] | rfl) (by rfl) ?_
  refine AW.seq ?_
  refine AW.seq ?_
  refine AW.region ?_
  refine ao0 (em_assign (by rfl) (by rfl)) (by rfl) (by rfl) ?_
  refine ao_nil (by first | dsimp only [setO, setE] | rfl) (by first | dsimp only [setM, setE, setR] | rfl) (by rfl) ?_
  refine AW.block ?_
  refine AW.unroll 1 ?_
  refine AWr_step ?_
  refine AW.seq ?_
  refine AW.seq ?_
  refine AW.region ?_
  refine ao0 (em_move (by rfl) (by rfl)) (by rfl) (by rfl) ?_
  refine ao0 (em_move (by rfl) (by rfl)) (by rfl) (by rfl) ?_
  refine ao0 (sem_len tyOk (by rfl) (by rfl) (by rfl) (by rfl) (by first | exact .inl ⟨_, _, _, rfl⟩ | exact .inr ⟨_, _, rfl⟩)) (by rfl) (by rfl) ?_
  refine ao0 (em_binI (by rfl) (by rfl) (by rfl) (by rfl) (by first | rfl | trivial | exact ⟨rfl, by decide⟩ | exact ⟨rfl, by omega⟩ | decide | omega)) (by rfl) (by rfl) ?_
  refine ao_nil (by first | dsimp only [setO, setE] | rfl) (by first | dsimp only [setM, setE, setR] | rfl) (by rfl) ?_
  refine AW.cond (by rfl) (fun hc1 => ?_) (fun hc1 => ?_)
  · skip
    exfalso; simp at hc1
  · skip
    refine AW.exit ?_
    refine AW.seq ?_
    refine AW.region ?_
    refine ao0 (em_move (by rfl) (by rfl)) (by rfl) (by rfl) ?_
    refine ao0 (em_assign (by rfl) (by rfl)) (by rfl) (by rfl) ?_
    refine ao_nil (by first | dsimp only [setO, setE] | rfl) (by first | dsimp only [setM, setE, setR] | rfl) (by rfl) ?_
    refine AW.ret ?_
    refine retA_data (n := 0) rfl (by rfl) ?_ rfl rfl _ (.inr rfl)
    all_goals rfl
theorem dec_nilL {α : Type} {l : List α} : decide (0 < l.length) = false → l = [] := by simp
theorem dec_nilI {n : Nat} : decide (0 < n) = false → n = 0 := by simp
set_option maxHeartbeats 2000000 in
theorem FnExactReadJournal_ok (nn : Bool) (l : List Nat) (hnn : nn = false → l = []) (hb : ∀ b ∈ l, b ≤ 255) : FnOk Try.prog noG 13 [.v false [.sl false nn l.length (l.map bD)]] [] (.v false [.b true]) [] := by
  by_cases hbig : 1048576 < l.length
  · have hbig2 := hbig
    refine fnOk_of' (k := 0) tyOk Try.func13 rfl (by kernel_rfl) Try.ntmps13 (by rw [Try.results13]) rfl (by simp only [List.length_cons, List.length_nil, Nat.reduceAdd, Nat.reduceSub, List.replicate_succ, List.replicate_zero, List.cons_append, List.nil_append]; rfl) (by simp) (by simp) (fun r hr => by simp at hr) fun base => ?_
    refine AW.seq ?_
    refine AW.region ?_
    refine ao0 (em_assign (by rfl) (by rfl)) (by rfl) (by rfl) ?_
    refine ao_nil (by first | dsimp only [setO, setE] | rfl) (by first | dsimp only [setM, setE, setR] | rfl) (by rfl) ?_
    refine AW.seq ?_
    refine AW.seq ?_
    refine AW.region ?_
    refine ao0 (em_move (by rfl) (by rfl)) (by rfl) (by rfl) ?_
    refine ao0 (sem_len tyOk (by rfl) (by rfl) (by rfl) (by rfl) (by first | exact .inl ⟨_, _, _, rfl⟩ | exact .inr ⟨_, _, rfl⟩)) (by rfl) (by rfl) ?_
    refine ao0 (em_binI (by rfl) (by rfl) (by rfl) (by rfl) (by first | rfl | trivial | exact ⟨rfl, by decide⟩ | exact ⟨rfl, by omega⟩ | decide | omega)) (by rfl) (by rfl) ?_
    refine ao_nil (by first | dsimp only [setO, setE] | rfl) (by first | dsimp only [setM, setE, setR] | rfl) (by rfl) ?_
    refine AW.cond (by rfl) (fun hc1 => ?_) (fun hc1 => ?_)
    · skip
      refine AW.seq ?_
      refine AW.region ?_
      refine ao0 (em_assign (by rfl) (by rfl)) (by rfl) (by rfl) ?_
      refine ao_nil (by first | dsimp only [setO, setE] | rfl) (by first | dsimp only [setM, setE, setR] | rfl) (by rfl) ?_
      refine AW.ret ?_
      refine retA_data (n := 0) rfl (by rfl) ?_ rfl rfl _ (.inr rfl)
      exact pack_b rfl
    · skip
      exfalso; simp at hc1; omega
  have hl : l.length ≤ 1048576 := by omega
  by_cases h : 200 < l.length
  · have hI := iReadJournal_long true l h
    have hS := sReadJournal_long true l h
    have hE := eqRecordS_ok false false [] [] (by decide) (by decide) (by simp) (by simp)
    refine fnOk_of' (k := 0) tyOk Try.func13 rfl (by kernel_rfl) Try.ntmps13 (by rw [Try.results13]) rfl (by simp only [List.length_cons, List.length_nil, Nat.reduceAdd, Nat.reduceSub, List.replicate_succ, List.replicate_zero, List.cons_append, List.nil_append]; rfl) (by simp) (by simp) (fun r hr => by simp at hr) fun base => ?_
    refine AW.seq ?_
    refine AW.region ?_
    refine ao0 (em_assign (by rfl) (by rfl)) (by rfl) (by rfl) ?_
    refine ao_nil (by first | dsimp only [setO, setE] | rfl) (by first | dsimp only [setM, setE, setR] | rfl) (by rfl) ?_
    refine AW.seq ?_
    refine AW.seq ?_
    refine AW.region ?_
    refine ao0 (em_move (by rfl) (by rfl)) (by rfl) (by rfl) ?_
    refine ao0 (sem_len tyOk (by rfl) (by rfl) (by rfl) (by rfl) (by first | exact .inl ⟨_, _, _, rfl⟩ | exact .inr ⟨_, _, rfl⟩)) (by rfl) (by rfl) ?_
    refine ao0 (em_binI (by rfl) (by rfl) (by rfl) (by rfl) (by first | rfl | trivial | exact ⟨rfl, by decide⟩ | exact ⟨rfl, by omega⟩ | decide | omega)) (by rfl) (by rfl) ?_
    refine ao_nil (by first | dsimp only [setO, setE] | rfl) (by first | dsimp only [setM, setE, setR] | rfl) (by rfl) ?_
    refine AW.cond (by rfl) (fun hc1 => ?_) (fun hc1 => ?_)
    · skip
      exfalso; simp at hc1 <;> omega
    · skip
      refine AW.skip ?_
      refine AW.seq ?_
      refine AW.region ?_
      refine ao0 (em_move (by rfl) (by rfl)) (by rfl) (by rfl) ?_
      refine ao_callL [] [] (toByteS_ok nn l hl hnn hb) (by rfl) (by rfl) (by rfl) (by rfl) (by rfl) (by repeat' (first | exact True.intro | exact .inl ⟨by rfl, by rfl⟩ | exact rfl | exact .inr (.inl ⟨_, _, _, _, by rfl, by rfl⟩) | exact .inr (.inr ⟨_, _, _, _, _, _, by rfl, by rfl, by rfl, by first | exact .head _ | exact .tail _ (.head _) | exact .tail _ (.tail _ (.head _)) | exact .tail _ (.tail _ (.tail _ (.head _)))⟩) | refine And.intro ?_ ?_)) (by repeat' (first | exact True.intro | exact .inl ⟨by rfl, by rfl⟩ | exact rfl | exact .inl rfl | exact .inr (.inl ⟨_, _, _, _, by rfl, by rfl⟩) | exact .inr ⟨rfl, by simp [D.scalar, bD]⟩ | refine And.intro ?_ ?_)) (by rfl) (by rfl) (by rfl) (by decide) (by rfl) (by rfl) (by omega) (by first | rfl | (simp [keptB, notGone, (by rfl).live]; done)) (by rfl) (by rfl) (by rfl) (by rfl) (by rfl) (by rfl) (by rfl) ?_
      refine ao_callL [] [0] (hS) (by rfl) (by rfl) (by rfl) (by rfl) (by rfl) (by repeat' (first | exact True.intro | exact .inl ⟨by rfl, by rfl⟩ | exact rfl | exact .inr (.inl ⟨_, _, _, _, by rfl, by rfl⟩) | exact .inr (.inr ⟨_, _, _, _, _, _, by rfl, by rfl, by rfl, by first | exact .head _ | exact .tail _ (.head _) | exact .tail _ (.tail _ (.head _)) | exact .tail _ (.tail _ (.tail _ (.head _)))⟩) | refine And.intro ?_ ?_)) (by repeat' (first | exact True.intro | exact .inl ⟨by rfl, by rfl⟩ | exact rfl | exact .inl rfl | exact .inr (.inl ⟨_, _, _, _, by rfl, by rfl⟩) | exact .inr ⟨rfl, by simp [D.scalar, bD]⟩ | refine And.intro ?_ ?_)) (by rfl) (by rfl) (by rfl) (by decide) (by rfl) (by rfl) (by omega) (by first | rfl | (simp [keptB, notGone, (by rfl).live]; done)) (by rfl) (by rfl) (by rfl) (by rfl) (by rfl) (by rfl) (by rfl) ?_
      refine ao0 (sem_move (.inl (by rfl))) (by rfl) (by rfl) ?_
      refine ao0 (sem_extract (by rfl) (by rfl) (by rfl)) (by rfl) (by rfl) ?_
      refine ao0 (sem_extract (by rfl) (by rfl) (by rfl)) (by rfl) (by rfl) ?_
      refine ao0 (em_assign (by rfl) (by rfl)) (by rfl) (by rfl) ?_
      refine ao0 (em_assign (by rfl) (by rfl)) (by rfl) (by rfl) ?_
      refine ao_nil (by first | dsimp only [setO, setE] | rfl) (by first | dsimp only [setM, setE, setR] | rfl) (by rfl) ?_
      refine AW.seq ?_
      refine AW.region ?_
      refine ao0 (em_move (by rfl) (by rfl)) (by rfl) (by rfl) ?_
      refine ao_callL [] [] (toByteS_ok nn l hl hnn hb) (by rfl) (by rfl) (by rfl) (by rfl) (by rfl) (by repeat' (first | exact True.intro | exact .inl ⟨by rfl, by rfl⟩ | exact rfl | exact .inr (.inl ⟨_, _, _, _, by rfl, by rfl⟩) | exact .inr (.inr ⟨_, _, _, _, _, _, by rfl, by rfl, by rfl, by first | exact .head _ | exact .tail _ (.head _) | exact .tail _ (.tail _ (.head _)) | exact .tail _ (.tail _ (.tail _ (.head _)))⟩) | refine And.intro ?_ ?_)) (by repeat' (first | exact True.intro | exact .inl ⟨by rfl, by rfl⟩ | exact rfl | exact .inl rfl | exact .inr (.inl ⟨_, _, _, _, by rfl, by rfl⟩) | exact .inr ⟨rfl, by simp [D.scalar, bD]⟩ | refine And.intro ?_ ?_)) (by rfl) (by rfl) (by rfl) (by decide) (by rfl) (by rfl) (by omega) (by first | rfl | (simp [keptB, notGone, (by rfl).live]; done)) (by rfl) (by rfl) (by rfl) (by rfl) (by rfl) (by rfl) (by rfl) ?_
      refine ao0 (em_assign (by rfl) (by rfl)) (by rfl) (by rfl) ?_
      refine ao_nil (by first | dsimp only [setO, setE] | rfl) (by first | dsimp only [setM, setE, setR] | rfl) (by rfl) ?_
      refine AW.seq ?_
      refine AW.region ?_
      refine ao0 (em_move (by rfl) (by rfl)) (by rfl) (by rfl) ?_
      refine ao_callL [] [1] (hI) (by rfl) (by rfl) (by rfl) (by rfl) (by rfl) (by repeat' (first | exact True.intro | exact .inl ⟨by rfl, by rfl⟩ | exact rfl | exact .inr (.inl ⟨_, _, _, _, by rfl, by rfl⟩) | exact .inr (.inr ⟨_, _, _, _, _, _, by rfl, by rfl, by rfl, by first | exact .head _ | exact .tail _ (.head _) | exact .tail _ (.tail _ (.head _)) | exact .tail _ (.tail _ (.tail _ (.head _)))⟩) | refine And.intro ?_ ?_)) (by repeat' (first | exact True.intro | exact .inl ⟨by rfl, by rfl⟩ | exact rfl | exact .inl rfl | exact .inr (.inl ⟨_, _, _, _, by rfl, by rfl⟩) | exact .inr ⟨rfl, by simp [D.scalar, bD]⟩ | refine And.intro ?_ ?_)) (by rfl) (by rfl) (by rfl) (by decide) (by rfl) (by rfl) (by omega) (by first | rfl | (simp [keptB, notGone, (by rfl).live]; done)) (by rfl) (by rfl) (by rfl) (by rfl) (by rfl) (by rfl) (by rfl) ?_
      refine ao0 (sem_move (.inl (by rfl))) (by rfl) (by rfl) ?_
      refine ao0 (sem_extract (by rfl) (by rfl) (by rfl)) (by rfl) (by rfl) ?_
      refine ao0 (sem_extract (by rfl) (by rfl) (by rfl)) (by rfl) (by rfl) ?_
      refine ao0 (em_assign (by rfl) (by rfl)) (by rfl) (by rfl) ?_
      refine ao0 (em_assign (by rfl) (by rfl)) (by rfl) (by rfl) ?_
      refine ao_nil (by first | dsimp only [setO, setE] | rfl) (by first | dsimp only [setM, setE, setR] | rfl) (by rfl) ?_
      refine AW.seq ?_
      refine AW.seq ?_
      refine AW.region ?_
      refine ao0 (em_move (by rfl) (by rfl)) (by rfl) (by rfl) ?_
      refine ao0 (em_move (by rfl) (by rfl)) (by rfl) (by rfl) ?_
      refine ao_callL [] [] (hE) (by rfl) (by rfl) (by rfl) (by rfl) (by rfl) (by repeat' (first | exact True.intro | exact .inl ⟨by rfl, by rfl⟩ | exact rfl | exact .inr (.inl ⟨_, _, _, _, by rfl, by rfl⟩) | exact .inr (.inr ⟨_, _, _, _, _, _, by rfl, by rfl, by rfl, by first | exact .head _ | exact .tail _ (.head _) | exact .tail _ (.tail _ (.head _)) | exact .tail _ (.tail _ (.tail _ (.head _)))⟩) | refine And.intro ?_ ?_)) (by repeat' (first | exact True.intro | exact .inl ⟨by rfl, by rfl⟩ | exact rfl | exact .inl rfl | exact .inr (.inl ⟨_, _, _, _, by rfl, by rfl⟩) | exact .inr ⟨rfl, by simp [D.scalar, bD]⟩ | refine And.intro ?_ ?_)) (by rfl) (by rfl) (by rfl) (by decide) (by rfl) (by rfl) (by omega) (by first | rfl | (simp [keptB, notGone, (by rfl).live]; done)) (by rfl) (by rfl) (by rfl) (by rfl) (by rfl) (by rfl) (by rfl) ?_
      refine ao0 (sem_unOp (by rfl) (by rfl) (by rfl)) (by rfl) (by rfl) ?_
      refine ao0 (em_move (by rfl) (by rfl)) (by rfl) (by rfl) ?_
      refine ao0 (em_move (by rfl) (by rfl)) (by rfl) (by rfl) ?_
      refine ao0 (em_move (by rfl) (by rfl)) (by rfl) (by rfl) ?_
      refine ao0 (em_binI (by rfl) (by rfl) (by rfl) (by rfl) (by first | rfl | trivial | exact ⟨rfl, by decide⟩ | exact ⟨rfl, by omega⟩ | decide | omega)) (by rfl) (by rfl) ?_
      refine ao0 (sem_pickg (by rfl) (by rfl) (by rfl) (by rfl) (by intro hh; first | rfl | exact hh | (exact Bool.noConfusion hh) | (simp [wexp]; done) | (simp [wexp] at hh; done) | (simpa [wexp] using hh) | (simp_all; done)) (by intro hh; first | rfl | exact hh | (exact Bool.noConfusion hh) | (simp [wexp]; done) | (simp [wexp] at hh; done) | (simpa [wexp] using hh) | (simp_all; done))) (by rfl) (by rfl) ?_
      refine ao_nil (by first | dsimp only [setO, setE] | rfl) (by first | dsimp only [setM, setE, setR] | rfl) (by rfl) ?_
      refine AW.cond (by rfl) (fun hc2 => ?_) (fun hc2 => ?_)
      · skip
        exfalso; simp at hc2 <;> omega
      · skip
        refine AW.skip ?_
        refine AW.seq ?_
        refine AW.seq ?_
        refine AW.region ?_
        refine ao0 (em_move (by rfl) (by rfl)) (by rfl) (by rfl) ?_
        refine ao0 (em_move (by rfl) (by rfl)) (by rfl) (by rfl) ?_
        refine ao_callL [] [] (toByteS_ok nn l hl hnn hb) (by rfl) (by rfl) (by rfl) (by rfl) (by rfl) (by repeat' (first | exact True.intro | exact .inl ⟨by rfl, by rfl⟩ | exact rfl | exact .inr (.inl ⟨_, _, _, _, by rfl, by rfl⟩) | exact .inr (.inr ⟨_, _, _, _, _, _, by rfl, by rfl, by rfl, by first | exact .head _ | exact .tail _ (.head _) | exact .tail _ (.tail _ (.head _)) | exact .tail _ (.tail _ (.tail _ (.head _)))⟩) | refine And.intro ?_ ?_)) (by repeat' (first | exact True.intro | exact .inl ⟨by rfl, by rfl⟩ | exact rfl | exact .inl rfl | exact .inr (.inl ⟨_, _, _, _, by rfl, by rfl⟩) | exact .inr ⟨rfl, by simp [D.scalar, bD]⟩ | refine And.intro ?_ ?_)) (by rfl) (by rfl) (by rfl) (by decide) (by rfl) (by rfl) (by omega) (by first | rfl | (simp [keptB, notGone, (by rfl).live]; done)) (by rfl) (by rfl) (by rfl) (by rfl) (by rfl) (by rfl) (by rfl) ?_
        refine ao_callL [] [1, 2] (eqByteS_ok true true l l (by omega) (by omega) (by simp) (by simp)) (by rfl) (by rfl) (by rfl) (by rfl) (by rfl) (by repeat' (first | exact True.intro | exact .inl ⟨by rfl, by rfl⟩ | exact rfl | exact .inr (.inl ⟨_, _, _, _, by rfl, by rfl⟩) | exact .inr (.inr ⟨_, _, _, _, _, _, by rfl, by rfl, by rfl, by first | exact .head _ | exact .tail _ (.head _) | exact .tail _ (.tail _ (.head _)) | exact .tail _ (.tail _ (.tail _ (.head _)))⟩) | refine And.intro ?_ ?_)) (by repeat' (first | exact True.intro | exact .inl ⟨by rfl, by rfl⟩ | exact rfl | exact .inl rfl | exact .inr (.inl ⟨_, _, _, _, by rfl, by rfl⟩) | exact .inr ⟨rfl, by simp [D.scalar, bD]⟩ | refine And.intro ?_ ?_)) (by rfl) (by rfl) (by rfl) (by decide) (by rfl) (by rfl) (by omega) (by first | rfl | (simp [keptB, notGone, (by rfl).live]; done)) (by rfl) (by rfl) (by rfl) (by rfl) (by rfl) (by rfl) (by rfl) ?_
        refine ao0 (sem_unOp (by rfl) (by rfl) (by rfl)) (by rfl) (by rfl) ?_
        refine ao_nil (by first | dsimp only [setO, setE] | rfl) (by first | dsimp only [setM, setE, setR] | rfl) (by rfl) ?_
        refine AW.cond (by rfl) (fun hc3 => ?_) (fun hc3 => ?_)
        · skip
          exfalso; simp at hc3 <;> omega
        · skip
          refine AW.skip ?_
          refine AW.seq ?_
          refine AW.region ?_
          refine ao0 (em_assign (by rfl) (by rfl)) (by rfl) (by rfl) ?_
          refine ao_nil (by first | dsimp only [setO, setE] | rfl) (by first | dsimp only [setM, setE, setR] | rfl) (by rfl) ?_
          refine AW.seq ?_
          refine AW.region ?_
          refine ao0 (em_move (by rfl) (by rfl)) (by rfl) (by rfl) ?_
          refine ao0 (em_move (by rfl) (by rfl)) (by rfl) (by rfl) ?_
          refine ao_callL [1] [] (markB_ok true l 1 (by omega) (by omega) (by omega) (by simp)) (by rfl) (by rfl) (by rfl) (by rfl) (by rfl) (by repeat' (first | exact True.intro | exact .inl ⟨by rfl, by rfl⟩ | exact rfl | exact .inr (.inl ⟨_, _, _, _, by rfl, by rfl⟩) | exact .inr (.inr ⟨_, _, _, _, _, _, by rfl, by rfl, by rfl, by first | exact .head _ | exact .tail _ (.head _) | exact .tail _ (.tail _ (.head _)) | exact .tail _ (.tail _ (.tail _ (.head _)))⟩) | refine And.intro ?_ ?_)) (by repeat' (first | exact True.intro | exact .inl ⟨by rfl, by rfl⟩ | exact rfl | exact .inl rfl | exact .inr (.inl ⟨_, _, _, _, by rfl, by rfl⟩) | exact .inr ⟨rfl, by simp [D.scalar, bD]⟩ | refine And.intro ?_ ?_)) (by rfl) (by rfl) (by rfl) (by decide) (by rfl) (by rfl) (by omega) (by first | rfl | (simp [keptB, notGone, (by rfl).live]; done)) (by rfl) (by rfl) (by rfl) (by rfl) (by rfl) (by rfl) (by rfl) ?_
          refine ao0 (em_assign (by rfl) (by rfl)) (by rfl) (by rfl) ?_
          refine ao_nil (by first | dsimp only [setO, setE] | rfl) (by first | dsimp only [setM, setE, setR] | rfl) (by rfl) ?_
          refine AW.seq ?_
          refine AW.seq ?_
          refine AW.region ?_
          refine ao0 (em_move (by rfl) (by rfl)) (by rfl) (by rfl) ?_
          refine ao0 (em_binI (by rfl) (by rfl) (by rfl) (by rfl) (by first | rfl | trivial | exact ⟨rfl, by decide⟩ | exact ⟨rfl, by omega⟩ | decide | omega)) (by rfl) (by rfl) ?_
          refine ao0 (em_move (by rfl) (by rfl)) (by rfl) (by rfl) ?_
          refine ao0 (em_move (by rfl) (by rfl)) (by rfl) (by rfl) ?_
          refine ao0 (em_move (by rfl) (by rfl)) (by rfl) (by rfl) ?_
          refine ao_callL [] [] (hE) (by rfl) (by rfl) (by rfl) (by rfl) (by rfl) (by repeat' (first | exact True.intro | exact .inl ⟨by rfl, by rfl⟩ | exact rfl | exact .inr (.inl ⟨_, _, _, _, by rfl, by rfl⟩) | exact .inr (.inr ⟨_, _, _, _, _, _, by rfl, by rfl, by rfl, by first | exact .head _ | exact .tail _ (.head _) | exact .tail _ (.tail _ (.head _)) | exact .tail _ (.tail _ (.tail _ (.head _)))⟩) | refine And.intro ?_ ?_)) (by repeat' (first | exact True.intro | exact .inl ⟨by rfl, by rfl⟩ | exact rfl | exact .inl rfl | exact .inr (.inl ⟨_, _, _, _, by rfl, by rfl⟩) | exact .inr ⟨rfl, by simp [D.scalar, bD]⟩ | refine And.intro ?_ ?_)) (by rfl) (by rfl) (by rfl) (by decide) (by rfl) (by rfl) (by omega) (by first | rfl | (simp [keptB, notGone, (by rfl).live]; done)) (by rfl) (by rfl) (by rfl) (by rfl) (by rfl) (by rfl) (by rfl) ?_
          refine ao0 (sem_unOp (by rfl) (by rfl) (by rfl)) (by rfl) (by rfl) ?_
          refine ao0 (sem_pickg (by rfl) (by rfl) (by rfl) (by rfl) (by intro hh; first | rfl | exact hh | (exact Bool.noConfusion hh) | (simp [wexp]; done) | (simp [wexp] at hh; done) | (simpa [wexp] using hh) | (simp_all; done)) (by intro hh; first | rfl | exact hh | (exact Bool.noConfusion hh) | (simp [wexp]; done) | (simp [wexp] at hh; done) | (simpa [wexp] using hh) | (simp_all; done))) (by rfl) (by rfl) ?_
          refine ao0 (em_move (by rfl) (by rfl)) (by rfl) (by rfl) ?_
          refine ao0 (em_move (by rfl) (by rfl)) (by rfl) (by rfl) ?_
          refine ao0 (em_move (by rfl) (by rfl)) (by rfl) (by rfl) ?_
          refine ao0 (em_binI (by rfl) (by rfl) (by rfl) (by rfl) (by first | rfl | trivial | exact ⟨rfl, by decide⟩ | exact ⟨rfl, by omega⟩ | decide | omega)) (by rfl) (by rfl) ?_
          dsimp only [setO, setE]
          refine ao0 (sem_pickg (by rfl) (by rfl) (by rfl) (by rfl) (by intro hh; first | rfl | exact hh | (exact Bool.noConfusion hh) | (simp [wexp]; done) | (simp [wexp] at hh; done) | (simpa [wexp] using hh) | (simp_all; done)) (by intro hh; first | rfl | exact hh | (exact Bool.noConfusion hh) | (simp [wexp]; done) | (simp [wexp] at hh; done) | (simpa [wexp] using hh) | (simp_all; done))) (by rfl) (by rfl) ?_
          refine ao_nil (by first | dsimp only [setO, setE] | rfl) (by first | dsimp only [setM, setE, setR] | rfl) (by rfl) ?_
          refine AW.cond (by rfl) (fun hc4 => ?_) (fun hc4 => ?_)
          · skip
            exfalso; simp at hc4 <;> omega
          · skip
            refine AW.skip ?_
            refine AW.seq ?_
            refine AW.region ?_
            refine ao0 (em_assign (by rfl) (by rfl)) (by rfl) (by rfl) ?_
            refine ao_nil (by first | dsimp only [setO, setE] | rfl) (by first | dsimp only [setM, setE, setR] | rfl) (by rfl) ?_
            refine AW.seq ?_
            refine AW.region ?_
            refine ao0 (em_move (by rfl) (by rfl)) (by rfl) (by rfl) ?_
            refine ao0 (em_move (by rfl) (by rfl)) (by rfl) (by rfl) ?_
            refine ao_callL [] [] (markRecNil_ok 1) (by rfl) (by rfl) (by rfl) (by rfl) (by rfl) (by repeat' (first | exact True.intro | exact .inl ⟨by rfl, by rfl⟩ | exact rfl | exact .inr (.inl ⟨_, _, _, _, by rfl, by rfl⟩) | exact .inr (.inr ⟨_, _, _, _, _, _, by rfl, by rfl, by rfl, by first | exact .head _ | exact .tail _ (.head _) | exact .tail _ (.tail _ (.head _)) | exact .tail _ (.tail _ (.tail _ (.head _)))⟩) | refine And.intro ?_ ?_)) (by repeat' (first | exact True.intro | exact .inl ⟨by rfl, by rfl⟩ | exact rfl | exact .inl rfl | exact .inr (.inl ⟨_, _, _, _, by rfl, by rfl⟩) | exact .inr ⟨rfl, by simp [D.scalar, bD]⟩ | refine And.intro ?_ ?_)) (by rfl) (by rfl) (by rfl) (by decide) (by rfl) (by rfl) (by omega) (by first | rfl | (simp [keptB, notGone, (by rfl).live]; done)) (by rfl) (by rfl) (by rfl) (by rfl) (by rfl) (by rfl) (by rfl) ?_
            refine ao0 (em_assign (by rfl) (by rfl)) (by rfl) (by rfl) ?_
            refine ao_nil (by first | dsimp only [setO, setE] | rfl) (by first | dsimp only [setM, setE, setR] | rfl) (by rfl) ?_
            refine AW.seq ?_
            refine AW.region ?_
            refine ao0 (em_assign (by rfl) (by rfl)) (by rfl) (by rfl) ?_
            refine ao_nil (by first | dsimp only [setO, setE] | rfl) (by first | dsimp only [setM, setE, setR] | rfl) (by rfl) ?_
            refine AW.seq ?_
            refine AW.region ?_
            refine ao0 (em_move (by rfl) (by rfl)) (by rfl) (by rfl) ?_
            refine ao0 (em_move (by rfl) (by rfl)) (by rfl) (by rfl) ?_
            refine ao_callL [] [] (heldRecNil_ok 1) (by rfl) (by rfl) (by rfl) (by rfl) (by rfl) (by repeat' (first | exact True.intro | exact .inl ⟨by rfl, by rfl⟩ | exact rfl | exact .inr (.inl ⟨_, _, _, _, by rfl, by rfl⟩) | exact .inr (.inr ⟨_, _, _, _, _, _, by rfl, by rfl, by rfl, by first | exact .head _ | exact .tail _ (.head _) | exact .tail _ (.tail _ (.head _)) | exact .tail _ (.tail _ (.tail _ (.head _)))⟩) | refine And.intro ?_ ?_)) (by repeat' (first | exact True.intro | exact .inl ⟨by rfl, by rfl⟩ | exact rfl | exact .inl rfl | exact .inr (.inl ⟨_, _, _, _, by rfl, by rfl⟩) | exact .inr ⟨rfl, by simp [D.scalar, bD]⟩ | refine And.intro ?_ ?_)) (by rfl) (by rfl) (by rfl) (by decide) (by rfl) (by rfl) (by omega) (by first | rfl | (simp [keptB, notGone, (by rfl).live]; done)) (by rfl) (by rfl) (by rfl) (by rfl) (by rfl) (by rfl) (by rfl) ?_
            refine ao0 (em_assign (by rfl) (by rfl)) (by rfl) (by rfl) ?_
            refine ao_nil (by first | dsimp only [setO, setE] | rfl) (by first | dsimp only [setM, setE, setR] | rfl) (by rfl) ?_
            refine AW.seq ?_
            refine AW.seq ?_
            refine AW.region ?_
            refine ao0 (em_move (by rfl) (by rfl)) (by rfl) (by rfl) ?_
            refine ao0 (em_binI (by rfl) (by rfl) (by rfl) (by rfl) (by first | rfl | trivial | exact ⟨rfl, by decide⟩ | exact ⟨rfl, by omega⟩ | decide | omega)) (by rfl) (by rfl) ?_
            refine ao_nil (by first | dsimp only [setO, setE] | rfl) (by first | dsimp only [setM, setE, setR] | rfl) (by rfl) ?_
            refine AW.cond (by rfl) (fun hc5 => ?_) (fun hc5 => ?_)
            · skip
              exfalso; simp at hc5 <;> omega
            · skip
              refine AW.skip ?_
              refine AW.seq ?_
              refine AW.seq ?_
              refine AW.region ?_
              refine ao0 (em_move (by rfl) (by rfl)) (by rfl) (by rfl) ?_
              refine ao0 (em_move (by rfl) (by rfl)) (by rfl) (by rfl) ?_
              refine ao0 (em_binI (by rfl) (by rfl) (by rfl) (by rfl) (by first | rfl | trivial | exact ⟨rfl, by decide⟩ | exact ⟨rfl, by omega⟩ | decide | omega)) (by rfl) (by rfl) ?_
              refine ao_nil (by first | dsimp only [setO, setE] | rfl) (by first | dsimp only [setM, setE, setR] | rfl) (by rfl) ?_
              refine AW.cond (by rfl) (fun hc6 => ?_) (fun hc6 => ?_)
              · skip
                exfalso; simp at hc6 <;> omega
              · skip
                refine AW.skip ?_
                refine AW.seq ?_
                refine AW.region ?_
                refine ao0 (em_move (by rfl) (by rfl)) (by rfl) (by rfl) ?_
                refine ao_callL [] [] (toByteS_ok nn l hl hnn hb) (by rfl) (by rfl) (by rfl) (by rfl) (by rfl) (by repeat' (first | exact True.intro | exact .inl ⟨by rfl, by rfl⟩ | exact rfl | exact .inr (.inl ⟨_, _, _, _, by rfl, by rfl⟩) | exact .inr (.inr ⟨_, _, _, _, _, _, by rfl, by rfl, by rfl, by first | exact .head _ | exact .tail _ (.head _) | exact .tail _ (.tail _ (.head _)) | exact .tail _ (.tail _ (.tail _ (.head _)))⟩) | refine And.intro ?_ ?_)) (by repeat' (first | exact True.intro | exact .inl ⟨by rfl, by rfl⟩ | exact rfl | exact .inl rfl | exact .inr (.inl ⟨_, _, _, _, by rfl, by rfl⟩) | exact .inr ⟨rfl, by simp [D.scalar, bD]⟩ | refine And.intro ?_ ?_)) (by rfl) (by rfl) (by rfl) (by decide) (by rfl) (by rfl) (by omega) (by first | rfl | (simp [keptB, notGone, (by rfl).live]; done)) (by rfl) (by rfl) (by rfl) (by rfl) (by rfl) (by rfl) (by rfl) ?_
                refine ao_callL [] [3] (hI) (by rfl) (by rfl) (by rfl) (by rfl) (by rfl) (by repeat' (first | exact True.intro | exact .inl ⟨by rfl, by rfl⟩ | exact rfl | exact .inr (.inl ⟨_, _, _, _, by rfl, by rfl⟩) | exact .inr (.inr ⟨_, _, _, _, _, _, by rfl, by rfl, by rfl, by first | exact .head _ | exact .tail _ (.head _) | exact .tail _ (.tail _ (.head _)) | exact .tail _ (.tail _ (.tail _ (.head _)))⟩) | refine And.intro ?_ ?_)) (by repeat' (first | exact True.intro | exact .inl ⟨by rfl, by rfl⟩ | exact rfl | exact .inl rfl | exact .inr (.inl ⟨_, _, _, _, by rfl, by rfl⟩) | exact .inr ⟨rfl, by simp [D.scalar, bD]⟩ | refine And.intro ?_ ?_)) (by rfl) (by rfl) (by rfl) (by decide) (by rfl) (by rfl) (by omega) (by first | rfl | (simp [keptB, notGone, (by rfl).live]; done)) (by rfl) (by rfl) (by rfl) (by rfl) (by rfl) (by rfl) (by rfl) ?_
                refine ao0 (sem_move (.inl (by rfl))) (by rfl) (by rfl) ?_
                refine ao0 (sem_extract (by rfl) (by rfl) (by rfl)) (by rfl) (by rfl) ?_
                refine ao0 (sem_extract (by rfl) (by rfl) (by rfl)) (by rfl) (by rfl) ?_
                refine ao0 (em_assign (by rfl) (by rfl)) (by rfl) (by rfl) ?_
                refine ao0 (em_assign (by rfl) (by rfl)) (by rfl) (by rfl) ?_
                refine ao_nil (by first | dsimp only [setO, setE] | rfl) (by first | dsimp only [setM, setE, setR] | rfl) (by rfl) ?_
                refine AW.seq ?_
                refine AW.seq ?_
                refine AW.region ?_
                refine ao0 (em_move (by rfl) (by rfl)) (by rfl) (by rfl) ?_
                refine ao0 (em_move (by rfl) (by rfl)) (by rfl) (by rfl) ?_
                refine ao_callL [] [] (hE) (by rfl) (by rfl) (by rfl) (by rfl) (by rfl) (by repeat' (first | exact True.intro | exact .inl ⟨by rfl, by rfl⟩ | exact rfl | exact .inr (.inl ⟨_, _, _, _, by rfl, by rfl⟩) | exact .inr (.inr ⟨_, _, _, _, _, _, by rfl, by rfl, by rfl, by first | exact .head _ | exact .tail _ (.head _) | exact .tail _ (.tail _ (.head _)) | exact .tail _ (.tail _ (.tail _ (.head _)))⟩) | refine And.intro ?_ ?_)) (by repeat' (first | exact True.intro | exact .inl ⟨by rfl, by rfl⟩ | exact rfl | exact .inl rfl | exact .inr (.inl ⟨_, _, _, _, by rfl, by rfl⟩) | exact .inr ⟨rfl, by simp [D.scalar, bD]⟩ | refine And.intro ?_ ?_)) (by rfl) (by rfl) (by rfl) (by decide) (by rfl) (by rfl) (by omega) (by first | rfl | (simp [keptB, notGone, (by rfl).live]; done)) (by rfl) (by rfl) (by rfl) (by rfl) (by rfl) (by rfl) (by rfl) ?_
                refine ao0 (sem_unOp (by rfl) (by rfl) (by rfl)) (by rfl) (by rfl) ?_
                refine ao0 (em_move (by rfl) (by rfl)) (by rfl) (by rfl) ?_
                refine ao0 (em_move (by rfl) (by rfl)) (by rfl) (by rfl) ?_
                refine ao0 (em_move (by rfl) (by rfl)) (by rfl) (by rfl) ?_
                refine ao0 (em_binI (by rfl) (by rfl) (by rfl) (by rfl) (by first | rfl | trivial | exact ⟨rfl, by decide⟩ | exact ⟨rfl, by omega⟩ | decide | omega)) (by rfl) (by rfl) ?_
                refine ao0 (sem_pickg (by rfl) (by rfl) (by rfl) (by rfl) (by intro hh; first | rfl | exact hh | (exact Bool.noConfusion hh) | (simp [wexp]; done) | (simp [wexp] at hh; done) | (simpa [wexp] using hh) | (simp_all; done)) (by intro hh; first | rfl | exact hh | (exact Bool.noConfusion hh) | (simp [wexp]; done) | (simp [wexp] at hh; done) | (simpa [wexp] using hh) | (simp_all; done))) (by rfl) (by rfl) ?_
                refine ao_nil (by first | dsimp only [setO, setE] | rfl) (by first | dsimp only [setM, setE, setR] | rfl) (by rfl) ?_
                refine AW.cond (by rfl) (fun hc7 => ?_) (fun hc7 => ?_)
                · skip
                  exfalso; simp at hc7 <;> omega
                · skip
                  refine AW.skip ?_
                  refine AW.seq ?_
                  refine AW.region ?_
                  refine ao0 (em_assign (by rfl) (by rfl)) (by rfl) (by rfl) ?_
                  refine ao_nil (by first | dsimp only [setO, setE] | rfl) (by first | dsimp only [setM, setE, setR] | rfl) (by rfl) ?_
                  refine AW.seq ?_
                  refine AW.region ?_
                  refine ao0 (em_move (by rfl) (by rfl)) (by rfl) (by rfl) ?_
                  refine ao0 (em_move (by rfl) (by rfl)) (by rfl) (by rfl) ?_
                  refine ao_callL [] [] (heldRecNil_ok 1) (by rfl) (by rfl) (by rfl) (by rfl) (by rfl) (by repeat' (first | exact True.intro | exact .inl ⟨by rfl, by rfl⟩ | exact rfl | exact .inr (.inl ⟨_, _, _, _, by rfl, by rfl⟩) | exact .inr (.inr ⟨_, _, _, _, _, _, by rfl, by rfl, by rfl, by first | exact .head _ | exact .tail _ (.head _) | exact .tail _ (.tail _ (.head _)) | exact .tail _ (.tail _ (.tail _ (.head _)))⟩) | refine And.intro ?_ ?_)) (by repeat' (first | exact True.intro | exact .inl ⟨by rfl, by rfl⟩ | exact rfl | exact .inl rfl | exact .inr (.inl ⟨_, _, _, _, by rfl, by rfl⟩) | exact .inr ⟨rfl, by simp [D.scalar, bD]⟩ | refine And.intro ?_ ?_)) (by rfl) (by rfl) (by rfl) (by decide) (by rfl) (by rfl) (by omega) (by first | rfl | (simp [keptB, notGone, (by rfl).live]; done)) (by rfl) (by rfl) (by rfl) (by rfl) (by rfl) (by rfl) (by rfl) ?_
                  refine ao0 (em_assign (by rfl) (by rfl)) (by rfl) (by rfl) ?_
                  refine ao_nil (by first | dsimp only [setO, setE] | rfl) (by first | dsimp only [setM, setE, setR] | rfl) (by rfl) ?_
                  refine AW.seq ?_
                  refine AW.seq ?_
                  refine AW.region ?_
                  refine ao0 (em_move (by rfl) (by rfl)) (by rfl) (by rfl) ?_
                  refine ao0 (em_binI (by rfl) (by rfl) (by rfl) (by rfl) (by first | rfl | trivial | exact ⟨rfl, by decide⟩ | exact ⟨rfl, by omega⟩ | decide | omega)) (by rfl) (by rfl) ?_
                  refine ao_nil (by first | dsimp only [setO, setE] | rfl) (by first | dsimp only [setM, setE, setR] | rfl) (by rfl) ?_
                  refine AW.cond (by rfl) (fun hc8 => ?_) (fun hc8 => ?_)
                  · skip
                    exfalso; simp at hc8 <;> omega
                  · skip
                    refine AW.skip ?_
                    refine AW.seq ?_
                    refine AW.seq ?_
                    refine AW.region ?_
                    refine ao0 (em_move (by rfl) (by rfl)) (by rfl) (by rfl) ?_
                    refine ao0 (em_move (by rfl) (by rfl)) (by rfl) (by rfl) ?_
                    refine ao0 (em_binI (by rfl) (by rfl) (by rfl) (by rfl) (by first | rfl | trivial | exact ⟨rfl, by decide⟩ | exact ⟨rfl, by omega⟩ | decide | omega)) (by rfl) (by rfl) ?_
                    refine ao_nil (by first | dsimp only [setO, setE] | rfl) (by first | dsimp only [setM, setE, setR] | rfl) (by rfl) ?_
                    refine AW.cond (by rfl) (fun hc9 => ?_) (fun hc9 => ?_)
                    · skip
                      exfalso; simp at hc9 <;> omega
                    · skip
                      refine AW.skip ?_
                      refine AW.seq ?_
                      refine AW.region ?_
                      refine ao0 (em_assign (by rfl) (by rfl)) (by rfl) (by rfl) ?_
                      refine ao_nil (by first | dsimp only [setO, setE] | rfl) (by first | dsimp only [setM, setE, setR] | rfl) (by rfl) ?_
                      refine AW.ret ?_
                      refine retA_data (n := 0) rfl (by rfl) ?_ rfl rfl _ (.inr rfl)
                      exact pack_b rfl
  · have hI := iReadJournal_own true l (by omega) (by simp) hb
    have hS := sReadJournal_any true l (by simp) hb
    rw [rdX_short (by omega)] at hS
    have hxl : ((rdJ l).1.map toRI).length = (rdJ l).1.length := List.length_map ..
    obtain ⟨xs, hxs⟩ : ∃ xs, xs = (rdJ l).1.map toRI := ⟨_, rfl⟩
    dsimp only at hS
    unfold rowR at hI
    rw [← hxl] at hI
    rw [← hxs] at hS hI
    have hxb : xs.length ≤ 1048576 := by have := rdJ_len2 l; rw [hxs, hxl]; omega
    obtain ⟨nb, hnb⟩ : ∃ nb, nb = decide (0 < xs.length) := ⟨_, rfl⟩
    have hn1 : nb = false → xs = [] := fun h => dec_nilL (hnb.symm.trans h)
    have hn2 : nb = false → xs.length = 0 := fun h => by rw [hn1 h]; rfl
    rw [← hnb] at hI
    have hE := eqRecordS_ok nb (decide (l.length ≤ 200)) xs xs (by omega) (by omega) hn1 (fun h => by simp at h; omega)
    have hsc : ∀ d ∈ xs.flatMap rcdD, d.scalar = true := fun d hd => by
      obtain ⟨x, _, hx⟩ := List.mem_flatMap.1 hd
      simp [rcdD] at hx
      rcases hx with rfl | rfl | rfl <;> rfl
    refine fnOk_of' (k := 0) tyOk Try.func13 rfl (by kernel_rfl) Try.ntmps13 (by rw [Try.results13]) rfl (by simp only [List.length_cons, List.length_nil, Nat.reduceAdd, Nat.reduceSub, List.replicate_succ, List.replicate_zero, List.cons_append, List.nil_append]; rfl) (by simp) (by simp) (fun r hr => by simp at hr) fun base => ?_
    refine AW.seq ?_
    refine AW.region ?_
    refine ao0 (em_assign (by rfl) (by rfl)) (by rfl) (by rfl) ?_
    refine ao_nil (by first | dsimp only [setO, setE] | rfl) (by first | dsimp only [setM, setE, setR] | rfl) (by rfl) ?_
    refine AW.seq ?_
    refine AW.seq ?_
    refine AW.region ?_
    refine ao0 (em_move (by rfl) (by rfl)) (by rfl) (by rfl) ?_
    refine ao0 (sem_len tyOk (by rfl) (by rfl) (by rfl) (by rfl) (by first | exact .inl ⟨_, _, _, rfl⟩ | exact .inr ⟨_, _, rfl⟩)) (by rfl) (by rfl) ?_
    refine ao0 (em_binI (by rfl) (by rfl) (by rfl) (by rfl) (by first | rfl | trivial | exact ⟨rfl, by decide⟩ | exact ⟨rfl, by omega⟩ | decide | omega)) (by rfl) (by rfl) ?_
    refine ao_nil (by first | dsimp only [setO, setE] | rfl) (by first | dsimp only [setM, setE, setR] | rfl) (by rfl) ?_
    refine AW.cond (by rfl) (fun hc1 => ?_) (fun hc1 => ?_)
    · skip
      exfalso; simp at hc1 <;> omega
    · skip
      refine AW.skip ?_
      refine AW.seq ?_
      refine AW.region ?_
      refine ao0 (em_move (by rfl) (by rfl)) (by rfl) (by rfl) ?_
      refine ao_callL [] [] (toByteS_ok nn l hl hnn hb) (by rfl) (by rfl) (by rfl) (by rfl) (by rfl) (by repeat' (first | exact True.intro | exact .inl ⟨by rfl, by rfl⟩ | exact rfl | exact .inr (.inl ⟨_, _, _, _, by rfl, by rfl⟩) | exact .inr (.inr ⟨_, _, _, _, _, _, by rfl, by rfl, by rfl, by first | exact .head _ | exact .tail _ (.head _) | exact .tail _ (.tail _ (.head _)) | exact .tail _ (.tail _ (.tail _ (.head _)))⟩) | refine And.intro ?_ ?_)) (by repeat' (first | exact True.intro | exact .inl ⟨by rfl, by rfl⟩ | exact rfl | exact .inl rfl | exact .inr (.inl ⟨_, _, _, _, by rfl, by rfl⟩) | exact .inr ⟨rfl, by first | (simp [D.scalar, bD]; done) | assumption⟩ | refine And.intro ?_ ?_)) (by rfl) (by rfl) (by rfl) (by decide) (by rfl) (by rfl) (by omega) (by first | rfl | (simp [keptB, notGone, (by rfl).live]; done) | (cases nb <;> rfl)) (by rfl) (by rfl) (by rfl) (by rfl) (by rfl) (by rfl) (by rfl) ?_
      refine ao_callL [] [0] (hS) (by rfl) (by rfl) (by rfl) (by rfl) (by rfl) (by repeat' (first | exact True.intro | exact .inl ⟨by rfl, by rfl⟩ | exact rfl | exact .inr (.inl ⟨_, _, _, _, by rfl, by rfl⟩) | exact .inr (.inr ⟨_, _, _, _, _, _, by rfl, by rfl, by rfl, by first | exact .head _ | exact .tail _ (.head _) | exact .tail _ (.tail _ (.head _)) | exact .tail _ (.tail _ (.tail _ (.head _)))⟩) | refine And.intro ?_ ?_)) (by repeat' (first | exact True.intro | exact .inl ⟨by rfl, by rfl⟩ | exact rfl | exact .inl rfl | exact .inr (.inl ⟨_, _, _, _, by rfl, by rfl⟩) | exact .inr ⟨rfl, by first | (simp [D.scalar, bD]; done) | assumption⟩ | refine And.intro ?_ ?_)) (by rfl) (by rfl) (by rfl) (by decide) (by rfl) (by rfl) (by omega) (by first | rfl | (simp [keptB, notGone, (by rfl).live]; done) | (cases nb <;> rfl)) (by rfl) (by rfl) (by rfl) (by rfl) (by rfl) (by rfl) (by rfl) ?_
      refine ao0 (sem_move (.inl (by rfl))) (by rfl) (by rfl) ?_
      refine ao0 (sem_extract (by rfl) (by rfl) (by rfl)) (by rfl) (by rfl) ?_
      refine ao0 (sem_extract (by rfl) (by rfl) (by rfl)) (by rfl) (by rfl) ?_
      refine ao0 (em_assign (by rfl) (by rfl)) (by rfl) (by rfl) ?_
      refine ao0 (em_assign (by rfl) (by rfl)) (by rfl) (by rfl) ?_
      refine ao_nil (by first | dsimp only [setO, setE] | rfl) (by first | dsimp only [setM, setE, setR] | rfl) (by rfl) ?_
      refine AW.seq ?_
      refine AW.region ?_
      refine ao0 (em_move (by rfl) (by rfl)) (by rfl) (by rfl) ?_
      refine ao_callL [] [] (toByteS_ok nn l hl hnn hb) (by rfl) (by rfl) (by rfl) (by rfl) (by rfl) (by repeat' (first | exact True.intro | exact .inl ⟨by rfl, by rfl⟩ | exact rfl | exact .inr (.inl ⟨_, _, _, _, by rfl, by rfl⟩) | exact .inr (.inr ⟨_, _, _, _, _, _, by rfl, by rfl, by rfl, by first | exact .head _ | exact .tail _ (.head _) | exact .tail _ (.tail _ (.head _)) | exact .tail _ (.tail _ (.tail _ (.head _)))⟩) | refine And.intro ?_ ?_)) (by repeat' (first | exact True.intro | exact .inl ⟨by rfl, by rfl⟩ | exact rfl | exact .inl rfl | exact .inr (.inl ⟨_, _, _, _, by rfl, by rfl⟩) | exact .inr ⟨rfl, by first | (simp [D.scalar, bD]; done) | assumption⟩ | refine And.intro ?_ ?_)) (by rfl) (by rfl) (by rfl) (by decide) (by rfl) (by rfl) (by omega) (by first | rfl | (simp [keptB, notGone, (by rfl).live]; done) | (cases nb <;> rfl)) (by rfl) (by rfl) (by rfl) (by rfl) (by rfl) (by rfl) (by rfl) ?_
      refine ao0 (em_assign (by rfl) (by rfl)) (by rfl) (by rfl) ?_
      refine ao_nil (by first | dsimp only [setO, setE] | rfl) (by first | dsimp only [setM, setE, setR] | rfl) (by rfl) ?_
      refine AW.seq ?_
      refine AW.region ?_
      refine ao0 (em_move (by rfl) (by rfl)) (by rfl) (by rfl) ?_
      refine ao_callL [] [1] (hI) (by rfl) (by rfl) (by rfl) (by rfl) (by rfl) (by repeat' (first | exact True.intro | exact .inl ⟨by rfl, by rfl⟩ | exact rfl | exact .inr (.inl ⟨_, _, _, _, by rfl, by rfl⟩) | exact .inr (.inr ⟨_, _, _, _, _, _, by rfl, by rfl, by rfl, by first | exact .head _ | exact .tail _ (.head _) | exact .tail _ (.tail _ (.head _)) | exact .tail _ (.tail _ (.tail _ (.head _)))⟩) | refine And.intro ?_ ?_)) (by repeat' (first | exact True.intro | exact .inl ⟨by rfl, by rfl⟩ | exact rfl | exact .inl rfl | exact .inr (.inl ⟨_, _, _, _, by rfl, by rfl⟩) | exact .inr ⟨rfl, by first | (simp [D.scalar, bD]; done) | assumption⟩ | refine And.intro ?_ ?_)) (by rfl) (by rfl) (by rfl) (by decide) (by rfl) (by rfl) (by omega) (by first | rfl | (simp [keptB, notGone, (by rfl).live]; done) | (cases nb <;> rfl)) (by rfl) (by rfl) (by rfl) (by rfl) (by rfl) (by rfl) (by rfl) ?_
      refine ao0 (sem_move (.inl (by rfl))) (by rfl) (by rfl) ?_
      refine ao0 (sem_extract (by rfl) (by rfl) (by rfl)) (by rfl) (by rfl) ?_
      refine ao0 (sem_extract (by rfl) (by rfl) (by rfl)) (by rfl) (by rfl) ?_
      refine ao0 (em_assign (by rfl) (by rfl)) (by rfl) (by rfl) ?_
      refine ao0 (em_assign (by rfl) (by rfl)) (by rfl) (by rfl) ?_
      refine ao_nil (by first | dsimp only [setO, setE] | rfl) (by first | dsimp only [setM, setE, setR] | rfl) (by rfl) ?_
      refine AW.seq ?_
      refine AW.seq ?_
      refine AW.region ?_
      refine ao0 (em_move (by rfl) (by rfl)) (by rfl) (by rfl) ?_
      refine ao0 (em_move (by rfl) (by rfl)) (by rfl) (by rfl) ?_
      refine ao_callL [] [2] (hE) (by rfl) (by rfl) (by rfl) (by rfl) (by rfl) (by repeat' (first | exact True.intro | exact .inl ⟨by rfl, by rfl⟩ | exact rfl | exact .inr (.inl ⟨_, _, _, _, by rfl, by rfl⟩) | exact .inr (.inr ⟨_, _, _, _, _, _, by rfl, by rfl, by rfl, by first | exact .head _ | exact .tail _ (.head _) | exact .tail _ (.tail _ (.head _)) | exact .tail _ (.tail _ (.tail _ (.head _)))⟩) | refine And.intro ?_ ?_)) (by repeat' (first | exact True.intro | exact .inl ⟨by rfl, by rfl⟩ | exact rfl | exact .inl rfl | exact .inr (.inl ⟨_, _, _, _, by rfl, by rfl⟩) | exact .inr ⟨rfl, by first | (simp [D.scalar, bD]; done) | assumption⟩ | refine And.intro ?_ ?_)) (by rfl) (by rfl) (by rfl) (by decide) (by rfl) (by rfl) (by omega) (by first | rfl | (simp [keptB, notGone, (by rfl).live]; done) | (cases nb <;> rfl)) (by rfl) (by rfl) (by rfl) (by rfl) (by rfl) (by rfl) (by rfl) ?_
      refine ao0 (sem_unOp (by rfl) (by rfl) (by rfl)) (by rfl) (by rfl) ?_
      refine ao0 (em_move (by rfl) (by rfl)) (by rfl) (by rfl) ?_
      refine ao_opt (by rfl) (by rfl) (fun he => astep0 (em_move (by rfl) (by rfl))) ?_
      refine ao_opt (by rfl) (by rfl) (fun he => astep0 (em_move (by rfl) (by rfl))) ?_
      refine ao_opt (by rfl) (by rfl) (fun he => by rw [he]; exact astep0 (em_binI (by rfl) (by rfl) (by rfl) (by rfl) (by first | rfl | trivial | exact ⟨rfl, by decide⟩ | exact ⟨rfl, by omega⟩ | decide | omega))) ?_
      refine ao0 (sem_pickg (by rfl) (by rfl) (by rfl) (by rfl) (by intro hh; first | rfl | exact hh | (exact Bool.noConfusion hh) | (simp [wexp]; done) | (simp [wexp] at hh; done) | (simpa [wexp] using hh) | (simp_all; done)) (by intro hh; first | rfl | exact hh | (exact Bool.noConfusion hh) | (simp [wexp]; done) | (simp [wexp] at hh; done) | (simpa [wexp] using hh) | (simp_all; done))) (by rfl) (by rfl) ?_
      refine ao_nil (by first | dsimp only [setO, setE] | rfl) (by first | dsimp only [setM, setE, setR] | rfl) (by rfl) ?_
      refine AW.cond (by rfl) (fun hc2 => ?_) (fun hc2 => ?_)
      · skip
        exfalso; simp at hc2 <;> omega
      · skip
        refine AW.skip ?_
        refine AW.seq ?_
        refine AW.seq ?_
        refine AW.region ?_
        refine ao0 (em_move (by rfl) (by rfl)) (by rfl) (by rfl) ?_
        refine ao0 (em_move (by rfl) (by rfl)) (by rfl) (by rfl) ?_
        refine ao_callL [] [] (toByteS_ok nn l hl hnn hb) (by rfl) (by rfl) (by rfl) (by rfl) (by rfl) (by repeat' (first | exact True.intro | exact .inl ⟨by rfl, by rfl⟩ | exact rfl | exact .inr (.inl ⟨_, _, _, _, by rfl, by rfl⟩) | exact .inr (.inr ⟨_, _, _, _, _, _, by rfl, by rfl, by rfl, by first | exact .head _ | exact .tail _ (.head _) | exact .tail _ (.tail _ (.head _)) | exact .tail _ (.tail _ (.tail _ (.head _)))⟩) | refine And.intro ?_ ?_)) (by repeat' (first | exact True.intro | exact .inl ⟨by rfl, by rfl⟩ | exact rfl | exact .inl rfl | exact .inr (.inl ⟨_, _, _, _, by rfl, by rfl⟩) | exact .inr ⟨rfl, by first | (simp [D.scalar, bD]; done) | assumption⟩ | refine And.intro ?_ ?_)) (by rfl) (by rfl) (by rfl) (by decide) (by rfl) (by rfl) (by omega) (by first | rfl | (simp [keptB, notGone, (by rfl).live]; done) | (cases nb <;> rfl)) (by rfl) (by rfl) (by rfl) (by rfl) (by rfl) (by rfl) (by rfl) ?_
        refine ao_callL [] [1, 3] (eqByteS_ok true true l l (by omega) (by omega) (by simp) (by simp)) (by rfl) (by rfl) (by rfl) (by rfl) (by rfl) (by repeat' (first | exact True.intro | exact .inl ⟨by rfl, by rfl⟩ | exact rfl | exact .inr (.inl ⟨_, _, _, _, by rfl, by rfl⟩) | exact .inr (.inr ⟨_, _, _, _, _, _, by rfl, by rfl, by rfl, by first | exact .head _ | exact .tail _ (.head _) | exact .tail _ (.tail _ (.head _)) | exact .tail _ (.tail _ (.tail _ (.head _)))⟩) | refine And.intro ?_ ?_)) (by repeat' (first | exact True.intro | exact .inl ⟨by rfl, by rfl⟩ | exact rfl | exact .inl rfl | exact .inr (.inl ⟨_, _, _, _, by rfl, by rfl⟩) | exact .inr ⟨rfl, by first | (simp [D.scalar, bD]; done) | assumption⟩ | refine And.intro ?_ ?_)) (by rfl) (by rfl) (by rfl) (by decide) (by rfl) (by rfl) (by omega) (by first | rfl | (simp [keptB, notGone, (by rfl).live]; done) | (cases nb <;> rfl)) (by rfl) (by rfl) (by rfl) (by rfl) (by rfl) (by rfl) (by rfl) ?_
        refine ao0 (sem_unOp (by rfl) (by rfl) (by rfl)) (by rfl) (by rfl) ?_
        refine ao_nil (by first | dsimp only [setO, setE] | rfl) (by first | dsimp only [setM, setE, setR] | rfl) (by rfl) ?_
        refine AW.cond (by rfl) (fun hc3 => ?_) (fun hc3 => ?_)
        · skip
          exfalso; simp at hc3 <;> omega
        · skip
          refine AW.skip ?_
          refine AW.seq ?_
          refine AW.region ?_
          refine ao0 (em_assign (by rfl) (by rfl)) (by rfl) (by rfl) ?_
          refine ao_nil (by first | dsimp only [setO, setE] | rfl) (by first | dsimp only [setM, setE, setR] | rfl) (by rfl) ?_
          refine AW.seq ?_
          refine AW.region ?_
          refine ao0 (em_move (by rfl) (by rfl)) (by rfl) (by rfl) ?_
          refine ao0 (em_move (by rfl) (by rfl)) (by rfl) (by rfl) ?_
          refine ao_callL [1] [] (markB_ok true l 1 (by omega) (by omega) (by omega) (by simp)) (by rfl) (by rfl) (by rfl) (by rfl) (by rfl) (by repeat' (first | exact True.intro | exact .inl ⟨by rfl, by rfl⟩ | exact rfl | exact .inr (.inl ⟨_, _, _, _, by rfl, by rfl⟩) | exact .inr (.inr ⟨_, _, _, _, _, _, by rfl, by rfl, by rfl, by first | exact .head _ | exact .tail _ (.head _) | exact .tail _ (.tail _ (.head _)) | exact .tail _ (.tail _ (.tail _ (.head _)))⟩) | refine And.intro ?_ ?_)) (by repeat' (first | exact True.intro | exact .inl ⟨by rfl, by rfl⟩ | exact rfl | exact .inl rfl | exact .inr (.inl ⟨_, _, _, _, by rfl, by rfl⟩) | exact .inr ⟨rfl, by first | (simp [D.scalar, bD]; done) | assumption⟩ | refine And.intro ?_ ?_)) (by rfl) (by rfl) (by rfl) (by decide) (by rfl) (by rfl) (by omega) (by first | rfl | (simp [keptB, notGone, (by rfl).live]; done) | (cases nb <;> rfl)) (by rfl) (by rfl) (by rfl) (by rfl) (by rfl) (by rfl) (by rfl) ?_
          refine ao0 (em_assign (by rfl) (by rfl)) (by rfl) (by rfl) ?_
          refine ao_nil (by first | dsimp only [setO, setE] | rfl) (by first | dsimp only [setM, setE, setR] | rfl) (by rfl) ?_
          refine AW.seq ?_
          refine AW.seq ?_
          refine AW.region ?_
          refine ao0 (em_move (by rfl) (by rfl)) (by rfl) (by rfl) ?_
          refine ao0 (em_binI (by rfl) (by rfl) (by rfl) (by rfl) (by first | rfl | trivial | exact ⟨rfl, by decide⟩ | exact ⟨rfl, by omega⟩ | decide | omega)) (by rfl) (by rfl) ?_
          refine ao0 (em_move (by rfl) (by rfl)) (by rfl) (by rfl) ?_
          refine ao0 (em_move (by rfl) (by rfl)) (by rfl) (by rfl) ?_
          refine ao0 (em_move (by rfl) (by rfl)) (by rfl) (by rfl) ?_
          refine ao_callL [] [2] (hE) (by rfl) (by rfl) (by rfl) (by rfl) (by rfl) (by repeat' (first | exact True.intro | exact .inl ⟨by rfl, by rfl⟩ | exact rfl | exact .inr (.inl ⟨_, _, _, _, by rfl, by rfl⟩) | exact .inr (.inr ⟨_, _, _, _, _, _, by rfl, by rfl, by rfl, by first | exact .head _ | exact .tail _ (.head _) | exact .tail _ (.tail _ (.head _)) | exact .tail _ (.tail _ (.tail _ (.head _)))⟩) | refine And.intro ?_ ?_)) (by repeat' (first | exact True.intro | exact .inl ⟨by rfl, by rfl⟩ | exact rfl | exact .inl rfl | exact .inr (.inl ⟨_, _, _, _, by rfl, by rfl⟩) | exact .inr ⟨rfl, by first | (simp [D.scalar, bD]; done) | assumption⟩ | refine And.intro ?_ ?_)) (by rfl) (by rfl) (by rfl) (by decide) (by rfl) (by rfl) (by omega) (by first | rfl | (simp [keptB, notGone, (by rfl).live]; done) | (cases nb <;> rfl)) (by rfl) (by rfl) (by rfl) (by rfl) (by rfl) (by rfl) (by rfl) ?_
          refine ao0 (sem_unOp (by rfl) (by rfl) (by rfl)) (by rfl) (by rfl) ?_
          refine ao0 (sem_pickg (by rfl) (by rfl) (by rfl) (by rfl) (by intro hh; first | rfl | exact hh | (exact Bool.noConfusion hh) | (simp [wexp]; done) | (simp [wexp] at hh; done) | (simpa [wexp] using hh) | (simp_all; done)) (by intro hh; first | rfl | exact hh | (exact Bool.noConfusion hh) | (simp [wexp]; done) | (simp [wexp] at hh; done) | (simpa [wexp] using hh) | (simp_all; done))) (by rfl) (by rfl) ?_
          refine ao0 (em_move (by rfl) (by rfl)) (by rfl) (by rfl) ?_
          refine ao_opt (by rfl) (by rfl) (fun he => astep0 (em_move (by rfl) (by rfl))) ?_
          refine ao_opt (by rfl) (by rfl) (fun he => astep0 (em_move (by rfl) (by rfl))) ?_
          refine ao_opt (by rfl) (by rfl) (fun he => by rw [he]; exact astep0 (em_binI (by rfl) (by rfl) (by rfl) (by rfl) (by first | rfl | trivial | exact ⟨rfl, by decide⟩ | exact ⟨rfl, by omega⟩ | decide | omega))) ?_
          dsimp only [setO, setE]
          refine ao0 (sem_pickg (by rfl) (by rfl) (by rfl) (by rfl) (by intro hh; first | rfl | exact hh | (exact Bool.noConfusion hh) | (simp [wexp]; done) | (simp [wexp] at hh; done) | (simpa [wexp] using hh) | (simp_all; done)) (by intro hh; first | rfl | exact hh | (exact Bool.noConfusion hh) | (simp [wexp]; done) | (simp [wexp] at hh; done) | (simpa [wexp] using hh) | (simp_all; done))) (by rfl) (by rfl) ?_
          refine ao_nil (by first | dsimp only [setO, setE] | rfl) (by first | dsimp only [setM, setE, setR] | rfl) (by rfl) ?_
          refine AW.cond (by rfl) (fun hc4 => ?_) (fun hc4 => ?_)
          · skip
            exfalso; simp at hc4 <;> omega
          · skip
            refine AW.skip ?_
            refine AW.seq ?_
            refine AW.region ?_
            refine ao0 (em_assign (by rfl) (by rfl)) (by rfl) (by rfl) ?_
            refine ao_nil (by first | dsimp only [setO, setE] | rfl) (by first | dsimp only [setM, setE, setR] | rfl) (by rfl) ?_
            refine AW.seq ?_
            refine AW.region ?_
            refine ao0 (em_move (by rfl) (by rfl)) (by rfl) (by rfl) ?_
            refine ao0 (em_move (by rfl) (by rfl)) (by rfl) (by rfl) ?_
            refine ao_callL [2] [] (markRecordS_ok nb xs 1 (by omega) (by omega) (by omega) hn1) (by rfl) (by rfl) (by rfl) (by rfl) (by rfl) (by repeat' (first | exact True.intro | exact .inl ⟨by rfl, by rfl⟩ | exact rfl | exact .inr (.inl ⟨_, _, _, _, by rfl, by rfl⟩) | exact .inr (.inr ⟨_, _, _, _, _, _, by rfl, by rfl, by rfl, by first | exact .head _ | exact .tail _ (.head _) | exact .tail _ (.tail _ (.head _)) | exact .tail _ (.tail _ (.tail _ (.head _)))⟩) | refine And.intro ?_ ?_)) (by repeat' (first | exact True.intro | exact .inl ⟨by rfl, by rfl⟩ | exact rfl | exact .inl rfl | exact .inr (.inl ⟨_, _, _, _, by rfl, by rfl⟩) | exact .inr ⟨rfl, by first | (simp [D.scalar, bD]; done) | assumption⟩ | refine And.intro ?_ ?_)) (by rfl) (by rfl) (by rfl) (by decide) (by rfl) (by rfl) (by omega) (by first | rfl | (simp [keptB, notGone, (by rfl).live]; done) | (cases nb <;> rfl)) (by rfl) (by rfl) (by rfl) (by rfl) (by rfl) (by rfl) (by rfl) ?_
            refine ao0 (em_assign (by rfl) (by rfl)) (by rfl) (by rfl) ?_
            refine ao_nil (by first | dsimp only [setO, setE] | rfl) (by first | dsimp only [setM, setE, setR] | rfl) (by rfl) ?_
            refine AW.seq ?_
            refine AW.region ?_
            refine ao0 (em_assign (by rfl) (by rfl)) (by rfl) (by rfl) ?_
            refine ao_nil (by first | dsimp only [setO, setE] | rfl) (by first | dsimp only [setM, setE, setR] | rfl) (by rfl) ?_
            refine AW.seq ?_
            refine AW.region ?_
            refine ao0 (em_move (by rfl) (by rfl)) (by rfl) (by rfl) ?_
            refine ao0 (em_move (by rfl) (by rfl)) (by rfl) (by rfl) ?_
            refine ao_callL [] [2] (heldRecordS_ok nb xs.length 1 (by omega) (by omega) (by omega) hn2) (by rfl) (by rfl) (by rfl) (by rfl) (by rfl) (by repeat' (first | exact True.intro | exact .inl ⟨by rfl, by rfl⟩ | exact rfl | exact .inr (.inl ⟨_, _, _, _, by rfl, by rfl⟩) | exact .inr (.inr ⟨_, _, _, _, _, _, by rfl, by rfl, by rfl, by first | exact .head _ | exact .tail _ (.head _) | exact .tail _ (.tail _ (.head _)) | exact .tail _ (.tail _ (.tail _ (.head _)))⟩) | refine And.intro ?_ ?_)) (by repeat' (first | exact True.intro | exact .inl ⟨by rfl, by rfl⟩ | exact rfl | exact .inl rfl | exact .inr (.inl ⟨_, _, _, _, by rfl, by rfl⟩) | exact .inr ⟨rfl, by first | (simp [D.scalar, bD]; done) | assumption⟩ | refine And.intro ?_ ?_)) (by rfl) (by rfl) (by rfl) (by decide) (by rfl) (by rfl) (by omega) (by first | rfl | (simp [keptB, notGone, (by rfl).live]; done) | (cases nb <;> rfl)) (by rfl) (by rfl) (by rfl) (by rfl) (by rfl) (by rfl) (by rfl) ?_
            refine ao0 (em_assign (by rfl) (by rfl)) (by rfl) (by rfl) ?_
            refine ao_nil (by first | dsimp only [setO, setE] | rfl) (by first | dsimp only [setM, setE, setR] | rfl) (by rfl) ?_
            refine AW.seq ?_
            refine AW.seq ?_
            refine AW.region ?_
            refine ao0 (em_move (by rfl) (by rfl)) (by rfl) (by rfl) ?_
            refine ao0 (em_binI (by rfl) (by rfl) (by rfl) (by rfl) (by first | rfl | trivial | exact ⟨rfl, by decide⟩ | exact ⟨rfl, by omega⟩ | decide | omega)) (by rfl) (by rfl) ?_
            refine ao_nil (by first | dsimp only [setO, setE] | rfl) (by first | dsimp only [setM, setE, setR] | rfl) (by rfl) ?_
            refine AW.cond (by rfl) (fun hc5 => ?_) (fun hc5 => ?_)
            · skip
              exfalso; simp at hc5 <;> omega
            · skip
              refine AW.skip ?_
              refine AW.seq ?_
              refine AW.seq ?_
              refine AW.region ?_
              refine ao0 (em_move (by rfl) (by rfl)) (by rfl) (by rfl) ?_
              refine ao0 (em_move (by rfl) (by rfl)) (by rfl) (by rfl) ?_
              refine ao0 (em_binI (by rfl) (by rfl) (by rfl) (by rfl) (by first | rfl | trivial | exact ⟨rfl, by decide⟩ | exact ⟨rfl, by omega⟩ | decide | omega)) (by rfl) (by rfl) ?_
              refine ao_nil (by first | dsimp only [setO, setE] | rfl) (by first | dsimp only [setM, setE, setR] | rfl) (by rfl) ?_
              refine AW.cond (by rfl) (fun hc6 => ?_) (fun hc6 => ?_)
              · skip
                exfalso; simp at hc6 <;> omega
              · skip
                refine AW.skip ?_
                refine AW.seq ?_
                refine AW.region ?_
                refine ao0 (em_move (by rfl) (by rfl)) (by rfl) (by rfl) ?_
                refine ao_callL [] [] (toByteS_ok nn l hl hnn hb) (by rfl) (by rfl) (by rfl) (by rfl) (by rfl) (by repeat' (first | exact True.intro | exact .inl ⟨by rfl, by rfl⟩ | exact rfl | exact .inr (.inl ⟨_, _, _, _, by rfl, by rfl⟩) | exact .inr (.inr ⟨_, _, _, _, _, _, by rfl, by rfl, by rfl, by first | exact .head _ | exact .tail _ (.head _) | exact .tail _ (.tail _ (.head _)) | exact .tail _ (.tail _ (.tail _ (.head _)))⟩) | refine And.intro ?_ ?_)) (by repeat' (first | exact True.intro | exact .inl ⟨by rfl, by rfl⟩ | exact rfl | exact .inl rfl | exact .inr (.inl ⟨_, _, _, _, by rfl, by rfl⟩) | exact .inr ⟨rfl, by first | (simp [D.scalar, bD]; done) | assumption⟩ | refine And.intro ?_ ?_)) (by rfl) (by rfl) (by rfl) (by decide) (by rfl) (by rfl) (by omega) (by first | rfl | (simp [keptB, notGone, (by rfl).live]; done) | (cases nb <;> rfl)) (by rfl) (by rfl) (by rfl) (by rfl) (by rfl) (by rfl) (by rfl) ?_
                refine ao_callL [] [4] (hI) (by rfl) (by rfl) (by rfl) (by rfl) (by rfl) (by repeat' (first | exact True.intro | exact .inl ⟨by rfl, by rfl⟩ | exact rfl | exact .inr (.inl ⟨_, _, _, _, by rfl, by rfl⟩) | exact .inr (.inr ⟨_, _, _, _, _, _, by rfl, by rfl, by rfl, by first | exact .head _ | exact .tail _ (.head _) | exact .tail _ (.tail _ (.head _)) | exact .tail _ (.tail _ (.tail _ (.head _)))⟩) | refine And.intro ?_ ?_)) (by repeat' (first | exact True.intro | exact .inl ⟨by rfl, by rfl⟩ | exact rfl | exact .inl rfl | exact .inr (.inl ⟨_, _, _, _, by rfl, by rfl⟩) | exact .inr ⟨rfl, by first | (simp [D.scalar, bD]; done) | assumption⟩ | refine And.intro ?_ ?_)) (by rfl) (by rfl) (by rfl) (by decide) (by rfl) (by rfl) (by omega) (by first | rfl | (simp [keptB, notGone, (by rfl).live]; done) | (cases nb <;> rfl)) (by rfl) (by rfl) (by rfl) (by rfl) (by rfl) (by rfl) (by rfl) ?_
                refine ao0 (sem_move (.inl (by rfl))) (by rfl) (by rfl) ?_
                refine ao0 (sem_extract (by rfl) (by rfl) (by rfl)) (by rfl) (by rfl) ?_
                refine ao0 (sem_extract (by rfl) (by rfl) (by rfl)) (by rfl) (by rfl) ?_
                refine ao0 (em_assign (by rfl) (by rfl)) (by rfl) (by rfl) ?_
                refine ao0 (em_assign (by rfl) (by rfl)) (by rfl) (by rfl) ?_
                refine ao_nil (by first | dsimp only [setO, setE] | rfl) (by first | dsimp only [setM, setE, setR] | rfl) (by rfl) ?_
                refine AW.seq ?_
                refine AW.seq ?_
                refine AW.region ?_
                refine ao0 (em_move (by rfl) (by rfl)) (by rfl) (by rfl) ?_
                refine ao0 (em_move (by rfl) (by rfl)) (by rfl) (by rfl) ?_
                refine ao_callL [] [5] (hE) (by rfl) (by rfl) (by rfl) (by rfl) (by rfl) (by repeat' (first | exact True.intro | exact .inl ⟨by rfl, by rfl⟩ | exact rfl | exact .inr (.inl ⟨_, _, _, _, by rfl, by rfl⟩) | exact .inr (.inr ⟨_, _, _, _, _, _, by rfl, by rfl, by rfl, by first | exact .head _ | exact .tail _ (.head _) | exact .tail _ (.tail _ (.head _)) | exact .tail _ (.tail _ (.tail _ (.head _)))⟩) | refine And.intro ?_ ?_)) (by repeat' (first | exact True.intro | exact .inl ⟨by rfl, by rfl⟩ | exact rfl | exact .inl rfl | exact .inr (.inl ⟨_, _, _, _, by rfl, by rfl⟩) | exact .inr ⟨rfl, by first | (simp [D.scalar, bD]; done) | assumption⟩ | refine And.intro ?_ ?_)) (by rfl) (by rfl) (by rfl) (by decide) (by rfl) (by rfl) (by omega) (by first | rfl | (simp [keptB, notGone, (by rfl).live]; done) | (cases nb <;> rfl)) (by rfl) (by rfl) (by rfl) (by rfl) (by rfl) (by rfl) (by rfl) ?_
                refine ao0 (sem_unOp (by rfl) (by rfl) (by rfl)) (by rfl) (by rfl) ?_
                refine ao0 (em_move (by rfl) (by rfl)) (by rfl) (by rfl) ?_
                refine ao_opt (by rfl) (by rfl) (fun he => astep0 (em_move (by rfl) (by rfl))) ?_
                refine ao_opt (by rfl) (by rfl) (fun he => astep0 (em_move (by rfl) (by rfl))) ?_
                refine ao_opt (by rfl) (by rfl) (fun he => by rw [he]; exact astep0 (em_binI (by rfl) (by rfl) (by rfl) (by rfl) (by first | rfl | trivial | exact ⟨rfl, by decide⟩ | exact ⟨rfl, by omega⟩ | decide | omega))) ?_
                refine ao0 (sem_pickg (by rfl) (by rfl) (by rfl) (by rfl) (by intro hh; first | rfl | exact hh | (exact Bool.noConfusion hh) | (simp [wexp]; done) | (simp [wexp] at hh; done) | (simpa [wexp] using hh) | (simp_all; done)) (by intro hh; first | rfl | exact hh | (exact Bool.noConfusion hh) | (simp [wexp]; done) | (simp [wexp] at hh; done) | (simpa [wexp] using hh) | (simp_all; done))) (by rfl) (by rfl) ?_
                refine ao_nil (by first | dsimp only [setO, setE] | rfl) (by first | dsimp only [setM, setE, setR] | rfl) (by rfl) ?_
                refine AW.cond (by rfl) (fun hc7 => ?_) (fun hc7 => ?_)
                · skip
                  exfalso; simp at hc7 <;> omega
                · skip
                  refine AW.skip ?_
                  refine AW.seq ?_
                  refine AW.region ?_
                  refine ao0 (em_assign (by rfl) (by rfl)) (by rfl) (by rfl) ?_
                  refine ao_nil (by first | dsimp only [setO, setE] | rfl) (by first | dsimp only [setM, setE, setR] | rfl) (by rfl) ?_
                  refine AW.seq ?_
                  refine AW.region ?_
                  refine ao0 (em_move (by rfl) (by rfl)) (by rfl) (by rfl) ?_
                  refine ao0 (em_move (by rfl) (by rfl)) (by rfl) (by rfl) ?_
                  refine ao_callL [] [2] (heldRecordS_ok nb xs.length 1 (by omega) (by omega) (by omega) hn2) (by rfl) (by rfl) (by rfl) (by rfl) (by rfl) (by repeat' (first | exact True.intro | exact .inl ⟨by rfl, by rfl⟩ | exact rfl | exact .inr (.inl ⟨_, _, _, _, by rfl, by rfl⟩) | exact .inr (.inr ⟨_, _, _, _, _, _, by rfl, by rfl, by rfl, by first | exact .head _ | exact .tail _ (.head _) | exact .tail _ (.tail _ (.head _)) | exact .tail _ (.tail _ (.tail _ (.head _)))⟩) | refine And.intro ?_ ?_)) (by repeat' (first | exact True.intro | exact .inl ⟨by rfl, by rfl⟩ | exact rfl | exact .inl rfl | exact .inr (.inl ⟨_, _, _, _, by rfl, by rfl⟩) | exact .inr ⟨rfl, by first | (simp [D.scalar, bD]; done) | assumption⟩ | refine And.intro ?_ ?_)) (by rfl) (by rfl) (by rfl) (by decide) (by rfl) (by rfl) (by omega) (by first | rfl | (simp [keptB, notGone, (by rfl).live]; done) | (cases nb <;> rfl)) (by rfl) (by rfl) (by rfl) (by rfl) (by rfl) (by rfl) (by rfl) ?_
                  refine ao0 (em_assign (by rfl) (by rfl)) (by rfl) (by rfl) ?_
                  refine ao_nil (by first | dsimp only [setO, setE] | rfl) (by first | dsimp only [setM, setE, setR] | rfl) (by rfl) ?_
                  refine AW.seq ?_
                  refine AW.seq ?_
                  refine AW.region ?_
                  refine ao0 (em_move (by rfl) (by rfl)) (by rfl) (by rfl) ?_
                  refine ao0 (em_binI (by rfl) (by rfl) (by rfl) (by rfl) (by first | rfl | trivial | exact ⟨rfl, by decide⟩ | exact ⟨rfl, by omega⟩ | decide | omega)) (by rfl) (by rfl) ?_
                  refine ao_nil (by first | dsimp only [setO, setE] | rfl) (by first | dsimp only [setM, setE, setR] | rfl) (by rfl) ?_
                  refine AW.cond (by rfl) (fun hc8 => ?_) (fun hc8 => ?_)
                  · skip
                    exfalso; simp at hc8 <;> omega
                  · skip
                    refine AW.skip ?_
                    refine AW.seq ?_
                    refine AW.seq ?_
                    refine AW.region ?_
                    refine ao0 (em_move (by rfl) (by rfl)) (by rfl) (by rfl) ?_
                    refine ao0 (em_move (by rfl) (by rfl)) (by rfl) (by rfl) ?_
                    refine ao0 (em_binI (by rfl) (by rfl) (by rfl) (by rfl) (by first | rfl | trivial | exact ⟨rfl, by decide⟩ | exact ⟨rfl, by omega⟩ | decide | omega)) (by rfl) (by rfl) ?_
                    refine ao_nil (by first | dsimp only [setO, setE] | rfl) (by first | dsimp only [setM, setE, setR] | rfl) (by rfl) ?_
                    refine AW.cond (by rfl) (fun hc9 => ?_) (fun hc9 => ?_)
                    · skip
                      exfalso; simp at hc9 <;> omega
                    · skip
                      refine AW.skip ?_
                      refine AW.seq ?_
                      refine AW.region ?_
                      refine ao0 (em_assign (by rfl) (by rfl)) (by rfl) (by rfl) ?_
                      refine ao_nil (by first | dsimp only [setO, setE] | rfl) (by first | dsimp only [setM, setE, setR] | rfl) (by rfl) ?_
                      refine AW.ret ?_
                      refine retA_data (n := 0) rfl (by rfl) ?_ rfl rfl _ (.inr rfl)
                      exact pack_b rfl
set_option maxHeartbeats 2000000 in
theorem FnExactWriteJournal_ok (nn : Bool) (xs : List rcdT) (hnn : nn = false → xs = []) (hlx : xs.length ≤ 9223372036854775807) : FnOk Try.prog noG 9 [.v false [.sl false nn xs.length (xs.flatMap rcdD)]] [] (.v false [.b true]) [] := by
  have hsz := szRecordS_ok nn xs 1048576 (by decide) (by decide) hlx
  by_cases hbig : (1048576 : Int) < xs.length
  · rw [if_pos hbig] at hsz
    refine fnOk_of' (k := 0) tyOk Try.func9 rfl (by kernel_rfl) Try.ntmps9 (by rw [Try.results9]) rfl (by simp only [List.length_cons, List.length_nil, Nat.reduceAdd, Nat.reduceSub, List.replicate_succ, List.replicate_zero, List.cons_append, List.nil_append]; rfl) (by simp) (by simp) (fun r hr => by simp at hr) fun base => ?_
    refine AW.seq ?_
    refine AW.region ?_
    refine ao0 (em_assign (by rfl) (by rfl)) (by rfl) (by rfl) ?_
    refine ao_nil (by first | dsimp only [setO, setE] | rfl) (by first | dsimp only [setM, setE, setR] | rfl) (by rfl) ?_
    refine AW.seq ?_
    refine AW.region ?_
    refine ao0 (em_assign (by rfl) (by rfl)) (by rfl) (by rfl) ?_
    refine ao_nil (by first | dsimp only [setO, setE] | rfl) (by first | dsimp only [setM, setE, setR] | rfl) (by rfl) ?_
    refine AW.seq ?_
    refine AW.region ?_
    refine ao0 (em_move (by rfl) (by rfl)) (by rfl) (by rfl) ?_
    refine ao0 (em_move (by rfl) (by rfl)) (by rfl) (by rfl) ?_
    refine ao_callL [] [] (hsz) (by rfl) (by rfl) (by rfl) (by rfl) (by rfl) (by repeat' (first | exact True.intro | exact .inl ⟨by rfl, by rfl⟩ | exact rfl | exact .inr (.inl ⟨_, _, _, _, by rfl, by rfl⟩) | exact .inr (.inr ⟨_, _, _, _, _, _, by rfl, by rfl, by rfl, by first | exact .head _ | exact .tail _ (.head _) | exact .tail _ (.tail _ (.head _)) | exact .tail _ (.tail _ (.tail _ (.head _)))⟩) | refine And.intro ?_ ?_)) (by repeat' (first | exact True.intro | exact .inl ⟨by rfl, by rfl⟩ | exact rfl | exact .inl rfl | exact .inr (.inl ⟨_, _, _, _, by rfl, by rfl⟩) | exact .inr ⟨rfl, by simp [D.scalar, bD]⟩ | refine And.intro ?_ ?_)) (by rfl) (by rfl) (by rfl) (by decide) (by rfl) (by rfl) (by omega) (by first | rfl | (simp [keptB, notGone, (by rfl).live]; done)) (by rfl) (by rfl) (by rfl) (by rfl) (by rfl) (by rfl) (by rfl) ?_
    refine ao0 (em_assign (by rfl) (by rfl)) (by rfl) (by rfl) ?_
    refine ao_nil (by first | dsimp only [setO, setE] | rfl) (by first | dsimp only [setM, setE, setR] | rfl) (by rfl) ?_
    refine AW.seq ?_
    refine AW.seq ?_
    refine AW.region ?_
    refine ao0 (em_move (by rfl) (by rfl)) (by rfl) (by rfl) ?_
    refine ao0 (em_binI (by rfl) (by rfl) (by rfl) (by rfl) (by first | rfl | trivial | exact ⟨rfl, by decide⟩ | exact ⟨rfl, by omega⟩ | decide | omega)) (by rfl) (by rfl) ?_
    refine ao_nil (by first | dsimp only [setO, setE] | rfl) (by first | dsimp only [setM, setE, setR] | rfl) (by rfl) ?_
    refine AW.cond (by rfl) (fun hc1 => ?_) (fun hc1 => ?_)
    · skip
      refine AW.seq ?_
      refine AW.region ?_
      refine ao0 (em_assign (by rfl) (by rfl)) (by rfl) (by rfl) ?_
      refine ao_nil (by first | dsimp only [setO, setE] | rfl) (by first | dsimp only [setM, setE, setR] | rfl) (by rfl) ?_
      refine AW.ret ?_
      refine retA_data (n := 0) rfl (by rfl) ?_ rfl rfl _ (.inr rfl)
      exact pack_b rfl
    · skip
      exfalso; simp at hc1
  · rw [if_neg hbig] at hsz
    have hl : xs.length ≤ 1048576 := by omega
    have hsc : ∀ d ∈ xs.flatMap rcdD, d.scalar = true := fun d hd => by
      obtain ⟨x, _, hx⟩ := List.mem_flatMap.1 hd
      simp [rcdD] at hx
      rcases hx with rfl | rfl | rfl <;> rfl
    have hR := eqRecordS_ok true true xs xs (by omega) (by omega) (by simp) (by simp)
    have hT := toRecordS_ok nn xs hl hnn
    have hMR := markRecordS_ok true xs 1 (by omega) (by omega) (by omega) (by simp)
    by_cases hok : wrOk xs = true
    · have hI := iWriteJournal_own true xs hl (by simp) hok
      have hS := sWriteJournal_any true xs hl (by simp)
      rw [wrL_ok hok, hok] at hS
      have hbd := wrF_bd xs
      have hlen := ((wrOk_iff xs).1 hok).2
      obtain ⟨L, hL⟩ : ∃ L, L = wrF xs := ⟨_, rfl⟩
      rw [← hL] at hI hS hbd hlen
      obtain ⟨nb, hnb⟩ : ∃ nb, nb = decide (0 < L.length) := ⟨_, rfl⟩
      have hn1 : nb = false → L = [] := fun h => dec_nilL (hnb.symm.trans h)
      have hn2 : nb = false → L.length = 0 := fun h => by rw [hn1 h]; rfl
      rw [← hnb] at hI
      have hE := eqByteS_ok nb true L L (by omega) (by omega) hn1 (by simp)
      have hM := markB_ok nb L 1 (by omega) (by omega) (by omega) hn1
      have hH := heldB_ok nb L.length 1 (by omega) (by omega) (by omega) hn2
      refine fnOk_of' (k := 0) tyOk Try.func9 rfl (by kernel_rfl) Try.ntmps9 (by rw [Try.results9]) rfl (by simp only [List.length_cons, List.length_nil, Nat.reduceAdd, Nat.reduceSub, List.replicate_succ, List.replicate_zero, List.cons_append, List.nil_append]; rfl) (by simp) (by simp) (fun r hr => by simp at hr) fun base => ?_
      refine AW.seq ?_
      refine AW.region ?_
      refine ao0 (em_assign (by rfl) (by rfl)) (by rfl) (by rfl) ?_
      refine ao_nil (by first | dsimp only [setO, setE] | rfl) (by first | dsimp only [setM, setE, setR] | rfl) (by rfl) ?_
      refine AW.seq ?_
      refine AW.region ?_
      refine ao0 (em_assign (by rfl) (by rfl)) (by rfl) (by rfl) ?_
      refine ao_nil (by first | dsimp only [setO, setE] | rfl) (by first | dsimp only [setM, setE, setR] | rfl) (by rfl) ?_
      refine AW.seq ?_
      refine AW.region ?_
      refine ao0 (em_move (by rfl) (by rfl)) (by rfl) (by rfl) ?_
      refine ao0 (em_move (by rfl) (by rfl)) (by rfl) (by rfl) ?_
      refine ao_callL [] [] (hsz) (by rfl) (by rfl) (by rfl) (by rfl) (by rfl) (by repeat' (first | exact True.intro | exact .inl ⟨by rfl, by rfl⟩ | exact rfl | exact .inr (.inl ⟨_, _, _, _, by rfl, by rfl⟩) | exact .inr (.inr ⟨_, _, _, _, _, _, by rfl, by rfl, by rfl, by first | exact .head _ | exact .tail _ (.head _) | exact .tail _ (.tail _ (.head _)) | exact .tail _ (.tail _ (.tail _ (.head _)))⟩) | refine And.intro ?_ ?_)) (by repeat' (first | exact True.intro | exact .inl ⟨by rfl, by rfl⟩ | exact rfl | exact .inl rfl | exact .inr (.inl ⟨_, _, _, _, by rfl, by rfl⟩) | exact .inr ⟨rfl, by first | (simp [D.scalar, bD]; done) | assumption⟩ | refine And.intro ?_ ?_)) (by rfl) (by rfl) (by rfl) (by decide) (by rfl) (by rfl) (by omega) (by first | rfl | (simp [keptB, notGone, (by rfl).live]; done) | (cases nb <;> rfl)) (by rfl) (by rfl) (by rfl) (by rfl) (by rfl) (by rfl) (by rfl) ?_
      refine ao0 (em_assign (by rfl) (by rfl)) (by rfl) (by rfl) ?_
      refine ao_nil (by first | dsimp only [setO, setE] | rfl) (by first | dsimp only [setM, setE, setR] | rfl) (by rfl) ?_
      refine AW.seq ?_
      refine AW.seq ?_
      refine AW.region ?_
      refine ao0 (em_move (by rfl) (by rfl)) (by rfl) (by rfl) ?_
      refine ao0 (em_binI (by rfl) (by rfl) (by rfl) (by rfl) (by first | rfl | trivial | exact ⟨rfl, by decide⟩ | exact ⟨rfl, by omega⟩ | decide | omega)) (by rfl) (by rfl) ?_
      refine ao_nil (by first | dsimp only [setO, setE] | rfl) (by first | dsimp only [setM, setE, setR] | rfl) (by rfl) ?_
      refine AW.cond (by rfl) (fun hc1 => ?_) (fun hc1 => ?_)
      · skip
        exfalso; simp at hc1 <;> omega
      · skip
        refine AW.skip ?_
        refine AW.seq ?_
        refine AW.region ?_
        refine ao0 (em_move (by rfl) (by rfl)) (by rfl) (by rfl) ?_
        refine ao_callL [] [] (hT) (by rfl) (by rfl) (by rfl) (by rfl) (by rfl) (by repeat' (first | exact True.intro | exact .inl ⟨by rfl, by rfl⟩ | exact rfl | exact .inr (.inl ⟨_, _, _, _, by rfl, by rfl⟩) | exact .inr (.inr ⟨_, _, _, _, _, _, by rfl, by rfl, by rfl, by first | exact .head _ | exact .tail _ (.head _) | exact .tail _ (.tail _ (.head _)) | exact .tail _ (.tail _ (.tail _ (.head _)))⟩) | refine And.intro ?_ ?_)) (by repeat' (first | exact True.intro | exact .inl ⟨by rfl, by rfl⟩ | exact rfl | exact .inl rfl | exact .inr (.inl ⟨_, _, _, _, by rfl, by rfl⟩) | exact .inr ⟨rfl, by first | (simp [D.scalar, bD]; done) | assumption⟩ | refine And.intro ?_ ?_)) (by rfl) (by rfl) (by rfl) (by decide) (by rfl) (by rfl) (by omega) (by first | rfl | (simp [keptB, notGone, (by rfl).live]; done) | (cases nb <;> rfl)) (by rfl) (by rfl) (by rfl) (by rfl) (by rfl) (by rfl) (by rfl) ?_
        refine ao_callL [] [0] (hS) (by rfl) (by rfl) (by rfl) (by rfl) (by rfl) (by repeat' (first | exact True.intro | exact .inl ⟨by rfl, by rfl⟩ | exact rfl | exact .inr (.inl ⟨_, _, _, _, by rfl, by rfl⟩) | exact .inr (.inr ⟨_, _, _, _, _, _, by rfl, by rfl, by rfl, by first | exact .head _ | exact .tail _ (.head _) | exact .tail _ (.tail _ (.head _)) | exact .tail _ (.tail _ (.tail _ (.head _)))⟩) | refine And.intro ?_ ?_)) (by repeat' (first | exact True.intro | exact .inl ⟨by rfl, by rfl⟩ | exact rfl | exact .inl rfl | exact .inr (.inl ⟨_, _, _, _, by rfl, by rfl⟩) | exact .inr ⟨rfl, by first | (simp [D.scalar, bD]; done) | assumption⟩ | refine And.intro ?_ ?_)) (by rfl) (by rfl) (by rfl) (by decide) (by rfl) (by rfl) (by omega) (by first | rfl | (simp [keptB, notGone, (by rfl).live]; done) | (cases nb <;> rfl)) (by rfl) (by rfl) (by rfl) (by rfl) (by rfl) (by rfl) (by rfl) ?_
        refine ao0 (sem_move (.inl (by rfl))) (by rfl) (by rfl) ?_
        refine ao0 (sem_extract (by rfl) (by rfl) (by rfl)) (by rfl) (by rfl) ?_
        refine ao0 (sem_extract (by rfl) (by rfl) (by rfl)) (by rfl) (by rfl) ?_
        refine ao0 (em_assign (by rfl) (by rfl)) (by rfl) (by rfl) ?_
        refine ao0 (em_assign (by rfl) (by rfl)) (by rfl) (by rfl) ?_
        refine ao_nil (by first | dsimp only [setO, setE] | rfl) (by first | dsimp only [setM, setE, setR] | rfl) (by rfl) ?_
        refine AW.seq ?_
        refine AW.region ?_
        refine ao0 (em_move (by rfl) (by rfl)) (by rfl) (by rfl) ?_
        refine ao_callL [] [] (hT) (by rfl) (by rfl) (by rfl) (by rfl) (by rfl) (by repeat' (first | exact True.intro | exact .inl ⟨by rfl, by rfl⟩ | exact rfl | exact .inr (.inl ⟨_, _, _, _, by rfl, by rfl⟩) | exact .inr (.inr ⟨_, _, _, _, _, _, by rfl, by rfl, by rfl, by first | exact .head _ | exact .tail _ (.head _) | exact .tail _ (.tail _ (.head _)) | exact .tail _ (.tail _ (.tail _ (.head _)))⟩) | refine And.intro ?_ ?_)) (by repeat' (first | exact True.intro | exact .inl ⟨by rfl, by rfl⟩ | exact rfl | exact .inl rfl | exact .inr (.inl ⟨_, _, _, _, by rfl, by rfl⟩) | exact .inr ⟨rfl, by first | (simp [D.scalar, bD]; done) | assumption⟩ | refine And.intro ?_ ?_)) (by rfl) (by rfl) (by rfl) (by decide) (by rfl) (by rfl) (by omega) (by first | rfl | (simp [keptB, notGone, (by rfl).live]; done) | (cases nb <;> rfl)) (by rfl) (by rfl) (by rfl) (by rfl) (by rfl) (by rfl) (by rfl) ?_
        refine ao0 (em_assign (by rfl) (by rfl)) (by rfl) (by rfl) ?_
        refine ao_nil (by first | dsimp only [setO, setE] | rfl) (by first | dsimp only [setM, setE, setR] | rfl) (by rfl) ?_
        refine AW.seq ?_
        refine AW.region ?_
        refine ao0 (em_move (by rfl) (by rfl)) (by rfl) (by rfl) ?_
        refine ao_callL [] [1] (hI) (by rfl) (by rfl) (by rfl) (by rfl) (by rfl) (by repeat' (first | exact True.intro | exact .inl ⟨by rfl, by rfl⟩ | exact rfl | exact .inr (.inl ⟨_, _, _, _, by rfl, by rfl⟩) | exact .inr (.inr ⟨_, _, _, _, _, _, by rfl, by rfl, by rfl, by first | exact .head _ | exact .tail _ (.head _) | exact .tail _ (.tail _ (.head _)) | exact .tail _ (.tail _ (.tail _ (.head _)))⟩) | refine And.intro ?_ ?_)) (by repeat' (first | exact True.intro | exact .inl ⟨by rfl, by rfl⟩ | exact rfl | exact .inl rfl | exact .inr (.inl ⟨_, _, _, _, by rfl, by rfl⟩) | exact .inr ⟨rfl, by first | (simp [D.scalar, bD]; done) | assumption⟩ | refine And.intro ?_ ?_)) (by rfl) (by rfl) (by rfl) (by decide) (by rfl) (by rfl) (by omega) (by first | rfl | (simp [keptB, notGone, (by rfl).live]; done) | (cases nb <;> rfl)) (by rfl) (by rfl) (by rfl) (by rfl) (by rfl) (by rfl) (by rfl) ?_
        refine ao0 (sem_move (.inl (by rfl))) (by rfl) (by rfl) ?_
        refine ao0 (sem_extract (by rfl) (by rfl) (by rfl)) (by rfl) (by rfl) ?_
        refine ao0 (sem_extract (by rfl) (by rfl) (by rfl)) (by rfl) (by rfl) ?_
        refine ao0 (em_assign (by rfl) (by rfl)) (by rfl) (by rfl) ?_
        refine ao0 (em_assign (by rfl) (by rfl)) (by rfl) (by rfl) ?_
        refine ao_nil (by first | dsimp only [setO, setE] | rfl) (by first | dsimp only [setM, setE, setR] | rfl) (by rfl) ?_
        refine AW.seq ?_
        refine AW.seq ?_
        refine AW.region ?_
        refine ao0 (em_move (by rfl) (by rfl)) (by rfl) (by rfl) ?_
        refine ao0 (em_move (by rfl) (by rfl)) (by rfl) (by rfl) ?_
        refine ao_callL [] [2] (hE) (by rfl) (by rfl) (by rfl) (by rfl) (by rfl) (by repeat' (first | exact True.intro | exact .inl ⟨by rfl, by rfl⟩ | exact rfl | exact .inr (.inl ⟨_, _, _, _, by rfl, by rfl⟩) | exact .inr (.inr ⟨_, _, _, _, _, _, by rfl, by rfl, by rfl, by first | exact .head _ | exact .tail _ (.head _) | exact .tail _ (.tail _ (.head _)) | exact .tail _ (.tail _ (.tail _ (.head _)))⟩) | refine And.intro ?_ ?_)) (by repeat' (first | exact True.intro | exact .inl ⟨by rfl, by rfl⟩ | exact rfl | exact .inl rfl | exact .inr (.inl ⟨_, _, _, _, by rfl, by rfl⟩) | exact .inr ⟨rfl, by first | (simp [D.scalar, bD]; done) | assumption⟩ | refine And.intro ?_ ?_)) (by rfl) (by rfl) (by rfl) (by decide) (by rfl) (by rfl) (by omega) (by first | rfl | (simp [keptB, notGone, (by rfl).live]; done) | (cases nb <;> rfl)) (by rfl) (by rfl) (by rfl) (by rfl) (by rfl) (by rfl) (by rfl) ?_
        refine ao0 (sem_unOp (by rfl) (by rfl) (by rfl)) (by rfl) (by rfl) ?_
        refine ao0 (em_move (by rfl) (by rfl)) (by rfl) (by rfl) ?_
        refine ao_opt (by rfl) (by rfl) (fun he => astep0 (em_move (by rfl) (by rfl))) ?_
        refine ao_opt (by rfl) (by rfl) (fun he => astep0 (em_move (by rfl) (by rfl))) ?_
        refine ao_opt (by rfl) (by rfl) (fun he => by rw [he]; exact astep0 (sem_binB tyOk (by rfl) (by rfl) (by rfl) (by rfl) (by rfl) (by rfl))) ?_
        refine ao0 (sem_pickg (by rfl) (by rfl) (by rfl) (by rfl) (by intro hh; first | rfl | exact hh | (exact Bool.noConfusion hh) | (simp [wexp]; done) | (simp [wexp] at hh; done) | (simpa [wexp] using hh) | (simp_all; done)) (by intro hh; first | rfl | exact hh | (exact Bool.noConfusion hh) | (simp [wexp]; done) | (simp [wexp] at hh; done) | (simpa [wexp] using hh) | (simp_all; done))) (by rfl) (by rfl) ?_
        refine ao_nil (by first | dsimp only [setO, setE] | rfl) (by first | dsimp only [setM, setE, setR] | rfl) (by rfl) ?_
        refine AW.cond (by rfl) (fun hc2 => ?_) (fun hc2 => ?_)
        · skip
          exfalso; simp at hc2 <;> omega
        · skip
          refine AW.skip ?_
          refine AW.seq ?_
          refine AW.seq ?_
          refine AW.region ?_
          refine ao0 (em_move (by rfl) (by rfl)) (by rfl) (by rfl) ?_
          refine ao0 (em_move (by rfl) (by rfl)) (by rfl) (by rfl) ?_
          refine ao_callL [] [] (hT) (by rfl) (by rfl) (by rfl) (by rfl) (by rfl) (by repeat' (first | exact True.intro | exact .inl ⟨by rfl, by rfl⟩ | exact rfl | exact .inr (.inl ⟨_, _, _, _, by rfl, by rfl⟩) | exact .inr (.inr ⟨_, _, _, _, _, _, by rfl, by rfl, by rfl, by first | exact .head _ | exact .tail _ (.head _) | exact .tail _ (.tail _ (.head _)) | exact .tail _ (.tail _ (.tail _ (.head _)))⟩) | refine And.intro ?_ ?_)) (by repeat' (first | exact True.intro | exact .inl ⟨by rfl, by rfl⟩ | exact rfl | exact .inl rfl | exact .inr (.inl ⟨_, _, _, _, by rfl, by rfl⟩) | exact .inr ⟨rfl, by first | (simp [D.scalar, bD]; done) | assumption⟩ | refine And.intro ?_ ?_)) (by rfl) (by rfl) (by rfl) (by decide) (by rfl) (by rfl) (by omega) (by first | rfl | (simp [keptB, notGone, (by rfl).live]; done) | (cases nb <;> rfl)) (by rfl) (by rfl) (by rfl) (by rfl) (by rfl) (by rfl) (by rfl) ?_
          refine ao_callL [] [1, 3] (hR) (by rfl) (by rfl) (by rfl) (by rfl) (by rfl) (by repeat' (first | exact True.intro | exact .inl ⟨by rfl, by rfl⟩ | exact rfl | exact .inr (.inl ⟨_, _, _, _, by rfl, by rfl⟩) | exact .inr (.inr ⟨_, _, _, _, _, _, by rfl, by rfl, by rfl, by first | exact .head _ | exact .tail _ (.head _) | exact .tail _ (.tail _ (.head _)) | exact .tail _ (.tail _ (.tail _ (.head _)))⟩) | refine And.intro ?_ ?_)) (by repeat' (first | exact True.intro | exact .inl ⟨by rfl, by rfl⟩ | exact rfl | exact .inl rfl | exact .inr (.inl ⟨_, _, _, _, by rfl, by rfl⟩) | exact .inr ⟨rfl, by first | (simp [D.scalar, bD]; done) | assumption⟩ | refine And.intro ?_ ?_)) (by rfl) (by rfl) (by rfl) (by decide) (by rfl) (by rfl) (by omega) (by first | rfl | (simp [keptB, notGone, (by rfl).live]; done) | (cases nb <;> rfl)) (by rfl) (by rfl) (by rfl) (by rfl) (by rfl) (by rfl) (by rfl) ?_
          refine ao0 (sem_unOp (by rfl) (by rfl) (by rfl)) (by rfl) (by rfl) ?_
          refine ao_nil (by first | dsimp only [setO, setE] | rfl) (by first | dsimp only [setM, setE, setR] | rfl) (by rfl) ?_
          refine AW.cond (by rfl) (fun hc3 => ?_) (fun hc3 => ?_)
          · skip
            exfalso; simp at hc3 <;> omega
          · skip
            refine AW.skip ?_
            refine AW.seq ?_
            refine AW.region ?_
            refine ao0 (em_assign (by rfl) (by rfl)) (by rfl) (by rfl) ?_
            refine ao_nil (by first | dsimp only [setO, setE] | rfl) (by first | dsimp only [setM, setE, setR] | rfl) (by rfl) ?_
            refine AW.seq ?_
            refine AW.region ?_
            refine ao0 (em_move (by rfl) (by rfl)) (by rfl) (by rfl) ?_
            refine ao0 (em_move (by rfl) (by rfl)) (by rfl) (by rfl) ?_
            refine ao_callL [1] [] (hMR) (by rfl) (by rfl) (by rfl) (by rfl) (by rfl) (by repeat' (first | exact True.intro | exact .inl ⟨by rfl, by rfl⟩ | exact rfl | exact .inr (.inl ⟨_, _, _, _, by rfl, by rfl⟩) | exact .inr (.inr ⟨_, _, _, _, _, _, by rfl, by rfl, by rfl, by first | exact .head _ | exact .tail _ (.head _) | exact .tail _ (.tail _ (.head _)) | exact .tail _ (.tail _ (.tail _ (.head _)))⟩) | refine And.intro ?_ ?_)) (by repeat' (first | exact True.intro | exact .inl ⟨by rfl, by rfl⟩ | exact rfl | exact .inl rfl | exact .inr (.inl ⟨_, _, _, _, by rfl, by rfl⟩) | exact .inr ⟨rfl, by first | (simp [D.scalar, bD]; done) | assumption⟩ | refine And.intro ?_ ?_)) (by rfl) (by rfl) (by rfl) (by decide) (by rfl) (by rfl) (by omega) (by first | rfl | (simp [keptB, notGone, (by rfl).live]; done) | (cases nb <;> rfl)) (by rfl) (by rfl) (by rfl) (by rfl) (by rfl) (by rfl) (by rfl) ?_
            refine ao0 (em_assign (by rfl) (by rfl)) (by rfl) (by rfl) ?_
            refine ao_nil (by first | dsimp only [setO, setE] | rfl) (by first | dsimp only [setM, setE, setR] | rfl) (by rfl) ?_
            refine AW.seq ?_
            refine AW.seq ?_
            refine AW.region ?_
            refine ao0 (em_move (by rfl) (by rfl)) (by rfl) (by rfl) ?_
            refine ao0 (em_binI (by rfl) (by rfl) (by rfl) (by rfl) (by first | rfl | trivial | exact ⟨rfl, by decide⟩ | exact ⟨rfl, by omega⟩ | decide | omega)) (by rfl) (by rfl) ?_
            refine ao0 (em_move (by rfl) (by rfl)) (by rfl) (by rfl) ?_
            refine ao0 (em_move (by rfl) (by rfl)) (by rfl) (by rfl) ?_
            refine ao0 (em_move (by rfl) (by rfl)) (by rfl) (by rfl) ?_
            refine ao_callL [] [2] (hE) (by rfl) (by rfl) (by rfl) (by rfl) (by rfl) (by repeat' (first | exact True.intro | exact .inl ⟨by rfl, by rfl⟩ | exact rfl | exact .inr (.inl ⟨_, _, _, _, by rfl, by rfl⟩) | exact .inr (.inr ⟨_, _, _, _, _, _, by rfl, by rfl, by rfl, by first | exact .head _ | exact .tail _ (.head _) | exact .tail _ (.tail _ (.head _)) | exact .tail _ (.tail _ (.tail _ (.head _)))⟩) | refine And.intro ?_ ?_)) (by repeat' (first | exact True.intro | exact .inl ⟨by rfl, by rfl⟩ | exact rfl | exact .inl rfl | exact .inr (.inl ⟨_, _, _, _, by rfl, by rfl⟩) | exact .inr ⟨rfl, by first | (simp [D.scalar, bD]; done) | assumption⟩ | refine And.intro ?_ ?_)) (by rfl) (by rfl) (by rfl) (by decide) (by rfl) (by rfl) (by omega) (by first | rfl | (simp [keptB, notGone, (by rfl).live]; done) | (cases nb <;> rfl)) (by rfl) (by rfl) (by rfl) (by rfl) (by rfl) (by rfl) (by rfl) ?_
            refine ao0 (sem_unOp (by rfl) (by rfl) (by rfl)) (by rfl) (by rfl) ?_
            refine ao0 (sem_pickg (by rfl) (by rfl) (by rfl) (by rfl) (by intro hh; first | rfl | exact hh | (exact Bool.noConfusion hh) | (simp [wexp]; done) | (simp [wexp] at hh; done) | (simpa [wexp] using hh) | (simp_all; done)) (by intro hh; first | rfl | exact hh | (exact Bool.noConfusion hh) | (simp [wexp]; done) | (simp [wexp] at hh; done) | (simpa [wexp] using hh) | (simp_all; done))) (by rfl) (by rfl) ?_
            refine ao0 (em_move (by rfl) (by rfl)) (by rfl) (by rfl) ?_
            refine ao_opt (by rfl) (by rfl) (fun he => astep0 (em_move (by rfl) (by rfl))) ?_
            refine ao_opt (by rfl) (by rfl) (fun he => astep0 (em_move (by rfl) (by rfl))) ?_
            refine ao_opt (by rfl) (by rfl) (fun he => by rw [he]; exact astep0 (sem_binB tyOk (by rfl) (by rfl) (by rfl) (by rfl) (by rfl) (by rfl))) ?_
            dsimp only [setO, setE]
            refine ao0 (sem_pickg (by rfl) (by rfl) (by rfl) (by rfl) (by intro hh; first | rfl | exact hh | (exact Bool.noConfusion hh) | (simp [wexp]; done) | (simp [wexp] at hh; done) | (simpa [wexp] using hh) | (simp_all; done)) (by intro hh; first | rfl | exact hh | (exact Bool.noConfusion hh) | (simp [wexp]; done) | (simp [wexp] at hh; done) | (simpa [wexp] using hh) | (simp_all; done))) (by rfl) (by rfl) ?_
            refine ao_nil (by first | dsimp only [setO, setE] | rfl) (by first | dsimp only [setM, setE, setR] | rfl) (by rfl) ?_
            refine AW.cond (by rfl) (fun hc4 => ?_) (fun hc4 => ?_)
            · skip
              exfalso; simp at hc4 <;> omega
            · skip
              refine AW.skip ?_
              refine AW.seq ?_
              refine AW.region ?_
              refine ao0 (em_assign (by rfl) (by rfl)) (by rfl) (by rfl) ?_
              refine ao_nil (by first | dsimp only [setO, setE] | rfl) (by first | dsimp only [setM, setE, setR] | rfl) (by rfl) ?_
              refine AW.seq ?_
              refine AW.region ?_
              refine ao0 (em_move (by rfl) (by rfl)) (by rfl) (by rfl) ?_
              refine ao0 (em_move (by rfl) (by rfl)) (by rfl) (by rfl) ?_
              refine ao_callL [2] [] (hM) (by rfl) (by rfl) (by rfl) (by rfl) (by rfl) (by repeat' (first | exact True.intro | exact .inl ⟨by rfl, by rfl⟩ | exact rfl | exact .inr (.inl ⟨_, _, _, _, by rfl, by rfl⟩) | exact .inr (.inr ⟨_, _, _, _, _, _, by rfl, by rfl, by rfl, by first | exact .head _ | exact .tail _ (.head _) | exact .tail _ (.tail _ (.head _)) | exact .tail _ (.tail _ (.tail _ (.head _)))⟩) | refine And.intro ?_ ?_)) (by repeat' (first | exact True.intro | exact .inl ⟨by rfl, by rfl⟩ | exact rfl | exact .inl rfl | exact .inr (.inl ⟨_, _, _, _, by rfl, by rfl⟩) | exact .inr ⟨rfl, by first | (simp [D.scalar, bD]; done) | assumption⟩ | refine And.intro ?_ ?_)) (by rfl) (by rfl) (by rfl) (by decide) (by rfl) (by rfl) (by omega) (by first | rfl | (simp [keptB, notGone, (by rfl).live]; done) | (cases nb <;> rfl)) (by rfl) (by rfl) (by rfl) (by rfl) (by rfl) (by rfl) (by rfl) ?_
              refine ao0 (em_assign (by rfl) (by rfl)) (by rfl) (by rfl) ?_
              refine ao_nil (by first | dsimp only [setO, setE] | rfl) (by first | dsimp only [setM, setE, setR] | rfl) (by rfl) ?_
              refine AW.seq ?_
              refine AW.region ?_
              refine ao0 (em_assign (by rfl) (by rfl)) (by rfl) (by rfl) ?_
              refine ao_nil (by first | dsimp only [setO, setE] | rfl) (by first | dsimp only [setM, setE, setR] | rfl) (by rfl) ?_
              refine AW.seq ?_
              refine AW.region ?_
              refine ao0 (em_move (by rfl) (by rfl)) (by rfl) (by rfl) ?_
              refine ao0 (em_move (by rfl) (by rfl)) (by rfl) (by rfl) ?_
              refine ao_callL [] [2] (hH) (by rfl) (by rfl) (by rfl) (by rfl) (by rfl) (by repeat' (first | exact True.intro | exact .inl ⟨by rfl, by rfl⟩ | exact rfl | exact .inr (.inl ⟨_, _, _, _, by rfl, by rfl⟩) | exact .inr (.inr ⟨_, _, _, _, _, _, by rfl, by rfl, by rfl, by first | exact .head _ | exact .tail _ (.head _) | exact .tail _ (.tail _ (.head _)) | exact .tail _ (.tail _ (.tail _ (.head _)))⟩) | refine And.intro ?_ ?_)) (by repeat' (first | exact True.intro | exact .inl ⟨by rfl, by rfl⟩ | exact rfl | exact .inl rfl | exact .inr (.inl ⟨_, _, _, _, by rfl, by rfl⟩) | exact .inr ⟨rfl, by first | (simp [D.scalar, bD]; done) | assumption⟩ | refine And.intro ?_ ?_)) (by rfl) (by rfl) (by rfl) (by decide) (by rfl) (by rfl) (by omega) (by first | rfl | (simp [keptB, notGone, (by rfl).live]; done) | (cases nb <;> rfl)) (by rfl) (by rfl) (by rfl) (by rfl) (by rfl) (by rfl) (by rfl) ?_
              refine ao0 (em_assign (by rfl) (by rfl)) (by rfl) (by rfl) ?_
              refine ao_nil (by first | dsimp only [setO, setE] | rfl) (by first | dsimp only [setM, setE, setR] | rfl) (by rfl) ?_
              refine AW.seq ?_
              refine AW.seq ?_
              refine AW.region ?_
              refine ao0 (em_move (by rfl) (by rfl)) (by rfl) (by rfl) ?_
              refine ao0 (em_binI (by rfl) (by rfl) (by rfl) (by rfl) (by first | rfl | trivial | exact ⟨rfl, by decide⟩ | exact ⟨rfl, by omega⟩ | decide | omega)) (by rfl) (by rfl) ?_
              refine ao_nil (by first | dsimp only [setO, setE] | rfl) (by first | dsimp only [setM, setE, setR] | rfl) (by rfl) ?_
              refine AW.cond (by rfl) (fun hc5 => ?_) (fun hc5 => ?_)
              · skip
                exfalso; simp at hc5 <;> omega
              · skip
                refine AW.skip ?_
                refine AW.seq ?_
                refine AW.seq ?_
                refine AW.region ?_
                refine ao0 (em_move (by rfl) (by rfl)) (by rfl) (by rfl) ?_
                refine ao0 (em_move (by rfl) (by rfl)) (by rfl) (by rfl) ?_
                refine ao0 (em_binI (by rfl) (by rfl) (by rfl) (by rfl) (by first | rfl | trivial | exact ⟨rfl, by decide⟩ | exact ⟨rfl, by omega⟩ | decide | omega)) (by rfl) (by rfl) ?_
                refine ao_nil (by first | dsimp only [setO, setE] | rfl) (by first | dsimp only [setM, setE, setR] | rfl) (by rfl) ?_
                refine AW.cond (by rfl) (fun hc6 => ?_) (fun hc6 => ?_)
                · skip
                  exfalso; simp at hc6 <;> omega
                · skip
                  refine AW.skip ?_
                  refine AW.seq ?_
                  refine AW.region ?_
                  refine ao0 (em_move (by rfl) (by rfl)) (by rfl) (by rfl) ?_
                  refine ao_callL [] [] (hT) (by rfl) (by rfl) (by rfl) (by rfl) (by rfl) (by repeat' (first | exact True.intro | exact .inl ⟨by rfl, by rfl⟩ | exact rfl | exact .inr (.inl ⟨_, _, _, _, by rfl, by rfl⟩) | exact .inr (.inr ⟨_, _, _, _, _, _, by rfl, by rfl, by rfl, by first | exact .head _ | exact .tail _ (.head _) | exact .tail _ (.tail _ (.head _)) | exact .tail _ (.tail _ (.tail _ (.head _)))⟩) | refine And.intro ?_ ?_)) (by repeat' (first | exact True.intro | exact .inl ⟨by rfl, by rfl⟩ | exact rfl | exact .inl rfl | exact .inr (.inl ⟨_, _, _, _, by rfl, by rfl⟩) | exact .inr ⟨rfl, by first | (simp [D.scalar, bD]; done) | assumption⟩ | refine And.intro ?_ ?_)) (by rfl) (by rfl) (by rfl) (by decide) (by rfl) (by rfl) (by omega) (by first | rfl | (simp [keptB, notGone, (by rfl).live]; done) | (cases nb <;> rfl)) (by rfl) (by rfl) (by rfl) (by rfl) (by rfl) (by rfl) (by rfl) ?_
                  refine ao_callL [] [4] (hI) (by rfl) (by rfl) (by rfl) (by rfl) (by rfl) (by repeat' (first | exact True.intro | exact .inl ⟨by rfl, by rfl⟩ | exact rfl | exact .inr (.inl ⟨_, _, _, _, by rfl, by rfl⟩) | exact .inr (.inr ⟨_, _, _, _, _, _, by rfl, by rfl, by rfl, by first | exact .head _ | exact .tail _ (.head _) | exact .tail _ (.tail _ (.head _)) | exact .tail _ (.tail _ (.tail _ (.head _)))⟩) | refine And.intro ?_ ?_)) (by repeat' (first | exact True.intro | exact .inl ⟨by rfl, by rfl⟩ | exact rfl | exact .inl rfl | exact .inr (.inl ⟨_, _, _, _, by rfl, by rfl⟩) | exact .inr ⟨rfl, by first | (simp [D.scalar, bD]; done) | assumption⟩ | refine And.intro ?_ ?_)) (by rfl) (by rfl) (by rfl) (by decide) (by rfl) (by rfl) (by omega) (by first | rfl | (simp [keptB, notGone, (by rfl).live]; done) | (cases nb <;> rfl)) (by rfl) (by rfl) (by rfl) (by rfl) (by rfl) (by rfl) (by rfl) ?_
                  refine ao0 (sem_move (.inl (by rfl))) (by rfl) (by rfl) ?_
                  refine ao0 (sem_extract (by rfl) (by rfl) (by rfl)) (by rfl) (by rfl) ?_
                  refine ao0 (sem_extract (by rfl) (by rfl) (by rfl)) (by rfl) (by rfl) ?_
                  refine ao0 (em_assign (by rfl) (by rfl)) (by rfl) (by rfl) ?_
                  refine ao0 (em_assign (by rfl) (by rfl)) (by rfl) (by rfl) ?_
                  refine ao_nil (by first | dsimp only [setO, setE] | rfl) (by first | dsimp only [setM, setE, setR] | rfl) (by rfl) ?_
                  refine AW.seq ?_
                  refine AW.seq ?_
                  refine AW.region ?_
                  refine ao0 (em_move (by rfl) (by rfl)) (by rfl) (by rfl) ?_
                  refine ao0 (em_move (by rfl) (by rfl)) (by rfl) (by rfl) ?_
                  refine ao_callL [] [5] (hE) (by rfl) (by rfl) (by rfl) (by rfl) (by rfl) (by repeat' (first | exact True.intro | exact .inl ⟨by rfl, by rfl⟩ | exact rfl | exact .inr (.inl ⟨_, _, _, _, by rfl, by rfl⟩) | exact .inr (.inr ⟨_, _, _, _, _, _, by rfl, by rfl, by rfl, by first | exact .head _ | exact .tail _ (.head _) | exact .tail _ (.tail _ (.head _)) | exact .tail _ (.tail _ (.tail _ (.head _)))⟩) | refine And.intro ?_ ?_)) (by repeat' (first | exact True.intro | exact .inl ⟨by rfl, by rfl⟩ | exact rfl | exact .inl rfl | exact .inr (.inl ⟨_, _, _, _, by rfl, by rfl⟩) | exact .inr ⟨rfl, by first | (simp [D.scalar, bD]; done) | assumption⟩ | refine And.intro ?_ ?_)) (by rfl) (by rfl) (by rfl) (by decide) (by rfl) (by rfl) (by omega) (by first | rfl | (simp [keptB, notGone, (by rfl).live]; done) | (cases nb <;> rfl)) (by rfl) (by rfl) (by rfl) (by rfl) (by rfl) (by rfl) (by rfl) ?_
                  refine ao0 (sem_unOp (by rfl) (by rfl) (by rfl)) (by rfl) (by rfl) ?_
                  refine ao0 (em_move (by rfl) (by rfl)) (by rfl) (by rfl) ?_
                  refine ao_opt (by rfl) (by rfl) (fun he => astep0 (em_move (by rfl) (by rfl))) ?_
                  refine ao_opt (by rfl) (by rfl) (fun he => astep0 (em_move (by rfl) (by rfl))) ?_
                  refine ao_opt (by rfl) (by rfl) (fun he => by rw [he]; exact astep0 (sem_binB tyOk (by rfl) (by rfl) (by rfl) (by rfl) (by rfl) (by rfl))) ?_
                  refine ao0 (sem_pickg (by rfl) (by rfl) (by rfl) (by rfl) (by intro hh; first | rfl | exact hh | (exact Bool.noConfusion hh) | (simp [wexp]; done) | (simp [wexp] at hh; done) | (simpa [wexp] using hh) | (simp_all; done)) (by intro hh; first | rfl | exact hh | (exact Bool.noConfusion hh) | (simp [wexp]; done) | (simp [wexp] at hh; done) | (simpa [wexp] using hh) | (simp_all; done))) (by rfl) (by rfl) ?_
                  refine ao_nil (by first | dsimp only [setO, setE] | rfl) (by first | dsimp only [setM, setE, setR] | rfl) (by rfl) ?_
                  refine AW.cond (by rfl) (fun hc7 => ?_) (fun hc7 => ?_)
                  · skip
                    exfalso; simp at hc7 <;> omega
                  · skip
                    refine AW.skip ?_
                    refine AW.seq ?_
                    refine AW.region ?_
                    refine ao0 (em_assign (by rfl) (by rfl)) (by rfl) (by rfl) ?_
                    refine ao_nil (by first | dsimp only [setO, setE] | rfl) (by first | dsimp only [setM, setE, setR] | rfl) (by rfl) ?_
                    refine AW.seq ?_
                    refine AW.region ?_
                    refine ao0 (em_move (by rfl) (by rfl)) (by rfl) (by rfl) ?_
                    refine ao0 (em_move (by rfl) (by rfl)) (by rfl) (by rfl) ?_
                    refine ao_callL [] [2] (hH) (by rfl) (by rfl) (by rfl) (by rfl) (by rfl) (by repeat' (first | exact True.intro | exact .inl ⟨by rfl, by rfl⟩ | exact rfl | exact .inr (.inl ⟨_, _, _, _, by rfl, by rfl⟩) | exact .inr (.inr ⟨_, _, _, _, _, _, by rfl, by rfl, by rfl, by first | exact .head _ | exact .tail _ (.head _) | exact .tail _ (.tail _ (.head _)) | exact .tail _ (.tail _ (.tail _ (.head _)))⟩) | refine And.intro ?_ ?_)) (by repeat' (first | exact True.intro | exact .inl ⟨by rfl, by rfl⟩ | exact rfl | exact .inl rfl | exact .inr (.inl ⟨_, _, _, _, by rfl, by rfl⟩) | exact .inr ⟨rfl, by first | (simp [D.scalar, bD]; done) | assumption⟩ | refine And.intro ?_ ?_)) (by rfl) (by rfl) (by rfl) (by decide) (by rfl) (by rfl) (by omega) (by first | rfl | (simp [keptB, notGone, (by rfl).live]; done) | (cases nb <;> rfl)) (by rfl) (by rfl) (by rfl) (by rfl) (by rfl) (by rfl) (by rfl) ?_
                    refine ao0 (em_assign (by rfl) (by rfl)) (by rfl) (by rfl) ?_
                    refine ao_nil (by first | dsimp only [setO, setE] | rfl) (by first | dsimp only [setM, setE, setR] | rfl) (by rfl) ?_
                    refine AW.seq ?_
                    refine AW.seq ?_
                    refine AW.region ?_
                    refine ao0 (em_move (by rfl) (by rfl)) (by rfl) (by rfl) ?_
                    refine ao0 (em_binI (by rfl) (by rfl) (by rfl) (by rfl) (by first | rfl | trivial | exact ⟨rfl, by decide⟩ | exact ⟨rfl, by omega⟩ | decide | omega)) (by rfl) (by rfl) ?_
                    refine ao_nil (by first | dsimp only [setO, setE] | rfl) (by first | dsimp only [setM, setE, setR] | rfl) (by rfl) ?_
                    refine AW.cond (by rfl) (fun hc8 => ?_) (fun hc8 => ?_)
                    · skip
                      exfalso; simp at hc8 <;> omega
                    · skip
                      refine AW.skip ?_
                      refine AW.seq ?_
                      refine AW.seq ?_
                      refine AW.region ?_
                      refine ao0 (em_move (by rfl) (by rfl)) (by rfl) (by rfl) ?_
                      refine ao0 (em_move (by rfl) (by rfl)) (by rfl) (by rfl) ?_
                      refine ao0 (em_binI (by rfl) (by rfl) (by rfl) (by rfl) (by first | rfl | trivial | exact ⟨rfl, by decide⟩ | exact ⟨rfl, by omega⟩ | decide | omega)) (by rfl) (by rfl) ?_
                      refine ao_nil (by first | dsimp only [setO, setE] | rfl) (by first | dsimp only [setM, setE, setR] | rfl) (by rfl) ?_
                      refine AW.cond (by rfl) (fun hc9 => ?_) (fun hc9 => ?_)
                      · skip
                        exfalso; simp at hc9 <;> omega
                      · skip
                        refine AW.skip ?_
                        refine AW.seq ?_
                        refine AW.region ?_
                        refine ao0 (em_assign (by rfl) (by rfl)) (by rfl) (by rfl) ?_
                        refine ao_nil (by first | dsimp only [setO, setE] | rfl) (by first | dsimp only [setM, setE, setR] | rfl) (by rfl) ?_
                        refine AW.ret ?_
                        refine retA_data (n := 0) rfl (by rfl) ?_ rfl rfl _ (.inr rfl)
                        exact pack_b rfl
    · have hI := iWriteJournal_bad true xs hl (by simp) hok
      have hS := sWriteJournal_bad true xs hl (by simp) hok
      have hE := eqByteS_ok false false [] [] (by decide) (by decide) (by simp) (by simp)
      refine fnOk_of' (k := 0) tyOk Try.func9 rfl (by kernel_rfl) Try.ntmps9 (by rw [Try.results9]) rfl (by simp only [List.length_cons, List.length_nil, Nat.reduceAdd, Nat.reduceSub, List.replicate_succ, List.replicate_zero, List.cons_append, List.nil_append]; rfl) (by simp) (by simp) (fun r hr => by simp at hr) fun base => ?_
      refine AW.seq ?_
      refine AW.region ?_
      refine ao0 (em_assign (by rfl) (by rfl)) (by rfl) (by rfl) ?_
      refine ao_nil (by first | dsimp only [setO, setE] | rfl) (by first | dsimp only [setM, setE, setR] | rfl) (by rfl) ?_
      refine AW.seq ?_
      refine AW.region ?_
      refine ao0 (em_assign (by rfl) (by rfl)) (by rfl) (by rfl) ?_
      refine ao_nil (by first | dsimp only [setO, setE] | rfl) (by first | dsimp only [setM, setE, setR] | rfl) (by rfl) ?_
      refine AW.seq ?_
      refine AW.region ?_
      refine ao0 (em_move (by rfl) (by rfl)) (by rfl) (by rfl) ?_
      refine ao0 (em_move (by rfl) (by rfl)) (by rfl) (by rfl) ?_
      refine ao_callL [] [] (hsz) (by rfl) (by rfl) (by rfl) (by rfl) (by rfl) (by repeat' (first | exact True.intro | exact .inl ⟨by rfl, by rfl⟩ | exact rfl | exact .inr (.inl ⟨_, _, _, _, by rfl, by rfl⟩) | exact .inr (.inr ⟨_, _, _, _, _, _, by rfl, by rfl, by rfl, by first | exact .head _ | exact .tail _ (.head _) | exact .tail _ (.tail _ (.head _)) | exact .tail _ (.tail _ (.tail _ (.head _)))⟩) | refine And.intro ?_ ?_)) (by repeat' (first | exact True.intro | exact .inl ⟨by rfl, by rfl⟩ | exact rfl | exact .inl rfl | exact .inr (.inl ⟨_, _, _, _, by rfl, by rfl⟩) | exact .inr ⟨rfl, by first | (simp [D.scalar, bD]; done) | assumption⟩ | refine And.intro ?_ ?_)) (by rfl) (by rfl) (by rfl) (by decide) (by rfl) (by rfl) (by omega) (by first | rfl | (simp [keptB, notGone, (by rfl).live]; done) | (cases nb <;> rfl)) (by rfl) (by rfl) (by rfl) (by rfl) (by rfl) (by rfl) (by rfl) ?_
      refine ao0 (em_assign (by rfl) (by rfl)) (by rfl) (by rfl) ?_
      refine ao_nil (by first | dsimp only [setO, setE] | rfl) (by first | dsimp only [setM, setE, setR] | rfl) (by rfl) ?_
      refine AW.seq ?_
      refine AW.seq ?_
      refine AW.region ?_
      refine ao0 (em_move (by rfl) (by rfl)) (by rfl) (by rfl) ?_
      refine ao0 (em_binI (by rfl) (by rfl) (by rfl) (by rfl) (by first | rfl | trivial | exact ⟨rfl, by decide⟩ | exact ⟨rfl, by omega⟩ | decide | omega)) (by rfl) (by rfl) ?_
      refine ao_nil (by first | dsimp only [setO, setE] | rfl) (by first | dsimp only [setM, setE, setR] | rfl) (by rfl) ?_
      refine AW.cond (by rfl) (fun hc1 => ?_) (fun hc1 => ?_)
      · skip
        exfalso; simp at hc1 <;> omega
      · skip
        refine AW.skip ?_
        refine AW.seq ?_
        refine AW.region ?_
        refine ao0 (em_move (by rfl) (by rfl)) (by rfl) (by rfl) ?_
        refine ao_callL [] [] (hT) (by rfl) (by rfl) (by rfl) (by rfl) (by rfl) (by repeat' (first | exact True.intro | exact .inl ⟨by rfl, by rfl⟩ | exact rfl | exact .inr (.inl ⟨_, _, _, _, by rfl, by rfl⟩) | exact .inr (.inr ⟨_, _, _, _, _, _, by rfl, by rfl, by rfl, by first | exact .head _ | exact .tail _ (.head _) | exact .tail _ (.tail _ (.head _)) | exact .tail _ (.tail _ (.tail _ (.head _)))⟩) | refine And.intro ?_ ?_)) (by repeat' (first | exact True.intro | exact .inl ⟨by rfl, by rfl⟩ | exact rfl | exact .inl rfl | exact .inr (.inl ⟨_, _, _, _, by rfl, by rfl⟩) | exact .inr ⟨rfl, by first | (simp [D.scalar, bD]; done) | assumption⟩ | refine And.intro ?_ ?_)) (by rfl) (by rfl) (by rfl) (by decide) (by rfl) (by rfl) (by omega) (by first | rfl | (simp [keptB, notGone, (by rfl).live]; done) | (cases nb <;> rfl)) (by rfl) (by rfl) (by rfl) (by rfl) (by rfl) (by rfl) (by rfl) ?_
        refine ao_callL [] [0] (hS) (by rfl) (by rfl) (by rfl) (by rfl) (by rfl) (by repeat' (first | exact True.intro | exact .inl ⟨by rfl, by rfl⟩ | exact rfl | exact .inr (.inl ⟨_, _, _, _, by rfl, by rfl⟩) | exact .inr (.inr ⟨_, _, _, _, _, _, by rfl, by rfl, by rfl, by first | exact .head _ | exact .tail _ (.head _) | exact .tail _ (.tail _ (.head _)) | exact .tail _ (.tail _ (.tail _ (.head _)))⟩) | refine And.intro ?_ ?_)) (by repeat' (first | exact True.intro | exact .inl ⟨by rfl, by rfl⟩ | exact rfl | exact .inl rfl | exact .inr (.inl ⟨_, _, _, _, by rfl, by rfl⟩) | exact .inr ⟨rfl, by first | (simp [D.scalar, bD]; done) | assumption⟩ | refine And.intro ?_ ?_)) (by rfl) (by rfl) (by rfl) (by decide) (by rfl) (by rfl) (by omega) (by first | rfl | (simp [keptB, notGone, (by rfl).live]; done) | (cases nb <;> rfl)) (by rfl) (by rfl) (by rfl) (by rfl) (by rfl) (by rfl) (by rfl) ?_
        refine ao0 (sem_move (.inl (by rfl))) (by rfl) (by rfl) ?_
        refine ao0 (sem_extract (by rfl) (by rfl) (by rfl)) (by rfl) (by rfl) ?_
        refine ao0 (sem_extract (by rfl) (by rfl) (by rfl)) (by rfl) (by rfl) ?_
        refine ao0 (em_assign (by rfl) (by rfl)) (by rfl) (by rfl) ?_
        refine ao0 (em_assign (by rfl) (by rfl)) (by rfl) (by rfl) ?_
        refine ao_nil (by first | dsimp only [setO, setE] | rfl) (by first | dsimp only [setM, setE, setR] | rfl) (by rfl) ?_
        refine AW.seq ?_
        refine AW.region ?_
        refine ao0 (em_move (by rfl) (by rfl)) (by rfl) (by rfl) ?_
        refine ao_callL [] [] (hT) (by rfl) (by rfl) (by rfl) (by rfl) (by rfl) (by repeat' (first | exact True.intro | exact .inl ⟨by rfl, by rfl⟩ | exact rfl | exact .inr (.inl ⟨_, _, _, _, by rfl, by rfl⟩) | exact .inr (.inr ⟨_, _, _, _, _, _, by rfl, by rfl, by rfl, by first | exact .head _ | exact .tail _ (.head _) | exact .tail _ (.tail _ (.head _)) | exact .tail _ (.tail _ (.tail _ (.head _)))⟩) | refine And.intro ?_ ?_)) (by repeat' (first | exact True.intro | exact .inl ⟨by rfl, by rfl⟩ | exact rfl | exact .inl rfl | exact .inr (.inl ⟨_, _, _, _, by rfl, by rfl⟩) | exact .inr ⟨rfl, by first | (simp [D.scalar, bD]; done) | assumption⟩ | refine And.intro ?_ ?_)) (by rfl) (by rfl) (by rfl) (by decide) (by rfl) (by rfl) (by omega) (by first | rfl | (simp [keptB, notGone, (by rfl).live]; done) | (cases nb <;> rfl)) (by rfl) (by rfl) (by rfl) (by rfl) (by rfl) (by rfl) (by rfl) ?_
        refine ao0 (em_assign (by rfl) (by rfl)) (by rfl) (by rfl) ?_
        refine ao_nil (by first | dsimp only [setO, setE] | rfl) (by first | dsimp only [setM, setE, setR] | rfl) (by rfl) ?_
        refine AW.seq ?_
        refine AW.region ?_
        refine ao0 (em_move (by rfl) (by rfl)) (by rfl) (by rfl) ?_
        refine ao_callL [] [1] (hI) (by rfl) (by rfl) (by rfl) (by rfl) (by rfl) (by repeat' (first | exact True.intro | exact .inl ⟨by rfl, by rfl⟩ | exact rfl | exact .inr (.inl ⟨_, _, _, _, by rfl, by rfl⟩) | exact .inr (.inr ⟨_, _, _, _, _, _, by rfl, by rfl, by rfl, by first | exact .head _ | exact .tail _ (.head _) | exact .tail _ (.tail _ (.head _)) | exact .tail _ (.tail _ (.tail _ (.head _)))⟩) | refine And.intro ?_ ?_)) (by repeat' (first | exact True.intro | exact .inl ⟨by rfl, by rfl⟩ | exact rfl | exact .inl rfl | exact .inr (.inl ⟨_, _, _, _, by rfl, by rfl⟩) | exact .inr ⟨rfl, by first | (simp [D.scalar, bD]; done) | assumption⟩ | refine And.intro ?_ ?_)) (by rfl) (by rfl) (by rfl) (by decide) (by rfl) (by rfl) (by omega) (by first | rfl | (simp [keptB, notGone, (by rfl).live]; done) | (cases nb <;> rfl)) (by rfl) (by rfl) (by rfl) (by rfl) (by rfl) (by rfl) (by rfl) ?_
        refine ao0 (sem_move (.inl (by rfl))) (by rfl) (by rfl) ?_
        refine ao0 (sem_extract (by rfl) (by rfl) (by rfl)) (by rfl) (by rfl) ?_
        refine ao0 (sem_extract (by rfl) (by rfl) (by rfl)) (by rfl) (by rfl) ?_
        refine ao0 (em_assign (by rfl) (by rfl)) (by rfl) (by rfl) ?_
        refine ao0 (em_assign (by rfl) (by rfl)) (by rfl) (by rfl) ?_
        refine ao_nil (by first | dsimp only [setO, setE] | rfl) (by first | dsimp only [setM, setE, setR] | rfl) (by rfl) ?_
        refine AW.seq ?_
        refine AW.seq ?_
        refine AW.region ?_
        refine ao0 (em_move (by rfl) (by rfl)) (by rfl) (by rfl) ?_
        refine ao0 (em_move (by rfl) (by rfl)) (by rfl) (by rfl) ?_
        refine ao_callL [] [] (hE) (by rfl) (by rfl) (by rfl) (by rfl) (by rfl) (by repeat' (first | exact True.intro | exact .inl ⟨by rfl, by rfl⟩ | exact rfl | exact .inr (.inl ⟨_, _, _, _, by rfl, by rfl⟩) | exact .inr (.inr ⟨_, _, _, _, _, _, by rfl, by rfl, by rfl, by first | exact .head _ | exact .tail _ (.head _) | exact .tail _ (.tail _ (.head _)) | exact .tail _ (.tail _ (.tail _ (.head _)))⟩) | refine And.intro ?_ ?_)) (by repeat' (first | exact True.intro | exact .inl ⟨by rfl, by rfl⟩ | exact rfl | exact .inl rfl | exact .inr (.inl ⟨_, _, _, _, by rfl, by rfl⟩) | exact .inr ⟨rfl, by first | (simp [D.scalar, bD]; done) | assumption⟩ | refine And.intro ?_ ?_)) (by rfl) (by rfl) (by rfl) (by decide) (by rfl) (by rfl) (by omega) (by first | rfl | (simp [keptB, notGone, (by rfl).live]; done) | (cases nb <;> rfl)) (by rfl) (by rfl) (by rfl) (by rfl) (by rfl) (by rfl) (by rfl) ?_
        refine ao0 (sem_unOp (by rfl) (by rfl) (by rfl)) (by rfl) (by rfl) ?_
        refine ao0 (em_move (by rfl) (by rfl)) (by rfl) (by rfl) ?_
        refine ao0 (em_move (by rfl) (by rfl)) (by rfl) (by rfl) ?_
        refine ao0 (em_move (by rfl) (by rfl)) (by rfl) (by rfl) ?_
        refine ao0 (sem_binB tyOk (by rfl) (by rfl) (by rfl) (by rfl) (by rfl) (by rfl)) (by rfl) (by rfl) ?_
        refine ao0 (sem_pickg (by rfl) (by rfl) (by rfl) (by rfl) (by intro hh; first | rfl | exact hh | (exact Bool.noConfusion hh) | (simp [wexp]; done) | (simp [wexp] at hh; done) | (simpa [wexp] using hh) | (simp_all; done)) (by intro hh; first | rfl | exact hh | (exact Bool.noConfusion hh) | (simp [wexp]; done) | (simp [wexp] at hh; done) | (simpa [wexp] using hh) | (simp_all; done))) (by rfl) (by rfl) ?_
        refine ao_nil (by first | dsimp only [setO, setE] | rfl) (by first | dsimp only [setM, setE, setR] | rfl) (by rfl) ?_
        refine AW.cond (by rfl) (fun hc2 => ?_) (fun hc2 => ?_)
        · skip
          exfalso; simp at hc2 <;> omega
        · skip
          refine AW.skip ?_
          refine AW.seq ?_
          refine AW.seq ?_
          refine AW.region ?_
          refine ao0 (em_move (by rfl) (by rfl)) (by rfl) (by rfl) ?_
          refine ao0 (em_move (by rfl) (by rfl)) (by rfl) (by rfl) ?_
          refine ao_callL [] [] (hT) (by rfl) (by rfl) (by rfl) (by rfl) (by rfl) (by repeat' (first | exact True.intro | exact .inl ⟨by rfl, by rfl⟩ | exact rfl | exact .inr (.inl ⟨_, _, _, _, by rfl, by rfl⟩) | exact .inr (.inr ⟨_, _, _, _, _, _, by rfl, by rfl, by rfl, by first | exact .head _ | exact .tail _ (.head _) | exact .tail _ (.tail _ (.head _)) | exact .tail _ (.tail _ (.tail _ (.head _)))⟩) | refine And.intro ?_ ?_)) (by repeat' (first | exact True.intro | exact .inl ⟨by rfl, by rfl⟩ | exact rfl | exact .inl rfl | exact .inr (.inl ⟨_, _, _, _, by rfl, by rfl⟩) | exact .inr ⟨rfl, by first | (simp [D.scalar, bD]; done) | assumption⟩ | refine And.intro ?_ ?_)) (by rfl) (by rfl) (by rfl) (by decide) (by rfl) (by rfl) (by omega) (by first | rfl | (simp [keptB, notGone, (by rfl).live]; done) | (cases nb <;> rfl)) (by rfl) (by rfl) (by rfl) (by rfl) (by rfl) (by rfl) (by rfl) ?_
          refine ao_callL [] [1, 2] (hR) (by rfl) (by rfl) (by rfl) (by rfl) (by rfl) (by repeat' (first | exact True.intro | exact .inl ⟨by rfl, by rfl⟩ | exact rfl | exact .inr (.inl ⟨_, _, _, _, by rfl, by rfl⟩) | exact .inr (.inr ⟨_, _, _, _, _, _, by rfl, by rfl, by rfl, by first | exact .head _ | exact .tail _ (.head _) | exact .tail _ (.tail _ (.head _)) | exact .tail _ (.tail _ (.tail _ (.head _)))⟩) | refine And.intro ?_ ?_)) (by repeat' (first | exact True.intro | exact .inl ⟨by rfl, by rfl⟩ | exact rfl | exact .inl rfl | exact .inr (.inl ⟨_, _, _, _, by rfl, by rfl⟩) | exact .inr ⟨rfl, by first | (simp [D.scalar, bD]; done) | assumption⟩ | refine And.intro ?_ ?_)) (by rfl) (by rfl) (by rfl) (by decide) (by rfl) (by rfl) (by omega) (by first | rfl | (simp [keptB, notGone, (by rfl).live]; done) | (cases nb <;> rfl)) (by rfl) (by rfl) (by rfl) (by rfl) (by rfl) (by rfl) (by rfl) ?_
          refine ao0 (sem_unOp (by rfl) (by rfl) (by rfl)) (by rfl) (by rfl) ?_
          refine ao_nil (by first | dsimp only [setO, setE] | rfl) (by first | dsimp only [setM, setE, setR] | rfl) (by rfl) ?_
          refine AW.cond (by rfl) (fun hc3 => ?_) (fun hc3 => ?_)
          · skip
            exfalso; simp at hc3 <;> omega
          · skip
            refine AW.skip ?_
            refine AW.seq ?_
            refine AW.region ?_
            refine ao0 (em_assign (by rfl) (by rfl)) (by rfl) (by rfl) ?_
            refine ao_nil (by first | dsimp only [setO, setE] | rfl) (by first | dsimp only [setM, setE, setR] | rfl) (by rfl) ?_
            refine AW.seq ?_
            refine AW.region ?_
            refine ao0 (em_move (by rfl) (by rfl)) (by rfl) (by rfl) ?_
            refine ao0 (em_move (by rfl) (by rfl)) (by rfl) (by rfl) ?_
            refine ao_callL [1] [] (hMR) (by rfl) (by rfl) (by rfl) (by rfl) (by rfl) (by repeat' (first | exact True.intro | exact .inl ⟨by rfl, by rfl⟩ | exact rfl | exact .inr (.inl ⟨_, _, _, _, by rfl, by rfl⟩) | exact .inr (.inr ⟨_, _, _, _, _, _, by rfl, by rfl, by rfl, by first | exact .head _ | exact .tail _ (.head _) | exact .tail _ (.tail _ (.head _)) | exact .tail _ (.tail _ (.tail _ (.head _)))⟩) | refine And.intro ?_ ?_)) (by repeat' (first | exact True.intro | exact .inl ⟨by rfl, by rfl⟩ | exact rfl | exact .inl rfl | exact .inr (.inl ⟨_, _, _, _, by rfl, by rfl⟩) | exact .inr ⟨rfl, by first | (simp [D.scalar, bD]; done) | assumption⟩ | refine And.intro ?_ ?_)) (by rfl) (by rfl) (by rfl) (by decide) (by rfl) (by rfl) (by omega) (by first | rfl | (simp [keptB, notGone, (by rfl).live]; done) | (cases nb <;> rfl)) (by rfl) (by rfl) (by rfl) (by rfl) (by rfl) (by rfl) (by rfl) ?_
            refine ao0 (em_assign (by rfl) (by rfl)) (by rfl) (by rfl) ?_
            refine ao_nil (by first | dsimp only [setO, setE] | rfl) (by first | dsimp only [setM, setE, setR] | rfl) (by rfl) ?_
            refine AW.seq ?_
            refine AW.seq ?_
            refine AW.region ?_
            refine ao0 (em_move (by rfl) (by rfl)) (by rfl) (by rfl) ?_
            refine ao0 (em_binI (by rfl) (by rfl) (by rfl) (by rfl) (by first | rfl | trivial | exact ⟨rfl, by decide⟩ | exact ⟨rfl, by omega⟩ | decide | omega)) (by rfl) (by rfl) ?_
            refine ao0 (em_move (by rfl) (by rfl)) (by rfl) (by rfl) ?_
            refine ao0 (em_move (by rfl) (by rfl)) (by rfl) (by rfl) ?_
            refine ao0 (em_move (by rfl) (by rfl)) (by rfl) (by rfl) ?_
            refine ao_callL [] [] (hE) (by rfl) (by rfl) (by rfl) (by rfl) (by rfl) (by repeat' (first | exact True.intro | exact .inl ⟨by rfl, by rfl⟩ | exact rfl | exact .inr (.inl ⟨_, _, _, _, by rfl, by rfl⟩) | exact .inr (.inr ⟨_, _, _, _, _, _, by rfl, by rfl, by rfl, by first | exact .head _ | exact .tail _ (.head _) | exact .tail _ (.tail _ (.head _)) | exact .tail _ (.tail _ (.tail _ (.head _)))⟩) | refine And.intro ?_ ?_)) (by repeat' (first | exact True.intro | exact .inl ⟨by rfl, by rfl⟩ | exact rfl | exact .inl rfl | exact .inr (.inl ⟨_, _, _, _, by rfl, by rfl⟩) | exact .inr ⟨rfl, by first | (simp [D.scalar, bD]; done) | assumption⟩ | refine And.intro ?_ ?_)) (by rfl) (by rfl) (by rfl) (by decide) (by rfl) (by rfl) (by omega) (by first | rfl | (simp [keptB, notGone, (by rfl).live]; done) | (cases nb <;> rfl)) (by rfl) (by rfl) (by rfl) (by rfl) (by rfl) (by rfl) (by rfl) ?_
            refine ao0 (sem_unOp (by rfl) (by rfl) (by rfl)) (by rfl) (by rfl) ?_
            refine ao0 (sem_pickg (by rfl) (by rfl) (by rfl) (by rfl) (by intro hh; first | rfl | exact hh | (exact Bool.noConfusion hh) | (simp [wexp]; done) | (simp [wexp] at hh; done) | (simpa [wexp] using hh) | (simp_all; done)) (by intro hh; first | rfl | exact hh | (exact Bool.noConfusion hh) | (simp [wexp]; done) | (simp [wexp] at hh; done) | (simpa [wexp] using hh) | (simp_all; done))) (by rfl) (by rfl) ?_
            refine ao0 (em_move (by rfl) (by rfl)) (by rfl) (by rfl) ?_
            refine ao0 (em_move (by rfl) (by rfl)) (by rfl) (by rfl) ?_
            refine ao0 (em_move (by rfl) (by rfl)) (by rfl) (by rfl) ?_
            refine ao0 (sem_binB tyOk (by rfl) (by rfl) (by rfl) (by rfl) (by rfl) (by rfl)) (by rfl) (by rfl) ?_
            dsimp only [setO, setE]
            refine ao0 (sem_pickg (by rfl) (by rfl) (by rfl) (by rfl) (by intro hh; first | rfl | exact hh | (exact Bool.noConfusion hh) | (simp [wexp]; done) | (simp [wexp] at hh; done) | (simpa [wexp] using hh) | (simp_all; done)) (by intro hh; first | rfl | exact hh | (exact Bool.noConfusion hh) | (simp [wexp]; done) | (simp [wexp] at hh; done) | (simpa [wexp] using hh) | (simp_all; done))) (by rfl) (by rfl) ?_
            refine ao_nil (by first | dsimp only [setO, setE] | rfl) (by first | dsimp only [setM, setE, setR] | rfl) (by rfl) ?_
            refine AW.cond (by rfl) (fun hc4 => ?_) (fun hc4 => ?_)
            · skip
              exfalso; simp at hc4 <;> omega
            · skip
              refine AW.skip ?_
              refine AW.seq ?_
              refine AW.region ?_
              refine ao0 (em_assign (by rfl) (by rfl)) (by rfl) (by rfl) ?_
              refine ao_nil (by first | dsimp only [setO, setE] | rfl) (by first | dsimp only [setM, setE, setR] | rfl) (by rfl) ?_
              refine AW.seq ?_
              refine AW.region ?_
              refine ao0 (em_move (by rfl) (by rfl)) (by rfl) (by rfl) ?_
              refine ao0 (em_move (by rfl) (by rfl)) (by rfl) (by rfl) ?_
              refine ao_callL [] [] (markBNil_ok 1) (by rfl) (by rfl) (by rfl) (by rfl) (by rfl) (by repeat' (first | exact True.intro | exact .inl ⟨by rfl, by rfl⟩ | exact rfl | exact .inr (.inl ⟨_, _, _, _, by rfl, by rfl⟩) | exact .inr (.inr ⟨_, _, _, _, _, _, by rfl, by rfl, by rfl, by first | exact .head _ | exact .tail _ (.head _) | exact .tail _ (.tail _ (.head _)) | exact .tail _ (.tail _ (.tail _ (.head _)))⟩) | refine And.intro ?_ ?_)) (by repeat' (first | exact True.intro | exact .inl ⟨by rfl, by rfl⟩ | exact rfl | exact .inl rfl | exact .inr (.inl ⟨_, _, _, _, by rfl, by rfl⟩) | exact .inr ⟨rfl, by first | (simp [D.scalar, bD]; done) | assumption⟩ | refine And.intro ?_ ?_)) (by rfl) (by rfl) (by rfl) (by decide) (by rfl) (by rfl) (by omega) (by first | rfl | (simp [keptB, notGone, (by rfl).live]; done) | (cases nb <;> rfl)) (by rfl) (by rfl) (by rfl) (by rfl) (by rfl) (by rfl) (by rfl) ?_
              refine ao0 (em_assign (by rfl) (by rfl)) (by rfl) (by rfl) ?_
              refine ao_nil (by first | dsimp only [setO, setE] | rfl) (by first | dsimp only [setM, setE, setR] | rfl) (by rfl) ?_
              refine AW.seq ?_
              refine AW.region ?_
              refine ao0 (em_assign (by rfl) (by rfl)) (by rfl) (by rfl) ?_
              refine ao_nil (by first | dsimp only [setO, setE] | rfl) (by first | dsimp only [setM, setE, setR] | rfl) (by rfl) ?_
              refine AW.seq ?_
              refine AW.region ?_
              refine ao0 (em_move (by rfl) (by rfl)) (by rfl) (by rfl) ?_
              refine ao0 (em_move (by rfl) (by rfl)) (by rfl) (by rfl) ?_
              refine ao_callL [] [] (heldBNil_ok 1) (by rfl) (by rfl) (by rfl) (by rfl) (by rfl) (by repeat' (first | exact True.intro | exact .inl ⟨by rfl, by rfl⟩ | exact rfl | exact .inr (.inl ⟨_, _, _, _, by rfl, by rfl⟩) | exact .inr (.inr ⟨_, _, _, _, _, _, by rfl, by rfl, by rfl, by first | exact .head _ | exact .tail _ (.head _) | exact .tail _ (.tail _ (.head _)) | exact .tail _ (.tail _ (.tail _ (.head _)))⟩) | refine And.intro ?_ ?_)) (by repeat' (first | exact True.intro | exact .inl ⟨by rfl, by rfl⟩ | exact rfl | exact .inl rfl | exact .inr (.inl ⟨_, _, _, _, by rfl, by rfl⟩) | exact .inr ⟨rfl, by first | (simp [D.scalar, bD]; done) | assumption⟩ | refine And.intro ?_ ?_)) (by rfl) (by rfl) (by rfl) (by decide) (by rfl) (by rfl) (by omega) (by first | rfl | (simp [keptB, notGone, (by rfl).live]; done) | (cases nb <;> rfl)) (by rfl) (by rfl) (by rfl) (by rfl) (by rfl) (by rfl) (by rfl) ?_
              refine ao0 (em_assign (by rfl) (by rfl)) (by rfl) (by rfl) ?_
              refine ao_nil (by first | dsimp only [setO, setE] | rfl) (by first | dsimp only [setM, setE, setR] | rfl) (by rfl) ?_
              refine AW.seq ?_
              refine AW.seq ?_
              refine AW.region ?_
              refine ao0 (em_move (by rfl) (by rfl)) (by rfl) (by rfl) ?_
              refine ao0 (em_binI (by rfl) (by rfl) (by rfl) (by rfl) (by first | rfl | trivial | exact ⟨rfl, by decide⟩ | exact ⟨rfl, by omega⟩ | decide | omega)) (by rfl) (by rfl) ?_
              refine ao_nil (by first | dsimp only [setO, setE] | rfl) (by first | dsimp only [setM, setE, setR] | rfl) (by rfl) ?_
              refine AW.cond (by rfl) (fun hc5 => ?_) (fun hc5 => ?_)
              · skip
                exfalso; simp at hc5 <;> omega
              · skip
                refine AW.skip ?_
                refine AW.seq ?_
                refine AW.seq ?_
                refine AW.region ?_
                refine ao0 (em_move (by rfl) (by rfl)) (by rfl) (by rfl) ?_
                refine ao0 (em_move (by rfl) (by rfl)) (by rfl) (by rfl) ?_
                refine ao0 (em_binI (by rfl) (by rfl) (by rfl) (by rfl) (by first | rfl | trivial | exact ⟨rfl, by decide⟩ | exact ⟨rfl, by omega⟩ | decide | omega)) (by rfl) (by rfl) ?_
                refine ao_nil (by first | dsimp only [setO, setE] | rfl) (by first | dsimp only [setM, setE, setR] | rfl) (by rfl) ?_
                refine AW.cond (by rfl) (fun hc6 => ?_) (fun hc6 => ?_)
                · skip
                  exfalso; simp at hc6 <;> omega
                · skip
                  refine AW.skip ?_
                  refine AW.seq ?_
                  refine AW.region ?_
                  refine ao0 (em_move (by rfl) (by rfl)) (by rfl) (by rfl) ?_
                  refine ao_callL [] [] (hT) (by rfl) (by rfl) (by rfl) (by rfl) (by rfl) (by repeat' (first | exact True.intro | exact .inl ⟨by rfl, by rfl⟩ | exact rfl | exact .inr (.inl ⟨_, _, _, _, by rfl, by rfl⟩) | exact .inr (.inr ⟨_, _, _, _, _, _, by rfl, by rfl, by rfl, by first | exact .head _ | exact .tail _ (.head _) | exact .tail _ (.tail _ (.head _)) | exact .tail _ (.tail _ (.tail _ (.head _)))⟩) | refine And.intro ?_ ?_)) (by repeat' (first | exact True.intro | exact .inl ⟨by rfl, by rfl⟩ | exact rfl | exact .inl rfl | exact .inr (.inl ⟨_, _, _, _, by rfl, by rfl⟩) | exact .inr ⟨rfl, by first | (simp [D.scalar, bD]; done) | assumption⟩ | refine And.intro ?_ ?_)) (by rfl) (by rfl) (by rfl) (by decide) (by rfl) (by rfl) (by omega) (by first | rfl | (simp [keptB, notGone, (by rfl).live]; done) | (cases nb <;> rfl)) (by rfl) (by rfl) (by rfl) (by rfl) (by rfl) (by rfl) (by rfl) ?_
                  refine ao_callL [] [3] (hI) (by rfl) (by rfl) (by rfl) (by rfl) (by rfl) (by repeat' (first | exact True.intro | exact .inl ⟨by rfl, by rfl⟩ | exact rfl | exact .inr (.inl ⟨_, _, _, _, by rfl, by rfl⟩) | exact .inr (.inr ⟨_, _, _, _, _, _, by rfl, by rfl, by rfl, by first | exact .head _ | exact .tail _ (.head _) | exact .tail _ (.tail _ (.head _)) | exact .tail _ (.tail _ (.tail _ (.head _)))⟩) | refine And.intro ?_ ?_)) (by repeat' (first | exact True.intro | exact .inl ⟨by rfl, by rfl⟩ | exact rfl | exact .inl rfl | exact .inr (.inl ⟨_, _, _, _, by rfl, by rfl⟩) | exact .inr ⟨rfl, by first | (simp [D.scalar, bD]; done) | assumption⟩ | refine And.intro ?_ ?_)) (by rfl) (by rfl) (by rfl) (by decide) (by rfl) (by rfl) (by omega) (by first | rfl | (simp [keptB, notGone, (by rfl).live]; done) | (cases nb <;> rfl)) (by rfl) (by rfl) (by rfl) (by rfl) (by rfl) (by rfl) (by rfl) ?_
                  refine ao0 (sem_move (.inl (by rfl))) (by rfl) (by rfl) ?_
                  refine ao0 (sem_extract (by rfl) (by rfl) (by rfl)) (by rfl) (by rfl) ?_
                  refine ao0 (sem_extract (by rfl) (by rfl) (by rfl)) (by rfl) (by rfl) ?_
                  refine ao0 (em_assign (by rfl) (by rfl)) (by rfl) (by rfl) ?_
                  refine ao0 (em_assign (by rfl) (by rfl)) (by rfl) (by rfl) ?_
                  refine ao_nil (by first | dsimp only [setO, setE] | rfl) (by first | dsimp only [setM, setE, setR] | rfl) (by rfl) ?_
                  refine AW.seq ?_
                  refine AW.seq ?_
                  refine AW.region ?_
                  refine ao0 (em_move (by rfl) (by rfl)) (by rfl) (by rfl) ?_
                  refine ao0 (em_move (by rfl) (by rfl)) (by rfl) (by rfl) ?_
                  refine ao_callL [] [] (hE) (by rfl) (by rfl) (by rfl) (by rfl) (by rfl) (by repeat' (first | exact True.intro | exact .inl ⟨by rfl, by rfl⟩ | exact rfl | exact .inr (.inl ⟨_, _, _, _, by rfl, by rfl⟩) | exact .inr (.inr ⟨_, _, _, _, _, _, by rfl, by rfl, by rfl, by first | exact .head _ | exact .tail _ (.head _) | exact .tail _ (.tail _ (.head _)) | exact .tail _ (.tail _ (.tail _ (.head _)))⟩) | refine And.intro ?_ ?_)) (by repeat' (first | exact True.intro | exact .inl ⟨by rfl, by rfl⟩ | exact rfl | exact .inl rfl | exact .inr (.inl ⟨_, _, _, _, by rfl, by rfl⟩) | exact .inr ⟨rfl, by first | (simp [D.scalar, bD]; done) | assumption⟩ | refine And.intro ?_ ?_)) (by rfl) (by rfl) (by rfl) (by decide) (by rfl) (by rfl) (by omega) (by first | rfl | (simp [keptB, notGone, (by rfl).live]; done) | (cases nb <;> rfl)) (by rfl) (by rfl) (by rfl) (by rfl) (by rfl) (by rfl) (by rfl) ?_
                  refine ao0 (sem_unOp (by rfl) (by rfl) (by rfl)) (by rfl) (by rfl) ?_
                  refine ao0 (em_move (by rfl) (by rfl)) (by rfl) (by rfl) ?_
                  refine ao0 (em_move (by rfl) (by rfl)) (by rfl) (by rfl) ?_
                  refine ao0 (em_move (by rfl) (by rfl)) (by rfl) (by rfl) ?_
                  refine ao0 (sem_binB tyOk (by rfl) (by rfl) (by rfl) (by rfl) (by rfl) (by rfl)) (by rfl) (by rfl) ?_
                  refine ao0 (sem_pickg (by rfl) (by rfl) (by rfl) (by rfl) (by intro hh; first | rfl | exact hh | (exact Bool.noConfusion hh) | (simp [wexp]; done) | (simp [wexp] at hh; done) | (simpa [wexp] using hh) | (simp_all; done)) (by intro hh; first | rfl | exact hh | (exact Bool.noConfusion hh) | (simp [wexp]; done) | (simp [wexp] at hh; done) | (simpa [wexp] using hh) | (simp_all; done))) (by rfl) (by rfl) ?_
                  refine ao_nil (by first | dsimp only [setO, setE] | rfl) (by first | dsimp only [setM, setE, setR] | rfl) (by rfl) ?_
                  refine AW.cond (by rfl) (fun hc7 => ?_) (fun hc7 => ?_)
                  · skip
                    exfalso; simp at hc7 <;> omega
                  · skip
                    refine AW.skip ?_
                    refine AW.seq ?_
                    refine AW.region ?_
                    refine ao0 (em_assign (by rfl) (by rfl)) (by rfl) (by rfl) ?_
                    refine ao_nil (by first | dsimp only [setO, setE] | rfl) (by first | dsimp only [setM, setE, setR] | rfl) (by rfl) ?_
                    refine AW.seq ?_
                    refine AW.region ?_
                    refine ao0 (em_move (by rfl) (by rfl)) (by rfl) (by rfl) ?_
                    refine ao0 (em_move (by rfl) (by rfl)) (by rfl) (by rfl) ?_
                    refine ao_callL [] [] (heldBNil_ok 1) (by rfl) (by rfl) (by rfl) (by rfl) (by rfl) (by repeat' (first | exact True.intro | exact .inl ⟨by rfl, by rfl⟩ | exact rfl | exact .inr (.inl ⟨_, _, _, _, by rfl, by rfl⟩) | exact .inr (.inr ⟨_, _, _, _, _, _, by rfl, by rfl, by rfl, by first | exact .head _ | exact .tail _ (.head _) | exact .tail _ (.tail _ (.head _)) | exact .tail _ (.tail _ (.tail _ (.head _)))⟩) | refine And.intro ?_ ?_)) (by repeat' (first | exact True.intro | exact .inl ⟨by rfl, by rfl⟩ | exact rfl | exact .inl rfl | exact .inr (.inl ⟨_, _, _, _, by rfl, by rfl⟩) | exact .inr ⟨rfl, by first | (simp [D.scalar, bD]; done) | assumption⟩ | refine And.intro ?_ ?_)) (by rfl) (by rfl) (by rfl) (by decide) (by rfl) (by rfl) (by omega) (by first | rfl | (simp [keptB, notGone, (by rfl).live]; done) | (cases nb <;> rfl)) (by rfl) (by rfl) (by rfl) (by rfl) (by rfl) (by rfl) (by rfl) ?_
                    refine ao0 (em_assign (by rfl) (by rfl)) (by rfl) (by rfl) ?_
                    refine ao_nil (by first | dsimp only [setO, setE] | rfl) (by first | dsimp only [setM, setE, setR] | rfl) (by rfl) ?_
                    refine AW.seq ?_
                    refine AW.seq ?_
                    refine AW.region ?_
                    refine ao0 (em_move (by rfl) (by rfl)) (by rfl) (by rfl) ?_
                    refine ao0 (em_binI (by rfl) (by rfl) (by rfl) (by rfl) (by first | rfl | trivial | exact ⟨rfl, by decide⟩ | exact ⟨rfl, by omega⟩ | decide | omega)) (by rfl) (by rfl) ?_
                    refine ao_nil (by first | dsimp only [setO, setE] | rfl) (by first | dsimp only [setM, setE, setR] | rfl) (by rfl) ?_
                    refine AW.cond (by rfl) (fun hc8 => ?_) (fun hc8 => ?_)
                    · skip
                      exfalso; simp at hc8 <;> omega
                    · skip
                      refine AW.skip ?_
                      refine AW.seq ?_
                      refine AW.seq ?_
                      refine AW.region ?_
                      refine ao0 (em_move (by rfl) (by rfl)) (by rfl) (by rfl) ?_
                      refine ao0 (em_move (by rfl) (by rfl)) (by rfl) (by rfl) ?_
                      refine ao0 (em_binI (by rfl) (by rfl) (by rfl) (by rfl) (by first | rfl | trivial | exact ⟨rfl, by decide⟩ | exact ⟨rfl, by omega⟩ | decide | omega)) (by rfl) (by rfl) ?_
                      refine ao_nil (by first | dsimp only [setO, setE] | rfl) (by first | dsimp only [setM, setE, setR] | rfl) (by rfl) ?_
                      refine AW.cond (by rfl) (fun hc9 => ?_) (fun hc9 => ?_)
                      · skip
                        exfalso; simp at hc9 <;> omega
                      · skip
                        refine AW.skip ?_
                        refine AW.seq ?_
                        refine AW.region ?_
                        refine ao0 (em_assign (by rfl) (by rfl)) (by rfl) (by rfl) ?_
                        refine ao_nil (by first | dsimp only [setO, setE] | rfl) (by first | dsimp only [setM, setE, setR] | rfl) (by rfl) ?_
                        refine AW.ret ?_
                        refine retA_data (n := 0) rfl (by rfl) ?_ rfl rfl _ (.inr rfl)
                        exact pack_b rfl
end Go.Proofs.Ytiibfkekcdkjdaa
