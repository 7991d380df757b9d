/-
  The implementation's sort: stableCmpFunc, SortStableFunc, Clone; impl.TopSamples.
-/
import Derived.Test.YtpobimdcphjljaaHd
namespace Go.Proofs.Ytpobimdcphjljaa
open Go
set_option linter.unusedVariables false
set_option linter.unusedSimpArgs false
set_option linter.unnecessarySimpa false
set_option maxRecDepth 4000

set_option maxHeartbeats 1000000 in
theorem stableCmp_ok (xs : List samT) (hl : xs.length ≤ 8) (hs : ∀ x ∈ xs, elS x) : FnOk Try.prog noG 56 [.v false [.own true 0 xs.length], .v false [.i .i64 (xs.length : Int)], .v false [.fn 35 []]] [samF true xs] (.tup []) [samF true (srt xs xs.length)] := by
  have hI := insertionSort_ok xs (by omega) hs
  refine fnOk_of' (k := 1) tyOk Try.func56 rfl (by kernel_rfl) Try.ntmps56 (by rw [Try.results56]) rfl (by simp only [List.length_cons, List.length_nil, Nat.reduceAdd, Nat.reduceSub, List.replicate_succ, List.replicate_zero, List.cons_append, List.nil_append]; rfl) (by simp) (by simp) (fun r hr => ((keptB_get (by first | rfl | (simp [keptB, notGone, R.live]; done))).2 r hr).2) fun base => ?_
  refine AW.seq ?_
  refine AW.region ?_
  first
    | refine ao0 (em_assign (by rfl) (by rfl)) (by rfl) (by rfl) ?_
    | refine ao0 (em_assignG (by rfl) (by rfl)) (by rfl) (by rfl) ?_
    | refine ao0 (sem_move (.inr (by rfl))) (by rfl) (by rfl) ?_
  refine ao_nil (by first | dsimp only [setO, setE] | rfl) (by first | dsimp only [setM, setE, setR] | rfl) (by rfl) ?_
  refine AW.seq ?_
  refine AW.region ?_
  first
    | refine ao0 (em_move (by rfl) (by rfl)) (by rfl) (by rfl) ?_
    | refine ao0 (em_moveG (by rfl) (by rfl)) (by rfl) (by rfl) ?_
    | refine ao0 (sem_move (.inl (by rfl))) (by rfl) (by rfl) ?_
  first
    | refine ao0 (em_assign (by rfl) (by rfl)) (by rfl) (by rfl) ?_
    | refine ao0 (em_assignG (by rfl) (by rfl)) (by rfl) (by rfl) ?_
    | refine ao0 (sem_move (.inr (by rfl))) (by rfl) (by rfl) ?_
  first
    | refine ao0 (em_assign (by rfl) (by rfl)) (by rfl) (by rfl) ?_
    | refine ao0 (em_assignG (by rfl) (by rfl)) (by rfl) (by rfl) ?_
    | refine ao0 (sem_move (.inr (by rfl))) (by rfl) (by rfl) ?_
  refine ao_nil (by first | dsimp only [setO, setE] | rfl) (by first | dsimp only [setM, setE, setR] | rfl) (by rfl) ?_
  refine AW.seq ?_
  refine AW.block ?_
  refine AW.unroll 1 ?_
  refine AWr_step ?_
  refine AW.seq ?_
  refine AW.seq ?_
  refine AW.region ?_
  first
    | refine ao0 (em_move (by rfl) (by rfl)) (by rfl) (by rfl) ?_
    | refine ao0 (em_moveG (by rfl) (by rfl)) (by rfl) (by rfl) ?_
    | refine ao0 (sem_move (.inl (by rfl))) (by rfl) (by rfl) ?_
  first
    | refine ao0 (em_move (by rfl) (by rfl)) (by rfl) (by rfl) ?_
    | refine ao0 (em_moveG (by rfl) (by rfl)) (by rfl) (by rfl) ?_
    | refine ao0 (sem_move (.inl (by rfl))) (by rfl) (by rfl) ?_
  first
    | refine ao0 (em_binI (by rfl) (by rfl) (by rfl) (by rfl) (by first | rfl | trivial | exact ⟨rfl, by decide⟩ | exact ⟨rfl, by omega⟩ | decide | omega)) (by rfl) (by rfl) ?_
    | refine ao0 (sem_binS (by rfl) (by rfl) (by rfl) (by rfl) (by trivial)) (by rfl) (by rfl) ?_
  refine ao_nil (by first | dsimp only [setO, setE] | rfl) (by first | dsimp only [setM, setE, setR] | rfl) (by rfl) ?_
  refine AW.cond (by rfl) (fun hc1 => ?_) (fun hc1 => ?_)
  · skip
    exfalso; simp at hc1; omega
  · skip
    refine AW.exit ?_
    refine AW.seq ?_
    refine AW.region ?_
    first
      | refine ao0 (em_move (by rfl) (by rfl)) (by rfl) (by rfl) ?_
      | refine ao0 (em_moveG (by rfl) (by rfl)) (by rfl) (by rfl) ?_
      | refine ao0 (sem_move (.inl (by rfl))) (by rfl) (by rfl) ?_
    first
      | refine ao0 (em_move (by rfl) (by rfl)) (by rfl) (by rfl) ?_
      | refine ao0 (em_moveG (by rfl) (by rfl)) (by rfl) (by rfl) ?_
      | refine ao0 (sem_move (.inl (by rfl))) (by rfl) (by rfl) ?_
    first
      | refine ao0 (em_move (by rfl) (by rfl)) (by rfl) (by rfl) ?_
      | refine ao0 (em_moveG (by rfl) (by rfl)) (by rfl) (by rfl) ?_
      | refine ao0 (sem_move (.inl (by rfl))) (by rfl) (by rfl) ?_
    first
      | refine ao0 (em_move (by rfl) (by rfl)) (by rfl) (by rfl) ?_
      | refine ao0 (em_moveG (by rfl) (by rfl)) (by rfl) (by rfl) ?_
      | refine ao0 (sem_move (.inl (by rfl))) (by rfl) (by rfl) ?_
    refine ao_callL [0] [] (hI) (by rfl) (by rfl) (by rfl) (by rfl) (by rfl) (by repeat' (first | exact True.intro | exact .inl ⟨by rfl, by rfl⟩ | exact rfl | exact .inr (.inl ⟨_, _, _, _, by rfl, by rfl⟩) | exact .inr (.inr ⟨_, _, _, _, _, _, by rfl, by rfl, by rfl, by first | exact .head _ | exact .tail _ (.head _) | exact .tail _ (.tail _ (.head _)) | exact .tail _ (.tail _ (.tail _ (.head _)))⟩) | refine And.intro ?_ ?_)) (by repeat' (first | exact True.intro | exact .inl ⟨by rfl, by rfl⟩ | exact rfl | exact .inl rfl | exact .inr (.inl ⟨_, _, _, _, by rfl, by rfl⟩) | exact .inr ⟨rfl, by simp [D.scalar, bD]⟩ | refine And.intro ?_ ?_)) (by rfl) (by rfl) (by rfl) (by decide) (by rfl) (by rfl) (by omega) (by first | rfl | (simp [keptB, notGone, (by rfl).live]; done)) (by rfl) (by rfl) (by rfl) (by rfl) (by rfl) (by rfl) (by rfl) ?_
    refine ao_nil (by first | dsimp only [setO, setE] | rfl) (by first | dsimp only [setM, setE, setR] | rfl) (by rfl) ?_
    refine AW.block ?_
    refine AW.unroll 1 ?_
    refine AWr_step ?_
    refine AW.seq ?_
    refine AW.seq ?_
    refine AW.region ?_
    first
      | refine ao0 (em_move (by rfl) (by rfl)) (by rfl) (by rfl) ?_
      | refine ao0 (em_moveG (by rfl) (by rfl)) (by rfl) (by rfl) ?_
      | refine ao0 (sem_move (.inl (by rfl))) (by rfl) (by rfl) ?_
    first
      | refine ao0 (em_move (by rfl) (by rfl)) (by rfl) (by rfl) ?_
      | refine ao0 (em_moveG (by rfl) (by rfl)) (by rfl) (by rfl) ?_
      | refine ao0 (sem_move (.inl (by rfl))) (by rfl) (by rfl) ?_
    first
      | refine ao0 (em_binI (by rfl) (by rfl) (by rfl) (by rfl) (by first | rfl | trivial | exact ⟨rfl, by decide⟩ | exact ⟨rfl, by omega⟩ | decide | omega)) (by rfl) (by rfl) ?_
      | refine ao0 (sem_binS (by rfl) (by rfl) (by rfl) (by rfl) (by trivial)) (by rfl) (by rfl) ?_
    refine ao_nil (by first | dsimp only [setO, setE] | rfl) (by first | dsimp only [setM, setE, setR] | rfl) (by rfl) ?_
    refine AW.cond (by rfl) (fun hc2 => ?_) (fun hc2 => ?_)
    · skip
      exfalso; simp at hc2; omega
    · skip
      refine AW.exit ?_
      refine retA_own (n := 0) [0] (by rfl) ?_ ?_ rfl (by simp) (by rfl) (by rfl) (by rfl) (by rfl) (by simp) _ (.inl rfl)
      · exact ⟨le_arr (by rfl) (by rfl) (by rw [srt_len]) (by rfl), trivial⟩
      · exact .inr (.inl (by rfl))
theorem SortStable_ok (xs : List samT) (hl : xs.length ≤ 8) (hs : ∀ x ∈ xs, elS x) : FnOk Try.prog noG 34 [.v false [.own true 0 xs.length], .v false [.fn 35 []]] [samF true xs] (.tup []) [samF true (srt xs xs.length)] := by
  have hI := stableCmp_ok xs hl hs
  refine fnOk_of' (k := 1) tyOk Try.func34 rfl (by kernel_rfl) Try.ntmps34 (by rw [Try.results34]) rfl (by simp only [List.length_cons, List.length_nil, Nat.reduceAdd, Nat.reduceSub, List.replicate_succ, List.replicate_zero, List.cons_append, List.nil_append]; rfl) (by simp) (by simp) (fun r hr => ((keptB_get (by first | rfl | (simp [keptB, notGone, R.live]; done))).2 r hr).2) fun base => ?_
  refine AW.region ?_
  first
    | refine ao0 (em_move (by rfl) (by rfl)) (by rfl) (by rfl) ?_
    | refine ao0 (em_moveG (by rfl) (by rfl)) (by rfl) (by rfl) ?_
    | refine ao0 (sem_move (.inl (by rfl))) (by rfl) (by rfl) ?_
  first
    | refine ao0 (em_move (by rfl) (by rfl)) (by rfl) (by rfl) ?_
    | refine ao0 (em_moveG (by rfl) (by rfl)) (by rfl) (by rfl) ?_
    | refine ao0 (sem_move (.inl (by rfl))) (by rfl) (by rfl) ?_
  first
    | refine ao0 (sem_len tyOk (by rfl) (by rfl) (by rfl) (by rfl) (by first | exact .inl ⟨_, _, _, rfl⟩ | exact .inr ⟨_, _, rfl⟩)) (by rfl) (by rfl) ?_
    | refine ao0 (sem_len_str tyOk (by rfl) (by rfl) (by rfl) (by rfl)) (by rfl) (by rfl) ?_
  first
    | refine ao0 (em_move (by rfl) (by rfl)) (by rfl) (by rfl) ?_
    | refine ao0 (em_moveG (by rfl) (by rfl)) (by rfl) (by rfl) ?_
    | refine ao0 (sem_move (.inl (by rfl))) (by rfl) (by rfl) ?_
  refine ao_callL [0] [] (hI) (by rfl) (by rfl) (by rfl) (by rfl) (by rfl) (by repeat' (first | exact True.intro | exact .inl ⟨by rfl, by rfl⟩ | exact rfl | exact .inr (.inl ⟨_, _, _, _, by rfl, by rfl⟩) | exact .inr (.inr ⟨_, _, _, _, _, _, by rfl, by rfl, by rfl, by first | exact .head _ | exact .tail _ (.head _) | exact .tail _ (.tail _ (.head _)) | exact .tail _ (.tail _ (.tail _ (.head _)))⟩) | refine And.intro ?_ ?_)) (by repeat' (first | exact True.intro | exact .inl ⟨by rfl, by rfl⟩ | exact rfl | exact .inl rfl | exact .inr (.inl ⟨_, _, _, _, by rfl, by rfl⟩) | exact .inr ⟨rfl, by simp [D.scalar, bD]⟩ | refine And.intro ?_ ?_)) (by rfl) (by rfl) (by rfl) (by decide) (by rfl) (by rfl) (by omega) (by first | rfl | (simp [keptB, notGone, (by rfl).live]; done)) (by rfl) (by rfl) (by rfl) (by rfl) (by rfl) (by rfl) (by rfl) ?_
  refine ao_nil (by first | dsimp only [setO, setE] | rfl) (by first | dsimp only [setM, setE, setR] | rfl) (by rfl) ?_
  refine retA_own (n := 0) [0] (by rfl) ?_ ?_ rfl (by simp) (by rfl) (by rfl) (by rfl) (by rfl) (by simp) _ (.inl rfl)
  · exact ⟨le_arr (by rfl) (by rfl) (by rw [srt_len]) (by rfl), trivial⟩
  · exact .inr (.inl (by rfl))
theorem Clone_ok (xs : List samT) (hl : xs.length ≤ 1000) : FnOk Try.prog noG 33 [.v false [.sl false true xs.length (xs.flatMap samD)]] [] (.v false [.own true 0 xs.length]) [samF true xs] := by
  have hfl := flat_len samD 2 samD_len xs
  refine fnOk_of' (k := 0) tyOk Try.func33 rfl (by kernel_rfl) Try.ntmps33 (by rw [Try.results33]) rfl (by simp only [List.length_cons, List.length_nil, Nat.reduceAdd, Nat.reduceSub, List.replicate_succ, List.replicate_zero, List.cons_append, List.nil_append]; rfl) (by simp) (by simp) (fun r hr => by simp at hr) fun base => ?_
  refine AW.seq ?_
  refine AW.region ?_
  first
    | refine ao0 (em_assign (by rfl) (by rfl)) (by rfl) (by rfl) ?_
    | refine ao0 (em_assignG (by rfl) (by rfl)) (by rfl) (by rfl) ?_
    | refine ao0 (sem_move (.inr (by rfl))) (by rfl) (by rfl) ?_
  refine ao_nil (by first | dsimp only [setO, setE] | rfl) (by first | dsimp only [setM, setE, setR] | rfl) (by rfl) ?_
  refine AW.seq ?_
  refine AW.seq ?_
  refine AW.region ?_
  first
    | refine ao0 (em_move (by rfl) (by rfl)) (by rfl) (by rfl) ?_
    | refine ao0 (em_moveG (by rfl) (by rfl)) (by rfl) (by rfl) ?_
    | refine ao0 (sem_move (.inl (by rfl))) (by rfl) (by rfl) ?_
  first
    | refine ao0 (em_binI (by rfl) (by rfl) (by rfl) (by rfl) (by first | rfl | trivial | exact ⟨rfl, by decide⟩ | exact ⟨rfl, by omega⟩ | decide | omega)) (by rfl) (by rfl) ?_
    | refine ao0 (sem_binB tyOk (by rfl) (by rfl) (by rfl) (by rfl) (by rfl) (by rfl)) (by rfl) (by rfl) ?_
    | refine ao0 (sem_nilS tyOk (by rfl) (by rfl) (by rfl) (by rfl) (by rfl) (by first | exact .inl ⟨rfl, rfl⟩ | exact .inr ⟨rfl, rfl⟩)) (by rfl) (by rfl) ?_
    | refine ao0 (sem_binS (by rfl) (by rfl) (by rfl) (by rfl) (by trivial)) (by rfl) (by rfl) ?_
  refine ao_nil (by first | dsimp only [setO, setE] | rfl) (by first | dsimp only [setM, setE, setR] | rfl) (by rfl) ?_
  refine AW.cond (by rfl) (fun hc1 => ?_) (fun hc1 => ?_)
  · skip
    exfalso; simp at hc1
  · skip
    refine AW.skip ?_
    refine AW.seq ?_
    refine AW.region ?_
    first
      | refine ao1 (sem_buildSlice0 tyOk (by rfl) (by rfl) (by rfl) (by rfl)) (by omega) (by rfl) (by rfl) ?_
      | refine ao1 (sem_buildSlice tyOk (by rfl) (by rfl) (by rfl) (by rfl) (by rfl) (by rfl) (by rfl) (by decide) (by decide) (by rfl)) (by omega) (by rfl) (by rfl) ?_
    first
      | refine ao0 (em_move (by rfl) (by rfl)) (by rfl) (by rfl) ?_
      | refine ao0 (em_moveG (by rfl) (by rfl)) (by rfl) (by rfl) ?_
      | refine ao0 (sem_move (.inl (by rfl))) (by rfl) (by rfl) ?_
    first
      | refine ao_append_nil tyOk (by rfl) (by rfl) (by rfl) (by rfl) (by rfl) (by rfl) (by rfl) (.inl ⟨_, _, rfl⟩) (fun r hr => by cases hr) (by rfl) (by first | rfl | exact sliceOf_own (by rfl)) (by first | rfl | decide | (simp; done) | omega) (by first | decide | omega | (unfold maxLen; omega)) (by first | decide | omega | (dsimp only; omega)) (by first | omega | exact Nat.le_of_ble_eq_true rfl) ?_
      | refine ao_append_own tyOk (by rfl) (by rfl) (by rfl) (by rfl) (by rfl) (by rfl) (by rfl) (by rfl) (by rfl) (by rfl) (by first | rfl | exact sliceOf_own (by rfl)) (by first | rfl | decide | (simp; done) | omega) (by first | decide | omega | (unfold maxLen; omega)) (by first | decide | omega | (dsimp only; omega)) (by first | omega | exact Nat.le_of_ble_eq_true rfl) (by first | omega | exact Nat.le_of_ble_eq_true rfl) ?_
      | refine ao_append_any tyOk (by rfl) (by rfl) (by rfl) (by rfl) (by rfl) (by rfl) (by rfl) (by rfl) (by rfl) (by rfl) (by first | rfl | exact sliceOf_own (by rfl)) (by first | rfl | decide | (simp; done) | omega) (by first | decide | omega | (unfold maxLen; omega)) (by first | decide | omega | (dsimp only; omega)) (by first | omega | exact Nat.le_of_ble_eq_true rfl) (by first | omega | exact Nat.le_of_ble_eq_true rfl) (by first | (simp only [Nat.zero_lt_one, decide_true, Bool.or_true]; rfl) | rfl) ?_
    first
      | refine ao0 (em_assign (by rfl) (by rfl)) (by rfl) (by rfl) ?_
      | refine ao0 (em_assignG (by rfl) (by rfl)) (by rfl) (by rfl) ?_
      | refine ao0 (sem_move (.inr (by rfl))) (by rfl) (by rfl) ?_
    refine ao_nil (by first | dsimp only [setO, setE] | rfl) (by first | dsimp only [setM, setE, setR] | rfl) (by rfl) ?_
    refine AW.ret ?_
    refine retA_own (n := 0) [1] (by rfl) ?_ ?_ rfl (by simp) (by rfl) (by rfl) (by rfl) (by rfl) (by simp) _ (.inr rfl)
    · exact ⟨le_arr (by rfl) (by rfl) (by simp) (by simp), trivial⟩
    · exact le_own (by rfl) (by rfl) (by simp)
end Go.Proofs.Ytpobimdcphjljaa
