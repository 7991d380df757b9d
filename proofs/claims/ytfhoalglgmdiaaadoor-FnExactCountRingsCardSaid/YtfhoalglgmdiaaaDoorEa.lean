/-
  The exact laws of an alert's states and rings: contracts.
-/
import Derived.Test.YtfhoalglgmdiaaaDoorSq
namespace Go.Proofs.YtfhoalglgmdiaaaDoor
open Go
set_option linter.unusedVariables false
set_option linter.unusedSimpArgs false
set_option linter.unnecessarySimpa false

theorem toRule_ok (a b c : Int) : FnOk Tryd.prog noG 16 [.v true [.i .i64 a, .i .i64 b, .i .i64 c]] [] (.v true [.i .i64 a, .i .i64 b, .i .i64 c]) [] := by
  refine fnOk_of' (k := 0) tyOk Tryd.func16 rfl (by kernel_rfl) Tryd.ntmps16 (by rw [Tryd.results16]) rfl (by simp only [List.length_cons, List.length_nil, Nat.reduceAdd, Nat.reduceSub, List.replicate_succ, List.replicate_zero, List.cons_append, List.nil_append]; rfl) (by simp) (by simp) (fun r hr => by simp at hr) fun base => ?_
  refine AW.seq ?_
  refine AW.region ?_
  refine ao1 (sem_box (by rfl) (by rfl)) (by omega) (by rfl) (by rfl) ?_
  refine ao1 (sem_alloc tyOk (by rfl) (by rfl)) (by omega) (by rfl) (by rfl) ?_
  refine ao_nil (by first | dsimp only [setO, setE] | rfl) (by first | dsimp only [setM, setE, setR] | rfl) (by rfl) ?_
  refine AW.seq ?_
  refine AW.region ?_
  refine ao1 (sem_alloc tyOk (by rfl) (by rfl)) (by omega) (by rfl) (by rfl) ?_
  refine ao_nil (by first | dsimp only [setO, setE] | rfl) (by first | dsimp only [setM, setE, setR] | rfl) (by rfl) ?_
  refine AW.seq ?_
  refine AW.region ?_
  refine ao0 (sem_fieldAddr tyOk (by rfl) (by rfl) (by rfl) (by rfl) (by rfl) (by rfl)) (by rfl) (by rfl) ?_
  refine ao_load tyOk (by rfl) (by rfl) (by rfl) (by rfl) (by rfl) (by rfl) (by rfl) (by first | trivial | exact Nat.le_of_ble_eq_true rfl | decide | (simp; done) | omega) ?_
  refine ao0 (sem_fieldAddr tyOk (by rfl) (by rfl) (by rfl) (by rfl) (by rfl) (by rfl)) (by rfl) (by rfl) ?_
  first
    | refine ao_store_box tyOk (by rfl) (by rfl) (by rfl) (by rfl) (by rfl) (by rfl) (by rfl) (by rfl) (by first | exact Nat.le_of_ble_eq_true rfl | decide | (simp; done) | omega) ?_
    | refine ao_store_arr tyOk (by rfl) (by rfl) (by rfl) (by rfl) (by rfl) (by rfl) (by rfl) (by rfl) (by rfl) (by first | decide | (simp; done) | omega | (simp only [List.length_cons, List.length_nil, List.length_map]; omega) | (simp only [setR_len, List.length_cons, List.length_nil, List.length_map]; omega)) ?_
  refine ao_nil (by first | dsimp only [setO, setE] | rfl) (by first | dsimp only [setM, setE, setR] | rfl) (by rfl) ?_
  refine AW.seq ?_
  refine AW.region ?_
  refine ao0 (sem_fieldAddr tyOk (by rfl) (by rfl) (by rfl) (by rfl) (by rfl) (by rfl)) (by rfl) (by rfl) ?_
  refine ao_load tyOk (by rfl) (by rfl) (by rfl) (by rfl) (by rfl) (by rfl) (by rfl) (by first | trivial | exact Nat.le_of_ble_eq_true rfl | decide | (simp; done) | omega) ?_
  refine ao0 (sem_fieldAddr tyOk (by rfl) (by rfl) (by rfl) (by rfl) (by rfl) (by rfl)) (by rfl) (by rfl) ?_
  first
    | refine ao_store_box tyOk (by rfl) (by rfl) (by rfl) (by rfl) (by rfl) (by rfl) (by rfl) (by rfl) (by first | exact Nat.le_of_ble_eq_true rfl | decide | (simp; done) | omega) ?_
    | refine ao_store_arr tyOk (by rfl) (by rfl) (by rfl) (by rfl) (by rfl) (by rfl) (by rfl) (by rfl) (by rfl) (by first | decide | (simp; done) | omega | (simp only [List.length_cons, List.length_nil, List.length_map]; omega) | (simp only [setR_len, List.length_cons, List.length_nil, List.length_map]; omega)) ?_
  refine ao_nil (by first | dsimp only [setO, setE] | rfl) (by first | dsimp only [setM, setE, setR] | rfl) (by rfl) ?_
  refine AW.seq ?_
  refine AW.region ?_
  refine ao0 (sem_fieldAddr tyOk (by rfl) (by rfl) (by rfl) (by rfl) (by rfl) (by rfl)) (by rfl) (by rfl) ?_
  refine ao_load tyOk (by rfl) (by rfl) (by rfl) (by rfl) (by rfl) (by rfl) (by rfl) (by first | trivial | exact Nat.le_of_ble_eq_true rfl | decide | (simp; done) | omega) ?_
  refine ao0 (sem_fieldAddr tyOk (by rfl) (by rfl) (by rfl) (by rfl) (by rfl) (by rfl)) (by rfl) (by rfl) ?_
  first
    | refine ao_store_box tyOk (by rfl) (by rfl) (by rfl) (by rfl) (by rfl) (by rfl) (by rfl) (by rfl) (by first | exact Nat.le_of_ble_eq_true rfl | decide | (simp; done) | omega) ?_
    | refine ao_store_arr tyOk (by rfl) (by rfl) (by rfl) (by rfl) (by rfl) (by rfl) (by rfl) (by rfl) (by rfl) (by first | decide | (simp; done) | omega | (simp only [List.length_cons, List.length_nil, List.length_map]; omega) | (simp only [setR_len, List.length_cons, List.length_nil, List.length_map]; omega)) ?_
  refine ao_nil (by first | dsimp only [setO, setE] | rfl) (by first | dsimp only [setM, setE, setR] | rfl) (by rfl) ?_
  refine AW.seq ?_
  refine AW.region ?_
  refine ao_load tyOk (by rfl) (by rfl) (by rfl) (by rfl) (by rfl) (by rfl) (by rfl) (by first | trivial | exact Nat.le_of_ble_eq_true rfl | decide | (simp; done) | omega) ?_
  first
    | refine ao_store_box tyOk (by rfl) (by rfl) (by rfl) (by rfl) (by rfl) (by rfl) (by rfl) (by rfl) (by first | exact Nat.le_of_ble_eq_true rfl | decide | (simp; done) | omega) ?_
    | refine ao_store_arr tyOk (by rfl) (by rfl) (by rfl) (by rfl) (by rfl) (by rfl) (by rfl) (by rfl) (by rfl) (by first | decide | (simp; done) | omega | (simp only [List.length_cons, List.length_nil, List.length_map]; omega) | (simp only [setR_len, List.length_cons, List.length_nil, List.length_map]; omega)) ?_
  refine ao_nil (by first | dsimp only [setO, setE] | rfl) (by first | dsimp only [setM, setE, setR] | rfl) (by rfl) ?_
  refine AW.ret ?_
  refine retA_data (n := 0) rfl (by rfl) ?_ rfl rfl _ (.inr rfl)
  all_goals rfl
theorem eqPoint_ok (x y : pntT) : FnOk Tryd.prog noG 51 [.v true (pntC x), .v true (pntC y)] [] (.v false [.b (decide (x = y))]) [] := by
  obtain ⟨x0, x1⟩ := x; obtain ⟨y0, y1⟩ := y
  refine fnOk_of' (k := 0) tyOk Tryd.func51 rfl (by kernel_rfl) Tryd.ntmps51 (by rw [Tryd.results51]) rfl (by simp only [List.length_cons, List.length_nil, Nat.reduceAdd, Nat.reduceSub, List.replicate_succ, List.replicate_zero, List.cons_append, List.nil_append]; rfl) (by simp) (by simp) (fun r hr => by simp at hr) fun base => ?_
  refine AW.seq ?_
  refine AW.region ?_
  refine ao1 (sem_box (by rfl) (by rfl)) (by omega) (by rfl) (by rfl) ?_
  refine ao1 (sem_box (by rfl) (by rfl)) (by omega) (by rfl) (by rfl) ?_
  first
    | refine ao0 (em_assign (by rfl) (by rfl)) (by rfl) (by rfl) ?_
    | refine ao0 (em_assignG (by rfl) (by rfl)) (by rfl) (by rfl) ?_
    | refine ao0 (sem_move (.inr (by rfl))) (by rfl) (by rfl) ?_
  refine ao_nil (by first | dsimp only [setO, setE] | rfl) (by first | dsimp only [setM, setE, setR] | rfl) (by rfl) ?_
  refine AW.seq ?_
  refine AW.seq ?_
  refine AW.region ?_
  refine ao0 (sem_fieldAddr tyOk (by rfl) (by rfl) (by rfl) (by rfl) (by rfl) (by rfl)) (by rfl) (by rfl) ?_
  refine ao_load tyOk (by rfl) (by rfl) (by rfl) (by rfl) (by rfl) (by rfl) (by rfl) (by first | trivial | exact Nat.le_of_ble_eq_true rfl | decide | (simp; done) | omega) ?_
  refine ao0 (sem_fieldAddr tyOk (by rfl) (by rfl) (by rfl) (by rfl) (by rfl) (by rfl)) (by rfl) (by rfl) ?_
  refine ao_load tyOk (by rfl) (by rfl) (by rfl) (by rfl) (by rfl) (by rfl) (by rfl) (by first | trivial | exact Nat.le_of_ble_eq_true rfl | decide | (simp; done) | omega) ?_
  first
    | refine ao0 (em_binI (by rfl) (by rfl) (by rfl) (by rfl) (by first | rfl | trivial | exact ⟨rfl, by decide⟩ | exact ⟨rfl, by omega⟩ | decide | omega)) (by rfl) (by rfl) ?_
    | refine ao0 (sem_binB tyOk (by rfl) (by rfl) (by rfl) (by rfl) (by rfl) (by rfl)) (by rfl) (by rfl) ?_
    | refine ao0 (sem_nilS tyOk (by rfl) (by rfl) (by rfl) (by rfl) (by rfl) (by first | exact .inl ⟨rfl, rfl⟩ | exact .inr ⟨rfl, rfl⟩)) (by rfl) (by rfl) ?_
    | refine ao0 (sem_binS (by rfl) (by rfl) (by rfl) (by rfl) (by trivial)) (by rfl) (by rfl) ?_
  refine ao_nil (by first | dsimp only [setO, setE] | rfl) (by first | dsimp only [setM, setE, setR] | rfl) (by rfl) ?_
  refine AW.cond (by rfl) (fun hc1 => ?_) (fun hc1 => ?_)
  · skip
    refine AW.seq ?_
    refine AW.region ?_
    first
      | refine ao0 (em_assign (by rfl) (by rfl)) (by rfl) (by rfl) ?_
      | refine ao0 (em_assignG (by rfl) (by rfl)) (by rfl) (by rfl) ?_
      | refine ao0 (sem_move (.inr (by rfl))) (by rfl) (by rfl) ?_
    refine ao_nil (by first | dsimp only [setO, setE] | rfl) (by first | dsimp only [setM, setE, setR] | rfl) (by rfl) ?_
    refine AW.ret ?_
    refine retA_data (n := 0) rfl (by rfl) ?_ rfl rfl _ (.inr rfl)
    exact pack_b (by first | (simp_all; done) | (simp_all; omega))
  · skip
    refine AW.skip ?_
    refine AW.seq ?_
    refine AW.seq ?_
    refine AW.region ?_
    refine ao0 (sem_fieldAddr tyOk (by rfl) (by rfl) (by rfl) (by rfl) (by rfl) (by rfl)) (by rfl) (by rfl) ?_
    refine ao_load tyOk (by rfl) (by rfl) (by rfl) (by rfl) (by rfl) (by rfl) (by rfl) (by first | trivial | exact Nat.le_of_ble_eq_true rfl | decide | (simp; done) | omega) ?_
    refine ao0 (sem_fieldAddr tyOk (by rfl) (by rfl) (by rfl) (by rfl) (by rfl) (by rfl)) (by rfl) (by rfl) ?_
    refine ao_load tyOk (by rfl) (by rfl) (by rfl) (by rfl) (by rfl) (by rfl) (by rfl) (by first | trivial | exact Nat.le_of_ble_eq_true rfl | decide | (simp; done) | omega) ?_
    first
      | refine ao0 (em_binI (by rfl) (by rfl) (by rfl) (by rfl) (by first | rfl | trivial | exact ⟨rfl, by decide⟩ | exact ⟨rfl, by omega⟩ | decide | omega)) (by rfl) (by rfl) ?_
      | refine ao0 (sem_binB tyOk (by rfl) (by rfl) (by rfl) (by rfl) (by rfl) (by rfl)) (by rfl) (by rfl) ?_
      | refine ao0 (sem_nilS tyOk (by rfl) (by rfl) (by rfl) (by rfl) (by rfl) (by first | exact .inl ⟨rfl, rfl⟩ | exact .inr ⟨rfl, rfl⟩)) (by rfl) (by rfl) ?_
      | refine ao0 (sem_binS (by rfl) (by rfl) (by rfl) (by rfl) (by trivial)) (by rfl) (by rfl) ?_
    refine ao_nil (by first | dsimp only [setO, setE] | rfl) (by first | dsimp only [setM, setE, setR] | rfl) (by rfl) ?_
    refine AW.cond (by rfl) (fun hc2 => ?_) (fun hc2 => ?_)
    · skip
      refine AW.seq ?_
      refine AW.region ?_
      first
        | refine ao0 (em_assign (by rfl) (by rfl)) (by rfl) (by rfl) ?_
        | refine ao0 (em_assignG (by rfl) (by rfl)) (by rfl) (by rfl) ?_
        | refine ao0 (sem_move (.inr (by rfl))) (by rfl) (by rfl) ?_
      refine ao_nil (by first | dsimp only [setO, setE] | rfl) (by first | dsimp only [setM, setE, setR] | rfl) (by rfl) ?_
      refine AW.ret ?_
      refine retA_data (n := 0) rfl (by rfl) ?_ rfl rfl _ (.inr rfl)
      exact pack_b (by first | (simp_all; done) | (simp_all; omega))
    · skip
      refine AW.skip ?_
      refine AW.seq ?_
      refine AW.region ?_
      first
        | refine ao0 (em_assign (by rfl) (by rfl)) (by rfl) (by rfl) ?_
        | refine ao0 (em_assignG (by rfl) (by rfl)) (by rfl) (by rfl) ?_
        | refine ao0 (sem_move (.inr (by rfl))) (by rfl) (by rfl) ?_
      refine ao_nil (by first | dsimp only [setO, setE] | rfl) (by first | dsimp only [setM, setE, setR] | rfl) (by rfl) ?_
      refine AW.ret ?_
      refine retA_data (n := 0) rfl (by rfl) ?_ rfl rfl _ (.inr rfl)
      exact pack_b (by first | (simp_all; done) | (simp_all; omega))
theorem toPoint_ok (x : pntT) : FnOk Tryd.prog noG 18 [.v true (pntC x)] [] (.v true (pntC x)) [] := by
  refine fnOk_of' (k := 0) tyOk Tryd.func18 rfl (by kernel_rfl) Tryd.ntmps18 (by rw [Tryd.results18]) rfl (by simp only [List.length_cons, List.length_nil, Nat.reduceAdd, Nat.reduceSub, List.replicate_succ, List.replicate_zero, List.cons_append, List.nil_append]; rfl) (by simp) (by simp) (fun r hr => by simp at hr) fun base => ?_
  refine AW.seq ?_
  refine AW.region ?_
  refine ao1 (sem_box (by rfl) (by rfl)) (by omega) (by rfl) (by rfl) ?_
  refine ao1 (sem_alloc tyOk (by rfl) (by rfl)) (by omega) (by rfl) (by rfl) ?_
  refine ao_nil (by first | dsimp only [setO, setE] | rfl) (by first | dsimp only [setM, setE, setR] | rfl) (by rfl) ?_
  refine AW.seq ?_
  refine AW.region ?_
  refine ao1 (sem_alloc tyOk (by rfl) (by rfl)) (by omega) (by rfl) (by rfl) ?_
  refine ao_nil (by first | dsimp only [setO, setE] | rfl) (by first | dsimp only [setM, setE, setR] | rfl) (by rfl) ?_
  refine AW.seq ?_
  refine AW.region ?_
  refine ao0 (sem_fieldAddr tyOk (by rfl) (by rfl) (by rfl) (by rfl) (by rfl) (by rfl)) (by rfl) (by rfl) ?_
  refine ao_load tyOk (by rfl) (by rfl) (by rfl) (by rfl) (by rfl) (by rfl) (by rfl) (by first | trivial | exact Nat.le_of_ble_eq_true rfl | decide | (simp; done) | omega) ?_
  refine ao0 (sem_fieldAddr tyOk (by rfl) (by rfl) (by rfl) (by rfl) (by rfl) (by rfl)) (by rfl) (by rfl) ?_
  first
    | refine ao_store_box tyOk (by rfl) (by rfl) (by rfl) (by rfl) (by rfl) (by rfl) (by rfl) (by rfl) (by first | exact Nat.le_of_ble_eq_true rfl | decide | (simp; done) | omega) ?_
    | refine ao_store_arr tyOk (by rfl) (by rfl) (by rfl) (by rfl) (by rfl) (by rfl) (by rfl) (by rfl) (by rfl) (by first | decide | (simp; done) | omega | (simp only [List.length_cons, List.length_nil, List.length_map]; omega) | (simp only [setR_len, List.length_cons, List.length_nil, List.length_map]; omega)) ?_
  refine ao_nil (by first | dsimp only [setO, setE] | rfl) (by first | dsimp only [setM, setE, setR] | rfl) (by rfl) ?_
  refine AW.seq ?_
  refine AW.region ?_
  refine ao0 (sem_fieldAddr tyOk (by rfl) (by rfl) (by rfl) (by rfl) (by rfl) (by rfl)) (by rfl) (by rfl) ?_
  refine ao_load tyOk (by rfl) (by rfl) (by rfl) (by rfl) (by rfl) (by rfl) (by rfl) (by first | trivial | exact Nat.le_of_ble_eq_true rfl | decide | (simp; done) | omega) ?_
  refine ao0 (sem_fieldAddr tyOk (by rfl) (by rfl) (by rfl) (by rfl) (by rfl) (by rfl)) (by rfl) (by rfl) ?_
  first
    | refine ao_store_box tyOk (by rfl) (by rfl) (by rfl) (by rfl) (by rfl) (by rfl) (by rfl) (by rfl) (by first | exact Nat.le_of_ble_eq_true rfl | decide | (simp; done) | omega) ?_
    | refine ao_store_arr tyOk (by rfl) (by rfl) (by rfl) (by rfl) (by rfl) (by rfl) (by rfl) (by rfl) (by rfl) (by first | decide | (simp; done) | omega | (simp only [List.length_cons, List.length_nil, List.length_map]; omega) | (simp only [setR_len, List.length_cons, List.length_nil, List.length_map]; omega)) ?_
  refine ao_nil (by first | dsimp only [setO, setE] | rfl) (by first | dsimp only [setM, setE, setR] | rfl) (by rfl) ?_
  refine AW.seq ?_
  refine AW.region ?_
  refine ao_load tyOk (by rfl) (by rfl) (by rfl) (by rfl) (by rfl) (by rfl) (by rfl) (by first | trivial | exact Nat.le_of_ble_eq_true rfl | decide | (simp; done) | omega) ?_
  first
    | refine ao_store_box tyOk (by rfl) (by rfl) (by rfl) (by rfl) (by rfl) (by rfl) (by rfl) (by rfl) (by first | exact Nat.le_of_ble_eq_true rfl | decide | (simp; done) | omega) ?_
    | refine ao_store_arr tyOk (by rfl) (by rfl) (by rfl) (by rfl) (by rfl) (by rfl) (by rfl) (by rfl) (by rfl) (by first | decide | (simp; done) | omega | (simp only [List.length_cons, List.length_nil, List.length_map]; omega) | (simp only [setR_len, List.length_cons, List.length_nil, List.length_map]; omega)) ?_
  refine ao_nil (by first | dsimp only [setO, setE] | rfl) (by first | dsimp only [setM, setE, setR] | rfl) (by rfl) ?_
  refine AW.ret ?_
  refine retA_data (n := 0) rfl (by rfl) ?_ rfl rfl _ (.inr rfl)
  all_goals rfl
set_option maxHeartbeats 1000000 in
theorem eqPointS_ok (n1 n2 : Bool) (xs ys : List pntT) (h1 : xs.length ≤ 1048576) (h2 : ys.length ≤ 1048576) (hn1 : n1 = false → xs = []) (hn2 : n2 = false → ys = []) : FnOk Tryd.prog noG 30 [.v false [.sl false n1 xs.length (xs.flatMap pntD)], .v false [.sl false n2 ys.length (ys.flatMap pntD)]] [] (.v false [.b (decide (xs = ys))]) [] := by
  refine fnOk_of' (k := 0) tyOk Tryd.func30 rfl (by kernel_rfl) Tryd.ntmps30 (by rw [Tryd.results30]) rfl (by simp only [List.length_cons, List.length_nil, Nat.reduceAdd, Nat.reduceSub, List.replicate_succ, List.replicate_zero, List.cons_append, List.nil_append]; rfl) (by simp) (by simp) (fun r hr => by simp at hr) fun base => ?_
  refine AW.seq ?_
  refine AW.region ?_
  first
    | refine ao0 (em_assign (by rfl) (by rfl)) (by rfl) (by rfl) ?_
    | refine ao0 (em_assignG (by rfl) (by rfl)) (by rfl) (by rfl) ?_
    | refine ao0 (sem_move (.inr (by rfl))) (by rfl) (by rfl) ?_
  refine ao_nil (by first | dsimp only [setO, setE] | rfl) (by first | dsimp only [setM, setE, setR] | rfl) (by rfl) ?_
  refine AW.seq ?_
  refine AW.seq ?_
  refine AW.region ?_
  first
    | refine ao0 (em_move (by rfl) (by rfl)) (by rfl) (by rfl) ?_
    | refine ao0 (em_moveG (by rfl) (by rfl)) (by rfl) (by rfl) ?_
    | refine ao0 (sem_move (.inl (by rfl))) (by rfl) (by rfl) ?_
  first
    | refine ao0 (sem_len tyOk (by rfl) (by rfl) (by rfl) (by rfl) (by first | exact .inl ⟨_, _, _, rfl⟩ | exact .inr ⟨_, _, rfl⟩)) (by rfl) (by rfl) ?_
    | refine ao0 (sem_len_str tyOk (by rfl) (by rfl) (by rfl) (by rfl)) (by rfl) (by rfl) ?_
  first
    | refine ao0 (em_move (by rfl) (by rfl)) (by rfl) (by rfl) ?_
    | refine ao0 (em_moveG (by rfl) (by rfl)) (by rfl) (by rfl) ?_
    | refine ao0 (sem_move (.inl (by rfl))) (by rfl) (by rfl) ?_
  first
    | refine ao0 (sem_len tyOk (by rfl) (by rfl) (by rfl) (by rfl) (by first | exact .inl ⟨_, _, _, rfl⟩ | exact .inr ⟨_, _, rfl⟩)) (by rfl) (by rfl) ?_
    | refine ao0 (sem_len_str tyOk (by rfl) (by rfl) (by rfl) (by rfl)) (by rfl) (by rfl) ?_
  first
    | refine ao0 (em_binI (by rfl) (by rfl) (by rfl) (by rfl) (by first | rfl | trivial | exact ⟨rfl, by decide⟩ | exact ⟨rfl, by omega⟩ | decide | omega)) (by rfl) (by rfl) ?_
    | refine ao0 (sem_binB tyOk (by rfl) (by rfl) (by rfl) (by rfl) (by rfl) (by rfl)) (by rfl) (by rfl) ?_
    | refine ao0 (sem_nilS tyOk (by rfl) (by rfl) (by rfl) (by rfl) (by rfl) (by first | exact .inl ⟨rfl, rfl⟩ | exact .inr ⟨rfl, rfl⟩)) (by rfl) (by rfl) ?_
    | refine ao0 (sem_binS (by rfl) (by rfl) (by rfl) (by rfl) (by trivial)) (by rfl) (by rfl) ?_
  refine ao_nil (by first | dsimp only [setO, setE] | rfl) (by first | dsimp only [setM, setE, setR] | rfl) (by rfl) ?_
  refine AW.cond (by rfl) (fun hc1 => ?_) (fun hc1 => ?_)
  · skip
    have hne : xs ≠ ys := fun e => by subst e; simp at hc1
    refine AW.seq ?_
    refine AW.region ?_
    first
      | refine ao0 (em_assign (by rfl) (by rfl)) (by rfl) (by rfl) ?_
      | refine ao0 (em_assignG (by rfl) (by rfl)) (by rfl) (by rfl) ?_
      | refine ao0 (sem_move (.inr (by rfl))) (by rfl) (by rfl) ?_
    refine ao_nil (by first | dsimp only [setO, setE] | rfl) (by first | dsimp only [setM, setE, setR] | rfl) (by rfl) ?_
    refine AW.ret ?_
    refine retA_data (n := 0) rfl (by rfl) ?_ rfl rfl _ (.inr rfl)
    first | exact pack_b (decide_eq_true hee).symm | exact pack_b (decide_eq_false hne).symm
  · skip
    have hll : xs.length = ys.length := by simp at hc1; omega
    refine AW.skip ?_
    refine AW.seq ?_
    refine AW.seq ?_
    refine AW.region ?_
    first
      | refine ao0 (em_assign (by rfl) (by rfl)) (by rfl) (by rfl) ?_
      | refine ao0 (em_assignG (by rfl) (by rfl)) (by rfl) (by rfl) ?_
      | refine ao0 (sem_move (.inr (by rfl))) (by rfl) (by rfl) ?_
    refine ao_nil (by first | dsimp only [setO, setE] | rfl) (by first | dsimp only [setM, setE, setR] | rfl) (by rfl) ?_
    refine AW.block ?_
    refine AW.loopU (X := {i : Nat // i ≤ xs.length ∧ xs.take i = ys.take i}) (fun i => [(5, .v false [.i .i64 (i.1 : Int)]), (2, .any), (3, .any), (4, .any), (6, .any), (7, .any), (8, .any), (9, .any), (10, .any), (11, .any), (12, .any), (13, .any), (14, .any), (15, .any), (16, .any), (17, .any), (18, .any), (19, .any), (20, .any), (21, .any), (22, .any), (23, .any), (24, .any), (25, .any), (26, .any)]) (fun i => []) 0 (fun i => xs.length - i.1) ⟨0, Nat.zero_le _, rfl⟩ ?_ ?_
    · skip
      dsimp only [updL, setE]
      refine into_lists [] ?_ ?_ rfl rfl (by decide) (by rfl) (by rfl) (by rfl) (by rfl) (by omega)
      all_goals (try (repeat' (first | exact True.intro | exact Or.inl rfl | exact Or.inr (Or.inl rfl) | refine And.intro ?_ ?_ | exact le_i (by omega) | exact le_own (by rfl) (by rfl) (by first | rfl | omega) | exact le_arr (by rfl) (by rfl) (by first | rfl | omega) (by rfl) | exact Or.inr (Or.inr (Or.inl ⟨_, _, rfl, rfl⟩)) | exact Or.inr (Or.inr ⟨_, _, rfl⟩) | exact Or.inr (Or.inr (Or.inr ⟨_, _, _, _, rfl, rfl⟩)))))
    · intro i
      refine AW.norm (by first | dsimp only [updL, setE] | rfl) rfl rfl ?_
      obtain ⟨i, hi, heq⟩ := i
      dsimp only
      refine AW.seq ?_
      refine AW.seq ?_
      refine AW.region ?_
      first
        | refine ao0 (em_move (by rfl) (by rfl)) (by rfl) (by rfl) ?_
        | refine ao0 (em_moveG (by rfl) (by rfl)) (by rfl) (by rfl) ?_
        | refine ao0 (sem_move (.inl (by rfl))) (by rfl) (by rfl) ?_
      first
        | refine ao0 (em_move (by rfl) (by rfl)) (by rfl) (by rfl) ?_
        | refine ao0 (em_moveG (by rfl) (by rfl)) (by rfl) (by rfl) ?_
        | refine ao0 (sem_move (.inl (by rfl))) (by rfl) (by rfl) ?_
      first
        | refine ao0 (sem_len tyOk (by rfl) (by rfl) (by rfl) (by rfl) (by first | exact .inl ⟨_, _, _, rfl⟩ | exact .inr ⟨_, _, rfl⟩)) (by rfl) (by rfl) ?_
        | refine ao0 (sem_len_str tyOk (by rfl) (by rfl) (by rfl) (by rfl)) (by rfl) (by rfl) ?_
      first
        | refine ao0 (em_binI (by rfl) (by rfl) (by rfl) (by rfl) (by first | rfl | trivial | exact ⟨rfl, by decide⟩ | exact ⟨rfl, by omega⟩ | decide | omega)) (by rfl) (by rfl) ?_
        | refine ao0 (sem_binS (by rfl) (by rfl) (by rfl) (by rfl) (by trivial)) (by rfl) (by rfl) ?_
      refine ao_nil (by first | dsimp only [setO, setE] | rfl) (by first | dsimp only [setM, setE, setR] | rfl) (by rfl) ?_
      refine AW.cond (by rfl) (fun hc2 => ?_) (fun hc2 => ?_)
      · skip
        have hlt : i < xs.length := by simpa using hc2
        have hlt2 : i < ys.length := by omega
        obtain rfl := nn_of hn1 hlt
        obtain rfl := nn_of hn2 hlt2
        have HD := flat_at pntD 2 pntD_len xs i hlt
        have HE := flat_at pntD 2 pntD_len ys i hlt2
        have htx := List.take_succ_eq_append_getElem hlt
        have hty := List.take_succ_eq_append_getElem hlt2
        refine AW.skip ?_
        refine AW.seq ?_
        refine AW.block ?_
        refine AW.seq ?_
        refine AW.draw follows0 (by kernel_rfl) ?_
        first
          | refine ao0 (em_move (by rfl) (by rfl)) (by rfl) (by rfl) ?_
          | refine ao0 (em_moveG (by rfl) (by rfl)) (by rfl) (by rfl) ?_
          | refine ao0 (sem_move (.inl (by rfl))) (by rfl) (by rfl) ?_
        first
          | refine ao0 (em_move (by rfl) (by rfl)) (by rfl) (by rfl) ?_
          | refine ao0 (em_moveG (by rfl) (by rfl)) (by rfl) (by rfl) ?_
          | refine ao0 (sem_move (.inl (by rfl))) (by rfl) (by rfl) ?_
        first
          | refine ao0 (sem_indexR tyOk (by rfl) (by rfl) (by rfl) (by rfl) (by rfl) HD (by omega) (by omega)) (by rfl) (by rfl) ?_
          | refine ao0 (sem_indexR tyOk (by rfl) (by rfl) (by rfl) (by rfl) (by rfl) HE (by omega) (by omega)) (by rfl) (by rfl) ?_
          | refine ao0 (sem_indexAddr tyOk (by rfl) (by rfl) (by rfl) (by rfl) (by rfl) (by rfl) (by omega) (by omega)) (by rfl) (by rfl) ?_
          | refine ao0 (sem_indexAddrA tyOk (by rfl) (by rfl) (by rfl) (by rfl) (by rfl) (by rfl) (by omega) (by omega)) (by rfl) (by rfl) ?_
        first
          | refine ao_load tyOk (by rfl) (by rfl) (by rfl) (by rfl) (by rfl) (by rfl) (by rfl) (by first | trivial | exact Nat.le_of_ble_eq_true rfl | decide | (simp; done) | omega) ?_
          | refine ao_load tyOk (by rfl) (by rfl) (by rfl) (by rfl) (by rfl) (cont_arr (by rfl) HD) (by rfl) (by first | trivial | exact Nat.le_of_ble_eq_true rfl | decide | (simp; done) | omega) ?_
          | refine ao_load tyOk (by rfl) (by rfl) (by rfl) (by rfl) (by rfl) (cont_arr (by rfl) HE) (by rfl) (by first | trivial | exact Nat.le_of_ble_eq_true rfl | decide | (simp; done) | omega) ?_
        first
          | refine ao0 (em_move (by rfl) (by rfl)) (by rfl) (by rfl) ?_
          | refine ao0 (em_moveG (by rfl) (by rfl)) (by rfl) (by rfl) ?_
          | refine ao0 (sem_move (.inl (by rfl))) (by rfl) (by rfl) ?_
        first
          | refine ao0 (em_move (by rfl) (by rfl)) (by rfl) (by rfl) ?_
          | refine ao0 (em_moveG (by rfl) (by rfl)) (by rfl) (by rfl) ?_
          | refine ao0 (sem_move (.inl (by rfl))) (by rfl) (by rfl) ?_
        first
          | refine ao0 (sem_indexR tyOk (by rfl) (by rfl) (by rfl) (by rfl) (by rfl) HD (by omega) (by omega)) (by rfl) (by rfl) ?_
          | refine ao0 (sem_indexR tyOk (by rfl) (by rfl) (by rfl) (by rfl) (by rfl) HE (by omega) (by omega)) (by rfl) (by rfl) ?_
          | refine ao0 (sem_indexAddr tyOk (by rfl) (by rfl) (by rfl) (by rfl) (by rfl) (by rfl) (by omega) (by omega)) (by rfl) (by rfl) ?_
          | refine ao0 (sem_indexAddrA tyOk (by rfl) (by rfl) (by rfl) (by rfl) (by rfl) (by rfl) (by omega) (by omega)) (by rfl) (by rfl) ?_
        first
          | refine ao_load tyOk (by rfl) (by rfl) (by rfl) (by rfl) (by rfl) (by rfl) (by rfl) (by first | trivial | exact Nat.le_of_ble_eq_true rfl | decide | (simp; done) | omega) ?_
          | refine ao_load tyOk (by rfl) (by rfl) (by rfl) (by rfl) (by rfl) (cont_arr (by rfl) HD) (by rfl) (by first | trivial | exact Nat.le_of_ble_eq_true rfl | decide | (simp; done) | omega) ?_
          | refine ao_load tyOk (by rfl) (by rfl) (by rfl) (by rfl) (by rfl) (cont_arr (by rfl) HE) (by rfl) (by first | trivial | exact Nat.le_of_ble_eq_true rfl | decide | (simp; done) | omega) ?_
        refine ao_callL [] [] (eqPoint_ok xs[i] ys[i]) (by rfl) (by rfl) (by rfl) (by rfl) (by rfl) (by repeat' (first | exact True.intro | exact .inl ⟨by rfl, by rfl⟩ | exact rfl | exact .inr (.inl ⟨_, _, _, _, by rfl, by rfl⟩) | exact .inr (.inr ⟨_, _, _, _, _, _, by rfl, by rfl, by rfl, by first | exact .head _ | exact .tail _ (.head _) | exact .tail _ (.tail _ (.head _)) | exact .tail _ (.tail _ (.tail _ (.head _)))⟩) | refine And.intro ?_ ?_)) (by repeat' (first | exact True.intro | exact .inl ⟨by rfl, by rfl⟩ | exact rfl | exact .inl rfl | exact .inr (.inl ⟨_, _, _, _, by rfl, by rfl⟩) | exact .inr ⟨rfl, by simp [D.scalar, bD]⟩ | refine And.intro ?_ ?_)) (by rfl) (by rfl) (by rfl) (by decide) (by rfl) (by rfl) (by omega) (by first | rfl | (simp [keptB, notGone, (by rfl).live]; done)) (by rfl) (by rfl) (by rfl) (by rfl) (by rfl) (by rfl) (by rfl) ?_
        refine ao0 (sem_unOp (by rfl) (by rfl) (by rfl)) (by rfl) (by rfl) ?_
        refine ao_nil (by first | dsimp only [setO, setE] | rfl) (by first | dsimp only [setM, setE, setR] | rfl) (by rfl) ?_
        refine ⟨by kernel_rfl, ?_⟩
        refine AW.cond (by rfl) (fun hc3 => ?_) (fun hc3 => ?_)
        · skip
          have hne : xs ≠ ys := fun e => by subst e; simp at hc3
          refine AW.seq ?_
          refine AW.region ?_
          first
            | refine ao0 (em_assign (by rfl) (by rfl)) (by rfl) (by rfl) ?_
            | refine ao0 (em_assignG (by rfl) (by rfl)) (by rfl) (by rfl) ?_
            | refine ao0 (sem_move (.inr (by rfl))) (by rfl) (by rfl) ?_
          refine ao_nil (by first | dsimp only [setO, setE] | rfl) (by first | dsimp only [setM, setE, setR] | rfl) (by rfl) ?_
          refine AW.ret ?_
          refine retA_data (n := 0) rfl (by rfl) ?_ rfl rfl _ (.inr rfl)
          first | exact pack_b (decide_eq_true hee).symm | exact pack_b (decide_eq_false hne).symm
        · skip
          have hel : xs[i] = ys[i] := by first | (simpa using hc3) | (simp at hc3; exact pnt_ext (by simp_all) (by simp_all))
          refine AW.skip ?_
          refine AW.region ?_
          first
            | refine ao0 (em_move (by rfl) (by rfl)) (by rfl) (by rfl) ?_
            | refine ao0 (em_moveG (by rfl) (by rfl)) (by rfl) (by rfl) ?_
            | refine ao0 (sem_move (.inl (by rfl))) (by rfl) (by rfl) ?_
          first
            | refine ao0 (em_add (by rfl) (by rfl) (by rfl) (by omega) (by omega)) (by rfl) (by rfl) ?_
            | refine ao0 (em_add8 (by rfl) (by rfl) (by rfl) (by omega) (by omega)) (by rfl) (by rfl) ?_
            | refine ao0 (em_binI (by rfl) (by rfl) (by rfl) (by rfl) (by first | rfl | trivial | exact ⟨rfl, by decide⟩ | exact ⟨rfl, by omega⟩ | decide | omega)) (by rfl) (by rfl) ?_
            | refine ao0 (sem_binS (by rfl) (by rfl) (by rfl) (by rfl) (by trivial)) (by rfl) (by rfl) ?_
          first
            | refine ao0 (em_assign (by rfl) (by rfl)) (by rfl) (by rfl) ?_
            | refine ao0 (em_assignG (by rfl) (by rfl)) (by rfl) (by rfl) ?_
            | refine ao0 (sem_move (.inr (by rfl))) (by rfl) (by rfl) ?_
          refine ao_nil (by first | dsimp only [setO, setE] | rfl) (by first | dsimp only [setM, setE, setR] | rfl) (by rfl) ?_
          refine ⟨⟨i + 1, hlt, by rw [htx, hty, heq, hel]⟩, by dsimp only; omega, ?_⟩
          dsimp only [updL, setE]
          refine into_lists [] ?_ ?_ rfl rfl (by decide) (by rfl) (by rfl) (by rfl) (by rfl) (by omega)
          all_goals (try (repeat' (first | exact True.intro | exact Or.inl rfl | exact Or.inr (Or.inl rfl) | refine And.intro ?_ ?_ | exact le_i (by omega) | exact le_own (by rfl) (by rfl) (by first | rfl | omega) | exact le_arr (by rfl) (by rfl) (by first | rfl | omega) (by rfl) | exact Or.inr (Or.inr (Or.inl ⟨_, _, rfl, rfl⟩)) | exact Or.inr (Or.inr ⟨_, _, rfl⟩) | exact Or.inr (Or.inr (Or.inr ⟨_, _, _, _, rfl, rfl⟩)))))
      · skip
        have hge : i = xs.length := by simp at hc2; omega
        subst hge
        have hee : xs = ys := by rw [List.take_length, hll, List.take_length] at heq; exact heq
        refine AW.exit ?_
        refine AW.seq ?_
        refine AW.region ?_
        first
          | refine ao0 (em_assign (by rfl) (by rfl)) (by rfl) (by rfl) ?_
          | refine ao0 (em_assignG (by rfl) (by rfl)) (by rfl) (by rfl) ?_
          | refine ao0 (sem_move (.inr (by rfl))) (by rfl) (by rfl) ?_
        refine ao_nil (by first | dsimp only [setO, setE] | rfl) (by first | dsimp only [setM, setE, setR] | rfl) (by rfl) ?_
        refine AW.ret ?_
        refine retA_data (n := 0) rfl (by rfl) ?_ rfl rfl _ (.inr rfl)
        first | exact pack_b (decide_eq_true hee).symm | exact pack_b (decide_eq_false hne).symm
theorem szPointS_ok (nn : Bool) (xs : List pntT) (left : Int) (h1 : 0 ≤ left) (h2 : left ≤ 1048576) (hl : xs.length ≤ 9223372036854775807) : FnOk Tryd.prog noG 26 [.v false [.sl false nn xs.length (xs.flatMap pntD)], .v false [.i .i64 left]] [] (.v false [.i .i64 (if left < xs.length then -1 else left - xs.length)]) [] := by
  refine fnOk_of' (k := 0) tyOk Tryd.func26 rfl (by kernel_rfl) Tryd.ntmps26 (by rw [Tryd.results26]) rfl (by simp only [List.length_cons, List.length_nil, Nat.reduceAdd, Nat.reduceSub, List.replicate_succ, List.replicate_zero, List.cons_append, List.nil_append]; rfl) (by simp) (by simp) (fun r hr => by simp at hr) fun base => ?_
  refine AW.seq ?_
  refine AW.region ?_
  first
    | refine ao0 (em_assign (by rfl) (by rfl)) (by rfl) (by rfl) ?_
    | refine ao0 (em_assignG (by rfl) (by rfl)) (by rfl) (by rfl) ?_
    | refine ao0 (sem_move (.inr (by rfl))) (by rfl) (by rfl) ?_
  refine ao_nil (by first | dsimp only [setO, setE] | rfl) (by first | dsimp only [setM, setE, setR] | rfl) (by rfl) ?_
  refine AW.seq ?_
  refine AW.region ?_
  first
    | refine ao0 (em_move (by rfl) (by rfl)) (by rfl) (by rfl) ?_
    | refine ao0 (em_moveG (by rfl) (by rfl)) (by rfl) (by rfl) ?_
    | refine ao0 (sem_move (.inl (by rfl))) (by rfl) (by rfl) ?_
  first
    | refine ao0 (em_move (by rfl) (by rfl)) (by rfl) (by rfl) ?_
    | refine ao0 (em_moveG (by rfl) (by rfl)) (by rfl) (by rfl) ?_
    | refine ao0 (sem_move (.inl (by rfl))) (by rfl) (by rfl) ?_
  first
    | refine ao0 (sem_len tyOk (by rfl) (by rfl) (by rfl) (by rfl) (by first | exact .inl ⟨_, _, _, rfl⟩ | exact .inr ⟨_, _, rfl⟩)) (by rfl) (by rfl) ?_
    | refine ao0 (sem_len_str tyOk (by rfl) (by rfl) (by rfl) (by rfl)) (by rfl) (by rfl) ?_
  first
    | refine ao0 (em_sub (by rfl) (by rfl) (by rfl) (by omega) (by omega)) (by rfl) (by rfl) ?_
    | refine ao0 (em_sub8 (by rfl) (by rfl) (by rfl) (by omega) (by omega)) (by rfl) (by rfl) ?_
    | refine ao0 (em_binI (by rfl) (by rfl) (by rfl) (by rfl) (by first | rfl | trivial | exact ⟨rfl, by decide⟩ | exact ⟨rfl, by omega⟩ | decide | omega)) (by rfl) (by rfl) ?_
    | refine ao0 (sem_binS (by rfl) (by rfl) (by rfl) (by rfl) (by trivial)) (by rfl) (by rfl) ?_
  first
    | refine ao0 (em_assign (by rfl) (by rfl)) (by rfl) (by rfl) ?_
    | refine ao0 (em_assignG (by rfl) (by rfl)) (by rfl) (by rfl) ?_
    | refine ao0 (sem_move (.inr (by rfl))) (by rfl) (by rfl) ?_
  refine ao_nil (by first | dsimp only [setO, setE] | rfl) (by first | dsimp only [setM, setE, setR] | rfl) (by rfl) ?_
  refine AW.seq ?_
  refine AW.seq ?_
  refine AW.region ?_
  first
    | refine ao0 (em_move (by rfl) (by rfl)) (by rfl) (by rfl) ?_
    | refine ao0 (em_moveG (by rfl) (by rfl)) (by rfl) (by rfl) ?_
    | refine ao0 (sem_move (.inl (by rfl))) (by rfl) (by rfl) ?_
  first
    | refine ao0 (em_binI (by rfl) (by rfl) (by rfl) (by rfl) (by first | rfl | trivial | exact ⟨rfl, by decide⟩ | exact ⟨rfl, by omega⟩ | decide | omega)) (by rfl) (by rfl) ?_
    | refine ao0 (sem_binS (by rfl) (by rfl) (by rfl) (by rfl) (by trivial)) (by rfl) (by rfl) ?_
  refine ao_nil (by first | dsimp only [setO, setE] | rfl) (by first | dsimp only [setM, setE, setR] | rfl) (by rfl) ?_
  refine AW.cond (by rfl) (fun hc1 => ?_) (fun hc1 => ?_)
  · skip
    refine AW.seq ?_
    refine AW.region ?_
    first
      | refine ao0 (em_assign (by rfl) (by rfl)) (by rfl) (by rfl) ?_
      | refine ao0 (em_assignG (by rfl) (by rfl)) (by rfl) (by rfl) ?_
      | refine ao0 (sem_move (.inr (by rfl))) (by rfl) (by rfl) ?_
    refine ao_nil (by first | dsimp only [setO, setE] | rfl) (by first | dsimp only [setM, setE, setR] | rfl) (by rfl) ?_
    refine AW.ret ?_
    refine retA_data (n := 0) rfl (by rfl) ?_ rfl rfl _ (.inr rfl)
    exact pack_i (by simp at hc1; first | (rw [if_pos (by omega)]; done) | (rw [if_neg (by omega)]; done))
  · skip
    refine AW.skip ?_
    refine AW.seq ?_
    refine AW.region ?_
    first
      | refine ao0 (em_move (by rfl) (by rfl)) (by rfl) (by rfl) ?_
      | refine ao0 (em_moveG (by rfl) (by rfl)) (by rfl) (by rfl) ?_
      | refine ao0 (sem_move (.inl (by rfl))) (by rfl) (by rfl) ?_
    first
      | refine ao0 (em_assign (by rfl) (by rfl)) (by rfl) (by rfl) ?_
      | refine ao0 (em_assignG (by rfl) (by rfl)) (by rfl) (by rfl) ?_
      | refine ao0 (sem_move (.inr (by rfl))) (by rfl) (by rfl) ?_
    refine ao_nil (by first | dsimp only [setO, setE] | rfl) (by first | dsimp only [setM, setE, setR] | rfl) (by rfl) ?_
    refine AW.ret ?_
    refine retA_data (n := 0) rfl (by rfl) ?_ rfl rfl _ (.inr rfl)
    exact pack_i (by simp at hc1; first | (rw [if_pos (by omega)]; done) | (rw [if_neg (by omega)]; done))
set_option maxHeartbeats 1000000 in
theorem toPointS_ok (nn : Bool) (xs : List pntT) (hl : xs.length ≤ 1048576) (hnn : nn = false → xs = []) : FnOk Tryd.prog noG 28 [.v false [.sl false nn xs.length (xs.flatMap pntD)]] [] (.v false [.own true 0 xs.length]) [.arr 34 true true xs.length (xs.flatMap pntD)] := by
  refine fnOk_of' (k := 0) tyOk Tryd.func28 rfl (by kernel_rfl) Tryd.ntmps28 (by rw [Tryd.results28]) rfl (by simp only [List.length_cons, List.length_nil, Nat.reduceAdd, Nat.reduceSub, List.replicate_succ, List.replicate_zero, List.cons_append, List.nil_append]; rfl) (by simp) (by simp) (fun r hr => by simp at hr) fun base => ?_
  refine AW.seq ?_
  refine AW.region ?_
  first
    | refine ao0 (em_assign (by rfl) (by rfl)) (by rfl) (by rfl) ?_
    | refine ao0 (em_assignG (by rfl) (by rfl)) (by rfl) (by rfl) ?_
    | refine ao0 (sem_move (.inr (by rfl))) (by rfl) (by rfl) ?_
  refine ao_nil (by first | dsimp only [setO, setE] | rfl) (by first | dsimp only [setM, setE, setR] | rfl) (by rfl) ?_
  refine AW.seq ?_
  refine AW.region ?_
  first
    | refine ao0 (em_move (by rfl) (by rfl)) (by rfl) (by rfl) ?_
    | refine ao0 (em_moveG (by rfl) (by rfl)) (by rfl) (by rfl) ?_
    | refine ao0 (sem_move (.inl (by rfl))) (by rfl) (by rfl) ?_
  first
    | refine ao0 (sem_len tyOk (by rfl) (by rfl) (by rfl) (by rfl) (by first | exact .inl ⟨_, _, _, rfl⟩ | exact .inr ⟨_, _, rfl⟩)) (by rfl) (by rfl) ?_
    | refine ao0 (sem_len_str tyOk (by rfl) (by rfl) (by rfl) (by rfl)) (by rfl) (by rfl) ?_
  refine ao1 (sem_makeSlice tyOk (by rfl) (by rfl) (by rfl) (by rfl) (by rfl) (by rfl) (by rfl) (by omega) (by omega) (by dsimp only; omega) (by omega) (by first | omega | (unfold maxLen; omega))) (by omega) (by rfl) (by rfl) ?_
  first
    | refine ao0 (em_assign (by rfl) (by rfl)) (by rfl) (by rfl) ?_
    | refine ao0 (em_assignG (by rfl) (by rfl)) (by rfl) (by rfl) ?_
    | refine ao0 (sem_move (.inr (by rfl))) (by rfl) (by rfl) ?_
  refine ao_nil (by first | dsimp only [setO, setE] | rfl) (by first | dsimp only [setM, setE, setR] | rfl) (by rfl) ?_
  refine AW.seq ?_
  refine AW.seq ?_
  refine AW.region ?_
  first
    | refine ao0 (em_assign (by rfl) (by rfl)) (by rfl) (by rfl) ?_
    | refine ao0 (em_assignG (by rfl) (by rfl)) (by rfl) (by rfl) ?_
    | refine ao0 (sem_move (.inr (by rfl))) (by rfl) (by rfl) ?_
  refine ao_nil (by first | dsimp only [setO, setE] | rfl) (by first | dsimp only [setM, setE, setR] | rfl) (by rfl) ?_
  refine AW.block ?_
  refine AW.loopU (X := {i : Nat // i ≤ xs.length}) (fun i => [(4, .v false [.i .i64 (i.1 : Int)]), (1, .any), (5, .any), (6, .any), (7, .any), (8, .any), (9, .any), (10, .any), (11, .any), (12, .any), (13, .any), (14, .any), (15, .any), (16, .any), (17, .any), (18, .any), (19, .any), (20, .any), (21, .any)]) (fun i => [.arr 34 true true xs.length ((toG ((0, 0) : pntT) xs i.1).flatMap pntD)]) 1 (fun i => xs.length - i.1) ⟨0, Nat.zero_le _⟩ ?_ ?_
  · skip
    dsimp only [updL, setE]
    refine into_lists [0] ?_ ?_ rfl rfl (by decide) (by rfl) (by rfl) (by rfl) (by rfl) (by omega)
    all_goals (try (repeat' (first | exact True.intro | exact Or.inl rfl | exact Or.inr (Or.inl rfl) | refine And.intro ?_ ?_ | exact le_i (by omega) | exact le_own (by rfl) (by rfl) (by first | rfl | omega) | exact le_arr (by rfl) (by rfl) (by first | rfl | omega) (by rfl) | exact Or.inr (Or.inr (Or.inl ⟨_, _, rfl, rfl⟩)) | exact Or.inr (Or.inr ⟨_, _, rfl⟩) | exact Or.inr (Or.inr (Or.inr ⟨_, _, _, _, rfl, rfl⟩)))))
    all_goals exact le_arr (by rfl) (by rfl) (by simp) (toG_zero pntD (0, 0) _ rfl _ xs (by simp))
  · intro i
    refine AW.norm (by first | dsimp only [updL, setE] | rfl) rfl rfl ?_
    obtain ⟨i, hi⟩ := i
    dsimp only
    have htl := toG_len ((0, 0) : pntT) xs i hi
    have hfl := flat_len pntD 2 pntD_len (toG ((0, 0) : pntT) xs i)
    refine AW.seq ?_
    refine AW.seq ?_
    refine AW.region ?_
    first
      | refine ao0 (em_move (by rfl) (by rfl)) (by rfl) (by rfl) ?_
      | refine ao0 (em_moveG (by rfl) (by rfl)) (by rfl) (by rfl) ?_
      | refine ao0 (sem_move (.inl (by rfl))) (by rfl) (by rfl) ?_
    first
      | refine ao0 (em_move (by rfl) (by rfl)) (by rfl) (by rfl) ?_
      | refine ao0 (em_moveG (by rfl) (by rfl)) (by rfl) (by rfl) ?_
      | refine ao0 (sem_move (.inl (by rfl))) (by rfl) (by rfl) ?_
    first
      | refine ao0 (sem_len tyOk (by rfl) (by rfl) (by rfl) (by rfl) (by first | exact .inl ⟨_, _, _, rfl⟩ | exact .inr ⟨_, _, rfl⟩)) (by rfl) (by rfl) ?_
      | refine ao0 (sem_len_str tyOk (by rfl) (by rfl) (by rfl) (by rfl)) (by rfl) (by rfl) ?_
    first
      | refine ao0 (em_binI (by rfl) (by rfl) (by rfl) (by rfl) (by first | rfl | trivial | exact ⟨rfl, by decide⟩ | exact ⟨rfl, by omega⟩ | decide | omega)) (by rfl) (by rfl) ?_
      | refine ao0 (sem_binS (by rfl) (by rfl) (by rfl) (by rfl) (by trivial)) (by rfl) (by rfl) ?_
    refine ao_nil (by first | dsimp only [setO, setE] | rfl) (by first | dsimp only [setM, setE, setR] | rfl) (by rfl) ?_
    refine AW.cond (by rfl) (fun hc1 => ?_) (fun hc1 => ?_)
    · skip
      have hlt : i < xs.length := by simpa using hc1
      obtain rfl := nn_of hnn hlt
      have HD := flat_at pntD 2 pntD_len xs i hlt
      have hcl : (pntC xs[i]).length = 2 := rfl
      refine AW.skip ?_
      refine AW.seq ?_
      refine AW.block ?_
      refine AW.region ?_
      first
        | refine ao0 (em_move (by rfl) (by rfl)) (by rfl) (by rfl) ?_
        | refine ao0 (em_moveG (by rfl) (by rfl)) (by rfl) (by rfl) ?_
        | refine ao0 (sem_move (.inl (by rfl))) (by rfl) (by rfl) ?_
      first
        | refine ao0 (em_move (by rfl) (by rfl)) (by rfl) (by rfl) ?_
        | refine ao0 (em_moveG (by rfl) (by rfl)) (by rfl) (by rfl) ?_
        | refine ao0 (sem_move (.inl (by rfl))) (by rfl) (by rfl) ?_
      first
        | refine ao0 (em_move (by rfl) (by rfl)) (by rfl) (by rfl) ?_
        | refine ao0 (em_moveG (by rfl) (by rfl)) (by rfl) (by rfl) ?_
        | refine ao0 (sem_move (.inl (by rfl))) (by rfl) (by rfl) ?_
      first
        | refine ao0 (em_move (by rfl) (by rfl)) (by rfl) (by rfl) ?_
        | refine ao0 (em_moveG (by rfl) (by rfl)) (by rfl) (by rfl) ?_
        | refine ao0 (sem_move (.inl (by rfl))) (by rfl) (by rfl) ?_
      first
        | refine ao0 (sem_indexR tyOk (by rfl) (by rfl) (by rfl) (by rfl) (by rfl) HD (by omega) (by omega)) (by rfl) (by rfl) ?_
        | refine ao0 (sem_indexAddr tyOk (by rfl) (by rfl) (by rfl) (by rfl) (by rfl) (by rfl) (by omega) (by omega)) (by rfl) (by rfl) ?_
        | refine ao0 (sem_indexAddrA tyOk (by rfl) (by rfl) (by rfl) (by rfl) (by rfl) (by rfl) (by omega) (by omega)) (by rfl) (by rfl) ?_
      first
        | refine ao_load tyOk (by rfl) (by rfl) (by rfl) (by rfl) (by rfl) (by rfl) (by rfl) (by first | trivial | exact Nat.le_of_ble_eq_true rfl | decide | (simp; done) | omega) ?_
        | refine ao_load tyOk (by rfl) (by rfl) (by rfl) (by rfl) (by rfl) (cont_arr (by rfl) HD) (by rfl) (by first | trivial | exact Nat.le_of_ble_eq_true rfl | decide | (simp; done) | omega) ?_
      refine ao_callL [] [] (toPoint_ok xs[i]) (by rfl) (by rfl) (by rfl) (by rfl) (by rfl) (by repeat' (first | exact True.intro | exact .inl ⟨by rfl, by rfl⟩ | exact rfl | exact .inr (.inl ⟨_, _, _, _, by rfl, by rfl⟩) | exact .inr (.inr ⟨_, _, _, _, _, _, by rfl, by rfl, by rfl, by first | exact .head _ | exact .tail _ (.head _) | exact .tail _ (.tail _ (.head _)) | exact .tail _ (.tail _ (.tail _ (.head _)))⟩) | refine And.intro ?_ ?_)) (by repeat' (first | exact True.intro | exact .inl ⟨by rfl, by rfl⟩ | exact rfl | exact .inl rfl | exact .inr (.inl ⟨_, _, _, _, by rfl, by rfl⟩) | exact .inr ⟨rfl, by simp [D.scalar, bD]⟩ | refine And.intro ?_ ?_)) (by rfl) (by rfl) (by rfl) (by decide) (by rfl) (by rfl) (by omega) (by first | rfl | (simp [keptB, notGone, (by rfl).live]; done)) (by rfl) (by rfl) (by rfl) (by rfl) (by rfl) (by rfl) (by rfl) ?_
      first
        | refine ao0 (sem_indexR tyOk (by rfl) (by rfl) (by rfl) (by rfl) (by rfl) HD (by omega) (by omega)) (by rfl) (by rfl) ?_
        | refine ao0 (sem_indexAddr tyOk (by rfl) (by rfl) (by rfl) (by rfl) (by rfl) (by rfl) (by omega) (by omega)) (by rfl) (by rfl) ?_
        | refine ao0 (sem_indexAddrA tyOk (by rfl) (by rfl) (by rfl) (by rfl) (by rfl) (by rfl) (by omega) (by omega)) (by rfl) (by rfl) ?_
      first
        | refine ao_store_box tyOk (by rfl) (by rfl) (by rfl) (by rfl) (by rfl) (by rfl) (by rfl) (by rfl) (by first | exact Nat.le_of_ble_eq_true rfl | decide | (simp; done) | omega) ?_
        | refine ao_store_arr tyOk (by rfl) (by rfl) (by rfl) (by rfl) (by rfl) (by rfl) (by rfl) (by rfl) (by rfl) (by first | decide | (simp; done) | omega | (simp only [List.length_cons, List.length_nil, List.length_map]; omega) | (simp only [setR_len, List.length_cons, List.length_nil, List.length_map]; omega)) ?_
      refine ao_nil (by first | dsimp only [setO, setE] | rfl) (by first | dsimp only [setM, setE, setR] | rfl) (by rfl) ?_
      refine AW.region ?_
      first
        | refine ao0 (em_move (by rfl) (by rfl)) (by rfl) (by rfl) ?_
        | refine ao0 (em_moveG (by rfl) (by rfl)) (by rfl) (by rfl) ?_
        | refine ao0 (sem_move (.inl (by rfl))) (by rfl) (by rfl) ?_
      first
        | refine ao0 (em_add (by rfl) (by rfl) (by rfl) (by omega) (by omega)) (by rfl) (by rfl) ?_
        | refine ao0 (em_add8 (by rfl) (by rfl) (by rfl) (by omega) (by omega)) (by rfl) (by rfl) ?_
        | refine ao0 (em_binI (by rfl) (by rfl) (by rfl) (by rfl) (by first | rfl | trivial | exact ⟨rfl, by decide⟩ | exact ⟨rfl, by omega⟩ | decide | omega)) (by rfl) (by rfl) ?_
        | refine ao0 (sem_binS (by rfl) (by rfl) (by rfl) (by rfl) (by trivial)) (by rfl) (by rfl) ?_
      first
        | refine ao0 (em_assign (by rfl) (by rfl)) (by rfl) (by rfl) ?_
        | refine ao0 (em_assignG (by rfl) (by rfl)) (by rfl) (by rfl) ?_
        | refine ao0 (sem_move (.inr (by rfl))) (by rfl) (by rfl) ?_
      refine ao_nil (by first | dsimp only [setO, setE] | rfl) (by first | dsimp only [setM, setE, setR] | rfl) (by rfl) ?_
      have hst := flat_set pntD 2 pntD_len (toG ((0, 0) : pntT) xs i) i (by omega) xs[i]
      rw [toG_step _ xs i hlt] at hst
      refine ⟨⟨i + 1, hlt⟩, by dsimp only; omega, ?_⟩
      dsimp only [updL, setE]
      refine into_lists [0] ?_ ?_ rfl rfl (by decide) (by rfl) (by rfl) (by rfl) (by rfl) (by omega)
      all_goals (try (repeat' (first | exact True.intro | exact Or.inl rfl | exact Or.inr (Or.inl rfl) | refine And.intro ?_ ?_ | exact le_i (by omega) | exact le_own (by rfl) (by rfl) (by first | rfl | omega) | exact le_arr (by rfl) (by rfl) (by first | rfl | omega) (by rfl) | exact Or.inr (Or.inr (Or.inl ⟨_, _, rfl, rfl⟩)) | exact Or.inr (Or.inr ⟨_, _, rfl⟩) | exact Or.inr (Or.inr (Or.inr ⟨_, _, _, _, rfl, rfl⟩)))))
      all_goals exact le_arr (by rfl) (by rfl) (by rfl) (by rw [Int.toNat_natCast]; exact hst)
    · skip
      have hge : i = xs.length := by simp at hc1; omega
      subst hge
      refine AW.exit ?_
      refine AW.seq ?_
      refine AW.region ?_
      first
        | refine ao0 (em_move (by rfl) (by rfl)) (by rfl) (by rfl) ?_
        | refine ao0 (em_moveG (by rfl) (by rfl)) (by rfl) (by rfl) ?_
        | refine ao0 (sem_move (.inl (by rfl))) (by rfl) (by rfl) ?_
      first
        | refine ao0 (em_assign (by rfl) (by rfl)) (by rfl) (by rfl) ?_
        | refine ao0 (em_assignG (by rfl) (by rfl)) (by rfl) (by rfl) ?_
        | refine ao0 (sem_move (.inr (by rfl))) (by rfl) (by rfl) ?_
      refine ao_nil (by first | dsimp only [setO, setE] | rfl) (by first | dsimp only [setM, setE, setR] | rfl) (by rfl) ?_
      refine AW.ret ?_
      refine retA_own [0] (by rfl) ?_ ?_ rfl (by decide) (by rfl) (by rfl) (by rfl) (by rfl) (by simp) _ (.inr rfl)
      · exact ⟨le_arr (by rfl) (by rfl) (by rfl) (by rw [toG_all]), trivial⟩
      · exact le_own (by rfl) (by rfl) (by simp)
set_option maxHeartbeats 2000000 in
theorem markPointS_ok (nn : Bool) (xs : List pntT) (m : Int) (h0 : 0 ≤ m) (h1 : m ≤ 1000000000) (hl : xs.length ≤ 1048576) (hnn : nn = false → xs = []) : FnOk Tryd.prog noG 32 [.v false [.own nn 0 xs.length], .v false [.i .i64 m]] [.arr 34 true nn xs.length (xs.flatMap pntD)] (.v false [.i .i64 (m + 2 * (xs.length : Int))]) [.arr 34 true nn xs.length ((heldG pntG 2 m xs.length).flatMap pntD)] := by
  refine fnOk_of' (k := 1) tyOk Tryd.func32 rfl (by kernel_rfl) Tryd.ntmps32 (by rw [Tryd.results32]) rfl (by simp only [List.length_cons, List.length_nil, Nat.reduceAdd, Nat.reduceSub, List.replicate_succ, List.replicate_zero, List.cons_append, List.nil_append]; rfl) (by simp) (by simp) (fun r hr => ((keptB_get (by first | rfl | (simp [keptB, notGone, R.live]; done))).2 r hr).2) fun base => ?_
  refine AW.seq ?_
  refine AW.region ?_
  first
    | refine ao0 (em_assign (by rfl) (by rfl)) (by rfl) (by rfl) ?_
    | refine ao0 (em_assignG (by rfl) (by rfl)) (by rfl) (by rfl) ?_
    | refine ao0 (sem_move (.inr (by rfl))) (by rfl) (by rfl) ?_
  refine ao_nil (by first | dsimp only [setO, setE] | rfl) (by first | dsimp only [setM, setE, setR] | rfl) (by rfl) ?_
  refine AW.seq ?_
  refine AW.seq ?_
  refine AW.region ?_
  first
    | refine ao0 (em_assign (by rfl) (by rfl)) (by rfl) (by rfl) ?_
    | refine ao0 (em_assignG (by rfl) (by rfl)) (by rfl) (by rfl) ?_
    | refine ao0 (sem_move (.inr (by rfl))) (by rfl) (by rfl) ?_
  refine ao_nil (by first | dsimp only [setO, setE] | rfl) (by first | dsimp only [setM, setE, setR] | rfl) (by rfl) ?_
  refine AW.block ?_
  refine AW.loopU (X := {i : Nat // i ≤ xs.length}) (fun i => [(5, .v false [.i .i64 (i.1 : Int)]), (1, .v false [.i .i64 (m + 2 * (i.1 : Int))]), (2, .any), (3, .any), (6, .any), (7, .any), (8, .any), (9, .any), (10, .any), (11, .any), (12, .any), (13, .any), (14, .any), (15, .any), (16, .any), (17, .any), (18, .any), (19, .any), (20, .any), (21, .any), (22, .any), (23, .any), (24, .any), (25, .any)]) (fun i => [.arr 34 true nn xs.length ((markG pntG 2 m xs i.1).flatMap pntD)]) 1 (fun i => xs.length - i.1) ⟨0, Nat.zero_le _⟩ ?_ ?_
  · skip
    dsimp only [updL, setE]
    refine into_lists [0] ?_ ?_ rfl rfl (by decide) (by rfl) (by rfl) (by rfl) (by rfl) (by omega)
    all_goals (try (repeat' (first | exact True.intro | exact Or.inl rfl | exact Or.inr (Or.inl rfl) | refine And.intro ?_ ?_ | exact le_i (by omega) | exact le_own (by rfl) (by rfl) (by first | rfl | omega) | exact le_arr (by rfl) (by rfl) (by first | rfl | omega) (by rfl) | exact Or.inr (Or.inr (Or.inl ⟨_, _, rfl, rfl⟩)) | exact Or.inr (Or.inr ⟨_, _, rfl⟩) | exact Or.inr (Or.inr (Or.inr ⟨_, _, _, _, rfl, rfl⟩)))))
    all_goals first | exact le_i (by omega) | exact le_arr (by rfl) (by rfl) (by rfl) (by rw [markG_zero])
  · intro i
    refine AW.norm (by first | dsimp only [updL, setE] | rfl) rfl rfl ?_
    obtain ⟨i, hi⟩ := i
    dsimp only
    have htl := markG_len pntG 2 m xs i hi
    have hfl := flat_len pntD 2 pntD_len (markG pntG 2 m xs i)
    refine AW.seq ?_
    refine AW.seq ?_
    refine AW.region ?_
    first
      | refine ao0 (em_move (by rfl) (by rfl)) (by rfl) (by rfl) ?_
      | refine ao0 (em_moveG (by rfl) (by rfl)) (by rfl) (by rfl) ?_
      | refine ao0 (sem_move (.inl (by rfl))) (by rfl) (by rfl) ?_
    first
      | refine ao0 (em_move (by rfl) (by rfl)) (by rfl) (by rfl) ?_
      | refine ao0 (em_moveG (by rfl) (by rfl)) (by rfl) (by rfl) ?_
      | refine ao0 (sem_move (.inl (by rfl))) (by rfl) (by rfl) ?_
    first
      | refine ao0 (sem_len tyOk (by rfl) (by rfl) (by rfl) (by rfl) (by first | exact .inl ⟨_, _, _, rfl⟩ | exact .inr ⟨_, _, rfl⟩)) (by rfl) (by rfl) ?_
      | refine ao0 (sem_len_str tyOk (by rfl) (by rfl) (by rfl) (by rfl)) (by rfl) (by rfl) ?_
    first
      | refine ao0 (em_binI (by rfl) (by rfl) (by rfl) (by rfl) (by first | rfl | trivial | exact ⟨rfl, by decide⟩ | exact ⟨rfl, by omega⟩ | decide | omega)) (by rfl) (by rfl) ?_
      | refine ao0 (sem_binS (by rfl) (by rfl) (by rfl) (by rfl) (by trivial)) (by rfl) (by rfl) ?_
    refine ao_nil (by first | dsimp only [setO, setE] | rfl) (by first | dsimp only [setM, setE, setR] | rfl) (by rfl) ?_
    refine AW.cond (by rfl) (fun hc1 => ?_) (fun hc1 => ?_)
    · skip
      have hlt : i < xs.length := by simpa using hc1
      obtain rfl := nn_of hnn hlt
      refine AW.skip ?_
      refine AW.seq ?_
      refine AW.block ?_
      refine AW.seq ?_
      refine AW.region ?_
      first
        | refine ao0 (em_move (by rfl) (by rfl)) (by rfl) (by rfl) ?_
        | refine ao0 (em_moveG (by rfl) (by rfl)) (by rfl) (by rfl) ?_
        | refine ao0 (sem_move (.inl (by rfl))) (by rfl) (by rfl) ?_
      first
        | refine ao0 (em_move (by rfl) (by rfl)) (by rfl) (by rfl) ?_
        | refine ao0 (em_moveG (by rfl) (by rfl)) (by rfl) (by rfl) ?_
        | refine ao0 (sem_move (.inl (by rfl))) (by rfl) (by rfl) ?_
      first
        | refine ao0 (em_move (by rfl) (by rfl)) (by rfl) (by rfl) ?_
        | refine ao0 (em_moveG (by rfl) (by rfl)) (by rfl) (by rfl) ?_
        | refine ao0 (sem_move (.inl (by rfl))) (by rfl) (by rfl) ?_
      first
        | refine ao0 (sem_indexAddr tyOk (by rfl) (by rfl) (by rfl) (by rfl) (by rfl) (by rfl) (by omega) (by omega)) (by rfl) (by rfl) ?_
        | refine ao0 (sem_indexAddrA tyOk (by rfl) (by rfl) (by rfl) (by rfl) (by rfl) (by rfl) (by omega) (by omega)) (by rfl) (by rfl) ?_
      refine ao0 (sem_fieldAddr tyOk (by rfl) (by rfl) (by rfl) (by rfl) (by rfl) (by rfl)) (by rfl) (by rfl) ?_
      first
        | refine ao_store_box tyOk (by rfl) (by rfl) (by rfl) (by rfl) (by rfl) (by rfl) (by rfl) (by rfl) (by first | exact Nat.le_of_ble_eq_true rfl | decide | (simp; done) | omega) ?_
        | refine ao_store_arr tyOk (by rfl) (by rfl) (by rfl) (by rfl) (by rfl) (by rfl) (by rfl) (by rfl) (by rfl) (by first | decide | (simp; done) | omega | (simp only [List.length_cons, List.length_nil, List.length_map]; omega) | (simp only [setR_len, List.length_cons, List.length_nil, List.length_map]; omega)) ?_
      refine ao_nil (by first | dsimp only [setO, setE] | rfl) (by first | dsimp only [setM, setE, setR] | rfl) (by rfl) ?_
      refine AW.seq ?_
      refine AW.region ?_
      first
        | refine ao0 (em_move (by rfl) (by rfl)) (by rfl) (by rfl) ?_
        | refine ao0 (em_moveG (by rfl) (by rfl)) (by rfl) (by rfl) ?_
        | refine ao0 (sem_move (.inl (by rfl))) (by rfl) (by rfl) ?_
      first
        | refine ao0 (em_add (by rfl) (by rfl) (by rfl) (by omega) (by omega)) (by rfl) (by rfl) ?_
        | refine ao0 (em_add8 (by rfl) (by rfl) (by rfl) (by omega) (by omega)) (by rfl) (by rfl) ?_
        | refine ao0 (em_binI (by rfl) (by rfl) (by rfl) (by rfl) (by first | rfl | trivial | exact ⟨rfl, by decide⟩ | exact ⟨rfl, by omega⟩ | decide | omega)) (by rfl) (by rfl) ?_
        | refine ao0 (sem_binS (by rfl) (by rfl) (by rfl) (by rfl) (by trivial)) (by rfl) (by rfl) ?_
      first
        | refine ao0 (em_assign (by rfl) (by rfl)) (by rfl) (by rfl) ?_
        | refine ao0 (em_assignG (by rfl) (by rfl)) (by rfl) (by rfl) ?_
        | refine ao0 (sem_move (.inr (by rfl))) (by rfl) (by rfl) ?_
      refine ao_nil (by first | dsimp only [setO, setE] | rfl) (by first | dsimp only [setM, setE, setR] | rfl) (by rfl) ?_
      refine AW.seq ?_
      refine AW.region ?_
      first
        | refine ao0 (em_move (by rfl) (by rfl)) (by rfl) (by rfl) ?_
        | refine ao0 (em_moveG (by rfl) (by rfl)) (by rfl) (by rfl) ?_
        | refine ao0 (sem_move (.inl (by rfl))) (by rfl) (by rfl) ?_
      first
        | refine ao0 (em_move (by rfl) (by rfl)) (by rfl) (by rfl) ?_
        | refine ao0 (em_moveG (by rfl) (by rfl)) (by rfl) (by rfl) ?_
        | refine ao0 (sem_move (.inl (by rfl))) (by rfl) (by rfl) ?_
      first
        | refine ao0 (em_move (by rfl) (by rfl)) (by rfl) (by rfl) ?_
        | refine ao0 (em_moveG (by rfl) (by rfl)) (by rfl) (by rfl) ?_
        | refine ao0 (sem_move (.inl (by rfl))) (by rfl) (by rfl) ?_
      first
        | refine ao0 (sem_indexAddr tyOk (by rfl) (by rfl) (by rfl) (by rfl) (by rfl) (by rfl) (by omega) (by omega)) (by rfl) (by rfl) ?_
        | refine ao0 (sem_indexAddrA tyOk (by rfl) (by rfl) (by rfl) (by rfl) (by rfl) (by rfl) (by omega) (by omega)) (by rfl) (by rfl) ?_
      refine ao0 (sem_fieldAddr tyOk (by rfl) (by rfl) (by rfl) (by rfl) (by rfl) (by rfl)) (by rfl) (by rfl) ?_
      first
        | refine ao_store_box tyOk (by rfl) (by rfl) (by rfl) (by rfl) (by rfl) (by rfl) (by rfl) (by rfl) (by first | exact Nat.le_of_ble_eq_true rfl | decide | (simp; done) | omega) ?_
        | refine ao_store_arr tyOk (by rfl) (by rfl) (by rfl) (by rfl) (by rfl) (by rfl) (by rfl) (by rfl) (by rfl) (by first | decide | (simp; done) | omega | (simp only [List.length_cons, List.length_nil, List.length_map]; omega) | (simp only [setR_len, List.length_cons, List.length_nil, List.length_map]; omega)) ?_
      refine ao_nil (by first | dsimp only [setO, setE] | rfl) (by first | dsimp only [setM, setE, setR] | rfl) (by rfl) ?_
      refine AW.region ?_
      first
        | refine ao0 (em_move (by rfl) (by rfl)) (by rfl) (by rfl) ?_
        | refine ao0 (em_moveG (by rfl) (by rfl)) (by rfl) (by rfl) ?_
        | refine ao0 (sem_move (.inl (by rfl))) (by rfl) (by rfl) ?_
      first
        | refine ao0 (em_add (by rfl) (by rfl) (by rfl) (by omega) (by omega)) (by rfl) (by rfl) ?_
        | refine ao0 (em_add8 (by rfl) (by rfl) (by rfl) (by omega) (by omega)) (by rfl) (by rfl) ?_
        | refine ao0 (em_binI (by rfl) (by rfl) (by rfl) (by rfl) (by first | rfl | trivial | exact ⟨rfl, by decide⟩ | exact ⟨rfl, by omega⟩ | decide | omega)) (by rfl) (by rfl) ?_
        | refine ao0 (sem_binS (by rfl) (by rfl) (by rfl) (by rfl) (by trivial)) (by rfl) (by rfl) ?_
      first
        | refine ao0 (em_assign (by rfl) (by rfl)) (by rfl) (by rfl) ?_
        | refine ao0 (em_assignG (by rfl) (by rfl)) (by rfl) (by rfl) ?_
        | refine ao0 (sem_move (.inr (by rfl))) (by rfl) (by rfl) ?_
      refine ao_nil (by first | dsimp only [setO, setE] | rfl) (by first | dsimp only [setM, setE, setR] | rfl) (by rfl) ?_
      refine AW.region ?_
      first
        | refine ao0 (em_move (by rfl) (by rfl)) (by rfl) (by rfl) ?_
        | refine ao0 (em_moveG (by rfl) (by rfl)) (by rfl) (by rfl) ?_
        | refine ao0 (sem_move (.inl (by rfl))) (by rfl) (by rfl) ?_
      first
        | refine ao0 (em_add (by rfl) (by rfl) (by rfl) (by omega) (by omega)) (by rfl) (by rfl) ?_
        | refine ao0 (em_add8 (by rfl) (by rfl) (by rfl) (by omega) (by omega)) (by rfl) (by rfl) ?_
        | refine ao0 (em_binI (by rfl) (by rfl) (by rfl) (by rfl) (by first | rfl | trivial | exact ⟨rfl, by decide⟩ | exact ⟨rfl, by omega⟩ | decide | omega)) (by rfl) (by rfl) ?_
        | refine ao0 (sem_binS (by rfl) (by rfl) (by rfl) (by rfl) (by trivial)) (by rfl) (by rfl) ?_
      first
        | refine ao0 (em_assign (by rfl) (by rfl)) (by rfl) (by rfl) ?_
        | refine ao0 (em_assignG (by rfl) (by rfl)) (by rfl) (by rfl) ?_
        | refine ao0 (sem_move (.inr (by rfl))) (by rfl) (by rfl) ?_
      refine ao_nil (by first | dsimp only [setO, setE] | rfl) (by first | dsimp only [setM, setE, setR] | rfl) (by rfl) ?_
      have hst := flat_set pntD 2 pntD_len (markG pntG 2 m xs i) i (by omega) (pntG (m + 2 * (i : Int)))
      rw [markG_step pntG 2 m xs i hlt] at hst
      refine ⟨⟨i + 1, hlt⟩, by dsimp only; omega, ?_⟩
      dsimp only [updL, setE]
      refine into_lists [0] ?_ ?_ rfl rfl (by decide) (by rfl) (by rfl) (by rfl) (by rfl) (by omega)
      all_goals (try (repeat' (first | exact True.intro | exact Or.inl rfl | exact Or.inr (Or.inl rfl) | refine And.intro ?_ ?_ | exact le_i (by omega) | exact le_own (by rfl) (by rfl) (by first | rfl | omega) | exact le_arr (by rfl) (by rfl) (by first | rfl | omega) (by rfl) | exact Or.inr (Or.inr (Or.inl ⟨_, _, rfl, rfl⟩)) | exact Or.inr (Or.inr ⟨_, _, rfl⟩) | exact Or.inr (Or.inr (Or.inr ⟨_, _, _, _, rfl, rfl⟩)))))
      all_goals first | exact le_i (by omega) | exact le_arr (by rfl) (by rfl) (by rfl) (by rw [setR_cons] <;> first | (rw [Int.toNat_natCast]; exact hst) | omega)
    · skip
      have hge : i = xs.length := by simp at hc1; omega
      subst hge
      refine AW.exit ?_
      refine AW.seq ?_
      refine AW.region ?_
      first
        | refine ao0 (em_move (by rfl) (by rfl)) (by rfl) (by rfl) ?_
        | refine ao0 (em_moveG (by rfl) (by rfl)) (by rfl) (by rfl) ?_
        | refine ao0 (sem_move (.inl (by rfl))) (by rfl) (by rfl) ?_
      first
        | refine ao0 (em_assign (by rfl) (by rfl)) (by rfl) (by rfl) ?_
        | refine ao0 (em_assignG (by rfl) (by rfl)) (by rfl) (by rfl) ?_
        | refine ao0 (sem_move (.inr (by rfl))) (by rfl) (by rfl) ?_
      refine ao_nil (by first | dsimp only [setO, setE] | rfl) (by first | dsimp only [setM, setE, setR] | rfl) (by rfl) ?_
      refine AW.ret ?_
      refine retA_own (n := 0) [0] (by rfl) ?_ ?_ rfl (by simp) (by rfl) (by rfl) (by rfl) (by rfl) (by simp) _ (.inr rfl)
      · exact ⟨le_arr (by rfl) (by rfl) (by rfl) (by rw [markG_all]), trivial⟩
      · exact le_i (by rfl)
set_option maxHeartbeats 1000000 in
theorem eqIntS_ok (n1 n2 : Bool) (xs ys : List intT) (h1 : xs.length ≤ 1048576) (h2 : ys.length ≤ 1048576) (hn1 : n1 = false → xs = []) (hn2 : n2 = false → ys = []) : FnOk Tryd.prog noG 31 [.v false [.sl false n1 xs.length (xs.flatMap intD)], .v false [.sl false n2 ys.length (ys.flatMap intD)]] [] (.v false [.b (decide (xs = ys))]) [] := by
  refine fnOk_of' (k := 0) tyOk Tryd.func31 rfl (by kernel_rfl) Tryd.ntmps31 (by rw [Tryd.results31]) rfl (by simp only [List.length_cons, List.length_nil, Nat.reduceAdd, Nat.reduceSub, List.replicate_succ, List.replicate_zero, List.cons_append, List.nil_append]; rfl) (by simp) (by simp) (fun r hr => by simp at hr) fun base => ?_
  refine AW.seq ?_
  refine AW.region ?_
  first
    | refine ao0 (em_assign (by rfl) (by rfl)) (by rfl) (by rfl) ?_
    | refine ao0 (em_assignG (by rfl) (by rfl)) (by rfl) (by rfl) ?_
    | refine ao0 (sem_move (.inr (by rfl))) (by rfl) (by rfl) ?_
  refine ao_nil (by first | dsimp only [setO, setE] | rfl) (by first | dsimp only [setM, setE, setR] | rfl) (by rfl) ?_
  refine AW.seq ?_
  refine AW.seq ?_
  refine AW.region ?_
  first
    | refine ao0 (em_move (by rfl) (by rfl)) (by rfl) (by rfl) ?_
    | refine ao0 (em_moveG (by rfl) (by rfl)) (by rfl) (by rfl) ?_
    | refine ao0 (sem_move (.inl (by rfl))) (by rfl) (by rfl) ?_
  first
    | refine ao0 (sem_len tyOk (by rfl) (by rfl) (by rfl) (by rfl) (by first | exact .inl ⟨_, _, _, rfl⟩ | exact .inr ⟨_, _, rfl⟩)) (by rfl) (by rfl) ?_
    | refine ao0 (sem_len_str tyOk (by rfl) (by rfl) (by rfl) (by rfl)) (by rfl) (by rfl) ?_
  first
    | refine ao0 (em_move (by rfl) (by rfl)) (by rfl) (by rfl) ?_
    | refine ao0 (em_moveG (by rfl) (by rfl)) (by rfl) (by rfl) ?_
    | refine ao0 (sem_move (.inl (by rfl))) (by rfl) (by rfl) ?_
  first
    | refine ao0 (sem_len tyOk (by rfl) (by rfl) (by rfl) (by rfl) (by first | exact .inl ⟨_, _, _, rfl⟩ | exact .inr ⟨_, _, rfl⟩)) (by rfl) (by rfl) ?_
    | refine ao0 (sem_len_str tyOk (by rfl) (by rfl) (by rfl) (by rfl)) (by rfl) (by rfl) ?_
  first
    | refine ao0 (em_binI (by rfl) (by rfl) (by rfl) (by rfl) (by first | rfl | trivial | exact ⟨rfl, by decide⟩ | exact ⟨rfl, by omega⟩ | decide | omega)) (by rfl) (by rfl) ?_
    | refine ao0 (sem_binB tyOk (by rfl) (by rfl) (by rfl) (by rfl) (by rfl) (by rfl)) (by rfl) (by rfl) ?_
    | refine ao0 (sem_nilS tyOk (by rfl) (by rfl) (by rfl) (by rfl) (by rfl) (by first | exact .inl ⟨rfl, rfl⟩ | exact .inr ⟨rfl, rfl⟩)) (by rfl) (by rfl) ?_
    | refine ao0 (sem_binS (by rfl) (by rfl) (by rfl) (by rfl) (by trivial)) (by rfl) (by rfl) ?_
  refine ao_nil (by first | dsimp only [setO, setE] | rfl) (by first | dsimp only [setM, setE, setR] | rfl) (by rfl) ?_
  refine AW.cond (by rfl) (fun hc1 => ?_) (fun hc1 => ?_)
  · skip
    have hne : xs ≠ ys := fun e => by subst e; simp at hc1
    refine AW.seq ?_
    refine AW.region ?_
    first
      | refine ao0 (em_assign (by rfl) (by rfl)) (by rfl) (by rfl) ?_
      | refine ao0 (em_assignG (by rfl) (by rfl)) (by rfl) (by rfl) ?_
      | refine ao0 (sem_move (.inr (by rfl))) (by rfl) (by rfl) ?_
    refine ao_nil (by first | dsimp only [setO, setE] | rfl) (by first | dsimp only [setM, setE, setR] | rfl) (by rfl) ?_
    refine AW.ret ?_
    refine retA_data (n := 0) rfl (by rfl) ?_ rfl rfl _ (.inr rfl)
    first | exact pack_b (decide_eq_true hee).symm | exact pack_b (decide_eq_false hne).symm
  · skip
    have hll : xs.length = ys.length := by simp at hc1; omega
    refine AW.skip ?_
    refine AW.seq ?_
    refine AW.seq ?_
    refine AW.region ?_
    first
      | refine ao0 (em_assign (by rfl) (by rfl)) (by rfl) (by rfl) ?_
      | refine ao0 (em_assignG (by rfl) (by rfl)) (by rfl) (by rfl) ?_
      | refine ao0 (sem_move (.inr (by rfl))) (by rfl) (by rfl) ?_
    refine ao_nil (by first | dsimp only [setO, setE] | rfl) (by first | dsimp only [setM, setE, setR] | rfl) (by rfl) ?_
    refine AW.block ?_
    refine AW.loopU (X := {i : Nat // i ≤ xs.length ∧ xs.take i = ys.take i}) (fun i => [(5, .v false [.i .i64 (i.1 : Int)]), (2, .any), (3, .any), (4, .any), (6, .any), (7, .any), (8, .any), (9, .any), (10, .any), (11, .any), (12, .any), (13, .any), (14, .any), (15, .any), (16, .any), (17, .any), (18, .any), (19, .any), (20, .any), (21, .any), (22, .any), (23, .any), (24, .any), (25, .any)]) (fun i => []) 0 (fun i => xs.length - i.1) ⟨0, Nat.zero_le _, rfl⟩ ?_ ?_
    · skip
      dsimp only [updL, setE]
      refine into_lists [] ?_ ?_ rfl rfl (by decide) (by rfl) (by rfl) (by rfl) (by rfl) (by omega)
      all_goals (try (repeat' (first | exact True.intro | exact Or.inl rfl | exact Or.inr (Or.inl rfl) | refine And.intro ?_ ?_ | exact le_i (by omega) | exact le_own (by rfl) (by rfl) (by first | rfl | omega) | exact le_arr (by rfl) (by rfl) (by first | rfl | omega) (by rfl) | exact Or.inr (Or.inr (Or.inl ⟨_, _, rfl, rfl⟩)) | exact Or.inr (Or.inr ⟨_, _, rfl⟩) | exact Or.inr (Or.inr (Or.inr ⟨_, _, _, _, rfl, rfl⟩)))))
    · intro i
      refine AW.norm (by first | dsimp only [updL, setE] | rfl) rfl rfl ?_
      obtain ⟨i, hi, heq⟩ := i
      dsimp only
      refine AW.seq ?_
      refine AW.seq ?_
      refine AW.region ?_
      first
        | refine ao0 (em_move (by rfl) (by rfl)) (by rfl) (by rfl) ?_
        | refine ao0 (em_moveG (by rfl) (by rfl)) (by rfl) (by rfl) ?_
        | refine ao0 (sem_move (.inl (by rfl))) (by rfl) (by rfl) ?_
      first
        | refine ao0 (em_move (by rfl) (by rfl)) (by rfl) (by rfl) ?_
        | refine ao0 (em_moveG (by rfl) (by rfl)) (by rfl) (by rfl) ?_
        | refine ao0 (sem_move (.inl (by rfl))) (by rfl) (by rfl) ?_
      first
        | refine ao0 (sem_len tyOk (by rfl) (by rfl) (by rfl) (by rfl) (by first | exact .inl ⟨_, _, _, rfl⟩ | exact .inr ⟨_, _, rfl⟩)) (by rfl) (by rfl) ?_
        | refine ao0 (sem_len_str tyOk (by rfl) (by rfl) (by rfl) (by rfl)) (by rfl) (by rfl) ?_
      first
        | refine ao0 (em_binI (by rfl) (by rfl) (by rfl) (by rfl) (by first | rfl | trivial | exact ⟨rfl, by decide⟩ | exact ⟨rfl, by omega⟩ | decide | omega)) (by rfl) (by rfl) ?_
        | refine ao0 (sem_binS (by rfl) (by rfl) (by rfl) (by rfl) (by trivial)) (by rfl) (by rfl) ?_
      refine ao_nil (by first | dsimp only [setO, setE] | rfl) (by first | dsimp only [setM, setE, setR] | rfl) (by rfl) ?_
      refine AW.cond (by rfl) (fun hc2 => ?_) (fun hc2 => ?_)
      · skip
        have hlt : i < xs.length := by simpa using hc2
        have hlt2 : i < ys.length := by omega
        obtain rfl := nn_of hn1 hlt
        obtain rfl := nn_of hn2 hlt2
        have HD := flat_at intD 1 intD_len xs i hlt
        have HE := flat_at intD 1 intD_len ys i hlt2
        have htx := List.take_succ_eq_append_getElem hlt
        have hty := List.take_succ_eq_append_getElem hlt2
        refine AW.skip ?_
        refine AW.seq ?_
        refine AW.block ?_
        refine AW.seq ?_
        refine AW.draw follows0 (by kernel_rfl) ?_
        first
          | refine ao0 (em_move (by rfl) (by rfl)) (by rfl) (by rfl) ?_
          | refine ao0 (em_moveG (by rfl) (by rfl)) (by rfl) (by rfl) ?_
          | refine ao0 (sem_move (.inl (by rfl))) (by rfl) (by rfl) ?_
        first
          | refine ao0 (em_move (by rfl) (by rfl)) (by rfl) (by rfl) ?_
          | refine ao0 (em_moveG (by rfl) (by rfl)) (by rfl) (by rfl) ?_
          | refine ao0 (sem_move (.inl (by rfl))) (by rfl) (by rfl) ?_
        first
          | refine ao0 (sem_indexR tyOk (by rfl) (by rfl) (by rfl) (by rfl) (by rfl) HD (by omega) (by omega)) (by rfl) (by rfl) ?_
          | refine ao0 (sem_indexR tyOk (by rfl) (by rfl) (by rfl) (by rfl) (by rfl) HE (by omega) (by omega)) (by rfl) (by rfl) ?_
          | refine ao0 (sem_indexAddr tyOk (by rfl) (by rfl) (by rfl) (by rfl) (by rfl) (by rfl) (by omega) (by omega)) (by rfl) (by rfl) ?_
          | refine ao0 (sem_indexAddrA tyOk (by rfl) (by rfl) (by rfl) (by rfl) (by rfl) (by rfl) (by omega) (by omega)) (by rfl) (by rfl) ?_
        first
          | refine ao_load tyOk (by rfl) (by rfl) (by rfl) (by rfl) (by rfl) (by rfl) (by rfl) (by first | trivial | exact Nat.le_of_ble_eq_true rfl | decide | (simp; done) | omega) ?_
          | refine ao_load tyOk (by rfl) (by rfl) (by rfl) (by rfl) (by rfl) (cont_arr (by rfl) HD) (by rfl) (by first | trivial | exact Nat.le_of_ble_eq_true rfl | decide | (simp; done) | omega) ?_
          | refine ao_load tyOk (by rfl) (by rfl) (by rfl) (by rfl) (by rfl) (cont_arr (by rfl) HE) (by rfl) (by first | trivial | exact Nat.le_of_ble_eq_true rfl | decide | (simp; done) | omega) ?_
        first
          | refine ao0 (em_move (by rfl) (by rfl)) (by rfl) (by rfl) ?_
          | refine ao0 (em_moveG (by rfl) (by rfl)) (by rfl) (by rfl) ?_
          | refine ao0 (sem_move (.inl (by rfl))) (by rfl) (by rfl) ?_
        first
          | refine ao0 (em_move (by rfl) (by rfl)) (by rfl) (by rfl) ?_
          | refine ao0 (em_moveG (by rfl) (by rfl)) (by rfl) (by rfl) ?_
          | refine ao0 (sem_move (.inl (by rfl))) (by rfl) (by rfl) ?_
        first
          | refine ao0 (sem_indexR tyOk (by rfl) (by rfl) (by rfl) (by rfl) (by rfl) HD (by omega) (by omega)) (by rfl) (by rfl) ?_
          | refine ao0 (sem_indexR tyOk (by rfl) (by rfl) (by rfl) (by rfl) (by rfl) HE (by omega) (by omega)) (by rfl) (by rfl) ?_
          | refine ao0 (sem_indexAddr tyOk (by rfl) (by rfl) (by rfl) (by rfl) (by rfl) (by rfl) (by omega) (by omega)) (by rfl) (by rfl) ?_
          | refine ao0 (sem_indexAddrA tyOk (by rfl) (by rfl) (by rfl) (by rfl) (by rfl) (by rfl) (by omega) (by omega)) (by rfl) (by rfl) ?_
        first
          | refine ao_load tyOk (by rfl) (by rfl) (by rfl) (by rfl) (by rfl) (by rfl) (by rfl) (by first | trivial | exact Nat.le_of_ble_eq_true rfl | decide | (simp; done) | omega) ?_
          | refine ao_load tyOk (by rfl) (by rfl) (by rfl) (by rfl) (by rfl) (cont_arr (by rfl) HD) (by rfl) (by first | trivial | exact Nat.le_of_ble_eq_true rfl | decide | (simp; done) | omega) ?_
          | refine ao_load tyOk (by rfl) (by rfl) (by rfl) (by rfl) (by rfl) (cont_arr (by rfl) HE) (by rfl) (by first | trivial | exact Nat.le_of_ble_eq_true rfl | decide | (simp; done) | omega) ?_
        first
          | refine ao0 (em_binI (by rfl) (by rfl) (by rfl) (by rfl) (by first | rfl | trivial | exact ⟨rfl, by decide⟩ | exact ⟨rfl, by omega⟩ | decide | omega)) (by rfl) (by rfl) ?_
          | refine ao0 (sem_binB tyOk (by rfl) (by rfl) (by rfl) (by rfl) (by rfl) (by rfl)) (by rfl) (by rfl) ?_
          | refine ao0 (sem_nilS tyOk (by rfl) (by rfl) (by rfl) (by rfl) (by rfl) (by first | exact .inl ⟨rfl, rfl⟩ | exact .inr ⟨rfl, rfl⟩)) (by rfl) (by rfl) ?_
          | refine ao0 (sem_binS (by rfl) (by rfl) (by rfl) (by rfl) (by trivial)) (by rfl) (by rfl) ?_
        refine ao_nil (by first | dsimp only [setO, setE] | rfl) (by first | dsimp only [setM, setE, setR] | rfl) (by rfl) ?_
        refine ⟨by kernel_rfl, ?_⟩
        refine AW.cond (by rfl) (fun hc3 => ?_) (fun hc3 => ?_)
        · skip
          have hne : xs ≠ ys := fun e => by subst e; simp at hc3
          refine AW.seq ?_
          refine AW.region ?_
          first
            | refine ao0 (em_assign (by rfl) (by rfl)) (by rfl) (by rfl) ?_
            | refine ao0 (em_assignG (by rfl) (by rfl)) (by rfl) (by rfl) ?_
            | refine ao0 (sem_move (.inr (by rfl))) (by rfl) (by rfl) ?_
          refine ao_nil (by first | dsimp only [setO, setE] | rfl) (by first | dsimp only [setM, setE, setR] | rfl) (by rfl) ?_
          refine AW.ret ?_
          refine retA_data (n := 0) rfl (by rfl) ?_ rfl rfl _ (.inr rfl)
          first | exact pack_b (decide_eq_true hee).symm | exact pack_b (decide_eq_false hne).symm
        · skip
          have hel : xs[i] = ys[i] := by simp at hc3; omega
          refine AW.skip ?_
          refine AW.region ?_
          first
            | refine ao0 (em_move (by rfl) (by rfl)) (by rfl) (by rfl) ?_
            | refine ao0 (em_moveG (by rfl) (by rfl)) (by rfl) (by rfl) ?_
            | refine ao0 (sem_move (.inl (by rfl))) (by rfl) (by rfl) ?_
          first
            | refine ao0 (em_add (by rfl) (by rfl) (by rfl) (by omega) (by omega)) (by rfl) (by rfl) ?_
            | refine ao0 (em_add8 (by rfl) (by rfl) (by rfl) (by omega) (by omega)) (by rfl) (by rfl) ?_
            | refine ao0 (em_binI (by rfl) (by rfl) (by rfl) (by rfl) (by first | rfl | trivial | exact ⟨rfl, by decide⟩ | exact ⟨rfl, by omega⟩ | decide | omega)) (by rfl) (by rfl) ?_
            | refine ao0 (sem_binS (by rfl) (by rfl) (by rfl) (by rfl) (by trivial)) (by rfl) (by rfl) ?_
          first
            | refine ao0 (em_assign (by rfl) (by rfl)) (by rfl) (by rfl) ?_
            | refine ao0 (em_assignG (by rfl) (by rfl)) (by rfl) (by rfl) ?_
            | refine ao0 (sem_move (.inr (by rfl))) (by rfl) (by rfl) ?_
          refine ao_nil (by first | dsimp only [setO, setE] | rfl) (by first | dsimp only [setM, setE, setR] | rfl) (by rfl) ?_
          refine ⟨⟨i + 1, hlt, by rw [htx, hty, heq, hel]⟩, by dsimp only; omega, ?_⟩
          dsimp only [updL, setE]
          refine into_lists [] ?_ ?_ rfl rfl (by decide) (by rfl) (by rfl) (by rfl) (by rfl) (by omega)
          all_goals (try (repeat' (first | exact True.intro | exact Or.inl rfl | exact Or.inr (Or.inl rfl) | refine And.intro ?_ ?_ | exact le_i (by omega) | exact le_own (by rfl) (by rfl) (by first | rfl | omega) | exact le_arr (by rfl) (by rfl) (by first | rfl | omega) (by rfl) | exact Or.inr (Or.inr (Or.inl ⟨_, _, rfl, rfl⟩)) | exact Or.inr (Or.inr ⟨_, _, rfl⟩) | exact Or.inr (Or.inr (Or.inr ⟨_, _, _, _, rfl, rfl⟩)))))
      · skip
        have hge : i = xs.length := by simp at hc2; omega
        subst hge
        have hee : xs = ys := by rw [List.take_length, hll, List.take_length] at heq; exact heq
        refine AW.exit ?_
        refine AW.seq ?_
        refine AW.region ?_
        first
          | refine ao0 (em_assign (by rfl) (by rfl)) (by rfl) (by rfl) ?_
          | refine ao0 (em_assignG (by rfl) (by rfl)) (by rfl) (by rfl) ?_
          | refine ao0 (sem_move (.inr (by rfl))) (by rfl) (by rfl) ?_
        refine ao_nil (by first | dsimp only [setO, setE] | rfl) (by first | dsimp only [setM, setE, setR] | rfl) (by rfl) ?_
        refine AW.ret ?_
        refine retA_data (n := 0) rfl (by rfl) ?_ rfl rfl _ (.inr rfl)
        first | exact pack_b (decide_eq_true hee).symm | exact pack_b (decide_eq_false hne).symm
set_option maxHeartbeats 2000000 in
theorem markIntS_ok (nn : Bool) (xs : List intT) (m : Int) (h0 : 0 ≤ m) (h1 : m ≤ 1000000000) (hl : xs.length ≤ 1048576) (hnn : nn = false → xs = []) : FnOk Tryd.prog noG 33 [.v false [.own nn 0 xs.length], .v false [.i .i64 m]] [.arr 3 true nn xs.length (xs.flatMap intD)] (.v false [.i .i64 (m + 1 * (xs.length : Int))]) [.arr 3 true nn xs.length ((heldG intG 1 m xs.length).flatMap intD)] := by
  refine fnOk_of' (k := 1) tyOk Tryd.func33 rfl (by kernel_rfl) Tryd.ntmps33 (by rw [Tryd.results33]) rfl (by simp only [List.length_cons, List.length_nil, Nat.reduceAdd, Nat.reduceSub, List.replicate_succ, List.replicate_zero, List.cons_append, List.nil_append]; rfl) (by simp) (by simp) (fun r hr => ((keptB_get (by first | rfl | (simp [keptB, notGone, R.live]; done))).2 r hr).2) fun base => ?_
  refine AW.seq ?_
  refine AW.region ?_
  first
    | refine ao0 (em_assign (by rfl) (by rfl)) (by rfl) (by rfl) ?_
    | refine ao0 (em_assignG (by rfl) (by rfl)) (by rfl) (by rfl) ?_
    | refine ao0 (sem_move (.inr (by rfl))) (by rfl) (by rfl) ?_
  refine ao_nil (by first | dsimp only [setO, setE] | rfl) (by first | dsimp only [setM, setE, setR] | rfl) (by rfl) ?_
  refine AW.seq ?_
  refine AW.seq ?_
  refine AW.region ?_
  first
    | refine ao0 (em_assign (by rfl) (by rfl)) (by rfl) (by rfl) ?_
    | refine ao0 (em_assignG (by rfl) (by rfl)) (by rfl) (by rfl) ?_
    | refine ao0 (sem_move (.inr (by rfl))) (by rfl) (by rfl) ?_
  refine ao_nil (by first | dsimp only [setO, setE] | rfl) (by first | dsimp only [setM, setE, setR] | rfl) (by rfl) ?_
  refine AW.block ?_
  refine AW.loopU (X := {i : Nat // i ≤ xs.length}) (fun i => [(5, .v false [.i .i64 (i.1 : Int)]), (1, .v false [.i .i64 (m + 1 * (i.1 : Int))]), (2, .any), (3, .any), (6, .any), (7, .any), (8, .any), (9, .any), (10, .any), (11, .any), (12, .any), (13, .any), (14, .any), (15, .any), (16, .any), (17, .any)]) (fun i => [.arr 3 true nn xs.length ((markG intG 1 m xs i.1).flatMap intD)]) 1 (fun i => xs.length - i.1) ⟨0, Nat.zero_le _⟩ ?_ ?_
  · skip
    dsimp only [updL, setE]
    refine into_lists [0] ?_ ?_ rfl rfl (by decide) (by rfl) (by rfl) (by rfl) (by rfl) (by omega)
    all_goals (try (repeat' (first | exact True.intro | exact Or.inl rfl | exact Or.inr (Or.inl rfl) | refine And.intro ?_ ?_ | exact le_i (by omega) | exact le_own (by rfl) (by rfl) (by first | rfl | omega) | exact le_arr (by rfl) (by rfl) (by first | rfl | omega) (by rfl) | exact Or.inr (Or.inr (Or.inl ⟨_, _, rfl, rfl⟩)) | exact Or.inr (Or.inr ⟨_, _, rfl⟩) | exact Or.inr (Or.inr (Or.inr ⟨_, _, _, _, rfl, rfl⟩)))))
    all_goals first | exact le_i (by omega) | exact le_arr (by rfl) (by rfl) (by rfl) (by rw [markG_zero])
  · intro i
    refine AW.norm (by first | dsimp only [updL, setE] | rfl) rfl rfl ?_
    obtain ⟨i, hi⟩ := i
    dsimp only
    have htl := markG_len intG 1 m xs i hi
    have hfl := flat_len intD 1 intD_len (markG intG 1 m xs i)
    refine AW.seq ?_
    refine AW.seq ?_
    refine AW.region ?_
    first
      | refine ao0 (em_move (by rfl) (by rfl)) (by rfl) (by rfl) ?_
      | refine ao0 (em_moveG (by rfl) (by rfl)) (by rfl) (by rfl) ?_
      | refine ao0 (sem_move (.inl (by rfl))) (by rfl) (by rfl) ?_
    first
      | refine ao0 (em_move (by rfl) (by rfl)) (by rfl) (by rfl) ?_
      | refine ao0 (em_moveG (by rfl) (by rfl)) (by rfl) (by rfl) ?_
      | refine ao0 (sem_move (.inl (by rfl))) (by rfl) (by rfl) ?_
    first
      | refine ao0 (sem_len tyOk (by rfl) (by rfl) (by rfl) (by rfl) (by first | exact .inl ⟨_, _, _, rfl⟩ | exact .inr ⟨_, _, rfl⟩)) (by rfl) (by rfl) ?_
      | refine ao0 (sem_len_str tyOk (by rfl) (by rfl) (by rfl) (by rfl)) (by rfl) (by rfl) ?_
    first
      | refine ao0 (em_binI (by rfl) (by rfl) (by rfl) (by rfl) (by first | rfl | trivial | exact ⟨rfl, by decide⟩ | exact ⟨rfl, by omega⟩ | decide | omega)) (by rfl) (by rfl) ?_
      | refine ao0 (sem_binS (by rfl) (by rfl) (by rfl) (by rfl) (by trivial)) (by rfl) (by rfl) ?_
    refine ao_nil (by first | dsimp only [setO, setE] | rfl) (by first | dsimp only [setM, setE, setR] | rfl) (by rfl) ?_
    refine AW.cond (by rfl) (fun hc1 => ?_) (fun hc1 => ?_)
    · skip
      have hlt : i < xs.length := by simpa using hc1
      obtain rfl := nn_of hnn hlt
      refine AW.skip ?_
      refine AW.seq ?_
      refine AW.block ?_
      refine AW.seq ?_
      refine AW.region ?_
      first
        | refine ao0 (em_move (by rfl) (by rfl)) (by rfl) (by rfl) ?_
        | refine ao0 (em_moveG (by rfl) (by rfl)) (by rfl) (by rfl) ?_
        | refine ao0 (sem_move (.inl (by rfl))) (by rfl) (by rfl) ?_
      first
        | refine ao0 (em_move (by rfl) (by rfl)) (by rfl) (by rfl) ?_
        | refine ao0 (em_moveG (by rfl) (by rfl)) (by rfl) (by rfl) ?_
        | refine ao0 (sem_move (.inl (by rfl))) (by rfl) (by rfl) ?_
      first
        | refine ao0 (em_move (by rfl) (by rfl)) (by rfl) (by rfl) ?_
        | refine ao0 (em_moveG (by rfl) (by rfl)) (by rfl) (by rfl) ?_
        | refine ao0 (sem_move (.inl (by rfl))) (by rfl) (by rfl) ?_
      first
        | refine ao0 (sem_indexAddr tyOk (by rfl) (by rfl) (by rfl) (by rfl) (by rfl) (by rfl) (by omega) (by omega)) (by rfl) (by rfl) ?_
        | refine ao0 (sem_indexAddrA tyOk (by rfl) (by rfl) (by rfl) (by rfl) (by rfl) (by rfl) (by omega) (by omega)) (by rfl) (by rfl) ?_
      first
        | refine ao_store_box tyOk (by rfl) (by rfl) (by rfl) (by rfl) (by rfl) (by rfl) (by rfl) (by rfl) (by first | exact Nat.le_of_ble_eq_true rfl | decide | (simp; done) | omega) ?_
        | refine ao_store_arr tyOk (by rfl) (by rfl) (by rfl) (by rfl) (by rfl) (by rfl) (by rfl) (by rfl) (by rfl) (by first | decide | (simp; done) | omega | (simp only [List.length_cons, List.length_nil, List.length_map]; omega) | (simp only [setR_len, List.length_cons, List.length_nil, List.length_map]; omega)) ?_
      refine ao_nil (by first | dsimp only [setO, setE] | rfl) (by first | dsimp only [setM, setE, setR] | rfl) (by rfl) ?_
      refine AW.region ?_
      first
        | refine ao0 (em_move (by rfl) (by rfl)) (by rfl) (by rfl) ?_
        | refine ao0 (em_moveG (by rfl) (by rfl)) (by rfl) (by rfl) ?_
        | refine ao0 (sem_move (.inl (by rfl))) (by rfl) (by rfl) ?_
      first
        | refine ao0 (em_add (by rfl) (by rfl) (by rfl) (by omega) (by omega)) (by rfl) (by rfl) ?_
        | refine ao0 (em_add8 (by rfl) (by rfl) (by rfl) (by omega) (by omega)) (by rfl) (by rfl) ?_
        | refine ao0 (em_binI (by rfl) (by rfl) (by rfl) (by rfl) (by first | rfl | trivial | exact ⟨rfl, by decide⟩ | exact ⟨rfl, by omega⟩ | decide | omega)) (by rfl) (by rfl) ?_
        | refine ao0 (sem_binS (by rfl) (by rfl) (by rfl) (by rfl) (by trivial)) (by rfl) (by rfl) ?_
      first
        | refine ao0 (em_assign (by rfl) (by rfl)) (by rfl) (by rfl) ?_
        | refine ao0 (em_assignG (by rfl) (by rfl)) (by rfl) (by rfl) ?_
        | refine ao0 (sem_move (.inr (by rfl))) (by rfl) (by rfl) ?_
      refine ao_nil (by first | dsimp only [setO, setE] | rfl) (by first | dsimp only [setM, setE, setR] | rfl) (by rfl) ?_
      refine AW.region ?_
      first
        | refine ao0 (em_move (by rfl) (by rfl)) (by rfl) (by rfl) ?_
        | refine ao0 (em_moveG (by rfl) (by rfl)) (by rfl) (by rfl) ?_
        | refine ao0 (sem_move (.inl (by rfl))) (by rfl) (by rfl) ?_
      first
        | refine ao0 (em_add (by rfl) (by rfl) (by rfl) (by omega) (by omega)) (by rfl) (by rfl) ?_
        | refine ao0 (em_add8 (by rfl) (by rfl) (by rfl) (by omega) (by omega)) (by rfl) (by rfl) ?_
        | refine ao0 (em_binI (by rfl) (by rfl) (by rfl) (by rfl) (by first | rfl | trivial | exact ⟨rfl, by decide⟩ | exact ⟨rfl, by omega⟩ | decide | omega)) (by rfl) (by rfl) ?_
        | refine ao0 (sem_binS (by rfl) (by rfl) (by rfl) (by rfl) (by trivial)) (by rfl) (by rfl) ?_
      first
        | refine ao0 (em_assign (by rfl) (by rfl)) (by rfl) (by rfl) ?_
        | refine ao0 (em_assignG (by rfl) (by rfl)) (by rfl) (by rfl) ?_
        | refine ao0 (sem_move (.inr (by rfl))) (by rfl) (by rfl) ?_
      refine ao_nil (by first | dsimp only [setO, setE] | rfl) (by first | dsimp only [setM, setE, setR] | rfl) (by rfl) ?_
      have hst := flat_set intD 1 intD_len (markG intG 1 m xs i) i (by omega) (intG (m + 1 * (i : Int)))
      rw [markG_step intG 1 m xs i hlt] at hst
      refine ⟨⟨i + 1, hlt⟩, by dsimp only; omega, ?_⟩
      dsimp only [updL, setE]
      refine into_lists [0] ?_ ?_ rfl rfl (by decide) (by rfl) (by rfl) (by rfl) (by rfl) (by omega)
      all_goals (try (repeat' (first | exact True.intro | exact Or.inl rfl | exact Or.inr (Or.inl rfl) | refine And.intro ?_ ?_ | exact le_i (by omega) | exact le_own (by rfl) (by rfl) (by first | rfl | omega) | exact le_arr (by rfl) (by rfl) (by first | rfl | omega) (by rfl) | exact Or.inr (Or.inr (Or.inl ⟨_, _, rfl, rfl⟩)) | exact Or.inr (Or.inr ⟨_, _, rfl⟩) | exact Or.inr (Or.inr (Or.inr ⟨_, _, _, _, rfl, rfl⟩)))))
      all_goals first | exact le_i (by omega) | exact le_arr (by rfl) (by rfl) (by rfl) (by rw [Int.toNat_natCast]; exact hst)
    · skip
      have hge : i = xs.length := by simp at hc1; omega
      subst hge
      refine AW.exit ?_
      refine AW.seq ?_
      refine AW.region ?_
      first
        | refine ao0 (em_move (by rfl) (by rfl)) (by rfl) (by rfl) ?_
        | refine ao0 (em_moveG (by rfl) (by rfl)) (by rfl) (by rfl) ?_
        | refine ao0 (sem_move (.inl (by rfl))) (by rfl) (by rfl) ?_
      first
        | refine ao0 (em_assign (by rfl) (by rfl)) (by rfl) (by rfl) ?_
        | refine ao0 (em_assignG (by rfl) (by rfl)) (by rfl) (by rfl) ?_
        | refine ao0 (sem_move (.inr (by rfl))) (by rfl) (by rfl) ?_
      refine ao_nil (by first | dsimp only [setO, setE] | rfl) (by first | dsimp only [setM, setE, setR] | rfl) (by rfl) ?_
      refine AW.ret ?_
      refine retA_own (n := 0) [0] (by rfl) ?_ ?_ rfl (by simp) (by rfl) (by rfl) (by rfl) (by rfl) (by simp) _ (.inr rfl)
      · exact ⟨le_arr (by rfl) (by rfl) (by rfl) (by rw [markG_all]), trivial⟩
      · exact le_i (by rfl)
set_option maxHeartbeats 2000000 in
theorem heldIntS_ok (nn : Bool) (n : Nat) (m : Int) (h0 : 0 ≤ m) (h1 : m ≤ 1000000000) (hl : n ≤ 1048576) (hnn : nn = false → n = 0) : FnOk Tryd.prog noG 34 [.v false [.sl false nn n ((heldG intG 1 m n).flatMap intD)], .v false [.i .i64 m]] [] (.v false [.i .i64 (m + 1 * (n : Int))]) [] := by
  have hgl := heldG_len intG 1 m n
  refine fnOk_of' (k := 0) tyOk Tryd.func34 rfl (by kernel_rfl) Tryd.ntmps34 (by rw [Tryd.results34]) rfl (by simp only [List.length_cons, List.length_nil, Nat.reduceAdd, Nat.reduceSub, List.replicate_succ, List.replicate_zero, List.cons_append, List.nil_append]; rfl) (by simp) (by simp) (fun r hr => by simp at hr) fun base => ?_
  refine AW.seq ?_
  refine AW.region ?_
  first
    | refine ao0 (em_assign (by rfl) (by rfl)) (by rfl) (by rfl) ?_
    | refine ao0 (em_assignG (by rfl) (by rfl)) (by rfl) (by rfl) ?_
    | refine ao0 (sem_move (.inr (by rfl))) (by rfl) (by rfl) ?_
  refine ao_nil (by first | dsimp only [setO, setE] | rfl) (by first | dsimp only [setM, setE, setR] | rfl) (by rfl) ?_
  refine AW.seq ?_
  refine AW.seq ?_
  refine AW.region ?_
  first
    | refine ao0 (em_assign (by rfl) (by rfl)) (by rfl) (by rfl) ?_
    | refine ao0 (em_assignG (by rfl) (by rfl)) (by rfl) (by rfl) ?_
    | refine ao0 (sem_move (.inr (by rfl))) (by rfl) (by rfl) ?_
  refine ao_nil (by first | dsimp only [setO, setE] | rfl) (by first | dsimp only [setM, setE, setR] | rfl) (by rfl) ?_
  refine AW.block ?_
  refine AW.loopU (X := {i : Nat // i ≤ n}) (fun i => [(5, .v false [.i .i64 (i.1 : Int)]), (1, .v false [.i .i64 (m + 1 * (i.1 : Int))]), (2, .any), (3, .any), (4, .any), (6, .any), (7, .any), (8, .any), (9, .any), (10, .any), (11, .any), (12, .any), (13, .any), (14, .any), (15, .any), (16, .any), (17, .any), (18, .any), (19, .any)]) (fun i => []) 0 (fun i => n - i.1) ⟨0, Nat.zero_le _⟩ ?_ ?_
  · skip
    dsimp only [updL, setE]
    refine into_lists [] ?_ ?_ rfl rfl (by decide) (by rfl) (by rfl) (by rfl) (by rfl) (by omega)
    all_goals (try (repeat' (first | exact True.intro | exact Or.inl rfl | exact Or.inr (Or.inl rfl) | refine And.intro ?_ ?_ | exact le_i (by omega) | exact le_own (by rfl) (by rfl) (by first | rfl | omega) | exact le_arr (by rfl) (by rfl) (by first | rfl | omega) (by rfl) | exact Or.inr (Or.inr (Or.inl ⟨_, _, rfl, rfl⟩)) | exact Or.inr (Or.inr ⟨_, _, rfl⟩) | exact Or.inr (Or.inr (Or.inr ⟨_, _, _, _, rfl, rfl⟩)))))
    all_goals exact le_i (by omega)
  · intro i
    refine AW.norm (by first | dsimp only [updL, setE] | rfl) rfl rfl ?_
    obtain ⟨i, hi⟩ := i
    dsimp only
    refine AW.seq ?_
    refine AW.seq ?_
    refine AW.region ?_
    first
      | refine ao0 (em_move (by rfl) (by rfl)) (by rfl) (by rfl) ?_
      | refine ao0 (em_moveG (by rfl) (by rfl)) (by rfl) (by rfl) ?_
      | refine ao0 (sem_move (.inl (by rfl))) (by rfl) (by rfl) ?_
    first
      | refine ao0 (em_move (by rfl) (by rfl)) (by rfl) (by rfl) ?_
      | refine ao0 (em_moveG (by rfl) (by rfl)) (by rfl) (by rfl) ?_
      | refine ao0 (sem_move (.inl (by rfl))) (by rfl) (by rfl) ?_
    first
      | refine ao0 (sem_len tyOk (by rfl) (by rfl) (by rfl) (by rfl) (by first | exact .inl ⟨_, _, _, rfl⟩ | exact .inr ⟨_, _, rfl⟩)) (by rfl) (by rfl) ?_
      | refine ao0 (sem_len_str tyOk (by rfl) (by rfl) (by rfl) (by rfl)) (by rfl) (by rfl) ?_
    first
      | refine ao0 (em_binI (by rfl) (by rfl) (by rfl) (by rfl) (by first | rfl | trivial | exact ⟨rfl, by decide⟩ | exact ⟨rfl, by omega⟩ | decide | omega)) (by rfl) (by rfl) ?_
      | refine ao0 (sem_binS (by rfl) (by rfl) (by rfl) (by rfl) (by trivial)) (by rfl) (by rfl) ?_
    refine ao_nil (by first | dsimp only [setO, setE] | rfl) (by first | dsimp only [setM, setE, setR] | rfl) (by rfl) ?_
    refine AW.cond (by rfl) (fun hc1 => ?_) (fun hc1 => ?_)
    · skip
      have hlt : i < n := by simpa using hc1
      have hnt : nn = true := by cases nn; exact absurd (hnn rfl) (by omega); rfl
      subst hnt
      have HD := flat_at intD 1 intD_len (heldG intG 1 m n) i (by omega)
      rw [heldG_get] at HD
      refine AW.skip ?_
      refine AW.seq ?_
      refine AW.block ?_
      refine AW.seq ?_
      refine AW.seq ?_
      refine AW.region ?_
      first
        | refine ao0 (em_move (by rfl) (by rfl)) (by rfl) (by rfl) ?_
        | refine ao0 (em_moveG (by rfl) (by rfl)) (by rfl) (by rfl) ?_
        | refine ao0 (sem_move (.inl (by rfl))) (by rfl) (by rfl) ?_
      first
        | refine ao0 (em_move (by rfl) (by rfl)) (by rfl) (by rfl) ?_
        | refine ao0 (em_moveG (by rfl) (by rfl)) (by rfl) (by rfl) ?_
        | refine ao0 (sem_move (.inl (by rfl))) (by rfl) (by rfl) ?_
      first
        | refine ao0 (sem_indexR tyOk (by rfl) (by rfl) (by rfl) (by rfl) (by rfl) HD (by omega) (by omega)) (by rfl) (by rfl) ?_
        | refine ao0 (sem_indexAddr tyOk (by rfl) (by rfl) (by rfl) (by rfl) (by rfl) (by rfl) (by omega) (by omega)) (by rfl) (by rfl) ?_
        | refine ao0 (sem_indexAddrA tyOk (by rfl) (by rfl) (by rfl) (by rfl) (by rfl) (by rfl) (by omega) (by omega)) (by rfl) (by rfl) ?_
      first
        | refine ao_load tyOk (by rfl) (by rfl) (by rfl) (by rfl) (by rfl) (by rfl) (by rfl) (by first | trivial | exact Nat.le_of_ble_eq_true rfl | decide | (simp; done) | omega) ?_
        | refine ao_load tyOk (by rfl) (by rfl) (by rfl) (by rfl) (by rfl) (cont_arr (by rfl) HD) (by rfl) (by first | trivial | exact Nat.le_of_ble_eq_true rfl | decide | (simp; done) | omega) ?_
      first
        | refine ao0 (em_move (by rfl) (by rfl)) (by rfl) (by rfl) ?_
        | refine ao0 (em_moveG (by rfl) (by rfl)) (by rfl) (by rfl) ?_
        | refine ao0 (sem_move (.inl (by rfl))) (by rfl) (by rfl) ?_
      first
        | refine ao0 (em_binI (by rfl) (by rfl) (by rfl) (by rfl) (by first | rfl | trivial | exact ⟨rfl, by decide⟩ | exact ⟨rfl, by omega⟩ | decide | omega)) (by rfl) (by rfl) ?_
        | refine ao0 (sem_binB tyOk (by rfl) (by rfl) (by rfl) (by rfl) (by rfl) (by rfl)) (by rfl) (by rfl) ?_
        | refine ao0 (sem_nilS tyOk (by rfl) (by rfl) (by rfl) (by rfl) (by rfl) (by first | exact .inl ⟨rfl, rfl⟩ | exact .inr ⟨rfl, rfl⟩)) (by rfl) (by rfl) ?_
        | refine ao0 (sem_binS (by rfl) (by rfl) (by rfl) (by rfl) (by trivial)) (by rfl) (by rfl) ?_
      refine ao_nil (by first | dsimp only [setO, setE] | rfl) (by first | dsimp only [setM, setE, setR] | rfl) (by rfl) ?_
      refine AW.cond (by rfl) (fun hc2 => ?_) (fun hc2 => ?_)
      · skip
        exfalso; simp [intG] at hc2
      · skip
        refine AW.skip ?_
        refine AW.region ?_
        first
          | refine ao0 (em_move (by rfl) (by rfl)) (by rfl) (by rfl) ?_
          | refine ao0 (em_moveG (by rfl) (by rfl)) (by rfl) (by rfl) ?_
          | refine ao0 (sem_move (.inl (by rfl))) (by rfl) (by rfl) ?_
        first
          | refine ao0 (em_add (by rfl) (by rfl) (by rfl) (by omega) (by omega)) (by rfl) (by rfl) ?_
          | refine ao0 (em_add8 (by rfl) (by rfl) (by rfl) (by omega) (by omega)) (by rfl) (by rfl) ?_
          | refine ao0 (em_binI (by rfl) (by rfl) (by rfl) (by rfl) (by first | rfl | trivial | exact ⟨rfl, by decide⟩ | exact ⟨rfl, by omega⟩ | decide | omega)) (by rfl) (by rfl) ?_
          | refine ao0 (sem_binS (by rfl) (by rfl) (by rfl) (by rfl) (by trivial)) (by rfl) (by rfl) ?_
        first
          | refine ao0 (em_assign (by rfl) (by rfl)) (by rfl) (by rfl) ?_
          | refine ao0 (em_assignG (by rfl) (by rfl)) (by rfl) (by rfl) ?_
          | refine ao0 (sem_move (.inr (by rfl))) (by rfl) (by rfl) ?_
        refine ao_nil (by first | dsimp only [setO, setE] | rfl) (by first | dsimp only [setM, setE, setR] | rfl) (by rfl) ?_
        refine AW.region ?_
        first
          | refine ao0 (em_move (by rfl) (by rfl)) (by rfl) (by rfl) ?_
          | refine ao0 (em_moveG (by rfl) (by rfl)) (by rfl) (by rfl) ?_
          | refine ao0 (sem_move (.inl (by rfl))) (by rfl) (by rfl) ?_
        first
          | refine ao0 (em_add (by rfl) (by rfl) (by rfl) (by omega) (by omega)) (by rfl) (by rfl) ?_
          | refine ao0 (em_add8 (by rfl) (by rfl) (by rfl) (by omega) (by omega)) (by rfl) (by rfl) ?_
          | refine ao0 (em_binI (by rfl) (by rfl) (by rfl) (by rfl) (by first | rfl | trivial | exact ⟨rfl, by decide⟩ | exact ⟨rfl, by omega⟩ | decide | omega)) (by rfl) (by rfl) ?_
          | refine ao0 (sem_binS (by rfl) (by rfl) (by rfl) (by rfl) (by trivial)) (by rfl) (by rfl) ?_
        first
          | refine ao0 (em_assign (by rfl) (by rfl)) (by rfl) (by rfl) ?_
          | refine ao0 (em_assignG (by rfl) (by rfl)) (by rfl) (by rfl) ?_
          | refine ao0 (sem_move (.inr (by rfl))) (by rfl) (by rfl) ?_
        refine ao_nil (by first | dsimp only [setO, setE] | rfl) (by first | dsimp only [setM, setE, setR] | rfl) (by rfl) ?_
        refine ⟨⟨i + 1, hlt⟩, by dsimp only; omega, ?_⟩
        dsimp only [updL, setE]
        refine into_lists [] ?_ ?_ rfl rfl (by decide) (by rfl) (by rfl) (by rfl) (by rfl) (by omega)
        all_goals (try (repeat' (first | exact True.intro | exact Or.inl rfl | exact Or.inr (Or.inl rfl) | refine And.intro ?_ ?_ | exact le_i (by omega) | exact le_own (by rfl) (by rfl) (by first | rfl | omega) | exact le_arr (by rfl) (by rfl) (by first | rfl | omega) (by rfl) | exact Or.inr (Or.inr (Or.inl ⟨_, _, rfl, rfl⟩)) | exact Or.inr (Or.inr ⟨_, _, rfl⟩) | exact Or.inr (Or.inr (Or.inr ⟨_, _, _, _, rfl, rfl⟩)))))
        all_goals exact le_i (by omega)
    · skip
      have hge : i = n := by simp at hc1; omega
      refine AW.exit ?_
      refine AW.seq ?_
      refine AW.region ?_
      first
        | refine ao0 (em_move (by rfl) (by rfl)) (by rfl) (by rfl) ?_
        | refine ao0 (em_moveG (by rfl) (by rfl)) (by rfl) (by rfl) ?_
        | refine ao0 (sem_move (.inl (by rfl))) (by rfl) (by rfl) ?_
      first
        | refine ao0 (em_assign (by rfl) (by rfl)) (by rfl) (by rfl) ?_
        | refine ao0 (em_assignG (by rfl) (by rfl)) (by rfl) (by rfl) ?_
        | refine ao0 (sem_move (.inr (by rfl))) (by rfl) (by rfl) ?_
      refine ao_nil (by first | dsimp only [setO, setE] | rfl) (by first | dsimp only [setM, setE, setR] | rfl) (by rfl) ?_
      refine AW.ret ?_
      refine retA_data (n := 0) rfl (by rfl) ?_ rfl rfl _ (.inr rfl)
      exact pack_i (by rw [hge])
theorem markIntNil_ok (m : Int) : FnOk Tryd.prog noG 33 [.v false [.sl false false 0 []], .v false [.i .i64 m]] [] (.v false [.i .i64 m]) [] := by
  refine fnOk_of' (k := 0) tyOk Tryd.func33 rfl (by kernel_rfl) Tryd.ntmps33 (by rw [Tryd.results33]) rfl (by simp only [List.length_cons, List.length_nil, Nat.reduceAdd, Nat.reduceSub, List.replicate_succ, List.replicate_zero, List.cons_append, List.nil_append]; rfl) (by simp) (by simp) (fun r hr => by simp at hr) fun base => ?_
  refine AW.seq ?_
  refine AW.region ?_
  first
    | refine ao0 (em_assign (by rfl) (by rfl)) (by rfl) (by rfl) ?_
    | refine ao0 (em_assignG (by rfl) (by rfl)) (by rfl) (by rfl) ?_
    | refine ao0 (sem_move (.inr (by rfl))) (by rfl) (by rfl) ?_
  refine ao_nil (by first | dsimp only [setO, setE] | rfl) (by first | dsimp only [setM, setE, setR] | rfl) (by rfl) ?_
  refine AW.seq ?_
  refine AW.seq ?_
  refine AW.region ?_
  first
    | refine ao0 (em_assign (by rfl) (by rfl)) (by rfl) (by rfl) ?_
    | refine ao0 (em_assignG (by rfl) (by rfl)) (by rfl) (by rfl) ?_
    | refine ao0 (sem_move (.inr (by rfl))) (by rfl) (by rfl) ?_
  refine ao_nil (by first | dsimp only [setO, setE] | rfl) (by first | dsimp only [setM, setE, setR] | rfl) (by rfl) ?_
  refine AW.block ?_
  refine AW.unroll 1 ?_
  refine AWr_step ?_
  refine AW.seq ?_
  refine AW.seq ?_
  refine AW.region ?_
  first
    | refine ao0 (em_move (by rfl) (by rfl)) (by rfl) (by rfl) ?_
    | refine ao0 (em_moveG (by rfl) (by rfl)) (by rfl) (by rfl) ?_
    | refine ao0 (sem_move (.inl (by rfl))) (by rfl) (by rfl) ?_
  first
    | refine ao0 (em_move (by rfl) (by rfl)) (by rfl) (by rfl) ?_
    | refine ao0 (em_moveG (by rfl) (by rfl)) (by rfl) (by rfl) ?_
    | refine ao0 (sem_move (.inl (by rfl))) (by rfl) (by rfl) ?_
  first
    | refine ao0 (sem_len tyOk (by rfl) (by rfl) (by rfl) (by rfl) (by first | exact .inl ⟨_, _, _, rfl⟩ | exact .inr ⟨_, _, rfl⟩)) (by rfl) (by rfl) ?_
    | refine ao0 (sem_len_str tyOk (by rfl) (by rfl) (by rfl) (by rfl)) (by rfl) (by rfl) ?_
  first
    | refine ao0 (em_binI (by rfl) (by rfl) (by rfl) (by rfl) (by first | rfl | trivial | exact ⟨rfl, by decide⟩ | exact ⟨rfl, by omega⟩ | decide | omega)) (by rfl) (by rfl) ?_
    | refine ao0 (sem_binS (by rfl) (by rfl) (by rfl) (by rfl) (by trivial)) (by rfl) (by rfl) ?_
  refine ao_nil (by first | dsimp only [setO, setE] | rfl) (by first | dsimp only [setM, setE, setR] | rfl) (by rfl) ?_
  refine AW.cond (by rfl) (fun hc1 => ?_) (fun hc1 => ?_)
  · skip
    exfalso; simp at hc1
  · skip
    refine AW.exit ?_
    refine AW.seq ?_
    refine AW.region ?_
    first
      | refine ao0 (em_move (by rfl) (by rfl)) (by rfl) (by rfl) ?_
      | refine ao0 (em_moveG (by rfl) (by rfl)) (by rfl) (by rfl) ?_
      | refine ao0 (sem_move (.inl (by rfl))) (by rfl) (by rfl) ?_
    first
      | refine ao0 (em_assign (by rfl) (by rfl)) (by rfl) (by rfl) ?_
      | refine ao0 (em_assignG (by rfl) (by rfl)) (by rfl) (by rfl) ?_
      | refine ao0 (sem_move (.inr (by rfl))) (by rfl) (by rfl) ?_
    refine ao_nil (by first | dsimp only [setO, setE] | rfl) (by first | dsimp only [setM, setE, setR] | rfl) (by rfl) ?_
    refine AW.ret ?_
    refine retA_data (n := 0) rfl (by rfl) ?_ rfl rfl _ (.inr rfl)
    all_goals rfl
theorem heldIntNil_ok (m : Int) : FnOk Tryd.prog noG 34 [.v false [.sl false false 0 []], .v false [.i .i64 m]] [] (.v false [.i .i64 m]) [] := by
  refine fnOk_of' (k := 0) tyOk Tryd.func34 rfl (by kernel_rfl) Tryd.ntmps34 (by rw [Tryd.results34]) rfl (by simp only [List.length_cons, List.length_nil, Nat.reduceAdd, Nat.reduceSub, List.replicate_succ, List.replicate_zero, List.cons_append, List.nil_append]; rfl) (by simp) (by simp) (fun r hr => by simp at hr) fun base => ?_
  refine AW.seq ?_
  refine AW.region ?_
  first
    | refine ao0 (em_assign (by rfl) (by rfl)) (by rfl) (by rfl) ?_
    | refine ao0 (em_assignG (by rfl) (by rfl)) (by rfl) (by rfl) ?_
    | refine ao0 (sem_move (.inr (by rfl))) (by rfl) (by rfl) ?_
  refine ao_nil (by first | dsimp only [setO, setE] | rfl) (by first | dsimp only [setM, setE, setR] | rfl) (by rfl) ?_
  refine AW.seq ?_
  refine AW.seq ?_
  refine AW.region ?_
  first
    | refine ao0 (em_assign (by rfl) (by rfl)) (by rfl) (by rfl) ?_
    | refine ao0 (em_assignG (by rfl) (by rfl)) (by rfl) (by rfl) ?_
    | refine ao0 (sem_move (.inr (by rfl))) (by rfl) (by rfl) ?_
  refine ao_nil (by first | dsimp only [setO, setE] | rfl) (by first | dsimp only [setM, setE, setR] | rfl) (by rfl) ?_
  refine AW.block ?_
  refine AW.unroll 1 ?_
  refine AWr_step ?_
  refine AW.seq ?_
  refine AW.seq ?_
  refine AW.region ?_
  first
    | refine ao0 (em_move (by rfl) (by rfl)) (by rfl) (by rfl) ?_
    | refine ao0 (em_moveG (by rfl) (by rfl)) (by rfl) (by rfl) ?_
    | refine ao0 (sem_move (.inl (by rfl))) (by rfl) (by rfl) ?_
  first
    | refine ao0 (em_move (by rfl) (by rfl)) (by rfl) (by rfl) ?_
    | refine ao0 (em_moveG (by rfl) (by rfl)) (by rfl) (by rfl) ?_
    | refine ao0 (sem_move (.inl (by rfl))) (by rfl) (by rfl) ?_
  first
    | refine ao0 (sem_len tyOk (by rfl) (by rfl) (by rfl) (by rfl) (by first | exact .inl ⟨_, _, _, rfl⟩ | exact .inr ⟨_, _, rfl⟩)) (by rfl) (by rfl) ?_
    | refine ao0 (sem_len_str tyOk (by rfl) (by rfl) (by rfl) (by rfl)) (by rfl) (by rfl) ?_
  first
    | refine ao0 (em_binI (by rfl) (by rfl) (by rfl) (by rfl) (by first | rfl | trivial | exact ⟨rfl, by decide⟩ | exact ⟨rfl, by omega⟩ | decide | omega)) (by rfl) (by rfl) ?_
    | refine ao0 (sem_binS (by rfl) (by rfl) (by rfl) (by rfl) (by trivial)) (by rfl) (by rfl) ?_
  refine ao_nil (by first | dsimp only [setO, setE] | rfl) (by first | dsimp only [setM, setE, setR] | rfl) (by rfl) ?_
  refine AW.cond (by rfl) (fun hc1 => ?_) (fun hc1 => ?_)
  · skip
    exfalso; simp at hc1
  · skip
    refine AW.exit ?_
    refine AW.seq ?_
    refine AW.region ?_
    first
      | refine ao0 (em_move (by rfl) (by rfl)) (by rfl) (by rfl) ?_
      | refine ao0 (em_moveG (by rfl) (by rfl)) (by rfl) (by rfl) ?_
      | refine ao0 (sem_move (.inl (by rfl))) (by rfl) (by rfl) ?_
    first
      | refine ao0 (em_assign (by rfl) (by rfl)) (by rfl) (by rfl) ?_
      | refine ao0 (em_assignG (by rfl) (by rfl)) (by rfl) (by rfl) ?_
      | refine ao0 (sem_move (.inr (by rfl))) (by rfl) (by rfl) ?_
    refine ao_nil (by first | dsimp only [setO, setE] | rfl) (by first | dsimp only [setM, setE, setR] | rfl) (by rfl) ?_
    refine AW.ret ?_
    refine retA_data (n := 0) rfl (by rfl) ?_ rfl rfl _ (.inr rfl)
    all_goals rfl
theorem scalP (xs : List pntT) : ∀ d ∈ xs.flatMap pntD, d.scalar = true := fun d hd => by
  obtain ⟨x, _, hx⟩ := List.mem_flatMap.1 hd
  simp [pntD] at hx
  rcases hx with rfl | rfl <;> rfl
theorem scalZ (xs : List Int) : ∀ d ∈ xs.flatMap intD, d.scalar = true := fun d hd => by
  obtain ⟨x, _, hx⟩ := List.mem_flatMap.1 hd
  simp [intD] at hx
  subst hx; rfl
set_option maxHeartbeats 2000000 in
theorem FnExactCountRings_ok (ab ho ca : Int) (nn : Bool) (xs : List pntT) (hnn : nn = false → xs = []) (hlx : xs.length ≤ 9223372036854775807) : FnOk Tryd.prog gT 10 [.v true [.i .i64 ab, .i .i64 ho, .i .i64 ca], .v false [.sl false nn xs.length (xs.flatMap pntD)]] [] (.v false [.b true]) [] := by
  have hsz : FnOk Tryd.prog gT _ _ _ _ _ := (szPointS_ok nn xs 1048576 (by decide) (by decide) hlx).any
  by_cases hbig : (1048576 : Int) < xs.length
  · rw [if_pos hbig] at hsz
    refine fnOk_of' (k := 0) tyOk Tryd.func10 rfl (by kernel_rfl) Tryd.ntmps10 (by rw [Tryd.results10]) rfl (by simp only [List.length_cons, List.length_nil, Nat.reduceAdd, Nat.reduceSub, List.replicate_succ, List.replicate_zero, List.cons_append, List.nil_append]; rfl) (by simp) (by simp) (fun r hr => by simp at hr) fun base => ?_
    refine AW.seq ?_
    refine AW.region ?_
    refine ao1 (sem_box (by rfl) (by rfl)) (by omega) (by rfl) (by rfl) ?_
    first
      | refine ao0 (em_assign (by rfl) (by rfl)) (by rfl) (by rfl) ?_
      | refine ao0 (em_assignG (by rfl) (by rfl)) (by rfl) (by rfl) ?_
      | refine ao0 (sem_move (.inr (by rfl))) (by rfl) (by rfl) ?_
    refine ao_nil (by first | dsimp only [setO, setE] | rfl) (by first | dsimp only [setM, setE, setR] | rfl) (by rfl) ?_
    refine AW.seq ?_
    refine AW.region ?_
    first
      | refine ao0 (em_assign (by rfl) (by rfl)) (by rfl) (by rfl) ?_
      | refine ao0 (em_assignG (by rfl) (by rfl)) (by rfl) (by rfl) ?_
      | refine ao0 (sem_move (.inr (by rfl))) (by rfl) (by rfl) ?_
    refine ao_nil (by first | dsimp only [setO, setE] | rfl) (by first | dsimp only [setM, setE, setR] | rfl) (by rfl) ?_
    refine AW.seq ?_
    refine AW.region ?_
    first
      | refine ao0 (em_move (by rfl) (by rfl)) (by rfl) (by rfl) ?_
      | refine ao0 (em_moveG (by rfl) (by rfl)) (by rfl) (by rfl) ?_
      | refine ao0 (sem_move (.inl (by rfl))) (by rfl) (by rfl) ?_
    first
      | refine ao0 (em_move (by rfl) (by rfl)) (by rfl) (by rfl) ?_
      | refine ao0 (em_moveG (by rfl) (by rfl)) (by rfl) (by rfl) ?_
      | refine ao0 (sem_move (.inl (by rfl))) (by rfl) (by rfl) ?_
    refine ao_callL [] [] (hsz) (by rfl) (by rfl) (by rfl) (by rfl) (by rfl) (by repeat' (first | exact True.intro | exact .inl ⟨by rfl, by rfl⟩ | exact rfl | exact .inr (.inl ⟨_, _, _, _, by rfl, by rfl⟩) | exact .inr (.inr ⟨_, _, _, _, _, _, by rfl, by rfl, by rfl, by first | exact .head _ | exact .tail _ (.head _) | exact .tail _ (.tail _ (.head _)) | exact .tail _ (.tail _ (.tail _ (.head _)))⟩) | refine And.intro ?_ ?_)) (by repeat' (first | exact True.intro | exact .inl ⟨by rfl, by rfl⟩ | exact rfl | exact .inl rfl | exact .inr (.inl ⟨_, _, _, _, by rfl, by rfl⟩) | exact .inr ⟨rfl, by simp [D.scalar, bD]⟩ | refine And.intro ?_ ?_)) (by rfl) (by rfl) (by rfl) (by decide) (by rfl) (by rfl) (by omega) (by first | rfl | (simp [keptB, notGone, (by rfl).live]; done)) (by rfl) (by rfl) (by rfl) (by rfl) (by rfl) (by rfl) (by rfl) ?_
    first
      | refine ao0 (em_assign (by rfl) (by rfl)) (by rfl) (by rfl) ?_
      | refine ao0 (em_assignG (by rfl) (by rfl)) (by rfl) (by rfl) ?_
      | refine ao0 (sem_move (.inr (by rfl))) (by rfl) (by rfl) ?_
    refine ao_nil (by first | dsimp only [setO, setE] | rfl) (by first | dsimp only [setM, setE, setR] | rfl) (by rfl) ?_
    refine AW.seq ?_
    refine AW.seq ?_
    refine AW.region ?_
    first
      | refine ao0 (em_move (by rfl) (by rfl)) (by rfl) (by rfl) ?_
      | refine ao0 (em_moveG (by rfl) (by rfl)) (by rfl) (by rfl) ?_
      | refine ao0 (sem_move (.inl (by rfl))) (by rfl) (by rfl) ?_
    first
      | refine ao0 (em_binI (by rfl) (by rfl) (by rfl) (by rfl) (by first | rfl | trivial | exact ⟨rfl, by decide⟩ | exact ⟨rfl, by omega⟩ | decide | omega)) (by rfl) (by rfl) ?_
      | refine ao0 (sem_binS (by rfl) (by rfl) (by rfl) (by rfl) (by trivial)) (by rfl) (by rfl) ?_
    refine ao_nil (by first | dsimp only [setO, setE] | rfl) (by first | dsimp only [setM, setE, setR] | rfl) (by rfl) ?_
    refine AW.cond (by rfl) (fun hc1 => ?_) (fun hc1 => ?_)
    · skip
      refine AW.seq ?_
      refine AW.region ?_
      first
        | refine ao0 (em_assign (by rfl) (by rfl)) (by rfl) (by rfl) ?_
        | refine ao0 (em_assignG (by rfl) (by rfl)) (by rfl) (by rfl) ?_
        | refine ao0 (sem_move (.inr (by rfl))) (by rfl) (by rfl) ?_
      refine ao_nil (by first | dsimp only [setO, setE] | rfl) (by first | dsimp only [setM, setE, setR] | rfl) (by rfl) ?_
      refine AW.ret ?_
      refine retA_data (n := 0) rfl (by rfl) ?_ rfl rfl _ (.inr rfl)
      exact pack_b rfl
    · skip
      exfalso; simp at hc1
  · rw [if_neg hbig] at hsz
    have hl : xs.length ≤ 1048576 := by omega
    have hRu : FnOk Tryd.prog gT _ _ _ _ _ := (toRule_ok ab ho ca).any
    have hT : FnOk Tryd.prog gT _ _ _ _ _ := (toPointS_ok nn xs hl hnn).any
    have hE : FnOk Tryd.prog gT _ _ _ _ _ := (eqPointS_ok true true xs xs (by omega) (by omega) (by simp) (by simp)).any
    have hS : FnOk Tryd.prog gT _ _ _ _ _ := (sCountRings_ok ab ho ca true xs hl (by simp)).any
    have hI := iCountRings_ok ab ho ca true xs hl (by simp)
    have hs1 := scalP xs
    refine fnOk_of' (k := 0) tyOk Tryd.func10 rfl (by kernel_rfl) Tryd.ntmps10 (by rw [Tryd.results10]) rfl (by simp only [List.length_cons, List.length_nil, Nat.reduceAdd, Nat.reduceSub, List.replicate_succ, List.replicate_zero, List.cons_append, List.nil_append]; rfl) (by simp) (by simp) (fun r hr => by simp at hr) fun base => ?_
    refine AW.seq ?_
    refine AW.region ?_
    refine ao1 (sem_box (by rfl) (by rfl)) (by omega) (by rfl) (by rfl) ?_
    first
      | refine ao0 (em_assign (by rfl) (by rfl)) (by rfl) (by rfl) ?_
      | refine ao0 (em_assignG (by rfl) (by rfl)) (by rfl) (by rfl) ?_
      | refine ao0 (sem_move (.inr (by rfl))) (by rfl) (by rfl) ?_
    refine ao_nil (by first | dsimp only [setO, setE] | rfl) (by first | dsimp only [setM, setE, setR] | rfl) (by rfl) ?_
    refine AW.seq ?_
    refine AW.region ?_
    first
      | refine ao0 (em_assign (by rfl) (by rfl)) (by rfl) (by rfl) ?_
      | refine ao0 (em_assignG (by rfl) (by rfl)) (by rfl) (by rfl) ?_
      | refine ao0 (sem_move (.inr (by rfl))) (by rfl) (by rfl) ?_
    refine ao_nil (by first | dsimp only [setO, setE] | rfl) (by first | dsimp only [setM, setE, setR] | rfl) (by rfl) ?_
    refine AW.seq ?_
    refine AW.region ?_
    first
      | refine ao0 (em_move (by rfl) (by rfl)) (by rfl) (by rfl) ?_
      | refine ao0 (em_moveG (by rfl) (by rfl)) (by rfl) (by rfl) ?_
      | refine ao0 (sem_move (.inl (by rfl))) (by rfl) (by rfl) ?_
    first
      | refine ao0 (em_move (by rfl) (by rfl)) (by rfl) (by rfl) ?_
      | refine ao0 (em_moveG (by rfl) (by rfl)) (by rfl) (by rfl) ?_
      | refine ao0 (sem_move (.inl (by rfl))) (by rfl) (by rfl) ?_
    refine ao_callL [] [] (hsz) (by rfl) (by rfl) (by rfl) (by rfl) (by rfl) (by repeat' (first | exact True.intro | exact .inl ⟨by rfl, by rfl⟩ | exact rfl | exact .inr (.inl ⟨_, _, _, _, by rfl, by rfl⟩) | exact .inr (.inr ⟨_, _, _, _, _, _, by rfl, by rfl, by rfl, by first | exact .head _ | exact .tail _ (.head _) | exact .tail _ (.tail _ (.head _)) | exact .tail _ (.tail _ (.tail _ (.head _)))⟩) | refine And.intro ?_ ?_)) (by repeat' (first | exact True.intro | exact .inl ⟨by rfl, by rfl⟩ | exact rfl | exact .inl rfl | exact .inr (.inl ⟨_, _, _, _, by rfl, by rfl⟩) | exact .inr ⟨rfl, by first | (simp [D.scalar, bD]; done) | assumption⟩ | refine And.intro ?_ ?_)) (by rfl) (by rfl) (by rfl) (by decide) (by rfl) (by rfl) (by omega) (by first | rfl | (simp [keptB, notGone, (by rfl).live]; done) | (cases nb <;> rfl)) (by rfl) (by rfl) (by rfl) (by rfl) (by rfl) (by rfl) (by rfl) ?_
    first
      | refine ao0 (em_assign (by rfl) (by rfl)) (by rfl) (by rfl) ?_
      | refine ao0 (em_assignG (by rfl) (by rfl)) (by rfl) (by rfl) ?_
      | refine ao0 (sem_move (.inr (by rfl))) (by rfl) (by rfl) ?_
    refine ao_nil (by first | dsimp only [setO, setE] | rfl) (by first | dsimp only [setM, setE, setR] | rfl) (by rfl) ?_
    refine AW.seq ?_
    refine AW.seq ?_
    refine AW.region ?_
    first
      | refine ao0 (em_move (by rfl) (by rfl)) (by rfl) (by rfl) ?_
      | refine ao0 (em_moveG (by rfl) (by rfl)) (by rfl) (by rfl) ?_
      | refine ao0 (sem_move (.inl (by rfl))) (by rfl) (by rfl) ?_
    first
      | refine ao0 (em_binI (by rfl) (by rfl) (by rfl) (by rfl) (by first | rfl | trivial | exact ⟨rfl, by decide⟩ | exact ⟨rfl, by omega⟩ | decide | omega)) (by rfl) (by rfl) ?_
      | refine ao0 (sem_binS (by rfl) (by rfl) (by rfl) (by rfl) (by trivial)) (by rfl) (by rfl) ?_
    refine ao_nil (by first | dsimp only [setO, setE] | rfl) (by first | dsimp only [setM, setE, setR] | rfl) (by rfl) ?_
    refine AW.cond (by rfl) (fun hc1 => ?_) (fun hc1 => ?_)
    · skip
      exfalso; simp at hc1 <;> omega
    · skip
      refine AW.skip ?_
      refine AW.seq ?_
      refine AW.region ?_
      refine ao_load tyOk (by rfl) (by rfl) (by rfl) (by rfl) (by rfl) (by rfl) (by rfl) (by first | trivial | exact Nat.le_of_ble_eq_true rfl | decide | (simp; done) | omega) ?_
      refine ao_callL [] [] (hRu) (by rfl) (by rfl) (by rfl) (by rfl) (by rfl) (by repeat' (first | exact True.intro | exact .inl ⟨by rfl, by rfl⟩ | exact rfl | exact .inr (.inl ⟨_, _, _, _, by rfl, by rfl⟩) | exact .inr (.inr ⟨_, _, _, _, _, _, by rfl, by rfl, by rfl, by first | exact .head _ | exact .tail _ (.head _) | exact .tail _ (.tail _ (.head _)) | exact .tail _ (.tail _ (.tail _ (.head _)))⟩) | refine And.intro ?_ ?_)) (by repeat' (first | exact True.intro | exact .inl ⟨by rfl, by rfl⟩ | exact rfl | exact .inl rfl | exact .inr (.inl ⟨_, _, _, _, by rfl, by rfl⟩) | exact .inr ⟨rfl, by first | (simp [D.scalar, bD]; done) | assumption⟩ | refine And.intro ?_ ?_)) (by rfl) (by rfl) (by rfl) (by decide) (by rfl) (by rfl) (by omega) (by first | rfl | (simp [keptB, notGone, (by rfl).live]; done) | (cases nb <;> rfl)) (by rfl) (by rfl) (by rfl) (by rfl) (by rfl) (by rfl) (by rfl) ?_
      first
        | refine ao0 (em_move (by rfl) (by rfl)) (by rfl) (by rfl) ?_
        | refine ao0 (em_moveG (by rfl) (by rfl)) (by rfl) (by rfl) ?_
        | refine ao0 (sem_move (.inl (by rfl))) (by rfl) (by rfl) ?_
      refine ao_callL [] [] (hT) (by rfl) (by rfl) (by rfl) (by rfl) (by rfl) (by repeat' (first | exact True.intro | exact .inl ⟨by rfl, by rfl⟩ | exact rfl | exact .inr (.inl ⟨_, _, _, _, by rfl, by rfl⟩) | exact .inr (.inr ⟨_, _, _, _, _, _, by rfl, by rfl, by rfl, by first | exact .head _ | exact .tail _ (.head _) | exact .tail _ (.tail _ (.head _)) | exact .tail _ (.tail _ (.tail _ (.head _)))⟩) | refine And.intro ?_ ?_)) (by repeat' (first | exact True.intro | exact .inl ⟨by rfl, by rfl⟩ | exact rfl | exact .inl rfl | exact .inr (.inl ⟨_, _, _, _, by rfl, by rfl⟩) | exact .inr ⟨rfl, by first | (simp [D.scalar, bD]; done) | assumption⟩ | refine And.intro ?_ ?_)) (by rfl) (by rfl) (by rfl) (by decide) (by rfl) (by rfl) (by omega) (by first | rfl | (simp [keptB, notGone, (by rfl).live]; done) | (cases nb <;> rfl)) (by rfl) (by rfl) (by rfl) (by rfl) (by rfl) (by rfl) (by rfl) ?_
      refine ao_callL [] [1] (hS) (by rfl) (by rfl) (by rfl) (by rfl) (by rfl) (by repeat' (first | exact True.intro | exact .inl ⟨by rfl, by rfl⟩ | exact rfl | exact .inr (.inl ⟨_, _, _, _, by rfl, by rfl⟩) | exact .inr (.inr ⟨_, _, _, _, _, _, by rfl, by rfl, by rfl, by first | exact .head _ | exact .tail _ (.head _) | exact .tail _ (.tail _ (.head _)) | exact .tail _ (.tail _ (.tail _ (.head _)))⟩) | refine And.intro ?_ ?_)) (by repeat' (first | exact True.intro | exact .inl ⟨by rfl, by rfl⟩ | exact rfl | exact .inl rfl | exact .inr (.inl ⟨_, _, _, _, by rfl, by rfl⟩) | exact .inr ⟨rfl, by first | (simp [D.scalar, bD]; done) | assumption⟩ | refine And.intro ?_ ?_)) (by rfl) (by rfl) (by rfl) (by decide) (by rfl) (by rfl) (by omega) (by first | rfl | (simp [keptB, notGone, (by rfl).live]; done) | (cases nb <;> rfl)) (by rfl) (by rfl) (by rfl) (by rfl) (by rfl) (by rfl) (by rfl) ?_
      first
        | refine ao0 (em_assign (by rfl) (by rfl)) (by rfl) (by rfl) ?_
        | refine ao0 (em_assignG (by rfl) (by rfl)) (by rfl) (by rfl) ?_
        | refine ao0 (sem_move (.inr (by rfl))) (by rfl) (by rfl) ?_
      refine ao_nil (by first | dsimp only [setO, setE] | rfl) (by first | dsimp only [setM, setE, setR] | rfl) (by rfl) ?_
      refine AW.seq ?_
      refine AW.region ?_
      first
        | refine ao0 (em_move (by rfl) (by rfl)) (by rfl) (by rfl) ?_
        | refine ao0 (em_moveG (by rfl) (by rfl)) (by rfl) (by rfl) ?_
        | refine ao0 (sem_move (.inl (by rfl))) (by rfl) (by rfl) ?_
      refine ao_callL [] [] (hT) (by rfl) (by rfl) (by rfl) (by rfl) (by rfl) (by repeat' (first | exact True.intro | exact .inl ⟨by rfl, by rfl⟩ | exact rfl | exact .inr (.inl ⟨_, _, _, _, by rfl, by rfl⟩) | exact .inr (.inr ⟨_, _, _, _, _, _, by rfl, by rfl, by rfl, by first | exact .head _ | exact .tail _ (.head _) | exact .tail _ (.tail _ (.head _)) | exact .tail _ (.tail _ (.tail _ (.head _)))⟩) | refine And.intro ?_ ?_)) (by repeat' (first | exact True.intro | exact .inl ⟨by rfl, by rfl⟩ | exact rfl | exact .inl rfl | exact .inr (.inl ⟨_, _, _, _, by rfl, by rfl⟩) | exact .inr ⟨rfl, by first | (simp [D.scalar, bD]; done) | assumption⟩ | refine And.intro ?_ ?_)) (by rfl) (by rfl) (by rfl) (by decide) (by rfl) (by rfl) (by omega) (by first | rfl | (simp [keptB, notGone, (by rfl).live]; done) | (cases nb <;> rfl)) (by rfl) (by rfl) (by rfl) (by rfl) (by rfl) (by rfl) (by rfl) ?_
      first
        | refine ao0 (em_assign (by rfl) (by rfl)) (by rfl) (by rfl) ?_
        | refine ao0 (em_assignG (by rfl) (by rfl)) (by rfl) (by rfl) ?_
        | refine ao0 (sem_move (.inr (by rfl))) (by rfl) (by rfl) ?_
      refine ao_nil (by first | dsimp only [setO, setE] | rfl) (by first | dsimp only [setM, setE, setR] | rfl) (by rfl) ?_
      refine AW.seq ?_
      refine AW.region ?_
      refine ao_load tyOk (by rfl) (by rfl) (by rfl) (by rfl) (by rfl) (by rfl) (by rfl) (by first | trivial | exact Nat.le_of_ble_eq_true rfl | decide | (simp; done) | omega) ?_
      refine ao_callL [] [] (hRu) (by rfl) (by rfl) (by rfl) (by rfl) (by rfl) (by repeat' (first | exact True.intro | exact .inl ⟨by rfl, by rfl⟩ | exact rfl | exact .inr (.inl ⟨_, _, _, _, by rfl, by rfl⟩) | exact .inr (.inr ⟨_, _, _, _, _, _, by rfl, by rfl, by rfl, by first | exact .head _ | exact .tail _ (.head _) | exact .tail _ (.tail _ (.head _)) | exact .tail _ (.tail _ (.tail _ (.head _)))⟩) | refine And.intro ?_ ?_)) (by repeat' (first | exact True.intro | exact .inl ⟨by rfl, by rfl⟩ | exact rfl | exact .inl rfl | exact .inr (.inl ⟨_, _, _, _, by rfl, by rfl⟩) | exact .inr ⟨rfl, by first | (simp [D.scalar, bD]; done) | assumption⟩ | refine And.intro ?_ ?_)) (by rfl) (by rfl) (by rfl) (by decide) (by rfl) (by rfl) (by omega) (by first | rfl | (simp [keptB, notGone, (by rfl).live]; done) | (cases nb <;> rfl)) (by rfl) (by rfl) (by rfl) (by rfl) (by rfl) (by rfl) (by rfl) ?_
      first
        | refine ao0 (em_move (by rfl) (by rfl)) (by rfl) (by rfl) ?_
        | refine ao0 (em_moveG (by rfl) (by rfl)) (by rfl) (by rfl) ?_
        | refine ao0 (sem_move (.inl (by rfl))) (by rfl) (by rfl) ?_
      refine ao_callL [] [2] (hI) (by rfl) (by rfl) (by rfl) (by rfl) (by rfl) (by repeat' (first | exact True.intro | exact .inl ⟨by rfl, by rfl⟩ | exact rfl | exact .inr (.inl ⟨_, _, _, _, by rfl, by rfl⟩) | exact .inr (.inr ⟨_, _, _, _, _, _, by rfl, by rfl, by rfl, by first | exact .head _ | exact .tail _ (.head _) | exact .tail _ (.tail _ (.head _)) | exact .tail _ (.tail _ (.tail _ (.head _)))⟩) | refine And.intro ?_ ?_)) (by repeat' (first | exact True.intro | exact .inl ⟨by rfl, by rfl⟩ | exact rfl | exact .inl rfl | exact .inr (.inl ⟨_, _, _, _, by rfl, by rfl⟩) | exact .inr ⟨rfl, by first | (simp [D.scalar, bD]; done) | assumption⟩ | refine And.intro ?_ ?_)) (by rfl) (by rfl) (by rfl) (by decide) (by rfl) (by rfl) (by omega) (by first | rfl | (simp [keptB, notGone, (by rfl).live]; done) | (cases nb <;> rfl)) (by rfl) (by rfl) (by rfl) (by rfl) (by rfl) (by rfl) (by rfl) ?_
      first
        | refine ao0 (em_assign (by rfl) (by rfl)) (by rfl) (by rfl) ?_
        | refine ao0 (em_assignG (by rfl) (by rfl)) (by rfl) (by rfl) ?_
        | refine ao0 (sem_move (.inr (by rfl))) (by rfl) (by rfl) ?_
      refine ao_nil (by first | dsimp only [setO, setE] | rfl) (by first | dsimp only [setM, setE, setR] | rfl) (by rfl) ?_
      refine AW.seq ?_
      refine AW.seq ?_
      refine AW.region ?_
      first
        | refine ao0 (em_move (by rfl) (by rfl)) (by rfl) (by rfl) ?_
        | refine ao0 (em_moveG (by rfl) (by rfl)) (by rfl) (by rfl) ?_
        | refine ao0 (sem_move (.inl (by rfl))) (by rfl) (by rfl) ?_
      first
        | refine ao0 (em_move (by rfl) (by rfl)) (by rfl) (by rfl) ?_
        | refine ao0 (em_moveG (by rfl) (by rfl)) (by rfl) (by rfl) ?_
        | refine ao0 (sem_move (.inl (by rfl))) (by rfl) (by rfl) ?_
      first
        | refine ao0 (em_binI (by rfl) (by rfl) (by rfl) (by rfl) (by first | rfl | trivial | exact ⟨rfl, by decide⟩ | exact ⟨rfl, by omega⟩ | decide | omega)) (by rfl) (by rfl) ?_
        | refine ao0 (sem_binB tyOk (by rfl) (by rfl) (by rfl) (by rfl) (by rfl) (by rfl)) (by rfl) (by rfl) ?_
        | refine ao0 (sem_nilS tyOk (by rfl) (by rfl) (by rfl) (by rfl) (by rfl) (by first | exact .inl ⟨rfl, rfl⟩ | exact .inr ⟨rfl, rfl⟩)) (by rfl) (by rfl) ?_
        | refine ao0 (sem_binS (by rfl) (by rfl) (by rfl) (by rfl) (by trivial)) (by rfl) (by rfl) ?_
      refine ao_nil (by first | dsimp only [setO, setE] | rfl) (by first | dsimp only [setM, setE, setR] | rfl) (by rfl) ?_
      refine AW.cond (by rfl) (fun hc2 => ?_) (fun hc2 => ?_)
      · skip
        exfalso; simp at hc2 <;> omega
      · skip
        refine AW.skip ?_
        refine AW.seq ?_
        refine AW.seq ?_
        refine AW.region ?_
        first
          | refine ao0 (em_move (by rfl) (by rfl)) (by rfl) (by rfl) ?_
          | refine ao0 (em_moveG (by rfl) (by rfl)) (by rfl) (by rfl) ?_
          | refine ao0 (sem_move (.inl (by rfl))) (by rfl) (by rfl) ?_
        first
          | refine ao0 (em_move (by rfl) (by rfl)) (by rfl) (by rfl) ?_
          | refine ao0 (em_moveG (by rfl) (by rfl)) (by rfl) (by rfl) ?_
          | refine ao0 (sem_move (.inl (by rfl))) (by rfl) (by rfl) ?_
        refine ao_callL [] [] (hT) (by rfl) (by rfl) (by rfl) (by rfl) (by rfl) (by repeat' (first | exact True.intro | exact .inl ⟨by rfl, by rfl⟩ | exact rfl | exact .inr (.inl ⟨_, _, _, _, by rfl, by rfl⟩) | exact .inr (.inr ⟨_, _, _, _, _, _, by rfl, by rfl, by rfl, by first | exact .head _ | exact .tail _ (.head _) | exact .tail _ (.tail _ (.head _)) | exact .tail _ (.tail _ (.tail _ (.head _)))⟩) | refine And.intro ?_ ?_)) (by repeat' (first | exact True.intro | exact .inl ⟨by rfl, by rfl⟩ | exact rfl | exact .inl rfl | exact .inr (.inl ⟨_, _, _, _, by rfl, by rfl⟩) | exact .inr ⟨rfl, by first | (simp [D.scalar, bD]; done) | assumption⟩ | refine And.intro ?_ ?_)) (by rfl) (by rfl) (by rfl) (by decide) (by rfl) (by rfl) (by omega) (by first | rfl | (simp [keptB, notGone, (by rfl).live]; done) | (cases nb <;> rfl)) (by rfl) (by rfl) (by rfl) (by rfl) (by rfl) (by rfl) (by rfl) ?_
        refine ao_callL [] [2, 3] (hE) (by rfl) (by rfl) (by rfl) (by rfl) (by rfl) (by repeat' (first | exact True.intro | exact .inl ⟨by rfl, by rfl⟩ | exact rfl | exact .inr (.inl ⟨_, _, _, _, by rfl, by rfl⟩) | exact .inr (.inr ⟨_, _, _, _, _, _, by rfl, by rfl, by rfl, by first | exact .head _ | exact .tail _ (.head _) | exact .tail _ (.tail _ (.head _)) | exact .tail _ (.tail _ (.tail _ (.head _)))⟩) | refine And.intro ?_ ?_)) (by repeat' (first | exact True.intro | exact .inl ⟨by rfl, by rfl⟩ | exact rfl | exact .inl rfl | exact .inr (.inl ⟨_, _, _, _, by rfl, by rfl⟩) | exact .inr ⟨rfl, by first | (simp [D.scalar, bD]; done) | assumption⟩ | refine And.intro ?_ ?_)) (by rfl) (by rfl) (by rfl) (by decide) (by rfl) (by rfl) (by omega) (by first | rfl | (simp [keptB, notGone, (by rfl).live]; done) | (cases nb <;> rfl)) (by rfl) (by rfl) (by rfl) (by rfl) (by rfl) (by rfl) (by rfl) ?_
        refine ao0 (sem_unOp (by rfl) (by rfl) (by rfl)) (by rfl) (by rfl) ?_
        refine ao_nil (by first | dsimp only [setO, setE] | rfl) (by first | dsimp only [setM, setE, setR] | rfl) (by rfl) ?_
        refine AW.cond (by rfl) (fun hc3 => ?_) (fun hc3 => ?_)
        · skip
          exfalso; simp at hc3 <;> omega
        · skip
          refine AW.skip ?_
          refine AW.seq ?_
          refine AW.region ?_
          first
            | refine ao0 (em_assign (by rfl) (by rfl)) (by rfl) (by rfl) ?_
            | refine ao0 (em_assignG (by rfl) (by rfl)) (by rfl) (by rfl) ?_
            | refine ao0 (sem_move (.inr (by rfl))) (by rfl) (by rfl) ?_
          refine ao_nil (by first | dsimp only [setO, setE] | rfl) (by first | dsimp only [setM, setE, setR] | rfl) (by rfl) ?_
          refine AW.ret ?_
          refine retA_data (n := 0) rfl (by rfl) ?_ rfl rfl _ (.inr rfl)
          exact pack_b rfl
set_option maxHeartbeats 2000000 in
theorem FnExactAlertStates_ok (ab ho ca : Int) (nn : Bool) (xs : List pntT) (hnn : nn = false → xs = []) (hlx : xs.length ≤ 9223372036854775807) : FnOk Tryd.prog gT 11 [.v true [.i .i64 ab, .i .i64 ho, .i .i64 ca], .v false [.sl false nn xs.length (xs.flatMap pntD)]] [] (.v false [.b true]) [] := by
  have hsz : FnOk Tryd.prog gT _ _ _ _ _ := (szPointS_ok nn xs 1048576 (by decide) (by decide) hlx).any
  by_cases hbig : (1048576 : Int) < xs.length
  · rw [if_pos hbig] at hsz
    refine fnOk_of' (k := 0) tyOk Tryd.func11 rfl (by kernel_rfl) Tryd.ntmps11 (by rw [Tryd.results11]) rfl (by simp only [List.length_cons, List.length_nil, Nat.reduceAdd, Nat.reduceSub, List.replicate_succ, List.replicate_zero, List.cons_append, List.nil_append]; rfl) (by simp) (by simp) (fun r hr => by simp at hr) fun base => ?_
    refine AW.seq ?_
    refine AW.region ?_
    refine ao1 (sem_box (by rfl) (by rfl)) (by omega) (by rfl) (by rfl) ?_
    first
      | refine ao0 (em_assign (by rfl) (by rfl)) (by rfl) (by rfl) ?_
      | refine ao0 (em_assignG (by rfl) (by rfl)) (by rfl) (by rfl) ?_
      | refine ao0 (sem_move (.inr (by rfl))) (by rfl) (by rfl) ?_
    refine ao_nil (by first | dsimp only [setO, setE] | rfl) (by first | dsimp only [setM, setE, setR] | rfl) (by rfl) ?_
    refine AW.seq ?_
    refine AW.region ?_
    first
      | refine ao0 (em_assign (by rfl) (by rfl)) (by rfl) (by rfl) ?_
      | refine ao0 (em_assignG (by rfl) (by rfl)) (by rfl) (by rfl) ?_
      | refine ao0 (sem_move (.inr (by rfl))) (by rfl) (by rfl) ?_
    refine ao_nil (by first | dsimp only [setO, setE] | rfl) (by first | dsimp only [setM, setE, setR] | rfl) (by rfl) ?_
    refine AW.seq ?_
    refine AW.region ?_
    first
      | refine ao0 (em_move (by rfl) (by rfl)) (by rfl) (by rfl) ?_
      | refine ao0 (em_moveG (by rfl) (by rfl)) (by rfl) (by rfl) ?_
      | refine ao0 (sem_move (.inl (by rfl))) (by rfl) (by rfl) ?_
    first
      | refine ao0 (em_move (by rfl) (by rfl)) (by rfl) (by rfl) ?_
      | refine ao0 (em_moveG (by rfl) (by rfl)) (by rfl) (by rfl) ?_
      | refine ao0 (sem_move (.inl (by rfl))) (by rfl) (by rfl) ?_
    refine ao_callL [] [] (hsz) (by rfl) (by rfl) (by rfl) (by rfl) (by rfl) (by repeat' (first | exact True.intro | exact .inl ⟨by rfl, by rfl⟩ | exact rfl | exact .inr (.inl ⟨_, _, _, _, by rfl, by rfl⟩) | exact .inr (.inr ⟨_, _, _, _, _, _, by rfl, by rfl, by rfl, by first | exact .head _ | exact .tail _ (.head _) | exact .tail _ (.tail _ (.head _)) | exact .tail _ (.tail _ (.tail _ (.head _)))⟩) | refine And.intro ?_ ?_)) (by repeat' (first | exact True.intro | exact .inl ⟨by rfl, by rfl⟩ | exact rfl | exact .inl rfl | exact .inr (.inl ⟨_, _, _, _, by rfl, by rfl⟩) | exact .inr ⟨rfl, by simp [D.scalar, bD]⟩ | refine And.intro ?_ ?_)) (by rfl) (by rfl) (by rfl) (by decide) (by rfl) (by rfl) (by omega) (by first | rfl | (simp [keptB, notGone, (by rfl).live]; done)) (by rfl) (by rfl) (by rfl) (by rfl) (by rfl) (by rfl) (by rfl) ?_
    first
      | refine ao0 (em_assign (by rfl) (by rfl)) (by rfl) (by rfl) ?_
      | refine ao0 (em_assignG (by rfl) (by rfl)) (by rfl) (by rfl) ?_
      | refine ao0 (sem_move (.inr (by rfl))) (by rfl) (by rfl) ?_
    refine ao_nil (by first | dsimp only [setO, setE] | rfl) (by first | dsimp only [setM, setE, setR] | rfl) (by rfl) ?_
    refine AW.seq ?_
    refine AW.seq ?_
    refine AW.region ?_
    first
      | refine ao0 (em_move (by rfl) (by rfl)) (by rfl) (by rfl) ?_
      | refine ao0 (em_moveG (by rfl) (by rfl)) (by rfl) (by rfl) ?_
      | refine ao0 (sem_move (.inl (by rfl))) (by rfl) (by rfl) ?_
    first
      | refine ao0 (em_binI (by rfl) (by rfl) (by rfl) (by rfl) (by first | rfl | trivial | exact ⟨rfl, by decide⟩ | exact ⟨rfl, by omega⟩ | decide | omega)) (by rfl) (by rfl) ?_
      | refine ao0 (sem_binS (by rfl) (by rfl) (by rfl) (by rfl) (by trivial)) (by rfl) (by rfl) ?_
    refine ao_nil (by first | dsimp only [setO, setE] | rfl) (by first | dsimp only [setM, setE, setR] | rfl) (by rfl) ?_
    refine AW.cond (by rfl) (fun hc1 => ?_) (fun hc1 => ?_)
    · skip
      refine AW.seq ?_
      refine AW.region ?_
      first
        | refine ao0 (em_assign (by rfl) (by rfl)) (by rfl) (by rfl) ?_
        | refine ao0 (em_assignG (by rfl) (by rfl)) (by rfl) (by rfl) ?_
        | refine ao0 (sem_move (.inr (by rfl))) (by rfl) (by rfl) ?_
      refine ao_nil (by first | dsimp only [setO, setE] | rfl) (by first | dsimp only [setM, setE, setR] | rfl) (by rfl) ?_
      refine AW.ret ?_
      refine retA_data (n := 0) rfl (by rfl) ?_ rfl rfl _ (.inr rfl)
      exact pack_b rfl
    · skip
      exfalso; simp at hc1
  · rw [if_neg hbig] at hsz
    have hl : xs.length ≤ 1048576 := by omega
    have hRu : FnOk Tryd.prog gT _ _ _ _ _ := (toRule_ok ab ho ca).any
    have hT : FnOk Tryd.prog gT _ _ _ _ _ := (toPointS_ok nn xs hl hnn).any
    have hE : FnOk Tryd.prog gT _ _ _ _ _ := (eqPointS_ok true true xs xs (by omega) (by omega) (by simp) (by simp)).any
    have hMR : FnOk Tryd.prog gT _ _ _ _ _ := (markPointS_ok true xs 1 (by omega) (by omega) (by omega) (by simp)).any
    have hs1 := scalP xs
    by_cases hok : alsB (ab, ho, ca) xs = true
    · have hI := iAlertStates_own ab ho ca true xs hl (by simp) hok
      have hS : FnOk Tryd.prog gT _ _ _ _ _ := (sAlertStates_any ab ho ca true xs hl (by simp)).any
      rw [alsL_T hok, hok] at hS
      have hsl := stsL_len (ab, ho, ca) xs (0, 0)
      obtain ⟨L, hL⟩ : ∃ L, L = stsL (ab, ho, ca) (0, 0) xs := ⟨_, rfl⟩
      rw [← hL] at hI hS hsl
      obtain ⟨nb, hnb⟩ : ∃ nb, nb = decide (0 < xs.length) := ⟨_, rfl⟩
      have hn1 : nb = false → L = [] := fun h => by have := hnb.symm.trans h; exact List.eq_nil_of_length_eq_zero (by rw [hsl]; simpa using this)
      have hn2 : nb = false → L.length = 0 := fun h => by rw [hn1 h]; rfl
      rw [← hnb] at hI
      have hs2 := scalZ L
      have hQ : FnOk Tryd.prog gT _ _ _ _ _ := (eqIntS_ok nb true L L (by omega) (by omega) hn1 (by simp)).any
      have hM : FnOk Tryd.prog gT _ _ _ _ _ := (markIntS_ok nb L 1 (by omega) (by omega) (by omega) hn1).any
      have hH : FnOk Tryd.prog gT _ _ _ _ _ := (heldIntS_ok nb L.length 1 (by omega) (by omega) (by omega) hn2).any
      have hsx : xs.length = L.length := hsl.symm
      rw [hsl] at hQ hM hH hS
      refine fnOk_of' (k := 0) tyOk Tryd.func11 rfl (by kernel_rfl) Tryd.ntmps11 (by rw [Tryd.results11]) rfl (by simp only [List.length_cons, List.length_nil, Nat.reduceAdd, Nat.reduceSub, List.replicate_succ, List.replicate_zero, List.cons_append, List.nil_append]; rfl) (by simp) (by simp) (fun r hr => by simp at hr) fun base => ?_
      refine AW.seq ?_
      refine AW.region ?_
      refine ao1 (sem_box (by rfl) (by rfl)) (by omega) (by rfl) (by rfl) ?_
      first
        | refine ao0 (em_assign (by rfl) (by rfl)) (by rfl) (by rfl) ?_
        | refine ao0 (em_assignG (by rfl) (by rfl)) (by rfl) (by rfl) ?_
        | refine ao0 (sem_move (.inr (by rfl))) (by rfl) (by rfl) ?_
      refine ao_nil (by first | dsimp only [setO, setE] | rfl) (by first | dsimp only [setM, setE, setR] | rfl) (by rfl) ?_
      refine AW.seq ?_
      refine AW.region ?_
      first
        | refine ao0 (em_assign (by rfl) (by rfl)) (by rfl) (by rfl) ?_
        | refine ao0 (em_assignG (by rfl) (by rfl)) (by rfl) (by rfl) ?_
        | refine ao0 (sem_move (.inr (by rfl))) (by rfl) (by rfl) ?_
      refine ao_nil (by first | dsimp only [setO, setE] | rfl) (by first | dsimp only [setM, setE, setR] | rfl) (by rfl) ?_
      refine AW.seq ?_
      refine AW.region ?_
      first
        | refine ao0 (em_move (by rfl) (by rfl)) (by rfl) (by rfl) ?_
        | refine ao0 (em_moveG (by rfl) (by rfl)) (by rfl) (by rfl) ?_
        | refine ao0 (sem_move (.inl (by rfl))) (by rfl) (by rfl) ?_
      first
        | refine ao0 (em_move (by rfl) (by rfl)) (by rfl) (by rfl) ?_
        | refine ao0 (em_moveG (by rfl) (by rfl)) (by rfl) (by rfl) ?_
        | refine ao0 (sem_move (.inl (by rfl))) (by rfl) (by rfl) ?_
      refine ao_callL [] [] (hsz) (by rfl) (by rfl) (by rfl) (by rfl) (by rfl) (by repeat' (first | exact True.intro | exact .inl ⟨by rfl, by rfl⟩ | exact rfl | exact .inr (.inl ⟨_, _, _, _, by rfl, by rfl⟩) | exact .inr (.inr ⟨_, _, _, _, _, _, by rfl, by rfl, by rfl, by first | exact .head _ | exact .tail _ (.head _) | exact .tail _ (.tail _ (.head _)) | exact .tail _ (.tail _ (.tail _ (.head _)))⟩) | refine And.intro ?_ ?_)) (by repeat' (first | exact True.intro | exact .inl ⟨by rfl, by rfl⟩ | exact rfl | exact .inl rfl | exact .inr (.inl ⟨_, _, _, _, by rfl, by rfl⟩) | exact .inr ⟨rfl, by first | (simp [D.scalar, bD]; done) | assumption⟩ | refine And.intro ?_ ?_)) (by rfl) (by rfl) (by rfl) (by decide) (by rfl) (by rfl) (by omega) (by first | rfl | (simp [keptB, notGone, (by rfl).live]; done) | (cases nb <;> rfl)) (by rfl) (by rfl) (by rfl) (by rfl) (by rfl) (by rfl) (by rfl) ?_
      first
        | refine ao0 (em_assign (by rfl) (by rfl)) (by rfl) (by rfl) ?_
        | refine ao0 (em_assignG (by rfl) (by rfl)) (by rfl) (by rfl) ?_
        | refine ao0 (sem_move (.inr (by rfl))) (by rfl) (by rfl) ?_
      refine ao_nil (by first | dsimp only [setO, setE] | rfl) (by first | dsimp only [setM, setE, setR] | rfl) (by rfl) ?_
      refine AW.seq ?_
      refine AW.seq ?_
      refine AW.region ?_
      first
        | refine ao0 (em_move (by rfl) (by rfl)) (by rfl) (by rfl) ?_
        | refine ao0 (em_moveG (by rfl) (by rfl)) (by rfl) (by rfl) ?_
        | refine ao0 (sem_move (.inl (by rfl))) (by rfl) (by rfl) ?_
      first
        | refine ao0 (em_binI (by rfl) (by rfl) (by rfl) (by rfl) (by first | rfl | trivial | exact ⟨rfl, by decide⟩ | exact ⟨rfl, by omega⟩ | decide | omega)) (by rfl) (by rfl) ?_
        | refine ao0 (sem_binS (by rfl) (by rfl) (by rfl) (by rfl) (by trivial)) (by rfl) (by rfl) ?_
      refine ao_nil (by first | dsimp only [setO, setE] | rfl) (by first | dsimp only [setM, setE, setR] | rfl) (by rfl) ?_
      refine AW.cond (by rfl) (fun hc1 => ?_) (fun hc1 => ?_)
      · skip
        exfalso; simp at hc1 <;> omega
      · skip
        refine AW.skip ?_
        refine AW.seq ?_
        refine AW.region ?_
        refine ao_load tyOk (by rfl) (by rfl) (by rfl) (by rfl) (by rfl) (by rfl) (by rfl) (by first | trivial | exact Nat.le_of_ble_eq_true rfl | decide | (simp; done) | omega) ?_
        refine ao_callL [] [] (hRu) (by rfl) (by rfl) (by rfl) (by rfl) (by rfl) (by repeat' (first | exact True.intro | exact .inl ⟨by rfl, by rfl⟩ | exact rfl | exact .inr (.inl ⟨_, _, _, _, by rfl, by rfl⟩) | exact .inr (.inr ⟨_, _, _, _, _, _, by rfl, by rfl, by rfl, by first | exact .head _ | exact .tail _ (.head _) | exact .tail _ (.tail _ (.head _)) | exact .tail _ (.tail _ (.tail _ (.head _)))⟩) | refine And.intro ?_ ?_)) (by repeat' (first | exact True.intro | exact .inl ⟨by rfl, by rfl⟩ | exact rfl | exact .inl rfl | exact .inr (.inl ⟨_, _, _, _, by rfl, by rfl⟩) | exact .inr ⟨rfl, by first | (simp [D.scalar, bD]; done) | assumption⟩ | refine And.intro ?_ ?_)) (by rfl) (by rfl) (by rfl) (by decide) (by rfl) (by rfl) (by omega) (by first | rfl | (simp [keptB, notGone, (by rfl).live]; done) | (cases nb <;> rfl)) (by rfl) (by rfl) (by rfl) (by rfl) (by rfl) (by rfl) (by rfl) ?_
        first
          | refine ao0 (em_move (by rfl) (by rfl)) (by rfl) (by rfl) ?_
          | refine ao0 (em_moveG (by rfl) (by rfl)) (by rfl) (by rfl) ?_
          | refine ao0 (sem_move (.inl (by rfl))) (by rfl) (by rfl) ?_
        refine ao_callL [] [] (hT) (by rfl) (by rfl) (by rfl) (by rfl) (by rfl) (by repeat' (first | exact True.intro | exact .inl ⟨by rfl, by rfl⟩ | exact rfl | exact .inr (.inl ⟨_, _, _, _, by rfl, by rfl⟩) | exact .inr (.inr ⟨_, _, _, _, _, _, by rfl, by rfl, by rfl, by first | exact .head _ | exact .tail _ (.head _) | exact .tail _ (.tail _ (.head _)) | exact .tail _ (.tail _ (.tail _ (.head _)))⟩) | refine And.intro ?_ ?_)) (by repeat' (first | exact True.intro | exact .inl ⟨by rfl, by rfl⟩ | exact rfl | exact .inl rfl | exact .inr (.inl ⟨_, _, _, _, by rfl, by rfl⟩) | exact .inr ⟨rfl, by first | (simp [D.scalar, bD]; done) | assumption⟩ | refine And.intro ?_ ?_)) (by rfl) (by rfl) (by rfl) (by decide) (by rfl) (by rfl) (by omega) (by first | rfl | (simp [keptB, notGone, (by rfl).live]; done) | (cases nb <;> rfl)) (by rfl) (by rfl) (by rfl) (by rfl) (by rfl) (by rfl) (by rfl) ?_
        refine ao_callL [] [1] (hS) (by rfl) (by rfl) (by rfl) (by rfl) (by rfl) (by repeat' (first | exact True.intro | exact .inl ⟨by rfl, by rfl⟩ | exact rfl | exact .inr (.inl ⟨_, _, _, _, by rfl, by rfl⟩) | exact .inr (.inr ⟨_, _, _, _, _, _, by rfl, by rfl, by rfl, by first | exact .head _ | exact .tail _ (.head _) | exact .tail _ (.tail _ (.head _)) | exact .tail _ (.tail _ (.tail _ (.head _)))⟩) | refine And.intro ?_ ?_)) (by repeat' (first | exact True.intro | exact .inl ⟨by rfl, by rfl⟩ | exact rfl | exact .inl rfl | exact .inr (.inl ⟨_, _, _, _, by rfl, by rfl⟩) | exact .inr ⟨rfl, by first | (simp [D.scalar, bD]; done) | assumption⟩ | refine And.intro ?_ ?_)) (by rfl) (by rfl) (by rfl) (by decide) (by rfl) (by rfl) (by omega) (by first | rfl | (simp [keptB, notGone, (by rfl).live]; done) | (cases nb <;> rfl)) (by rfl) (by rfl) (by rfl) (by rfl) (by rfl) (by rfl) (by rfl) ?_
        first
          | refine ao0 (em_assign (by rfl) (by rfl)) (by rfl) (by rfl) ?_
          | refine ao0 (em_assignG (by rfl) (by rfl)) (by rfl) (by rfl) ?_
          | refine ao0 (sem_move (.inr (by rfl))) (by rfl) (by rfl) ?_
        refine ao_nil (by first | dsimp only [setO, setE] | rfl) (by first | dsimp only [setM, setE, setR] | rfl) (by rfl) ?_
        refine AW.seq ?_
        refine AW.region ?_
        first
          | refine ao0 (em_move (by rfl) (by rfl)) (by rfl) (by rfl) ?_
          | refine ao0 (em_moveG (by rfl) (by rfl)) (by rfl) (by rfl) ?_
          | refine ao0 (sem_move (.inl (by rfl))) (by rfl) (by rfl) ?_
        refine ao_callL [] [] (hT) (by rfl) (by rfl) (by rfl) (by rfl) (by rfl) (by repeat' (first | exact True.intro | exact .inl ⟨by rfl, by rfl⟩ | exact rfl | exact .inr (.inl ⟨_, _, _, _, by rfl, by rfl⟩) | exact .inr (.inr ⟨_, _, _, _, _, _, by rfl, by rfl, by rfl, by first | exact .head _ | exact .tail _ (.head _) | exact .tail _ (.tail _ (.head _)) | exact .tail _ (.tail _ (.tail _ (.head _)))⟩) | refine And.intro ?_ ?_)) (by repeat' (first | exact True.intro | exact .inl ⟨by rfl, by rfl⟩ | exact rfl | exact .inl rfl | exact .inr (.inl ⟨_, _, _, _, by rfl, by rfl⟩) | exact .inr ⟨rfl, by first | (simp [D.scalar, bD]; done) | assumption⟩ | refine And.intro ?_ ?_)) (by rfl) (by rfl) (by rfl) (by decide) (by rfl) (by rfl) (by omega) (by first | rfl | (simp [keptB, notGone, (by rfl).live]; done) | (cases nb <;> rfl)) (by rfl) (by rfl) (by rfl) (by rfl) (by rfl) (by rfl) (by rfl) ?_
        first
          | refine ao0 (em_assign (by rfl) (by rfl)) (by rfl) (by rfl) ?_
          | refine ao0 (em_assignG (by rfl) (by rfl)) (by rfl) (by rfl) ?_
          | refine ao0 (sem_move (.inr (by rfl))) (by rfl) (by rfl) ?_
        refine ao_nil (by first | dsimp only [setO, setE] | rfl) (by first | dsimp only [setM, setE, setR] | rfl) (by rfl) ?_
        refine AW.seq ?_
        refine AW.region ?_
        refine ao_load tyOk (by rfl) (by rfl) (by rfl) (by rfl) (by rfl) (by rfl) (by rfl) (by first | trivial | exact Nat.le_of_ble_eq_true rfl | decide | (simp; done) | omega) ?_
        refine ao_callL [] [] (hRu) (by rfl) (by rfl) (by rfl) (by rfl) (by rfl) (by repeat' (first | exact True.intro | exact .inl ⟨by rfl, by rfl⟩ | exact rfl | exact .inr (.inl ⟨_, _, _, _, by rfl, by rfl⟩) | exact .inr (.inr ⟨_, _, _, _, _, _, by rfl, by rfl, by rfl, by first | exact .head _ | exact .tail _ (.head _) | exact .tail _ (.tail _ (.head _)) | exact .tail _ (.tail _ (.tail _ (.head _)))⟩) | refine And.intro ?_ ?_)) (by repeat' (first | exact True.intro | exact .inl ⟨by rfl, by rfl⟩ | exact rfl | exact .inl rfl | exact .inr (.inl ⟨_, _, _, _, by rfl, by rfl⟩) | exact .inr ⟨rfl, by first | (simp [D.scalar, bD]; done) | assumption⟩ | refine And.intro ?_ ?_)) (by rfl) (by rfl) (by rfl) (by decide) (by rfl) (by rfl) (by omega) (by first | rfl | (simp [keptB, notGone, (by rfl).live]; done) | (cases nb <;> rfl)) (by rfl) (by rfl) (by rfl) (by rfl) (by rfl) (by rfl) (by rfl) ?_
        first
          | refine ao0 (em_move (by rfl) (by rfl)) (by rfl) (by rfl) ?_
          | refine ao0 (em_moveG (by rfl) (by rfl)) (by rfl) (by rfl) ?_
          | refine ao0 (sem_move (.inl (by rfl))) (by rfl) (by rfl) ?_
        refine ao_callL [] [2] (hI) (by rfl) (by rfl) (by rfl) (by rfl) (by rfl) (by repeat' (first | exact True.intro | exact .inl ⟨by rfl, by rfl⟩ | exact rfl | exact .inr (.inl ⟨_, _, _, _, by rfl, by rfl⟩) | exact .inr (.inr ⟨_, _, _, _, _, _, by rfl, by rfl, by rfl, by first | exact .head _ | exact .tail _ (.head _) | exact .tail _ (.tail _ (.head _)) | exact .tail _ (.tail _ (.tail _ (.head _)))⟩) | refine And.intro ?_ ?_)) (by repeat' (first | exact True.intro | exact .inl ⟨by rfl, by rfl⟩ | exact rfl | exact .inl rfl | exact .inr (.inl ⟨_, _, _, _, by rfl, by rfl⟩) | exact .inr ⟨rfl, by first | (simp [D.scalar, bD]; done) | assumption⟩ | refine And.intro ?_ ?_)) (by rfl) (by rfl) (by rfl) (by decide) (by rfl) (by rfl) (by omega) (by first | rfl | (simp [keptB, notGone, (by rfl).live]; done) | (cases nb <;> rfl)) (by rfl) (by rfl) (by rfl) (by rfl) (by rfl) (by rfl) (by rfl) ?_
        first
          | refine ao0 (em_assign (by rfl) (by rfl)) (by rfl) (by rfl) ?_
          | refine ao0 (em_assignG (by rfl) (by rfl)) (by rfl) (by rfl) ?_
          | refine ao0 (sem_move (.inr (by rfl))) (by rfl) (by rfl) ?_
        refine ao_nil (by first | dsimp only [setO, setE] | rfl) (by first | dsimp only [setM, setE, setR] | rfl) (by rfl) ?_
        refine AW.seq ?_
        refine AW.seq ?_
        refine AW.region ?_
        first
          | refine ao0 (em_move (by rfl) (by rfl)) (by rfl) (by rfl) ?_
          | refine ao0 (em_moveG (by rfl) (by rfl)) (by rfl) (by rfl) ?_
          | refine ao0 (sem_move (.inl (by rfl))) (by rfl) (by rfl) ?_
        first
          | refine ao0 (em_move (by rfl) (by rfl)) (by rfl) (by rfl) ?_
          | refine ao0 (em_moveG (by rfl) (by rfl)) (by rfl) (by rfl) ?_
          | refine ao0 (sem_move (.inl (by rfl))) (by rfl) (by rfl) ?_
        refine ao_callL [] [3] (hQ) (by rfl) (by rfl) (by rfl) (by rfl) (by rfl) (by repeat' (first | exact True.intro | exact .inl ⟨by rfl, by rfl⟩ | exact rfl | exact .inr (.inl ⟨_, _, _, _, by rfl, by rfl⟩) | exact .inr (.inr ⟨_, _, _, _, _, _, by rfl, by rfl, by rfl, by first | exact .head _ | exact .tail _ (.head _) | exact .tail _ (.tail _ (.head _)) | exact .tail _ (.tail _ (.tail _ (.head _)))⟩) | refine And.intro ?_ ?_)) (by repeat' (first | exact True.intro | exact .inl ⟨by rfl, by rfl⟩ | exact rfl | exact .inl rfl | exact .inr (.inl ⟨_, _, _, _, by rfl, by rfl⟩) | exact .inr ⟨rfl, by first | (simp [D.scalar, bD]; done) | assumption⟩ | refine And.intro ?_ ?_)) (by rfl) (by rfl) (by rfl) (by decide) (by rfl) (by rfl) (by omega) (by first | rfl | (simp [keptB, notGone, (by rfl).live]; done) | (cases nb <;> rfl)) (by rfl) (by rfl) (by rfl) (by rfl) (by rfl) (by rfl) (by rfl) ?_
        refine ao0 (sem_unOp (by rfl) (by rfl) (by rfl)) (by rfl) (by rfl) ?_
        refine ao_nil (by first | dsimp only [setO, setE] | rfl) (by first | dsimp only [setM, setE, setR] | rfl) (by rfl) ?_
        refine AW.cond (by rfl) (fun hc2 => ?_) (fun hc2 => ?_)
        · skip
          exfalso; simp at hc2 <;> omega
        · skip
          refine AW.skip ?_
          refine AW.seq ?_
          refine AW.seq ?_
          refine AW.region ?_
          first
            | refine ao0 (em_move (by rfl) (by rfl)) (by rfl) (by rfl) ?_
            | refine ao0 (em_moveG (by rfl) (by rfl)) (by rfl) (by rfl) ?_
            | refine ao0 (sem_move (.inl (by rfl))) (by rfl) (by rfl) ?_
          first
            | refine ao0 (em_move (by rfl) (by rfl)) (by rfl) (by rfl) ?_
            | refine ao0 (em_moveG (by rfl) (by rfl)) (by rfl) (by rfl) ?_
            | refine ao0 (sem_move (.inl (by rfl))) (by rfl) (by rfl) ?_
          refine ao_callL [] [] (hT) (by rfl) (by rfl) (by rfl) (by rfl) (by rfl) (by repeat' (first | exact True.intro | exact .inl ⟨by rfl, by rfl⟩ | exact rfl | exact .inr (.inl ⟨_, _, _, _, by rfl, by rfl⟩) | exact .inr (.inr ⟨_, _, _, _, _, _, by rfl, by rfl, by rfl, by first | exact .head _ | exact .tail _ (.head _) | exact .tail _ (.tail _ (.head _)) | exact .tail _ (.tail _ (.tail _ (.head _)))⟩) | refine And.intro ?_ ?_)) (by repeat' (first | exact True.intro | exact .inl ⟨by rfl, by rfl⟩ | exact rfl | exact .inl rfl | exact .inr (.inl ⟨_, _, _, _, by rfl, by rfl⟩) | exact .inr ⟨rfl, by first | (simp [D.scalar, bD]; done) | assumption⟩ | refine And.intro ?_ ?_)) (by rfl) (by rfl) (by rfl) (by decide) (by rfl) (by rfl) (by omega) (by first | rfl | (simp [keptB, notGone, (by rfl).live]; done) | (cases nb <;> rfl)) (by rfl) (by rfl) (by rfl) (by rfl) (by rfl) (by rfl) (by rfl) ?_
          refine ao_callL [] [2, 4] (hE) (by rfl) (by rfl) (by rfl) (by rfl) (by rfl) (by repeat' (first | exact True.intro | exact .inl ⟨by rfl, by rfl⟩ | exact rfl | exact .inr (.inl ⟨_, _, _, _, by rfl, by rfl⟩) | exact .inr (.inr ⟨_, _, _, _, _, _, by rfl, by rfl, by rfl, by first | exact .head _ | exact .tail _ (.head _) | exact .tail _ (.tail _ (.head _)) | exact .tail _ (.tail _ (.tail _ (.head _)))⟩) | refine And.intro ?_ ?_)) (by repeat' (first | exact True.intro | exact .inl ⟨by rfl, by rfl⟩ | exact rfl | exact .inl rfl | exact .inr (.inl ⟨_, _, _, _, by rfl, by rfl⟩) | exact .inr ⟨rfl, by first | (simp [D.scalar, bD]; done) | assumption⟩ | refine And.intro ?_ ?_)) (by rfl) (by rfl) (by rfl) (by decide) (by rfl) (by rfl) (by omega) (by first | rfl | (simp [keptB, notGone, (by rfl).live]; done) | (cases nb <;> rfl)) (by rfl) (by rfl) (by rfl) (by rfl) (by rfl) (by rfl) (by rfl) ?_
          refine ao0 (sem_unOp (by rfl) (by rfl) (by rfl)) (by rfl) (by rfl) ?_
          refine ao_nil (by first | dsimp only [setO, setE] | rfl) (by first | dsimp only [setM, setE, setR] | rfl) (by rfl) ?_
          refine AW.cond (by rfl) (fun hc3 => ?_) (fun hc3 => ?_)
          · skip
            exfalso; simp at hc3 <;> omega
          · skip
            refine AW.skip ?_
            refine AW.seq ?_
            refine AW.region ?_
            first
              | refine ao0 (em_assign (by rfl) (by rfl)) (by rfl) (by rfl) ?_
              | refine ao0 (em_assignG (by rfl) (by rfl)) (by rfl) (by rfl) ?_
              | refine ao0 (sem_move (.inr (by rfl))) (by rfl) (by rfl) ?_
            refine ao_nil (by first | dsimp only [setO, setE] | rfl) (by first | dsimp only [setM, setE, setR] | rfl) (by rfl) ?_
            refine AW.seq ?_
            refine AW.region ?_
            first
              | refine ao0 (em_move (by rfl) (by rfl)) (by rfl) (by rfl) ?_
              | refine ao0 (em_moveG (by rfl) (by rfl)) (by rfl) (by rfl) ?_
              | refine ao0 (sem_move (.inl (by rfl))) (by rfl) (by rfl) ?_
            first
              | refine ao0 (em_move (by rfl) (by rfl)) (by rfl) (by rfl) ?_
              | refine ao0 (em_moveG (by rfl) (by rfl)) (by rfl) (by rfl) ?_
              | refine ao0 (sem_move (.inl (by rfl))) (by rfl) (by rfl) ?_
            refine ao_callL [2] [] (hMR) (by rfl) (by rfl) (by rfl) (by rfl) (by rfl) (by repeat' (first | exact True.intro | exact .inl ⟨by rfl, by rfl⟩ | exact rfl | exact .inr (.inl ⟨_, _, _, _, by rfl, by rfl⟩) | exact .inr (.inr ⟨_, _, _, _, _, _, by rfl, by rfl, by rfl, by first | exact .head _ | exact .tail _ (.head _) | exact .tail _ (.tail _ (.head _)) | exact .tail _ (.tail _ (.tail _ (.head _)))⟩) | refine And.intro ?_ ?_)) (by repeat' (first | exact True.intro | exact .inl ⟨by rfl, by rfl⟩ | exact rfl | exact .inl rfl | exact .inr (.inl ⟨_, _, _, _, by rfl, by rfl⟩) | exact .inr ⟨rfl, by first | (simp [D.scalar, bD]; done) | assumption⟩ | refine And.intro ?_ ?_)) (by rfl) (by rfl) (by rfl) (by decide) (by rfl) (by rfl) (by omega) (by first | rfl | (simp [keptB, notGone, (by rfl).live]; done) | (cases nb <;> rfl)) (by rfl) (by rfl) (by rfl) (by rfl) (by rfl) (by rfl) (by rfl) ?_
            first
              | refine ao0 (em_assign (by rfl) (by rfl)) (by rfl) (by rfl) ?_
              | refine ao0 (em_assignG (by rfl) (by rfl)) (by rfl) (by rfl) ?_
              | refine ao0 (sem_move (.inr (by rfl))) (by rfl) (by rfl) ?_
            refine ao_nil (by first | dsimp only [setO, setE] | rfl) (by first | dsimp only [setM, setE, setR] | rfl) (by rfl) ?_
            refine AW.seq ?_
            refine AW.seq ?_
            refine AW.region ?_
            first
              | refine ao0 (em_move (by rfl) (by rfl)) (by rfl) (by rfl) ?_
              | refine ao0 (em_moveG (by rfl) (by rfl)) (by rfl) (by rfl) ?_
              | refine ao0 (sem_move (.inl (by rfl))) (by rfl) (by rfl) ?_
            first
              | refine ao0 (em_binI (by rfl) (by rfl) (by rfl) (by rfl) (by first | rfl | trivial | exact ⟨rfl, by decide⟩ | exact ⟨rfl, by omega⟩ | decide | omega)) (by rfl) (by rfl) ?_
              | refine ao0 (sem_binS (by rfl) (by rfl) (by rfl) (by rfl) (by trivial)) (by rfl) (by rfl) ?_
            first
              | refine ao0 (em_move (by rfl) (by rfl)) (by rfl) (by rfl) ?_
              | refine ao0 (em_moveG (by rfl) (by rfl)) (by rfl) (by rfl) ?_
              | refine ao0 (sem_move (.inl (by rfl))) (by rfl) (by rfl) ?_
            first
              | refine ao_skip (by rfl) (by rfl) ?_
              | refine ao0 (em_move (by rfl) (by rfl)) (by rfl) (by rfl) ?_
              | refine ao0 (em_moveG (by rfl) (by rfl)) (by rfl) (by rfl) ?_
              | refine ao0 (sem_move (.inl (by rfl))) (by rfl) (by rfl) ?_
              | refine ao_opt (by rfl) (by rfl) (fun he => astep0 (em_move (by rfl) (by rfl))) ?_
              | refine ao_opt (by rfl) (by rfl) (fun he => astep0 (em_moveG (by rfl) (by rfl))) ?_
              | refine ao_opt (by rfl) (by rfl) (fun he => by rw [he]; exact astep0 (em_move (by rfl) (by rfl))) ?_
              | refine ao_opt (by rfl) (by rfl) (fun he => by rw [he]; exact astep0 (em_moveG (by rfl) (by rfl))) ?_
              | refine ao_opt (by rfl) (by rfl) (fun he => astep0 (sem_move (.inl (by rfl)))) ?_
              | refine ao_opt (by rfl) (by rfl) (fun he => by rw [he]; exact astep0 (sem_move (.inl (by rfl)))) ?_
            first
              | refine ao_skip (by rfl) (by rfl) ?_
              | refine ao0 (em_move (by rfl) (by rfl)) (by rfl) (by rfl) ?_
              | refine ao0 (em_moveG (by rfl) (by rfl)) (by rfl) (by rfl) ?_
              | refine ao0 (sem_move (.inl (by rfl))) (by rfl) (by rfl) ?_
              | refine ao_opt (by rfl) (by rfl) (fun he => astep0 (em_move (by rfl) (by rfl))) ?_
              | refine ao_opt (by rfl) (by rfl) (fun he => astep0 (em_moveG (by rfl) (by rfl))) ?_
              | refine ao_opt (by rfl) (by rfl) (fun he => by rw [he]; exact astep0 (em_move (by rfl) (by rfl))) ?_
              | refine ao_opt (by rfl) (by rfl) (fun he => by rw [he]; exact astep0 (em_moveG (by rfl) (by rfl))) ?_
              | refine ao_opt (by rfl) (by rfl) (fun he => astep0 (sem_move (.inl (by rfl)))) ?_
              | refine ao_opt (by rfl) (by rfl) (fun he => by rw [he]; exact astep0 (sem_move (.inl (by rfl)))) ?_
            first
              | refine ao_skip (by rfl) (by rfl) ?_
              | refine ao_callL [] [3] (hQ) (by rfl) (by rfl) (by rfl) (by rfl) (by rfl) (by repeat' (first | exact True.intro | exact .inl ⟨by rfl, by rfl⟩ | exact rfl | exact .inr (.inl ⟨_, _, _, _, by rfl, by rfl⟩) | exact .inr (.inr ⟨_, _, _, _, _, _, by rfl, by rfl, by rfl, by first | exact .head _ | exact .tail _ (.head _) | exact .tail _ (.tail _ (.head _)) | exact .tail _ (.tail _ (.tail _ (.head _)))⟩) | refine And.intro ?_ ?_)) (by repeat' (first | exact True.intro | exact .inl ⟨by rfl, by rfl⟩ | exact rfl | exact .inl rfl | exact .inr (.inl ⟨_, _, _, _, by rfl, by rfl⟩) | exact .inr ⟨rfl, by first | (simp [D.scalar, bD]; done) | assumption⟩ | refine And.intro ?_ ?_)) (by rfl) (by rfl) (by rfl) (by decide) (by rfl) (by rfl) (by omega) (by first | rfl | (simp [keptB, notGone, (by rfl).live]; done) | (cases nb <;> rfl)) (by rfl) (by rfl) (by rfl) (by rfl) (by rfl) (by rfl) (by rfl) ?_
              | refine ao_opt (by rfl) (by rfl) (fun he => by rw [he]; exact astep_callL [] [3] (hQ) (by rfl) (by rfl) (by rfl) (by repeat' (first | exact True.intro | exact .inl ⟨by rfl, by rfl⟩ | exact rfl | exact .inr (.inl ⟨_, _, _, _, by rfl, by rfl⟩) | exact .inr (.inr ⟨_, _, _, _, _, _, by rfl, by rfl, by rfl, by first | exact .head _ | exact .tail _ (.head _) | exact .tail _ (.tail _ (.head _)) | exact .tail _ (.tail _ (.tail _ (.head _)))⟩) | refine And.intro ?_ ?_)) (by repeat' (first | exact True.intro | exact .inl ⟨by rfl, by rfl⟩ | exact rfl | exact .inl rfl | exact .inr (.inl ⟨_, _, _, _, by rfl, by rfl⟩) | exact .inr ⟨rfl, by first | (simp [D.scalar, bD]; done) | assumption⟩ | refine And.intro ?_ ?_)) (by rfl) (by rfl) (by rfl) (by decide) (by rfl) (by rfl) (by omega) (by first | rfl | (simp [keptB, notGone, (by rfl).live]; done) | (cases nb <;> rfl)) (by rfl) (by rfl) (by rfl) (by rfl) (by rfl) (by rfl) (by rfl)) ?_
              | refine ao_opt (by rfl) (by rfl) (fun he => astep_callL [] [3] (hQ) (by rfl) (by rfl) (by rfl) (by repeat' (first | exact True.intro | exact .inl ⟨by rfl, by rfl⟩ | exact rfl | exact .inr (.inl ⟨_, _, _, _, by rfl, by rfl⟩) | exact .inr (.inr ⟨_, _, _, _, _, _, by rfl, by rfl, by rfl, by first | exact .head _ | exact .tail _ (.head _) | exact .tail _ (.tail _ (.head _)) | exact .tail _ (.tail _ (.tail _ (.head _)))⟩) | refine And.intro ?_ ?_)) (by repeat' (first | exact True.intro | exact .inl ⟨by rfl, by rfl⟩ | exact rfl | exact .inl rfl | exact .inr (.inl ⟨_, _, _, _, by rfl, by rfl⟩) | exact .inr ⟨rfl, by first | (simp [D.scalar, bD]; done) | assumption⟩ | refine And.intro ?_ ?_)) (by rfl) (by rfl) (by rfl) (by decide) (by rfl) (by rfl) (by omega) (by first | rfl | (simp [keptB, notGone, (by rfl).live]; done) | (cases nb <;> rfl)) (by rfl) (by rfl) (by rfl) (by rfl) (by rfl) (by rfl) (by rfl)) ?_
            first
              | refine ao_skip (by rfl) (by rfl) ?_
              | refine ao0 (sem_unOp (by rfl) (by rfl) (by rfl)) (by rfl) (by rfl) ?_
              | refine ao_opt (by rfl) (by rfl) (fun he => astep0 (sem_unOp (by rfl) (by rfl) (by rfl))) ?_
              | refine ao_opt (by rfl) (by rfl) (fun he => by rw [he]; exact astep0 (sem_unOp (by rfl) (by rfl) (by rfl))) ?_
            first
              | refine ao0 (sem_pickg (by rfl) (by rfl) (by rfl) (by rfl) (by intro hh; first | rfl | exact hh | (exact Bool.noConfusion hh) | (simp [wexp]; done) | (simp [wexp] at hh; done) | (simpa [wexp] using hh) | (simp_all; done)) (by intro hh; first | rfl | exact hh | (exact Bool.noConfusion hh) | (simp [wexp]; done) | (simp [wexp] at hh; done) | (simpa [wexp] using hh) | (simp_all; done))) (by rfl) (by rfl) ?_
              | refine ao0 (sem_pick (by rfl) (by rfl)) (by rfl) (by rfl) ?_
            refine ao_nil (by first | dsimp only [setO, setE] | rfl) (by first | dsimp only [setM, setE, setR] | rfl) (by rfl) ?_
            refine AW.cond (by rfl) (fun hc4 => ?_) (fun hc4 => ?_)
            · skip
              exfalso; simp at hc4 <;> omega
            · skip
              refine AW.skip ?_
              refine AW.seq ?_
              refine AW.region ?_
              first
                | refine ao0 (em_assign (by rfl) (by rfl)) (by rfl) (by rfl) ?_
                | refine ao0 (em_assignG (by rfl) (by rfl)) (by rfl) (by rfl) ?_
                | refine ao0 (sem_move (.inr (by rfl))) (by rfl) (by rfl) ?_
              refine ao_nil (by first | dsimp only [setO, setE] | rfl) (by first | dsimp only [setM, setE, setR] | rfl) (by rfl) ?_
              refine AW.seq ?_
              refine AW.region ?_
              first
                | refine ao0 (em_move (by rfl) (by rfl)) (by rfl) (by rfl) ?_
                | refine ao0 (em_moveG (by rfl) (by rfl)) (by rfl) (by rfl) ?_
                | refine ao0 (sem_move (.inl (by rfl))) (by rfl) (by rfl) ?_
              first
                | refine ao0 (em_move (by rfl) (by rfl)) (by rfl) (by rfl) ?_
                | refine ao0 (em_moveG (by rfl) (by rfl)) (by rfl) (by rfl) ?_
                | refine ao0 (sem_move (.inl (by rfl))) (by rfl) (by rfl) ?_
              refine ao_callL [3] [] (hM) (by rfl) (by rfl) (by rfl) (by rfl) (by rfl) (by repeat' (first | exact True.intro | exact .inl ⟨by rfl, by rfl⟩ | exact rfl | exact .inr (.inl ⟨_, _, _, _, by rfl, by rfl⟩) | exact .inr (.inr ⟨_, _, _, _, _, _, by rfl, by rfl, by rfl, by first | exact .head _ | exact .tail _ (.head _) | exact .tail _ (.tail _ (.head _)) | exact .tail _ (.tail _ (.tail _ (.head _)))⟩) | refine And.intro ?_ ?_)) (by repeat' (first | exact True.intro | exact .inl ⟨by rfl, by rfl⟩ | exact rfl | exact .inl rfl | exact .inr (.inl ⟨_, _, _, _, by rfl, by rfl⟩) | exact .inr ⟨rfl, by first | (simp [D.scalar, bD]; done) | assumption⟩ | refine And.intro ?_ ?_)) (by rfl) (by rfl) (by rfl) (by decide) (by rfl) (by rfl) (by omega) (by first | rfl | (simp [keptB, notGone, (by rfl).live]; done) | (cases nb <;> rfl)) (by rfl) (by rfl) (by rfl) (by rfl) (by rfl) (by rfl) (by rfl) ?_
              first
                | refine ao0 (em_assign (by rfl) (by rfl)) (by rfl) (by rfl) ?_
                | refine ao0 (em_assignG (by rfl) (by rfl)) (by rfl) (by rfl) ?_
                | refine ao0 (sem_move (.inr (by rfl))) (by rfl) (by rfl) ?_
              refine ao_nil (by first | dsimp only [setO, setE] | rfl) (by first | dsimp only [setM, setE, setR] | rfl) (by rfl) ?_
              refine AW.seq ?_
              refine AW.region ?_
              first
                | refine ao0 (em_assign (by rfl) (by rfl)) (by rfl) (by rfl) ?_
                | refine ao0 (em_assignG (by rfl) (by rfl)) (by rfl) (by rfl) ?_
                | refine ao0 (sem_move (.inr (by rfl))) (by rfl) (by rfl) ?_
              refine ao_nil (by first | dsimp only [setO, setE] | rfl) (by first | dsimp only [setM, setE, setR] | rfl) (by rfl) ?_
              refine AW.seq ?_
              refine AW.region ?_
              first
                | refine ao0 (em_move (by rfl) (by rfl)) (by rfl) (by rfl) ?_
                | refine ao0 (em_moveG (by rfl) (by rfl)) (by rfl) (by rfl) ?_
                | refine ao0 (sem_move (.inl (by rfl))) (by rfl) (by rfl) ?_
              first
                | refine ao0 (em_move (by rfl) (by rfl)) (by rfl) (by rfl) ?_
                | refine ao0 (em_moveG (by rfl) (by rfl)) (by rfl) (by rfl) ?_
                | refine ao0 (sem_move (.inl (by rfl))) (by rfl) (by rfl) ?_
              refine ao_callL [] [3] (hH) (by rfl) (by rfl) (by rfl) (by rfl) (by rfl) (by repeat' (first | exact True.intro | exact .inl ⟨by rfl, by rfl⟩ | exact rfl | exact .inr (.inl ⟨_, _, _, _, by rfl, by rfl⟩) | exact .inr (.inr ⟨_, _, _, _, _, _, by rfl, by rfl, by rfl, by first | exact .head _ | exact .tail _ (.head _) | exact .tail _ (.tail _ (.head _)) | exact .tail _ (.tail _ (.tail _ (.head _)))⟩) | refine And.intro ?_ ?_)) (by repeat' (first | exact True.intro | exact .inl ⟨by rfl, by rfl⟩ | exact rfl | exact .inl rfl | exact .inr (.inl ⟨_, _, _, _, by rfl, by rfl⟩) | exact .inr ⟨rfl, by first | (simp [D.scalar, bD]; done) | assumption⟩ | refine And.intro ?_ ?_)) (by rfl) (by rfl) (by rfl) (by decide) (by rfl) (by rfl) (by omega) (by first | rfl | (simp [keptB, notGone, (by rfl).live]; done) | (cases nb <;> rfl)) (by rfl) (by rfl) (by rfl) (by rfl) (by rfl) (by rfl) (by rfl) ?_
              first
                | refine ao0 (em_assign (by rfl) (by rfl)) (by rfl) (by rfl) ?_
                | refine ao0 (em_assignG (by rfl) (by rfl)) (by rfl) (by rfl) ?_
                | refine ao0 (sem_move (.inr (by rfl))) (by rfl) (by rfl) ?_
              refine ao_nil (by first | dsimp only [setO, setE] | rfl) (by first | dsimp only [setM, setE, setR] | rfl) (by rfl) ?_
              refine AW.seq ?_
              refine AW.seq ?_
              refine AW.region ?_
              first
                | refine ao0 (em_move (by rfl) (by rfl)) (by rfl) (by rfl) ?_
                | refine ao0 (em_moveG (by rfl) (by rfl)) (by rfl) (by rfl) ?_
                | refine ao0 (sem_move (.inl (by rfl))) (by rfl) (by rfl) ?_
              first
                | refine ao0 (em_binI (by rfl) (by rfl) (by rfl) (by rfl) (by first | rfl | trivial | exact ⟨rfl, by decide⟩ | exact ⟨rfl, by omega⟩ | decide | omega)) (by rfl) (by rfl) ?_
                | refine ao0 (sem_binS (by rfl) (by rfl) (by rfl) (by rfl) (by trivial)) (by rfl) (by rfl) ?_
              refine ao_nil (by first | dsimp only [setO, setE] | rfl) (by first | dsimp only [setM, setE, setR] | rfl) (by rfl) ?_
              refine AW.cond (by rfl) (fun hc5 => ?_) (fun hc5 => ?_)
              · skip
                exfalso; simp at hc5 <;> omega
              · skip
                refine AW.skip ?_
                refine AW.seq ?_
                refine AW.seq ?_
                refine AW.region ?_
                first
                  | refine ao0 (em_move (by rfl) (by rfl)) (by rfl) (by rfl) ?_
                  | refine ao0 (em_moveG (by rfl) (by rfl)) (by rfl) (by rfl) ?_
                  | refine ao0 (sem_move (.inl (by rfl))) (by rfl) (by rfl) ?_
                first
                  | refine ao0 (em_move (by rfl) (by rfl)) (by rfl) (by rfl) ?_
                  | refine ao0 (em_moveG (by rfl) (by rfl)) (by rfl) (by rfl) ?_
                  | refine ao0 (sem_move (.inl (by rfl))) (by rfl) (by rfl) ?_
                first
                  | refine ao0 (em_binI (by rfl) (by rfl) (by rfl) (by rfl) (by first | rfl | trivial | exact ⟨rfl, by decide⟩ | exact ⟨rfl, by omega⟩ | decide | omega)) (by rfl) (by rfl) ?_
                  | refine ao0 (sem_binB tyOk (by rfl) (by rfl) (by rfl) (by rfl) (by rfl) (by rfl)) (by rfl) (by rfl) ?_
                  | refine ao0 (sem_nilS tyOk (by rfl) (by rfl) (by rfl) (by rfl) (by rfl) (by first | exact .inl ⟨rfl, rfl⟩ | exact .inr ⟨rfl, rfl⟩)) (by rfl) (by rfl) ?_
                  | refine ao0 (sem_binS (by rfl) (by rfl) (by rfl) (by rfl) (by trivial)) (by rfl) (by rfl) ?_
                refine ao_nil (by first | dsimp only [setO, setE] | rfl) (by first | dsimp only [setM, setE, setR] | rfl) (by rfl) ?_
                refine AW.cond (by rfl) (fun hc6 => ?_) (fun hc6 => ?_)
                · skip
                  exfalso; simp at hc6 <;> omega
                · skip
                  refine AW.skip ?_
                  refine AW.seq ?_
                  refine AW.region ?_
                  refine ao_load tyOk (by rfl) (by rfl) (by rfl) (by rfl) (by rfl) (by rfl) (by rfl) (by first | trivial | exact Nat.le_of_ble_eq_true rfl | decide | (simp; done) | omega) ?_
                  refine ao_callL [] [] (hRu) (by rfl) (by rfl) (by rfl) (by rfl) (by rfl) (by repeat' (first | exact True.intro | exact .inl ⟨by rfl, by rfl⟩ | exact rfl | exact .inr (.inl ⟨_, _, _, _, by rfl, by rfl⟩) | exact .inr (.inr ⟨_, _, _, _, _, _, by rfl, by rfl, by rfl, by first | exact .head _ | exact .tail _ (.head _) | exact .tail _ (.tail _ (.head _)) | exact .tail _ (.tail _ (.tail _ (.head _)))⟩) | refine And.intro ?_ ?_)) (by repeat' (first | exact True.intro | exact .inl ⟨by rfl, by rfl⟩ | exact rfl | exact .inl rfl | exact .inr (.inl ⟨_, _, _, _, by rfl, by rfl⟩) | exact .inr ⟨rfl, by first | (simp [D.scalar, bD]; done) | assumption⟩ | refine And.intro ?_ ?_)) (by rfl) (by rfl) (by rfl) (by decide) (by rfl) (by rfl) (by omega) (by first | rfl | (simp [keptB, notGone, (by rfl).live]; done) | (cases nb <;> rfl)) (by rfl) (by rfl) (by rfl) (by rfl) (by rfl) (by rfl) (by rfl) ?_
                  first
                    | refine ao0 (em_move (by rfl) (by rfl)) (by rfl) (by rfl) ?_
                    | refine ao0 (em_moveG (by rfl) (by rfl)) (by rfl) (by rfl) ?_
                    | refine ao0 (sem_move (.inl (by rfl))) (by rfl) (by rfl) ?_
                  refine ao_callL [] [] (hT) (by rfl) (by rfl) (by rfl) (by rfl) (by rfl) (by repeat' (first | exact True.intro | exact .inl ⟨by rfl, by rfl⟩ | exact rfl | exact .inr (.inl ⟨_, _, _, _, by rfl, by rfl⟩) | exact .inr (.inr ⟨_, _, _, _, _, _, by rfl, by rfl, by rfl, by first | exact .head _ | exact .tail _ (.head _) | exact .tail _ (.tail _ (.head _)) | exact .tail _ (.tail _ (.tail _ (.head _)))⟩) | refine And.intro ?_ ?_)) (by repeat' (first | exact True.intro | exact .inl ⟨by rfl, by rfl⟩ | exact rfl | exact .inl rfl | exact .inr (.inl ⟨_, _, _, _, by rfl, by rfl⟩) | exact .inr ⟨rfl, by first | (simp [D.scalar, bD]; done) | assumption⟩ | refine And.intro ?_ ?_)) (by rfl) (by rfl) (by rfl) (by decide) (by rfl) (by rfl) (by omega) (by first | rfl | (simp [keptB, notGone, (by rfl).live]; done) | (cases nb <;> rfl)) (by rfl) (by rfl) (by rfl) (by rfl) (by rfl) (by rfl) (by rfl) ?_
                  refine ao_callL [] [5] (hI) (by rfl) (by rfl) (by rfl) (by rfl) (by rfl) (by repeat' (first | exact True.intro | exact .inl ⟨by rfl, by rfl⟩ | exact rfl | exact .inr (.inl ⟨_, _, _, _, by rfl, by rfl⟩) | exact .inr (.inr ⟨_, _, _, _, _, _, by rfl, by rfl, by rfl, by first | exact .head _ | exact .tail _ (.head _) | exact .tail _ (.tail _ (.head _)) | exact .tail _ (.tail _ (.tail _ (.head _)))⟩) | refine And.intro ?_ ?_)) (by repeat' (first | exact True.intro | exact .inl ⟨by rfl, by rfl⟩ | exact rfl | exact .inl rfl | exact .inr (.inl ⟨_, _, _, _, by rfl, by rfl⟩) | exact .inr ⟨rfl, by first | (simp [D.scalar, bD]; done) | assumption⟩ | refine And.intro ?_ ?_)) (by rfl) (by rfl) (by rfl) (by decide) (by rfl) (by rfl) (by omega) (by first | rfl | (simp [keptB, notGone, (by rfl).live]; done) | (cases nb <;> rfl)) (by rfl) (by rfl) (by rfl) (by rfl) (by rfl) (by rfl) (by rfl) ?_
                  first
                    | refine ao0 (em_assign (by rfl) (by rfl)) (by rfl) (by rfl) ?_
                    | refine ao0 (em_assignG (by rfl) (by rfl)) (by rfl) (by rfl) ?_
                    | refine ao0 (sem_move (.inr (by rfl))) (by rfl) (by rfl) ?_
                  refine ao_nil (by first | dsimp only [setO, setE] | rfl) (by first | dsimp only [setM, setE, setR] | rfl) (by rfl) ?_
                  refine AW.seq ?_
                  refine AW.seq ?_
                  refine AW.region ?_
                  first
                    | refine ao0 (em_move (by rfl) (by rfl)) (by rfl) (by rfl) ?_
                    | refine ao0 (em_moveG (by rfl) (by rfl)) (by rfl) (by rfl) ?_
                    | refine ao0 (sem_move (.inl (by rfl))) (by rfl) (by rfl) ?_
                  first
                    | refine ao0 (em_move (by rfl) (by rfl)) (by rfl) (by rfl) ?_
                    | refine ao0 (em_moveG (by rfl) (by rfl)) (by rfl) (by rfl) ?_
                    | refine ao0 (sem_move (.inl (by rfl))) (by rfl) (by rfl) ?_
                  refine ao_callL [] [6] (hQ) (by rfl) (by rfl) (by rfl) (by rfl) (by rfl) (by repeat' (first | exact True.intro | exact .inl ⟨by rfl, by rfl⟩ | exact rfl | exact .inr (.inl ⟨_, _, _, _, by rfl, by rfl⟩) | exact .inr (.inr ⟨_, _, _, _, _, _, by rfl, by rfl, by rfl, by first | exact .head _ | exact .tail _ (.head _) | exact .tail _ (.tail _ (.head _)) | exact .tail _ (.tail _ (.tail _ (.head _)))⟩) | refine And.intro ?_ ?_)) (by repeat' (first | exact True.intro | exact .inl ⟨by rfl, by rfl⟩ | exact rfl | exact .inl rfl | exact .inr (.inl ⟨_, _, _, _, by rfl, by rfl⟩) | exact .inr ⟨rfl, by first | (simp [D.scalar, bD]; done) | assumption⟩ | refine And.intro ?_ ?_)) (by rfl) (by rfl) (by rfl) (by decide) (by rfl) (by rfl) (by omega) (by first | rfl | (simp [keptB, notGone, (by rfl).live]; done) | (cases nb <;> rfl)) (by rfl) (by rfl) (by rfl) (by rfl) (by rfl) (by rfl) (by rfl) ?_
                  refine ao0 (sem_unOp (by rfl) (by rfl) (by rfl)) (by rfl) (by rfl) ?_
                  refine ao_nil (by first | dsimp only [setO, setE] | rfl) (by first | dsimp only [setM, setE, setR] | rfl) (by rfl) ?_
                  refine AW.cond (by rfl) (fun hc7 => ?_) (fun hc7 => ?_)
                  · skip
                    exfalso; simp at hc7 <;> omega
                  · skip
                    refine AW.skip ?_
                    refine AW.seq ?_
                    refine AW.region ?_
                    first
                      | refine ao0 (em_assign (by rfl) (by rfl)) (by rfl) (by rfl) ?_
                      | refine ao0 (em_assignG (by rfl) (by rfl)) (by rfl) (by rfl) ?_
                      | refine ao0 (sem_move (.inr (by rfl))) (by rfl) (by rfl) ?_
                    refine ao_nil (by first | dsimp only [setO, setE] | rfl) (by first | dsimp only [setM, setE, setR] | rfl) (by rfl) ?_
                    refine AW.seq ?_
                    refine AW.region ?_
                    first
                      | refine ao0 (em_move (by rfl) (by rfl)) (by rfl) (by rfl) ?_
                      | refine ao0 (em_moveG (by rfl) (by rfl)) (by rfl) (by rfl) ?_
                      | refine ao0 (sem_move (.inl (by rfl))) (by rfl) (by rfl) ?_
                    first
                      | refine ao0 (em_move (by rfl) (by rfl)) (by rfl) (by rfl) ?_
                      | refine ao0 (em_moveG (by rfl) (by rfl)) (by rfl) (by rfl) ?_
                      | refine ao0 (sem_move (.inl (by rfl))) (by rfl) (by rfl) ?_
                    refine ao_callL [] [3] (hH) (by rfl) (by rfl) (by rfl) (by rfl) (by rfl) (by repeat' (first | exact True.intro | exact .inl ⟨by rfl, by rfl⟩ | exact rfl | exact .inr (.inl ⟨_, _, _, _, by rfl, by rfl⟩) | exact .inr (.inr ⟨_, _, _, _, _, _, by rfl, by rfl, by rfl, by first | exact .head _ | exact .tail _ (.head _) | exact .tail _ (.tail _ (.head _)) | exact .tail _ (.tail _ (.tail _ (.head _)))⟩) | refine And.intro ?_ ?_)) (by repeat' (first | exact True.intro | exact .inl ⟨by rfl, by rfl⟩ | exact rfl | exact .inl rfl | exact .inr (.inl ⟨_, _, _, _, by rfl, by rfl⟩) | exact .inr ⟨rfl, by first | (simp [D.scalar, bD]; done) | assumption⟩ | refine And.intro ?_ ?_)) (by rfl) (by rfl) (by rfl) (by decide) (by rfl) (by rfl) (by omega) (by first | rfl | (simp [keptB, notGone, (by rfl).live]; done) | (cases nb <;> rfl)) (by rfl) (by rfl) (by rfl) (by rfl) (by rfl) (by rfl) (by rfl) ?_
                    first
                      | refine ao0 (em_assign (by rfl) (by rfl)) (by rfl) (by rfl) ?_
                      | refine ao0 (em_assignG (by rfl) (by rfl)) (by rfl) (by rfl) ?_
                      | refine ao0 (sem_move (.inr (by rfl))) (by rfl) (by rfl) ?_
                    refine ao_nil (by first | dsimp only [setO, setE] | rfl) (by first | dsimp only [setM, setE, setR] | rfl) (by rfl) ?_
                    refine AW.seq ?_
                    refine AW.seq ?_
                    refine AW.region ?_
                    first
                      | refine ao0 (em_move (by rfl) (by rfl)) (by rfl) (by rfl) ?_
                      | refine ao0 (em_moveG (by rfl) (by rfl)) (by rfl) (by rfl) ?_
                      | refine ao0 (sem_move (.inl (by rfl))) (by rfl) (by rfl) ?_
                    first
                      | refine ao0 (em_binI (by rfl) (by rfl) (by rfl) (by rfl) (by first | rfl | trivial | exact ⟨rfl, by decide⟩ | exact ⟨rfl, by omega⟩ | decide | omega)) (by rfl) (by rfl) ?_
                      | refine ao0 (sem_binS (by rfl) (by rfl) (by rfl) (by rfl) (by trivial)) (by rfl) (by rfl) ?_
                    refine ao_nil (by first | dsimp only [setO, setE] | rfl) (by first | dsimp only [setM, setE, setR] | rfl) (by rfl) ?_
                    refine AW.cond (by rfl) (fun hc8 => ?_) (fun hc8 => ?_)
                    · skip
                      exfalso; simp at hc8 <;> omega
                    · skip
                      refine AW.skip ?_
                      refine AW.seq ?_
                      refine AW.seq ?_
                      refine AW.region ?_
                      first
                        | refine ao0 (em_move (by rfl) (by rfl)) (by rfl) (by rfl) ?_
                        | refine ao0 (em_moveG (by rfl) (by rfl)) (by rfl) (by rfl) ?_
                        | refine ao0 (sem_move (.inl (by rfl))) (by rfl) (by rfl) ?_
                      first
                        | refine ao0 (em_move (by rfl) (by rfl)) (by rfl) (by rfl) ?_
                        | refine ao0 (em_moveG (by rfl) (by rfl)) (by rfl) (by rfl) ?_
                        | refine ao0 (sem_move (.inl (by rfl))) (by rfl) (by rfl) ?_
                      first
                        | refine ao0 (em_binI (by rfl) (by rfl) (by rfl) (by rfl) (by first | rfl | trivial | exact ⟨rfl, by decide⟩ | exact ⟨rfl, by omega⟩ | decide | omega)) (by rfl) (by rfl) ?_
                        | refine ao0 (sem_binB tyOk (by rfl) (by rfl) (by rfl) (by rfl) (by rfl) (by rfl)) (by rfl) (by rfl) ?_
                        | refine ao0 (sem_nilS tyOk (by rfl) (by rfl) (by rfl) (by rfl) (by rfl) (by first | exact .inl ⟨rfl, rfl⟩ | exact .inr ⟨rfl, rfl⟩)) (by rfl) (by rfl) ?_
                        | refine ao0 (sem_binS (by rfl) (by rfl) (by rfl) (by rfl) (by trivial)) (by rfl) (by rfl) ?_
                      refine ao_nil (by first | dsimp only [setO, setE] | rfl) (by first | dsimp only [setM, setE, setR] | rfl) (by rfl) ?_
                      refine AW.cond (by rfl) (fun hc9 => ?_) (fun hc9 => ?_)
                      · skip
                        exfalso; simp at hc9 <;> omega
                      · skip
                        refine AW.skip ?_
                        refine AW.seq ?_
                        refine AW.region ?_
                        first
                          | refine ao0 (em_assign (by rfl) (by rfl)) (by rfl) (by rfl) ?_
                          | refine ao0 (em_assignG (by rfl) (by rfl)) (by rfl) (by rfl) ?_
                          | refine ao0 (sem_move (.inr (by rfl))) (by rfl) (by rfl) ?_
                        refine ao_nil (by first | dsimp only [setO, setE] | rfl) (by first | dsimp only [setM, setE, setR] | rfl) (by rfl) ?_
                        refine AW.ret ?_
                        refine retA_data (n := 0) rfl (by rfl) ?_ rfl rfl _ (.inr rfl)
                        exact pack_b rfl
    · have hI := iAlertStates_bad ab ho ca true xs hl (by simp) hok
      have hS : FnOk Tryd.prog gT _ _ _ _ _ := (sAlertStates_bad ab ho ca true xs hl (by simp) hok).any
      have hQ : FnOk Tryd.prog gT _ _ _ _ _ := (eqIntS_ok false false [] [] (by decide) (by decide) (by simp) (by simp)).any
      have hM : FnOk Tryd.prog gT _ _ _ _ _ := (markIntNil_ok 1).any
      have hH : FnOk Tryd.prog gT _ _ _ _ _ := (heldIntNil_ok 1).any
      refine fnOk_of' (k := 0) tyOk Tryd.func11 rfl (by kernel_rfl) Tryd.ntmps11 (by rw [Tryd.results11]) rfl (by simp only [List.length_cons, List.length_nil, Nat.reduceAdd, Nat.reduceSub, List.replicate_succ, List.replicate_zero, List.cons_append, List.nil_append]; rfl) (by simp) (by simp) (fun r hr => by simp at hr) fun base => ?_
      refine AW.seq ?_
      refine AW.region ?_
      refine ao1 (sem_box (by rfl) (by rfl)) (by omega) (by rfl) (by rfl) ?_
      first
        | refine ao0 (em_assign (by rfl) (by rfl)) (by rfl) (by rfl) ?_
        | refine ao0 (em_assignG (by rfl) (by rfl)) (by rfl) (by rfl) ?_
        | refine ao0 (sem_move (.inr (by rfl))) (by rfl) (by rfl) ?_
      refine ao_nil (by first | dsimp only [setO, setE] | rfl) (by first | dsimp only [setM, setE, setR] | rfl) (by rfl) ?_
      refine AW.seq ?_
      refine AW.region ?_
      first
        | refine ao0 (em_assign (by rfl) (by rfl)) (by rfl) (by rfl) ?_
        | refine ao0 (em_assignG (by rfl) (by rfl)) (by rfl) (by rfl) ?_
        | refine ao0 (sem_move (.inr (by rfl))) (by rfl) (by rfl) ?_
      refine ao_nil (by first | dsimp only [setO, setE] | rfl) (by first | dsimp only [setM, setE, setR] | rfl) (by rfl) ?_
      refine AW.seq ?_
      refine AW.region ?_
      first
        | refine ao0 (em_move (by rfl) (by rfl)) (by rfl) (by rfl) ?_
        | refine ao0 (em_moveG (by rfl) (by rfl)) (by rfl) (by rfl) ?_
        | refine ao0 (sem_move (.inl (by rfl))) (by rfl) (by rfl) ?_
      first
        | refine ao0 (em_move (by rfl) (by rfl)) (by rfl) (by rfl) ?_
        | refine ao0 (em_moveG (by rfl) (by rfl)) (by rfl) (by rfl) ?_
        | refine ao0 (sem_move (.inl (by rfl))) (by rfl) (by rfl) ?_
      refine ao_callL [] [] (hsz) (by rfl) (by rfl) (by rfl) (by rfl) (by rfl) (by repeat' (first | exact True.intro | exact .inl ⟨by rfl, by rfl⟩ | exact rfl | exact .inr (.inl ⟨_, _, _, _, by rfl, by rfl⟩) | exact .inr (.inr ⟨_, _, _, _, _, _, by rfl, by rfl, by rfl, by first | exact .head _ | exact .tail _ (.head _) | exact .tail _ (.tail _ (.head _)) | exact .tail _ (.tail _ (.tail _ (.head _)))⟩) | refine And.intro ?_ ?_)) (by repeat' (first | exact True.intro | exact .inl ⟨by rfl, by rfl⟩ | exact rfl | exact .inl rfl | exact .inr (.inl ⟨_, _, _, _, by rfl, by rfl⟩) | exact .inr ⟨rfl, by first | (simp [D.scalar, bD]; done) | assumption⟩ | refine And.intro ?_ ?_)) (by rfl) (by rfl) (by rfl) (by decide) (by rfl) (by rfl) (by omega) (by first | rfl | (simp [keptB, notGone, (by rfl).live]; done) | (cases nb <;> rfl)) (by rfl) (by rfl) (by rfl) (by rfl) (by rfl) (by rfl) (by rfl) ?_
      first
        | refine ao0 (em_assign (by rfl) (by rfl)) (by rfl) (by rfl) ?_
        | refine ao0 (em_assignG (by rfl) (by rfl)) (by rfl) (by rfl) ?_
        | refine ao0 (sem_move (.inr (by rfl))) (by rfl) (by rfl) ?_
      refine ao_nil (by first | dsimp only [setO, setE] | rfl) (by first | dsimp only [setM, setE, setR] | rfl) (by rfl) ?_
      refine AW.seq ?_
      refine AW.seq ?_
      refine AW.region ?_
      first
        | refine ao0 (em_move (by rfl) (by rfl)) (by rfl) (by rfl) ?_
        | refine ao0 (em_moveG (by rfl) (by rfl)) (by rfl) (by rfl) ?_
        | refine ao0 (sem_move (.inl (by rfl))) (by rfl) (by rfl) ?_
      first
        | refine ao0 (em_binI (by rfl) (by rfl) (by rfl) (by rfl) (by first | rfl | trivial | exact ⟨rfl, by decide⟩ | exact ⟨rfl, by omega⟩ | decide | omega)) (by rfl) (by rfl) ?_
        | refine ao0 (sem_binS (by rfl) (by rfl) (by rfl) (by rfl) (by trivial)) (by rfl) (by rfl) ?_
      refine ao_nil (by first | dsimp only [setO, setE] | rfl) (by first | dsimp only [setM, setE, setR] | rfl) (by rfl) ?_
      refine AW.cond (by rfl) (fun hc1 => ?_) (fun hc1 => ?_)
      · skip
        exfalso; simp at hc1 <;> omega
      · skip
        refine AW.skip ?_
        refine AW.seq ?_
        refine AW.region ?_
        refine ao_load tyOk (by rfl) (by rfl) (by rfl) (by rfl) (by rfl) (by rfl) (by rfl) (by first | trivial | exact Nat.le_of_ble_eq_true rfl | decide | (simp; done) | omega) ?_
        refine ao_callL [] [] (hRu) (by rfl) (by rfl) (by rfl) (by rfl) (by rfl) (by repeat' (first | exact True.intro | exact .inl ⟨by rfl, by rfl⟩ | exact rfl | exact .inr (.inl ⟨_, _, _, _, by rfl, by rfl⟩) | exact .inr (.inr ⟨_, _, _, _, _, _, by rfl, by rfl, by rfl, by first | exact .head _ | exact .tail _ (.head _) | exact .tail _ (.tail _ (.head _)) | exact .tail _ (.tail _ (.tail _ (.head _)))⟩) | refine And.intro ?_ ?_)) (by repeat' (first | exact True.intro | exact .inl ⟨by rfl, by rfl⟩ | exact rfl | exact .inl rfl | exact .inr (.inl ⟨_, _, _, _, by rfl, by rfl⟩) | exact .inr ⟨rfl, by first | (simp [D.scalar, bD]; done) | assumption⟩ | refine And.intro ?_ ?_)) (by rfl) (by rfl) (by rfl) (by decide) (by rfl) (by rfl) (by omega) (by first | rfl | (simp [keptB, notGone, (by rfl).live]; done) | (cases nb <;> rfl)) (by rfl) (by rfl) (by rfl) (by rfl) (by rfl) (by rfl) (by rfl) ?_
        first
          | refine ao0 (em_move (by rfl) (by rfl)) (by rfl) (by rfl) ?_
          | refine ao0 (em_moveG (by rfl) (by rfl)) (by rfl) (by rfl) ?_
          | refine ao0 (sem_move (.inl (by rfl))) (by rfl) (by rfl) ?_
        refine ao_callL [] [] (hT) (by rfl) (by rfl) (by rfl) (by rfl) (by rfl) (by repeat' (first | exact True.intro | exact .inl ⟨by rfl, by rfl⟩ | exact rfl | exact .inr (.inl ⟨_, _, _, _, by rfl, by rfl⟩) | exact .inr (.inr ⟨_, _, _, _, _, _, by rfl, by rfl, by rfl, by first | exact .head _ | exact .tail _ (.head _) | exact .tail _ (.tail _ (.head _)) | exact .tail _ (.tail _ (.tail _ (.head _)))⟩) | refine And.intro ?_ ?_)) (by repeat' (first | exact True.intro | exact .inl ⟨by rfl, by rfl⟩ | exact rfl | exact .inl rfl | exact .inr (.inl ⟨_, _, _, _, by rfl, by rfl⟩) | exact .inr ⟨rfl, by first | (simp [D.scalar, bD]; done) | assumption⟩ | refine And.intro ?_ ?_)) (by rfl) (by rfl) (by rfl) (by decide) (by rfl) (by rfl) (by omega) (by first | rfl | (simp [keptB, notGone, (by rfl).live]; done) | (cases nb <;> rfl)) (by rfl) (by rfl) (by rfl) (by rfl) (by rfl) (by rfl) (by rfl) ?_
        refine ao_callL [] [1] (hS) (by rfl) (by rfl) (by rfl) (by rfl) (by rfl) (by repeat' (first | exact True.intro | exact .inl ⟨by rfl, by rfl⟩ | exact rfl | exact .inr (.inl ⟨_, _, _, _, by rfl, by rfl⟩) | exact .inr (.inr ⟨_, _, _, _, _, _, by rfl, by rfl, by rfl, by first | exact .head _ | exact .tail _ (.head _) | exact .tail _ (.tail _ (.head _)) | exact .tail _ (.tail _ (.tail _ (.head _)))⟩) | refine And.intro ?_ ?_)) (by repeat' (first | exact True.intro | exact .inl ⟨by rfl, by rfl⟩ | exact rfl | exact .inl rfl | exact .inr (.inl ⟨_, _, _, _, by rfl, by rfl⟩) | exact .inr ⟨rfl, by first | (simp [D.scalar, bD]; done) | assumption⟩ | refine And.intro ?_ ?_)) (by rfl) (by rfl) (by rfl) (by decide) (by rfl) (by rfl) (by omega) (by first | rfl | (simp [keptB, notGone, (by rfl).live]; done) | (cases nb <;> rfl)) (by rfl) (by rfl) (by rfl) (by rfl) (by rfl) (by rfl) (by rfl) ?_
        first
          | refine ao0 (em_assign (by rfl) (by rfl)) (by rfl) (by rfl) ?_
          | refine ao0 (em_assignG (by rfl) (by rfl)) (by rfl) (by rfl) ?_
          | refine ao0 (sem_move (.inr (by rfl))) (by rfl) (by rfl) ?_
        refine ao_nil (by first | dsimp only [setO, setE] | rfl) (by first | dsimp only [setM, setE, setR] | rfl) (by rfl) ?_
        refine AW.seq ?_
        refine AW.region ?_
        first
          | refine ao0 (em_move (by rfl) (by rfl)) (by rfl) (by rfl) ?_
          | refine ao0 (em_moveG (by rfl) (by rfl)) (by rfl) (by rfl) ?_
          | refine ao0 (sem_move (.inl (by rfl))) (by rfl) (by rfl) ?_
        refine ao_callL [] [] (hT) (by rfl) (by rfl) (by rfl) (by rfl) (by rfl) (by repeat' (first | exact True.intro | exact .inl ⟨by rfl, by rfl⟩ | exact rfl | exact .inr (.inl ⟨_, _, _, _, by rfl, by rfl⟩) | exact .inr (.inr ⟨_, _, _, _, _, _, by rfl, by rfl, by rfl, by first | exact .head _ | exact .tail _ (.head _) | exact .tail _ (.tail _ (.head _)) | exact .tail _ (.tail _ (.tail _ (.head _)))⟩) | refine And.intro ?_ ?_)) (by repeat' (first | exact True.intro | exact .inl ⟨by rfl, by rfl⟩ | exact rfl | exact .inl rfl | exact .inr (.inl ⟨_, _, _, _, by rfl, by rfl⟩) | exact .inr ⟨rfl, by first | (simp [D.scalar, bD]; done) | assumption⟩ | refine And.intro ?_ ?_)) (by rfl) (by rfl) (by rfl) (by decide) (by rfl) (by rfl) (by omega) (by first | rfl | (simp [keptB, notGone, (by rfl).live]; done) | (cases nb <;> rfl)) (by rfl) (by rfl) (by rfl) (by rfl) (by rfl) (by rfl) (by rfl) ?_
        first
          | refine ao0 (em_assign (by rfl) (by rfl)) (by rfl) (by rfl) ?_
          | refine ao0 (em_assignG (by rfl) (by rfl)) (by rfl) (by rfl) ?_
          | refine ao0 (sem_move (.inr (by rfl))) (by rfl) (by rfl) ?_
        refine ao_nil (by first | dsimp only [setO, setE] | rfl) (by first | dsimp only [setM, setE, setR] | rfl) (by rfl) ?_
        refine AW.seq ?_
        refine AW.region ?_
        refine ao_load tyOk (by rfl) (by rfl) (by rfl) (by rfl) (by rfl) (by rfl) (by rfl) (by first | trivial | exact Nat.le_of_ble_eq_true rfl | decide | (simp; done) | omega) ?_
        refine ao_callL [] [] (hRu) (by rfl) (by rfl) (by rfl) (by rfl) (by rfl) (by repeat' (first | exact True.intro | exact .inl ⟨by rfl, by rfl⟩ | exact rfl | exact .inr (.inl ⟨_, _, _, _, by rfl, by rfl⟩) | exact .inr (.inr ⟨_, _, _, _, _, _, by rfl, by rfl, by rfl, by first | exact .head _ | exact .tail _ (.head _) | exact .tail _ (.tail _ (.head _)) | exact .tail _ (.tail _ (.tail _ (.head _)))⟩) | refine And.intro ?_ ?_)) (by repeat' (first | exact True.intro | exact .inl ⟨by rfl, by rfl⟩ | exact rfl | exact .inl rfl | exact .inr (.inl ⟨_, _, _, _, by rfl, by rfl⟩) | exact .inr ⟨rfl, by first | (simp [D.scalar, bD]; done) | assumption⟩ | refine And.intro ?_ ?_)) (by rfl) (by rfl) (by rfl) (by decide) (by rfl) (by rfl) (by omega) (by first | rfl | (simp [keptB, notGone, (by rfl).live]; done) | (cases nb <;> rfl)) (by rfl) (by rfl) (by rfl) (by rfl) (by rfl) (by rfl) (by rfl) ?_
        first
          | refine ao0 (em_move (by rfl) (by rfl)) (by rfl) (by rfl) ?_
          | refine ao0 (em_moveG (by rfl) (by rfl)) (by rfl) (by rfl) ?_
          | refine ao0 (sem_move (.inl (by rfl))) (by rfl) (by rfl) ?_
        refine ao_callL [] [2] (hI) (by rfl) (by rfl) (by rfl) (by rfl) (by rfl) (by repeat' (first | exact True.intro | exact .inl ⟨by rfl, by rfl⟩ | exact rfl | exact .inr (.inl ⟨_, _, _, _, by rfl, by rfl⟩) | exact .inr (.inr ⟨_, _, _, _, _, _, by rfl, by rfl, by rfl, by first | exact .head _ | exact .tail _ (.head _) | exact .tail _ (.tail _ (.head _)) | exact .tail _ (.tail _ (.tail _ (.head _)))⟩) | refine And.intro ?_ ?_)) (by repeat' (first | exact True.intro | exact .inl ⟨by rfl, by rfl⟩ | exact rfl | exact .inl rfl | exact .inr (.inl ⟨_, _, _, _, by rfl, by rfl⟩) | exact .inr ⟨rfl, by first | (simp [D.scalar, bD]; done) | assumption⟩ | refine And.intro ?_ ?_)) (by rfl) (by rfl) (by rfl) (by decide) (by rfl) (by rfl) (by omega) (by first | rfl | (simp [keptB, notGone, (by rfl).live]; done) | (cases nb <;> rfl)) (by rfl) (by rfl) (by rfl) (by rfl) (by rfl) (by rfl) (by rfl) ?_
        first
          | refine ao0 (em_assign (by rfl) (by rfl)) (by rfl) (by rfl) ?_
          | refine ao0 (em_assignG (by rfl) (by rfl)) (by rfl) (by rfl) ?_
          | refine ao0 (sem_move (.inr (by rfl))) (by rfl) (by rfl) ?_
        refine ao_nil (by first | dsimp only [setO, setE] | rfl) (by first | dsimp only [setM, setE, setR] | rfl) (by rfl) ?_
        refine AW.seq ?_
        refine AW.seq ?_
        refine AW.region ?_
        first
          | refine ao0 (em_move (by rfl) (by rfl)) (by rfl) (by rfl) ?_
          | refine ao0 (em_moveG (by rfl) (by rfl)) (by rfl) (by rfl) ?_
          | refine ao0 (sem_move (.inl (by rfl))) (by rfl) (by rfl) ?_
        first
          | refine ao0 (em_move (by rfl) (by rfl)) (by rfl) (by rfl) ?_
          | refine ao0 (em_moveG (by rfl) (by rfl)) (by rfl) (by rfl) ?_
          | refine ao0 (sem_move (.inl (by rfl))) (by rfl) (by rfl) ?_
        refine ao_callL [] [] (hQ) (by rfl) (by rfl) (by rfl) (by rfl) (by rfl) (by repeat' (first | exact True.intro | exact .inl ⟨by rfl, by rfl⟩ | exact rfl | exact .inr (.inl ⟨_, _, _, _, by rfl, by rfl⟩) | exact .inr (.inr ⟨_, _, _, _, _, _, by rfl, by rfl, by rfl, by first | exact .head _ | exact .tail _ (.head _) | exact .tail _ (.tail _ (.head _)) | exact .tail _ (.tail _ (.tail _ (.head _)))⟩) | refine And.intro ?_ ?_)) (by repeat' (first | exact True.intro | exact .inl ⟨by rfl, by rfl⟩ | exact rfl | exact .inl rfl | exact .inr (.inl ⟨_, _, _, _, by rfl, by rfl⟩) | exact .inr ⟨rfl, by first | (simp [D.scalar, bD]; done) | assumption⟩ | refine And.intro ?_ ?_)) (by rfl) (by rfl) (by rfl) (by decide) (by rfl) (by rfl) (by omega) (by first | rfl | (simp [keptB, notGone, (by rfl).live]; done) | (cases nb <;> rfl)) (by rfl) (by rfl) (by rfl) (by rfl) (by rfl) (by rfl) (by rfl) ?_
        refine ao0 (sem_unOp (by rfl) (by rfl) (by rfl)) (by rfl) (by rfl) ?_
        refine ao_nil (by first | dsimp only [setO, setE] | rfl) (by first | dsimp only [setM, setE, setR] | rfl) (by rfl) ?_
        refine AW.cond (by rfl) (fun hc2 => ?_) (fun hc2 => ?_)
        · skip
          exfalso; simp at hc2 <;> omega
        · skip
          refine AW.skip ?_
          refine AW.seq ?_
          refine AW.seq ?_
          refine AW.region ?_
          first
            | refine ao0 (em_move (by rfl) (by rfl)) (by rfl) (by rfl) ?_
            | refine ao0 (em_moveG (by rfl) (by rfl)) (by rfl) (by rfl) ?_
            | refine ao0 (sem_move (.inl (by rfl))) (by rfl) (by rfl) ?_
          first
            | refine ao0 (em_move (by rfl) (by rfl)) (by rfl) (by rfl) ?_
            | refine ao0 (em_moveG (by rfl) (by rfl)) (by rfl) (by rfl) ?_
            | refine ao0 (sem_move (.inl (by rfl))) (by rfl) (by rfl) ?_
          refine ao_callL [] [] (hT) (by rfl) (by rfl) (by rfl) (by rfl) (by rfl) (by repeat' (first | exact True.intro | exact .inl ⟨by rfl, by rfl⟩ | exact rfl | exact .inr (.inl ⟨_, _, _, _, by rfl, by rfl⟩) | exact .inr (.inr ⟨_, _, _, _, _, _, by rfl, by rfl, by rfl, by first | exact .head _ | exact .tail _ (.head _) | exact .tail _ (.tail _ (.head _)) | exact .tail _ (.tail _ (.tail _ (.head _)))⟩) | refine And.intro ?_ ?_)) (by repeat' (first | exact True.intro | exact .inl ⟨by rfl, by rfl⟩ | exact rfl | exact .inl rfl | exact .inr (.inl ⟨_, _, _, _, by rfl, by rfl⟩) | exact .inr ⟨rfl, by first | (simp [D.scalar, bD]; done) | assumption⟩ | refine And.intro ?_ ?_)) (by rfl) (by rfl) (by rfl) (by decide) (by rfl) (by rfl) (by omega) (by first | rfl | (simp [keptB, notGone, (by rfl).live]; done) | (cases nb <;> rfl)) (by rfl) (by rfl) (by rfl) (by rfl) (by rfl) (by rfl) (by rfl) ?_
          refine ao_callL [] [2, 3] (hE) (by rfl) (by rfl) (by rfl) (by rfl) (by rfl) (by repeat' (first | exact True.intro | exact .inl ⟨by rfl, by rfl⟩ | exact rfl | exact .inr (.inl ⟨_, _, _, _, by rfl, by rfl⟩) | exact .inr (.inr ⟨_, _, _, _, _, _, by rfl, by rfl, by rfl, by first | exact .head _ | exact .tail _ (.head _) | exact .tail _ (.tail _ (.head _)) | exact .tail _ (.tail _ (.tail _ (.head _)))⟩) | refine And.intro ?_ ?_)) (by repeat' (first | exact True.intro | exact .inl ⟨by rfl, by rfl⟩ | exact rfl | exact .inl rfl | exact .inr (.inl ⟨_, _, _, _, by rfl, by rfl⟩) | exact .inr ⟨rfl, by first | (simp [D.scalar, bD]; done) | assumption⟩ | refine And.intro ?_ ?_)) (by rfl) (by rfl) (by rfl) (by decide) (by rfl) (by rfl) (by omega) (by first | rfl | (simp [keptB, notGone, (by rfl).live]; done) | (cases nb <;> rfl)) (by rfl) (by rfl) (by rfl) (by rfl) (by rfl) (by rfl) (by rfl) ?_
          refine ao0 (sem_unOp (by rfl) (by rfl) (by rfl)) (by rfl) (by rfl) ?_
          refine ao_nil (by first | dsimp only [setO, setE] | rfl) (by first | dsimp only [setM, setE, setR] | rfl) (by rfl) ?_
          refine AW.cond (by rfl) (fun hc3 => ?_) (fun hc3 => ?_)
          · skip
            exfalso; simp at hc3 <;> omega
          · skip
            refine AW.skip ?_
            refine AW.seq ?_
            refine AW.region ?_
            first
              | refine ao0 (em_assign (by rfl) (by rfl)) (by rfl) (by rfl) ?_
              | refine ao0 (em_assignG (by rfl) (by rfl)) (by rfl) (by rfl) ?_
              | refine ao0 (sem_move (.inr (by rfl))) (by rfl) (by rfl) ?_
            refine ao_nil (by first | dsimp only [setO, setE] | rfl) (by first | dsimp only [setM, setE, setR] | rfl) (by rfl) ?_
            refine AW.seq ?_
            refine AW.region ?_
            first
              | refine ao0 (em_move (by rfl) (by rfl)) (by rfl) (by rfl) ?_
              | refine ao0 (em_moveG (by rfl) (by rfl)) (by rfl) (by rfl) ?_
              | refine ao0 (sem_move (.inl (by rfl))) (by rfl) (by rfl) ?_
            first
              | refine ao0 (em_move (by rfl) (by rfl)) (by rfl) (by rfl) ?_
              | refine ao0 (em_moveG (by rfl) (by rfl)) (by rfl) (by rfl) ?_
              | refine ao0 (sem_move (.inl (by rfl))) (by rfl) (by rfl) ?_
            refine ao_callL [2] [] (hMR) (by rfl) (by rfl) (by rfl) (by rfl) (by rfl) (by repeat' (first | exact True.intro | exact .inl ⟨by rfl, by rfl⟩ | exact rfl | exact .inr (.inl ⟨_, _, _, _, by rfl, by rfl⟩) | exact .inr (.inr ⟨_, _, _, _, _, _, by rfl, by rfl, by rfl, by first | exact .head _ | exact .tail _ (.head _) | exact .tail _ (.tail _ (.head _)) | exact .tail _ (.tail _ (.tail _ (.head _)))⟩) | refine And.intro ?_ ?_)) (by repeat' (first | exact True.intro | exact .inl ⟨by rfl, by rfl⟩ | exact rfl | exact .inl rfl | exact .inr (.inl ⟨_, _, _, _, by rfl, by rfl⟩) | exact .inr ⟨rfl, by first | (simp [D.scalar, bD]; done) | assumption⟩ | refine And.intro ?_ ?_)) (by rfl) (by rfl) (by rfl) (by decide) (by rfl) (by rfl) (by omega) (by first | rfl | (simp [keptB, notGone, (by rfl).live]; done) | (cases nb <;> rfl)) (by rfl) (by rfl) (by rfl) (by rfl) (by rfl) (by rfl) (by rfl) ?_
            first
              | refine ao0 (em_assign (by rfl) (by rfl)) (by rfl) (by rfl) ?_
              | refine ao0 (em_assignG (by rfl) (by rfl)) (by rfl) (by rfl) ?_
              | refine ao0 (sem_move (.inr (by rfl))) (by rfl) (by rfl) ?_
            refine ao_nil (by first | dsimp only [setO, setE] | rfl) (by first | dsimp only [setM, setE, setR] | rfl) (by rfl) ?_
            refine AW.seq ?_
            refine AW.seq ?_
            refine AW.region ?_
            first
              | refine ao0 (em_move (by rfl) (by rfl)) (by rfl) (by rfl) ?_
              | refine ao0 (em_moveG (by rfl) (by rfl)) (by rfl) (by rfl) ?_
              | refine ao0 (sem_move (.inl (by rfl))) (by rfl) (by rfl) ?_
            first
              | refine ao0 (em_binI (by rfl) (by rfl) (by rfl) (by rfl) (by first | rfl | trivial | exact ⟨rfl, by decide⟩ | exact ⟨rfl, by omega⟩ | decide | omega)) (by rfl) (by rfl) ?_
              | refine ao0 (sem_binS (by rfl) (by rfl) (by rfl) (by rfl) (by trivial)) (by rfl) (by rfl) ?_
            first
              | refine ao0 (em_move (by rfl) (by rfl)) (by rfl) (by rfl) ?_
              | refine ao0 (em_moveG (by rfl) (by rfl)) (by rfl) (by rfl) ?_
              | refine ao0 (sem_move (.inl (by rfl))) (by rfl) (by rfl) ?_
            first
              | refine ao_skip (by rfl) (by rfl) ?_
              | refine ao0 (em_move (by rfl) (by rfl)) (by rfl) (by rfl) ?_
              | refine ao0 (em_moveG (by rfl) (by rfl)) (by rfl) (by rfl) ?_
              | refine ao0 (sem_move (.inl (by rfl))) (by rfl) (by rfl) ?_
              | refine ao_opt (by rfl) (by rfl) (fun he => astep0 (em_move (by rfl) (by rfl))) ?_
              | refine ao_opt (by rfl) (by rfl) (fun he => astep0 (em_moveG (by rfl) (by rfl))) ?_
              | refine ao_opt (by rfl) (by rfl) (fun he => by rw [he]; exact astep0 (em_move (by rfl) (by rfl))) ?_
              | refine ao_opt (by rfl) (by rfl) (fun he => by rw [he]; exact astep0 (em_moveG (by rfl) (by rfl))) ?_
              | refine ao_opt (by rfl) (by rfl) (fun he => astep0 (sem_move (.inl (by rfl)))) ?_
              | refine ao_opt (by rfl) (by rfl) (fun he => by rw [he]; exact astep0 (sem_move (.inl (by rfl)))) ?_
            first
              | refine ao_skip (by rfl) (by rfl) ?_
              | refine ao0 (em_move (by rfl) (by rfl)) (by rfl) (by rfl) ?_
              | refine ao0 (em_moveG (by rfl) (by rfl)) (by rfl) (by rfl) ?_
              | refine ao0 (sem_move (.inl (by rfl))) (by rfl) (by rfl) ?_
              | refine ao_opt (by rfl) (by rfl) (fun he => astep0 (em_move (by rfl) (by rfl))) ?_
              | refine ao_opt (by rfl) (by rfl) (fun he => astep0 (em_moveG (by rfl) (by rfl))) ?_
              | refine ao_opt (by rfl) (by rfl) (fun he => by rw [he]; exact astep0 (em_move (by rfl) (by rfl))) ?_
              | refine ao_opt (by rfl) (by rfl) (fun he => by rw [he]; exact astep0 (em_moveG (by rfl) (by rfl))) ?_
              | refine ao_opt (by rfl) (by rfl) (fun he => astep0 (sem_move (.inl (by rfl)))) ?_
              | refine ao_opt (by rfl) (by rfl) (fun he => by rw [he]; exact astep0 (sem_move (.inl (by rfl)))) ?_
            first
              | refine ao_skip (by rfl) (by rfl) ?_
              | refine ao_callL [] [] (hQ) (by rfl) (by rfl) (by rfl) (by rfl) (by rfl) (by repeat' (first | exact True.intro | exact .inl ⟨by rfl, by rfl⟩ | exact rfl | exact .inr (.inl ⟨_, _, _, _, by rfl, by rfl⟩) | exact .inr (.inr ⟨_, _, _, _, _, _, by rfl, by rfl, by rfl, by first | exact .head _ | exact .tail _ (.head _) | exact .tail _ (.tail _ (.head _)) | exact .tail _ (.tail _ (.tail _ (.head _)))⟩) | refine And.intro ?_ ?_)) (by repeat' (first | exact True.intro | exact .inl ⟨by rfl, by rfl⟩ | exact rfl | exact .inl rfl | exact .inr (.inl ⟨_, _, _, _, by rfl, by rfl⟩) | exact .inr ⟨rfl, by first | (simp [D.scalar, bD]; done) | assumption⟩ | refine And.intro ?_ ?_)) (by rfl) (by rfl) (by rfl) (by decide) (by rfl) (by rfl) (by omega) (by first | rfl | (simp [keptB, notGone, (by rfl).live]; done) | (cases nb <;> rfl)) (by rfl) (by rfl) (by rfl) (by rfl) (by rfl) (by rfl) (by rfl) ?_
              | refine ao_opt (by rfl) (by rfl) (fun he => by rw [he]; exact astep_callL [] [] (hQ) (by rfl) (by rfl) (by rfl) (by repeat' (first | exact True.intro | exact .inl ⟨by rfl, by rfl⟩ | exact rfl | exact .inr (.inl ⟨_, _, _, _, by rfl, by rfl⟩) | exact .inr (.inr ⟨_, _, _, _, _, _, by rfl, by rfl, by rfl, by first | exact .head _ | exact .tail _ (.head _) | exact .tail _ (.tail _ (.head _)) | exact .tail _ (.tail _ (.tail _ (.head _)))⟩) | refine And.intro ?_ ?_)) (by repeat' (first | exact True.intro | exact .inl ⟨by rfl, by rfl⟩ | exact rfl | exact .inl rfl | exact .inr (.inl ⟨_, _, _, _, by rfl, by rfl⟩) | exact .inr ⟨rfl, by first | (simp [D.scalar, bD]; done) | assumption⟩ | refine And.intro ?_ ?_)) (by rfl) (by rfl) (by rfl) (by decide) (by rfl) (by rfl) (by omega) (by first | rfl | (simp [keptB, notGone, (by rfl).live]; done) | (cases nb <;> rfl)) (by rfl) (by rfl) (by rfl) (by rfl) (by rfl) (by rfl) (by rfl)) ?_
              | refine ao_opt (by rfl) (by rfl) (fun he => astep_callL [] [] (hQ) (by rfl) (by rfl) (by rfl) (by repeat' (first | exact True.intro | exact .inl ⟨by rfl, by rfl⟩ | exact rfl | exact .inr (.inl ⟨_, _, _, _, by rfl, by rfl⟩) | exact .inr (.inr ⟨_, _, _, _, _, _, by rfl, by rfl, by rfl, by first | exact .head _ | exact .tail _ (.head _) | exact .tail _ (.tail _ (.head _)) | exact .tail _ (.tail _ (.tail _ (.head _)))⟩) | refine And.intro ?_ ?_)) (by repeat' (first | exact True.intro | exact .inl ⟨by rfl, by rfl⟩ | exact rfl | exact .inl rfl | exact .inr (.inl ⟨_, _, _, _, by rfl, by rfl⟩) | exact .inr ⟨rfl, by first | (simp [D.scalar, bD]; done) | assumption⟩ | refine And.intro ?_ ?_)) (by rfl) (by rfl) (by rfl) (by decide) (by rfl) (by rfl) (by omega) (by first | rfl | (simp [keptB, notGone, (by rfl).live]; done) | (cases nb <;> rfl)) (by rfl) (by rfl) (by rfl) (by rfl) (by rfl) (by rfl) (by rfl)) ?_
            first
              | refine ao_skip (by rfl) (by rfl) ?_
              | refine ao0 (sem_unOp (by rfl) (by rfl) (by rfl)) (by rfl) (by rfl) ?_
              | refine ao_opt (by rfl) (by rfl) (fun he => astep0 (sem_unOp (by rfl) (by rfl) (by rfl))) ?_
              | refine ao_opt (by rfl) (by rfl) (fun he => by rw [he]; exact astep0 (sem_unOp (by rfl) (by rfl) (by rfl))) ?_
            first
              | refine ao0 (sem_pickg (by rfl) (by rfl) (by rfl) (by rfl) (by intro hh; first | rfl | exact hh | (exact Bool.noConfusion hh) | (simp [wexp]; done) | (simp [wexp] at hh; done) | (simpa [wexp] using hh) | (simp_all; done)) (by intro hh; first | rfl | exact hh | (exact Bool.noConfusion hh) | (simp [wexp]; done) | (simp [wexp] at hh; done) | (simpa [wexp] using hh) | (simp_all; done))) (by rfl) (by rfl) ?_
              | refine ao0 (sem_pick (by rfl) (by rfl)) (by rfl) (by rfl) ?_
            refine ao_nil (by first | dsimp only [setO, setE] | rfl) (by first | dsimp only [setM, setE, setR] | rfl) (by rfl) ?_
            refine AW.cond (by rfl) (fun hc4 => ?_) (fun hc4 => ?_)
            · skip
              exfalso; simp at hc4 <;> omega
            · skip
              refine AW.skip ?_
              refine AW.seq ?_
              refine AW.region ?_
              first
                | refine ao0 (em_assign (by rfl) (by rfl)) (by rfl) (by rfl) ?_
                | refine ao0 (em_assignG (by rfl) (by rfl)) (by rfl) (by rfl) ?_
                | refine ao0 (sem_move (.inr (by rfl))) (by rfl) (by rfl) ?_
              refine ao_nil (by first | dsimp only [setO, setE] | rfl) (by first | dsimp only [setM, setE, setR] | rfl) (by rfl) ?_
              refine AW.seq ?_
              refine AW.region ?_
              first
                | refine ao0 (em_move (by rfl) (by rfl)) (by rfl) (by rfl) ?_
                | refine ao0 (em_moveG (by rfl) (by rfl)) (by rfl) (by rfl) ?_
                | refine ao0 (sem_move (.inl (by rfl))) (by rfl) (by rfl) ?_
              first
                | refine ao0 (em_move (by rfl) (by rfl)) (by rfl) (by rfl) ?_
                | refine ao0 (em_moveG (by rfl) (by rfl)) (by rfl) (by rfl) ?_
                | refine ao0 (sem_move (.inl (by rfl))) (by rfl) (by rfl) ?_
              refine ao_callL [] [] (hM) (by rfl) (by rfl) (by rfl) (by rfl) (by rfl) (by repeat' (first | exact True.intro | exact .inl ⟨by rfl, by rfl⟩ | exact rfl | exact .inr (.inl ⟨_, _, _, _, by rfl, by rfl⟩) | exact .inr (.inr ⟨_, _, _, _, _, _, by rfl, by rfl, by rfl, by first | exact .head _ | exact .tail _ (.head _) | exact .tail _ (.tail _ (.head _)) | exact .tail _ (.tail _ (.tail _ (.head _)))⟩) | refine And.intro ?_ ?_)) (by repeat' (first | exact True.intro | exact .inl ⟨by rfl, by rfl⟩ | exact rfl | exact .inl rfl | exact .inr (.inl ⟨_, _, _, _, by rfl, by rfl⟩) | exact .inr ⟨rfl, by first | (simp [D.scalar, bD]; done) | assumption⟩ | refine And.intro ?_ ?_)) (by rfl) (by rfl) (by rfl) (by decide) (by rfl) (by rfl) (by omega) (by first | rfl | (simp [keptB, notGone, (by rfl).live]; done) | (cases nb <;> rfl)) (by rfl) (by rfl) (by rfl) (by rfl) (by rfl) (by rfl) (by rfl) ?_
              first
                | refine ao0 (em_assign (by rfl) (by rfl)) (by rfl) (by rfl) ?_
                | refine ao0 (em_assignG (by rfl) (by rfl)) (by rfl) (by rfl) ?_
                | refine ao0 (sem_move (.inr (by rfl))) (by rfl) (by rfl) ?_
              refine ao_nil (by first | dsimp only [setO, setE] | rfl) (by first | dsimp only [setM, setE, setR] | rfl) (by rfl) ?_
              refine AW.seq ?_
              refine AW.region ?_
              first
                | refine ao0 (em_assign (by rfl) (by rfl)) (by rfl) (by rfl) ?_
                | refine ao0 (em_assignG (by rfl) (by rfl)) (by rfl) (by rfl) ?_
                | refine ao0 (sem_move (.inr (by rfl))) (by rfl) (by rfl) ?_
              refine ao_nil (by first | dsimp only [setO, setE] | rfl) (by first | dsimp only [setM, setE, setR] | rfl) (by rfl) ?_
              refine AW.seq ?_
              refine AW.region ?_
              first
                | refine ao0 (em_move (by rfl) (by rfl)) (by rfl) (by rfl) ?_
                | refine ao0 (em_moveG (by rfl) (by rfl)) (by rfl) (by rfl) ?_
                | refine ao0 (sem_move (.inl (by rfl))) (by rfl) (by rfl) ?_
              first
                | refine ao0 (em_move (by rfl) (by rfl)) (by rfl) (by rfl) ?_
                | refine ao0 (em_moveG (by rfl) (by rfl)) (by rfl) (by rfl) ?_
                | refine ao0 (sem_move (.inl (by rfl))) (by rfl) (by rfl) ?_
              refine ao_callL [] [] (hH) (by rfl) (by rfl) (by rfl) (by rfl) (by rfl) (by repeat' (first | exact True.intro | exact .inl ⟨by rfl, by rfl⟩ | exact rfl | exact .inr (.inl ⟨_, _, _, _, by rfl, by rfl⟩) | exact .inr (.inr ⟨_, _, _, _, _, _, by rfl, by rfl, by rfl, by first | exact .head _ | exact .tail _ (.head _) | exact .tail _ (.tail _ (.head _)) | exact .tail _ (.tail _ (.tail _ (.head _)))⟩) | refine And.intro ?_ ?_)) (by repeat' (first | exact True.intro | exact .inl ⟨by rfl, by rfl⟩ | exact rfl | exact .inl rfl | exact .inr (.inl ⟨_, _, _, _, by rfl, by rfl⟩) | exact .inr ⟨rfl, by first | (simp [D.scalar, bD]; done) | assumption⟩ | refine And.intro ?_ ?_)) (by rfl) (by rfl) (by rfl) (by decide) (by rfl) (by rfl) (by omega) (by first | rfl | (simp [keptB, notGone, (by rfl).live]; done) | (cases nb <;> rfl)) (by rfl) (by rfl) (by rfl) (by rfl) (by rfl) (by rfl) (by rfl) ?_
              first
                | refine ao0 (em_assign (by rfl) (by rfl)) (by rfl) (by rfl) ?_
                | refine ao0 (em_assignG (by rfl) (by rfl)) (by rfl) (by rfl) ?_
                | refine ao0 (sem_move (.inr (by rfl))) (by rfl) (by rfl) ?_
              refine ao_nil (by first | dsimp only [setO, setE] | rfl) (by first | dsimp only [setM, setE, setR] | rfl) (by rfl) ?_
              refine AW.seq ?_
              refine AW.seq ?_
              refine AW.region ?_
              first
                | refine ao0 (em_move (by rfl) (by rfl)) (by rfl) (by rfl) ?_
                | refine ao0 (em_moveG (by rfl) (by rfl)) (by rfl) (by rfl) ?_
                | refine ao0 (sem_move (.inl (by rfl))) (by rfl) (by rfl) ?_
              first
                | refine ao0 (em_binI (by rfl) (by rfl) (by rfl) (by rfl) (by first | rfl | trivial | exact ⟨rfl, by decide⟩ | exact ⟨rfl, by omega⟩ | decide | omega)) (by rfl) (by rfl) ?_
                | refine ao0 (sem_binS (by rfl) (by rfl) (by rfl) (by rfl) (by trivial)) (by rfl) (by rfl) ?_
              refine ao_nil (by first | dsimp only [setO, setE] | rfl) (by first | dsimp only [setM, setE, setR] | rfl) (by rfl) ?_
              refine AW.cond (by rfl) (fun hc5 => ?_) (fun hc5 => ?_)
              · skip
                exfalso; simp at hc5 <;> omega
              · skip
                refine AW.skip ?_
                refine AW.seq ?_
                refine AW.seq ?_
                refine AW.region ?_
                first
                  | refine ao0 (em_move (by rfl) (by rfl)) (by rfl) (by rfl) ?_
                  | refine ao0 (em_moveG (by rfl) (by rfl)) (by rfl) (by rfl) ?_
                  | refine ao0 (sem_move (.inl (by rfl))) (by rfl) (by rfl) ?_
                first
                  | refine ao0 (em_move (by rfl) (by rfl)) (by rfl) (by rfl) ?_
                  | refine ao0 (em_moveG (by rfl) (by rfl)) (by rfl) (by rfl) ?_
                  | refine ao0 (sem_move (.inl (by rfl))) (by rfl) (by rfl) ?_
                first
                  | refine ao0 (em_binI (by rfl) (by rfl) (by rfl) (by rfl) (by first | rfl | trivial | exact ⟨rfl, by decide⟩ | exact ⟨rfl, by omega⟩ | decide | omega)) (by rfl) (by rfl) ?_
                  | refine ao0 (sem_binB tyOk (by rfl) (by rfl) (by rfl) (by rfl) (by rfl) (by rfl)) (by rfl) (by rfl) ?_
                  | refine ao0 (sem_nilS tyOk (by rfl) (by rfl) (by rfl) (by rfl) (by rfl) (by first | exact .inl ⟨rfl, rfl⟩ | exact .inr ⟨rfl, rfl⟩)) (by rfl) (by rfl) ?_
                  | refine ao0 (sem_binS (by rfl) (by rfl) (by rfl) (by rfl) (by trivial)) (by rfl) (by rfl) ?_
                refine ao_nil (by first | dsimp only [setO, setE] | rfl) (by first | dsimp only [setM, setE, setR] | rfl) (by rfl) ?_
                refine AW.cond (by rfl) (fun hc6 => ?_) (fun hc6 => ?_)
                · skip
                  exfalso; simp at hc6 <;> omega
                · skip
                  refine AW.skip ?_
                  refine AW.seq ?_
                  refine AW.region ?_
                  refine ao_load tyOk (by rfl) (by rfl) (by rfl) (by rfl) (by rfl) (by rfl) (by rfl) (by first | trivial | exact Nat.le_of_ble_eq_true rfl | decide | (simp; done) | omega) ?_
                  refine ao_callL [] [] (hRu) (by rfl) (by rfl) (by rfl) (by rfl) (by rfl) (by repeat' (first | exact True.intro | exact .inl ⟨by rfl, by rfl⟩ | exact rfl | exact .inr (.inl ⟨_, _, _, _, by rfl, by rfl⟩) | exact .inr (.inr ⟨_, _, _, _, _, _, by rfl, by rfl, by rfl, by first | exact .head _ | exact .tail _ (.head _) | exact .tail _ (.tail _ (.head _)) | exact .tail _ (.tail _ (.tail _ (.head _)))⟩) | refine And.intro ?_ ?_)) (by repeat' (first | exact True.intro | exact .inl ⟨by rfl, by rfl⟩ | exact rfl | exact .inl rfl | exact .inr (.inl ⟨_, _, _, _, by rfl, by rfl⟩) | exact .inr ⟨rfl, by first | (simp [D.scalar, bD]; done) | assumption⟩ | refine And.intro ?_ ?_)) (by rfl) (by rfl) (by rfl) (by decide) (by rfl) (by rfl) (by omega) (by first | rfl | (simp [keptB, notGone, (by rfl).live]; done) | (cases nb <;> rfl)) (by rfl) (by rfl) (by rfl) (by rfl) (by rfl) (by rfl) (by rfl) ?_
                  first
                    | refine ao0 (em_move (by rfl) (by rfl)) (by rfl) (by rfl) ?_
                    | refine ao0 (em_moveG (by rfl) (by rfl)) (by rfl) (by rfl) ?_
                    | refine ao0 (sem_move (.inl (by rfl))) (by rfl) (by rfl) ?_
                  refine ao_callL [] [] (hT) (by rfl) (by rfl) (by rfl) (by rfl) (by rfl) (by repeat' (first | exact True.intro | exact .inl ⟨by rfl, by rfl⟩ | exact rfl | exact .inr (.inl ⟨_, _, _, _, by rfl, by rfl⟩) | exact .inr (.inr ⟨_, _, _, _, _, _, by rfl, by rfl, by rfl, by first | exact .head _ | exact .tail _ (.head _) | exact .tail _ (.tail _ (.head _)) | exact .tail _ (.tail _ (.tail _ (.head _)))⟩) | refine And.intro ?_ ?_)) (by repeat' (first | exact True.intro | exact .inl ⟨by rfl, by rfl⟩ | exact rfl | exact .inl rfl | exact .inr (.inl ⟨_, _, _, _, by rfl, by rfl⟩) | exact .inr ⟨rfl, by first | (simp [D.scalar, bD]; done) | assumption⟩ | refine And.intro ?_ ?_)) (by rfl) (by rfl) (by rfl) (by decide) (by rfl) (by rfl) (by omega) (by first | rfl | (simp [keptB, notGone, (by rfl).live]; done) | (cases nb <;> rfl)) (by rfl) (by rfl) (by rfl) (by rfl) (by rfl) (by rfl) (by rfl) ?_
                  refine ao_callL [] [4] (hI) (by rfl) (by rfl) (by rfl) (by rfl) (by rfl) (by repeat' (first | exact True.intro | exact .inl ⟨by rfl, by rfl⟩ | exact rfl | exact .inr (.inl ⟨_, _, _, _, by rfl, by rfl⟩) | exact .inr (.inr ⟨_, _, _, _, _, _, by rfl, by rfl, by rfl, by first | exact .head _ | exact .tail _ (.head _) | exact .tail _ (.tail _ (.head _)) | exact .tail _ (.tail _ (.tail _ (.head _)))⟩) | refine And.intro ?_ ?_)) (by repeat' (first | exact True.intro | exact .inl ⟨by rfl, by rfl⟩ | exact rfl | exact .inl rfl | exact .inr (.inl ⟨_, _, _, _, by rfl, by rfl⟩) | exact .inr ⟨rfl, by first | (simp [D.scalar, bD]; done) | assumption⟩ | refine And.intro ?_ ?_)) (by rfl) (by rfl) (by rfl) (by decide) (by rfl) (by rfl) (by omega) (by first | rfl | (simp [keptB, notGone, (by rfl).live]; done) | (cases nb <;> rfl)) (by rfl) (by rfl) (by rfl) (by rfl) (by rfl) (by rfl) (by rfl) ?_
                  first
                    | refine ao0 (em_assign (by rfl) (by rfl)) (by rfl) (by rfl) ?_
                    | refine ao0 (em_assignG (by rfl) (by rfl)) (by rfl) (by rfl) ?_
                    | refine ao0 (sem_move (.inr (by rfl))) (by rfl) (by rfl) ?_
                  refine ao_nil (by first | dsimp only [setO, setE] | rfl) (by first | dsimp only [setM, setE, setR] | rfl) (by rfl) ?_
                  refine AW.seq ?_
                  refine AW.seq ?_
                  refine AW.region ?_
                  first
                    | refine ao0 (em_move (by rfl) (by rfl)) (by rfl) (by rfl) ?_
                    | refine ao0 (em_moveG (by rfl) (by rfl)) (by rfl) (by rfl) ?_
                    | refine ao0 (sem_move (.inl (by rfl))) (by rfl) (by rfl) ?_
                  first
                    | refine ao0 (em_move (by rfl) (by rfl)) (by rfl) (by rfl) ?_
                    | refine ao0 (em_moveG (by rfl) (by rfl)) (by rfl) (by rfl) ?_
                    | refine ao0 (sem_move (.inl (by rfl))) (by rfl) (by rfl) ?_
                  refine ao_callL [] [] (hQ) (by rfl) (by rfl) (by rfl) (by rfl) (by rfl) (by repeat' (first | exact True.intro | exact .inl ⟨by rfl, by rfl⟩ | exact rfl | exact .inr (.inl ⟨_, _, _, _, by rfl, by rfl⟩) | exact .inr (.inr ⟨_, _, _, _, _, _, by rfl, by rfl, by rfl, by first | exact .head _ | exact .tail _ (.head _) | exact .tail _ (.tail _ (.head _)) | exact .tail _ (.tail _ (.tail _ (.head _)))⟩) | refine And.intro ?_ ?_)) (by repeat' (first | exact True.intro | exact .inl ⟨by rfl, by rfl⟩ | exact rfl | exact .inl rfl | exact .inr (.inl ⟨_, _, _, _, by rfl, by rfl⟩) | exact .inr ⟨rfl, by first | (simp [D.scalar, bD]; done) | assumption⟩ | refine And.intro ?_ ?_)) (by rfl) (by rfl) (by rfl) (by decide) (by rfl) (by rfl) (by omega) (by first | rfl | (simp [keptB, notGone, (by rfl).live]; done) | (cases nb <;> rfl)) (by rfl) (by rfl) (by rfl) (by rfl) (by rfl) (by rfl) (by rfl) ?_
                  refine ao0 (sem_unOp (by rfl) (by rfl) (by rfl)) (by rfl) (by rfl) ?_
                  refine ao_nil (by first | dsimp only [setO, setE] | rfl) (by first | dsimp only [setM, setE, setR] | rfl) (by rfl) ?_
                  refine AW.cond (by rfl) (fun hc7 => ?_) (fun hc7 => ?_)
                  · skip
                    exfalso; simp at hc7 <;> omega
                  · skip
                    refine AW.skip ?_
                    refine AW.seq ?_
                    refine AW.region ?_
                    first
                      | refine ao0 (em_assign (by rfl) (by rfl)) (by rfl) (by rfl) ?_
                      | refine ao0 (em_assignG (by rfl) (by rfl)) (by rfl) (by rfl) ?_
                      | refine ao0 (sem_move (.inr (by rfl))) (by rfl) (by rfl) ?_
                    refine ao_nil (by first | dsimp only [setO, setE] | rfl) (by first | dsimp only [setM, setE, setR] | rfl) (by rfl) ?_
                    refine AW.seq ?_
                    refine AW.region ?_
                    first
                      | refine ao0 (em_move (by rfl) (by rfl)) (by rfl) (by rfl) ?_
                      | refine ao0 (em_moveG (by rfl) (by rfl)) (by rfl) (by rfl) ?_
                      | refine ao0 (sem_move (.inl (by rfl))) (by rfl) (by rfl) ?_
                    first
                      | refine ao0 (em_move (by rfl) (by rfl)) (by rfl) (by rfl) ?_
                      | refine ao0 (em_moveG (by rfl) (by rfl)) (by rfl) (by rfl) ?_
                      | refine ao0 (sem_move (.inl (by rfl))) (by rfl) (by rfl) ?_
                    refine ao_callL [] [] (hH) (by rfl) (by rfl) (by rfl) (by rfl) (by rfl) (by repeat' (first | exact True.intro | exact .inl ⟨by rfl, by rfl⟩ | exact rfl | exact .inr (.inl ⟨_, _, _, _, by rfl, by rfl⟩) | exact .inr (.inr ⟨_, _, _, _, _, _, by rfl, by rfl, by rfl, by first | exact .head _ | exact .tail _ (.head _) | exact .tail _ (.tail _ (.head _)) | exact .tail _ (.tail _ (.tail _ (.head _)))⟩) | refine And.intro ?_ ?_)) (by repeat' (first | exact True.intro | exact .inl ⟨by rfl, by rfl⟩ | exact rfl | exact .inl rfl | exact .inr (.inl ⟨_, _, _, _, by rfl, by rfl⟩) | exact .inr ⟨rfl, by first | (simp [D.scalar, bD]; done) | assumption⟩ | refine And.intro ?_ ?_)) (by rfl) (by rfl) (by rfl) (by decide) (by rfl) (by rfl) (by omega) (by first | rfl | (simp [keptB, notGone, (by rfl).live]; done) | (cases nb <;> rfl)) (by rfl) (by rfl) (by rfl) (by rfl) (by rfl) (by rfl) (by rfl) ?_
                    first
                      | refine ao0 (em_assign (by rfl) (by rfl)) (by rfl) (by rfl) ?_
                      | refine ao0 (em_assignG (by rfl) (by rfl)) (by rfl) (by rfl) ?_
                      | refine ao0 (sem_move (.inr (by rfl))) (by rfl) (by rfl) ?_
                    refine ao_nil (by first | dsimp only [setO, setE] | rfl) (by first | dsimp only [setM, setE, setR] | rfl) (by rfl) ?_
                    refine AW.seq ?_
                    refine AW.seq ?_
                    refine AW.region ?_
                    first
                      | refine ao0 (em_move (by rfl) (by rfl)) (by rfl) (by rfl) ?_
                      | refine ao0 (em_moveG (by rfl) (by rfl)) (by rfl) (by rfl) ?_
                      | refine ao0 (sem_move (.inl (by rfl))) (by rfl) (by rfl) ?_
                    first
                      | refine ao0 (em_binI (by rfl) (by rfl) (by rfl) (by rfl) (by first | rfl | trivial | exact ⟨rfl, by decide⟩ | exact ⟨rfl, by omega⟩ | decide | omega)) (by rfl) (by rfl) ?_
                      | refine ao0 (sem_binS (by rfl) (by rfl) (by rfl) (by rfl) (by trivial)) (by rfl) (by rfl) ?_
                    refine ao_nil (by first | dsimp only [setO, setE] | rfl) (by first | dsimp only [setM, setE, setR] | rfl) (by rfl) ?_
                    refine AW.cond (by rfl) (fun hc8 => ?_) (fun hc8 => ?_)
                    · skip
                      exfalso; simp at hc8 <;> omega
                    · skip
                      refine AW.skip ?_
                      refine AW.seq ?_
                      refine AW.seq ?_
                      refine AW.region ?_
                      first
                        | refine ao0 (em_move (by rfl) (by rfl)) (by rfl) (by rfl) ?_
                        | refine ao0 (em_moveG (by rfl) (by rfl)) (by rfl) (by rfl) ?_
                        | refine ao0 (sem_move (.inl (by rfl))) (by rfl) (by rfl) ?_
                      first
                        | refine ao0 (em_move (by rfl) (by rfl)) (by rfl) (by rfl) ?_
                        | refine ao0 (em_moveG (by rfl) (by rfl)) (by rfl) (by rfl) ?_
                        | refine ao0 (sem_move (.inl (by rfl))) (by rfl) (by rfl) ?_
                      first
                        | refine ao0 (em_binI (by rfl) (by rfl) (by rfl) (by rfl) (by first | rfl | trivial | exact ⟨rfl, by decide⟩ | exact ⟨rfl, by omega⟩ | decide | omega)) (by rfl) (by rfl) ?_
                        | refine ao0 (sem_binB tyOk (by rfl) (by rfl) (by rfl) (by rfl) (by rfl) (by rfl)) (by rfl) (by rfl) ?_
                        | refine ao0 (sem_nilS tyOk (by rfl) (by rfl) (by rfl) (by rfl) (by rfl) (by first | exact .inl ⟨rfl, rfl⟩ | exact .inr ⟨rfl, rfl⟩)) (by rfl) (by rfl) ?_
                        | refine ao0 (sem_binS (by rfl) (by rfl) (by rfl) (by rfl) (by trivial)) (by rfl) (by rfl) ?_
                      refine ao_nil (by first | dsimp only [setO, setE] | rfl) (by first | dsimp only [setM, setE, setR] | rfl) (by rfl) ?_
                      refine AW.cond (by rfl) (fun hc9 => ?_) (fun hc9 => ?_)
                      · skip
                        exfalso; simp at hc9 <;> omega
                      · skip
                        refine AW.skip ?_
                        refine AW.seq ?_
                        refine AW.region ?_
                        first
                          | refine ao0 (em_assign (by rfl) (by rfl)) (by rfl) (by rfl) ?_
                          | refine ao0 (em_assignG (by rfl) (by rfl)) (by rfl) (by rfl) ?_
                          | refine ao0 (sem_move (.inr (by rfl))) (by rfl) (by rfl) ?_
                        refine ao_nil (by first | dsimp only [setO, setE] | rfl) (by first | dsimp only [setM, setE, setR] | rfl) (by rfl) ?_
                        refine AW.ret ?_
                        refine retA_data (n := 0) rfl (by rfl) ?_ rfl rfl _ (.inr rfl)
                        exact pack_b rfl
end Go.Proofs.YtfhoalglgmdiaaaDoor
