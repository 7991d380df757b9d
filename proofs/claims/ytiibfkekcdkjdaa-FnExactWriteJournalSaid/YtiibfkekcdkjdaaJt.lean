/-
  The entry at the beginning of bytes: both texts.
-/
import Derived.Test.YtiibfkekcdkjdaaJr
namespace Go.Proofs.Ytiibfkekcdkjdaa
open Go
set_option linter.unusedVariables false
set_option linter.unusedSimpArgs false
set_option linter.unnecessarySimpa false

theorem bytesEqual_ok (n1 n2 : Bool) (l m : List Nat) (hn1 : n1 = false → l = []) (hn2 : n2 = false → m = []) (hb1 : ∀ b ∈ l, b ≤ 255) (hb2 : ∀ b ∈ m, b ≤ 255) : FnOk Try.prog noG 69 [.v false [.sl false n1 l.length (l.map bD)], .v false [.sl false n2 m.length (m.map bD)]] [] (.v false [.b (decide (l = m))]) [] := by
  refine fnOk_of' (k := 0) tyOk Try.func69 rfl (by kernel_rfl) Try.ntmps69 (by rw [Try.results69]) rfl (by simp only [List.length_cons, List.length_nil, Nat.reduceAdd, Nat.reduceSub, List.replicate_succ, List.replicate_zero, List.cons_append, List.nil_append]; rfl) (by simp) (by simp) (fun r hr => by simp at hr) fun base => ?_
  refine AW.seq ?_
  refine AW.region ?_
  refine ao0 (em_assign (by rfl) (by rfl)) (by rfl) (by rfl) ?_
  refine ao_nil (by first | dsimp only [setO, setE] | rfl) (by first | dsimp only [setM, setE, setR] | rfl) (by rfl) ?_
  refine AW.seq ?_
  refine AW.region ?_
  refine ao0 (em_move (by rfl) (by rfl)) (by rfl) (by rfl) ?_
  refine ao0 (sem_convN tyOk (by rfl) (by rfl) (by rfl) (by rfl) (by rfl) (by rfl) (by rfl) (by rfl) (by first | rfl | simp) (by first | assumption | simp)) (by rfl) (by rfl) ?_
  refine ao0 (em_move (by rfl) (by rfl)) (by rfl) (by rfl) ?_
  refine ao0 (sem_convN tyOk (by rfl) (by rfl) (by rfl) (by rfl) (by rfl) (by rfl) (by rfl) (by rfl) (by first | rfl | simp) (by first | assumption | simp)) (by rfl) (by rfl) ?_
  refine ao0 (sem_binS (by rfl) (by rfl) (by rfl) (by rfl) (by trivial)) (by rfl) (by rfl) ?_
  refine ao0 (em_assign (by rfl) (by rfl)) (by rfl) (by rfl) ?_
  refine ao_nil (by first | dsimp only [setO, setE] | rfl) (by first | dsimp only [setM, setE, setR] | rfl) (by rfl) ?_
  refine AW.ret ?_
  refine retA_data (n := 0) rfl (by rfl) ?_ rfl rfl _ (.inr rfl)
  exact pack_b (strN_eq hb1 hb2)
theorem hasPrefix_ok (n1 n2 : Bool) (l m : List Nat) (hn1 : n1 = false → l = []) (hn2 : n2 = false → m = []) (hb1 : ∀ b ∈ l, b ≤ 255) (hb2 : ∀ b ∈ m, b ≤ 255) : FnOk Try.prog noG 65 [.v false [.sl false n1 l.length (l.map bD)], .v false [.sl false n2 m.length (m.map bD)]] [] (.v false [.b (m.isPrefixOf l)]) [] := by
  by_cases hle : m.length ≤ l.length
  · have hE := bytesEqual_ok n1 n2 (l.take m.length) m (fun h => by rw [hn1 h]; simp) hn2 (fun b h => hb1 b (List.mem_of_mem_take h)) hb2
    obtain ⟨hs1, hs2⟩ := sl_head bD l (m.length : Int) (by omega) (by omega)
    rw [Int.toNat_natCast] at hs1 hs2
    have hp : decide (l.take m.length = m) = m.isPrefixOf l := by
      rw [Bool.eq_iff_iff, decide_eq_true_iff, List.isPrefixOf_iff_prefix, List.prefix_iff_eq_take]
      exact eq_comm
    refine fnOk_of' (k := 0) tyOk Try.func65 rfl (by kernel_rfl) Try.ntmps65 (by rw [Try.results65]) rfl (by simp only [List.length_cons, List.length_nil, Nat.reduceAdd, Nat.reduceSub, List.replicate_succ, List.replicate_zero, List.cons_append, List.nil_append]; rfl) (by simp) (by simp) (fun r hr => by simp at hr) fun base => ?_
    refine AW.seq ?_
    refine AW.region ?_
    refine ao0 (em_assign (by rfl) (by rfl)) (by rfl) (by rfl) ?_
    refine ao_nil (by first | dsimp only [setO, setE] | rfl) (by first | dsimp only [setM, setE, setR] | rfl) (by rfl) ?_
    refine AW.seq ?_
    refine AW.region ?_
    refine ao0 (em_move (by rfl) (by rfl)) (by rfl) (by rfl) ?_
    refine ao0 (sem_len tyOk (by rfl) (by rfl) (by rfl) (by rfl) (by first | exact .inl ⟨_, _, _, rfl⟩ | exact .inr ⟨_, _, rfl⟩)) (by rfl) (by rfl) ?_
    refine ao0 (em_move (by rfl) (by rfl)) (by rfl) (by rfl) ?_
    refine ao0 (sem_len tyOk (by rfl) (by rfl) (by rfl) (by rfl) (by first | exact .inl ⟨_, _, _, rfl⟩ | exact .inr ⟨_, _, rfl⟩)) (by rfl) (by rfl) ?_
    refine ao0 (em_binI (by rfl) (by rfl) (by rfl) (by rfl) (by first | rfl | trivial | exact ⟨rfl, by decide⟩ | exact ⟨rfl, by omega⟩ | decide | omega)) (by rfl) (by rfl) ?_
    rw [decide_eq_true (show (m.length : Int) ≤ (l.length : Int) by omega)]
    refine ao0 (em_move (by rfl) (by rfl)) (by rfl) (by rfl) ?_
    refine ao0 (em_move (by rfl) (by rfl)) (by rfl) (by rfl) ?_
    refine ao0 (em_move (by rfl) (by rfl)) (by rfl) (by rfl) ?_
    refine ao0 (sem_len tyOk (by rfl) (by rfl) (by rfl) (by rfl) (by first | exact .inl ⟨_, _, _, rfl⟩ | exact .inr ⟨_, _, rfl⟩)) (by rfl) (by rfl) ?_
    refine ao0 (sem_slice tyOk (by rfl) (by rfl) (by rfl) (by rfl) (by rfl) (by rfl) (by omega) (by omega) (by omega)) (by rfl) (by rfl) ?_
    rw [hs2, hs1]
    refine ao0 (em_move (by rfl) (by rfl)) (by rfl) (by rfl) ?_
    refine ao_callL [] [] (hE) (by rfl) (by rfl) (by rfl) (by rfl) (by rfl) (by repeat' (first | exact True.intro | exact .inl ⟨by rfl, by rfl⟩ | exact rfl | exact .inr (.inl ⟨_, _, _, _, by rfl, by rfl⟩) | exact .inr (.inr ⟨_, _, _, _, _, _, by rfl, by rfl, by rfl, by first | exact .head _ | exact .tail _ (.head _) | exact .tail _ (.tail _ (.head _)) | exact .tail _ (.tail _ (.tail _ (.head _)))⟩) | refine And.intro ?_ ?_)) (by repeat' (first | exact True.intro | exact .inl ⟨by rfl, by rfl⟩ | exact rfl | exact .inl rfl | exact .inr (.inl ⟨_, _, _, _, by rfl, by rfl⟩) | exact .inr ⟨rfl, by simp [D.scalar, bD]⟩ | refine And.intro ?_ ?_)) (by rfl) (by rfl) (by rfl) (by decide) (by rfl) (by rfl) (by omega) (by first | rfl | (simp [keptB, notGone, (by rfl).live]; done)) (by rfl) (by rfl) (by rfl) (by rfl) (by rfl) (by rfl) (by rfl) ?_
    dsimp only [setO, setE]
    refine ao0 (sem_pickg (by rfl) (by rfl) (by rfl) (by rfl) (by intro hh; first | rfl | exact hh | (exact Bool.noConfusion hh) | (simp [wexp]; done) | (simp [wexp] at hh; done) | (simpa [wexp] using hh) | (simp_all; done)) (by intro hh; first | rfl | exact hh | (exact Bool.noConfusion hh) | (simp [wexp]; done) | (simp [wexp] at hh; done) | (simpa [wexp] using hh) | (simp_all; done))) (by rfl) (by rfl) ?_
    refine ao0 (em_assign (by rfl) (by rfl)) (by rfl) (by rfl) ?_
    refine ao_nil (by first | dsimp only [setO, setE] | rfl) (by first | dsimp only [setM, setE, setR] | rfl) (by rfl) ?_
    refine AW.ret ?_
    refine retA_data (n := 0) rfl (by rfl) ?_ rfl rfl _ (.inr rfl)
    exact pack_b hp
  · have hp : false = m.isPrefixOf l := by
      symm
      rw [Bool.eq_false_iff]
      intro h
      exact hle (List.isPrefixOf_iff_prefix.1 h).length_le
    refine fnOk_of' (k := 0) tyOk Try.func65 rfl (by kernel_rfl) Try.ntmps65 (by rw [Try.results65]) rfl (by simp only [List.length_cons, List.length_nil, Nat.reduceAdd, Nat.reduceSub, List.replicate_succ, List.replicate_zero, List.cons_append, List.nil_append]; rfl) (by simp) (by simp) (fun r hr => by simp at hr) fun base => ?_
    refine AW.seq ?_
    refine AW.region ?_
    refine ao0 (em_assign (by rfl) (by rfl)) (by rfl) (by rfl) ?_
    refine ao_nil (by first | dsimp only [setO, setE] | rfl) (by first | dsimp only [setM, setE, setR] | rfl) (by rfl) ?_
    refine AW.seq ?_
    refine AW.region ?_
    refine ao0 (em_move (by rfl) (by rfl)) (by rfl) (by rfl) ?_
    refine ao0 (sem_len tyOk (by rfl) (by rfl) (by rfl) (by rfl) (by first | exact .inl ⟨_, _, _, rfl⟩ | exact .inr ⟨_, _, rfl⟩)) (by rfl) (by rfl) ?_
    refine ao0 (em_move (by rfl) (by rfl)) (by rfl) (by rfl) ?_
    refine ao0 (sem_len tyOk (by rfl) (by rfl) (by rfl) (by rfl) (by first | exact .inl ⟨_, _, _, rfl⟩ | exact .inr ⟨_, _, rfl⟩)) (by rfl) (by rfl) ?_
    refine ao0 (em_binI (by rfl) (by rfl) (by rfl) (by rfl) (by first | rfl | trivial | exact ⟨rfl, by decide⟩ | exact ⟨rfl, by omega⟩ | decide | omega)) (by rfl) (by rfl) ?_
    rw [decide_eq_false (show ¬ (m.length : Int) ≤ (l.length : Int) by omega)]
    refine ao0 (em_move (by rfl) (by rfl)) (by rfl) (by rfl) ?_
    refine ao_skip (by rfl) (by rfl) ?_
    refine ao_skip (by rfl) (by rfl) ?_
    refine ao_skip (by rfl) (by rfl) ?_
    refine ao_skip (by rfl) (by rfl) ?_
    refine ao_skip (by rfl) (by rfl) ?_
    refine ao_skip (by rfl) (by rfl) ?_
    dsimp only [setO, setE]
    refine ao0 (sem_pick (by rfl) (by rfl)) (by rfl) (by rfl) ?_
    refine ao0 (em_assign (by rfl) (by rfl)) (by rfl) (by rfl) ?_
    refine ao_nil (by first | dsimp only [setO, setE] | rfl) (by first | dsimp only [setM, setE, setR] | rfl) (by rfl) ?_
    refine AW.ret ?_
    refine retA_data (n := 0) rfl (by rfl) ?_ rfl rfl _ (.inr rfl)
    exact pack_b hp
theorem iUnzig_ok (n : Nat) (hn : n ≤ 200000) : FnOk Try.prog noG 68 [.v false [.i .i64 (n : Int)]] [] (.tup [(false, [.i .i64 (unz n)]), (false, [.b true])]) [] := by
  refine fnOk_of' (k := 0) tyOk Try.func68 rfl (by kernel_rfl) Try.ntmps68 (by rw [Try.results68]) rfl (by simp only [List.length_cons, List.length_nil, Nat.reduceAdd, Nat.reduceSub, List.replicate_succ, List.replicate_zero, List.cons_append, List.nil_append]; rfl) (by simp) (by simp) (fun r hr => by simp at hr) fun base => ?_
  refine AW.seq ?_
  refine AW.region ?_
  refine ao0 (em_assign (by rfl) (by rfl)) (by rfl) (by rfl) ?_
  refine ao0 (em_assign (by rfl) (by rfl)) (by rfl) (by rfl) ?_
  refine ao_nil (by first | dsimp only [setO, setE] | rfl) (by first | dsimp only [setM, setE, setR] | rfl) (by rfl) ?_
  refine AW.seq ?_
  refine AW.block ?_
  refine AW.seq ?_
  refine AW.region ?_
  refine ao0 (em_move (by rfl) (by rfl)) (by rfl) (by rfl) ?_
  refine ao0 (em_binI (by rfl) (by rfl) (by rfl) (by rfl) (by first | rfl | trivial | exact ⟨rfl, by decide⟩ | exact ⟨rfl, by omega⟩ | decide | omega)) (by rfl) (by rfl) ?_
  refine ao0 (em_move (by rfl) (by rfl)) (by rfl) (by rfl) ?_
  refine ao0 (em_move (by rfl) (by rfl)) (by rfl) (by rfl) ?_
  refine ao0 (em_binI (by rfl) (by rfl) (by rfl) (by rfl) (by first | rfl | trivial | exact ⟨rfl, by decide⟩ | exact ⟨rfl, by omega⟩ | decide | omega)) (by rfl) (by rfl) ?_
  refine ao0 (sem_pickg (by rfl) (by rfl) (by rfl) (by rfl) (by intro hh; first | rfl | exact hh | (exact Bool.noConfusion hh) | (simp [wexp]; done) | (simp [wexp] at hh; done) | (simpa [wexp] using hh) | (simp_all; done)) (by intro hh; first | rfl | exact hh | (exact Bool.noConfusion hh) | (simp [wexp]; done) | (simp [wexp] at hh; done) | (simpa [wexp] using hh) | (simp_all; done))) (by rfl) (by rfl) ?_
  refine ao0 (em_assign (by rfl) (by rfl)) (by rfl) (by rfl) ?_
  refine ao_nil (by first | dsimp only [setO, setE] | rfl) (by first | dsimp only [setM, setE, setR] | rfl) (by rfl) ?_
  refine AW.cond (by rfl) (fun hc1 => ?_) (fun hc1 => ?_)
  · skip
    exfalso; rcases or_T hc1 with h | h <;> simp at h <;> omega
  · skip
    refine AW.seq ?_
    refine AW.region ?_
    refine ao0 (em_move (by rfl) (by rfl)) (by rfl) (by rfl) ?_
    refine ao0 (em_rem (by rfl) (by rfl) (by rfl) (by omega) (by omega)) (by rfl) (by rfl) ?_
    refine ao0 (em_binI (by rfl) (by rfl) (by rfl) (by rfl) (by first | rfl | trivial | exact ⟨rfl, by decide⟩ | exact ⟨rfl, by omega⟩ | decide | omega)) (by rfl) (by rfl) ?_
    refine ao0 (em_assign (by rfl) (by rfl)) (by rfl) (by rfl) ?_
    refine ao_nil (by first | dsimp only [setO, setE] | rfl) (by first | dsimp only [setM, setE, setR] | rfl) (by rfl) ?_
    refine AW.cond (by rfl) (fun hc2 => ?_) (fun hc2 => ?_)
    · skip
      have hu : (n : Int) / 2 = unz n := by unfold unz; rw [if_neg (by simp at hc2; omega)]; omega
      refine AW.seq ?_
      refine AW.region ?_
      refine ao0 (em_move (by rfl) (by rfl)) (by rfl) (by rfl) ?_
      refine ao0 (em_quo (by rfl) (by rfl) (by rfl) (by omega) (by omega) (by omega)) (by rfl) (by rfl) ?_
      refine ao0 (em_assign (by rfl) (by rfl)) (by rfl) (by rfl) ?_
      refine ao0 (em_assign (by rfl) (by rfl)) (by rfl) (by rfl) ?_
      refine ao_nil (by first | dsimp only [setO, setE] | rfl) (by first | dsimp only [setM, setE, setR] | rfl) (by rfl) ?_
      refine AW.ret ?_
      refine retA_data (n := 0) rfl (by rfl) ?_ rfl rfl _ (.inr rfl)
      rw [hu]; rfl
    · skip
      have hu : -(-(-((n : Int) + 1)) / 2) = unz n := by unfold unz; rw [if_pos (by simp at hc2; omega)]; omega
      refine AW.skip ?_
      refine AW.seq ?_
      refine AW.region ?_
      refine ao0 (em_move (by rfl) (by rfl)) (by rfl) (by rfl) ?_
      refine ao0 (em_add (by rfl) (by rfl) (by rfl) (by omega) (by omega)) (by rfl) (by rfl) ?_
      refine ao0 (em_neg (by rfl) (by rfl) (by omega) (by omega)) (by rfl) (by rfl) ?_
      refine ao0 (em_quoN (by rfl) (by rfl) (by rfl) (by omega) (by omega) (by omega)) (by rfl) (by rfl) ?_
      refine ao0 (em_assign (by rfl) (by rfl)) (by rfl) (by rfl) ?_
      refine ao0 (em_assign (by rfl) (by rfl)) (by rfl) (by rfl) ?_
      refine ao_nil (by first | dsimp only [setO, setE] | rfl) (by first | dsimp only [setM, setE, setR] | rfl) (by rfl) ?_
      refine AW.ret ?_
      refine retA_data (n := 0) rfl (by rfl) ?_ rfl rfl _ (.inr rfl)
      rw [hu]; rfl
theorem sUnzig_ok (n : Nat) (hn : n ≤ 200000) : FnOk Try.prog noG 67 [.v false [.i .i64 (n : Int)]] [] (.v false [.i .i64 (unz n)]) [] := by
  refine fnOk_of' (k := 0) tyOk Try.func67 rfl (by kernel_rfl) Try.ntmps67 (by rw [Try.results67]) rfl (by simp only [List.length_cons, List.length_nil, Nat.reduceAdd, Nat.reduceSub, List.replicate_succ, List.replicate_zero, List.cons_append, List.nil_append]; rfl) (by simp) (by simp) (fun r hr => by simp at hr) fun base => ?_
  refine AW.seq ?_
  refine AW.region ?_
  refine ao0 (em_assign (by rfl) (by rfl)) (by rfl) (by rfl) ?_
  refine ao_nil (by first | dsimp only [setO, setE] | rfl) (by first | dsimp only [setM, setE, setR] | rfl) (by rfl) ?_
  refine AW.seq ?_
  refine AW.seq ?_
  refine AW.region ?_
  refine ao0 (em_move (by rfl) (by rfl)) (by rfl) (by rfl) ?_
  refine ao0 (em_rem (by rfl) (by rfl) (by rfl) (by omega) (by omega)) (by rfl) (by rfl) ?_
  refine ao0 (em_binI (by rfl) (by rfl) (by rfl) (by rfl) (by first | rfl | trivial | exact ⟨rfl, by decide⟩ | exact ⟨rfl, by omega⟩ | decide | omega)) (by rfl) (by rfl) ?_
  refine ao_nil (by first | dsimp only [setO, setE] | rfl) (by first | dsimp only [setM, setE, setR] | rfl) (by rfl) ?_
  refine AW.cond (by rfl) (fun hc1 => ?_) (fun hc1 => ?_)
  · skip
    have hu : -(-(-((n : Int) + 1)) / 2) = unz n := by unfold unz; rw [if_pos (by simp at hc1; omega)]; omega
    refine AW.seq ?_
    refine AW.region ?_
    refine ao0 (em_move (by rfl) (by rfl)) (by rfl) (by rfl) ?_
    refine ao0 (em_add (by rfl) (by rfl) (by rfl) (by omega) (by omega)) (by rfl) (by rfl) ?_
    refine ao0 (em_neg (by rfl) (by rfl) (by omega) (by omega)) (by rfl) (by rfl) ?_
    refine ao0 (em_quoN (by rfl) (by rfl) (by rfl) (by omega) (by omega) (by omega)) (by rfl) (by rfl) ?_
    refine ao0 (em_assign (by rfl) (by rfl)) (by rfl) (by rfl) ?_
    refine ao_nil (by first | dsimp only [setO, setE] | rfl) (by first | dsimp only [setM, setE, setR] | rfl) (by rfl) ?_
    refine AW.ret ?_
    refine retA_data (n := 0) rfl (by rfl) ?_ rfl rfl _ (.inr rfl)
    exact pack_i hu
  · skip
    have hu : (n : Int) / 2 = unz n := by unfold unz; rw [if_neg (by simp at hc1; omega)]; omega
    refine AW.skip ?_
    refine AW.seq ?_
    refine AW.region ?_
    refine ao0 (em_move (by rfl) (by rfl)) (by rfl) (by rfl) ?_
    refine ao0 (em_quo (by rfl) (by rfl) (by rfl) (by omega) (by omega) (by omega)) (by rfl) (by rfl) ?_
    refine ao0 (em_assign (by rfl) (by rfl)) (by rfl) (by rfl) ?_
    refine ao_nil (by first | dsimp only [setO, setE] | rfl) (by first | dsimp only [setM, setE, setR] | rfl) (by rfl) ?_
    refine AW.ret ?_
    refine retA_data (n := 0) rfl (by rfl) ?_ rfl rfl _ (.inr rfl)
    exact pack_i hu
def gz (l : List Nat) : Int × Nat × Bool := if (gv l 0 1 0).2.2 = true then (unz (gv l 0 1 0).1, (gv l 0 1 0).2.1, true) else (0, 0, false)
theorem getZigzag_ok (nn : Bool) (l : List Nat) (hnn : nn = false → l = []) (hb : ∀ b ∈ l, b ≤ 255) (hl : l.length ≤ 1048576) : FnOk Try.prog noG 64 [.v false [.sl false nn l.length (l.map bD)]] [] (.tup [(false, [.i .i64 (gz l).1]), (false, [.i .i64 ((gz l).2.1 : Int)]), (false, [.b (gz l).2.2])]) [] := by
  refine fnOk_of' (k := 0) tyOk Try.func64 rfl (by kernel_rfl) Try.ntmps64 (by rw [Try.results64]) rfl (by simp only [List.length_cons, List.length_nil, Nat.reduceAdd, Nat.reduceSub, List.replicate_succ, List.replicate_zero, List.cons_append, List.nil_append]; rfl) (by simp) (by simp) (fun r hr => by simp at hr) fun base => ?_
  refine AW.seq ?_
  refine AW.region ?_
  refine ao0 (em_assign (by rfl) (by rfl)) (by rfl) (by rfl) ?_
  refine ao0 (em_assign (by rfl) (by rfl)) (by rfl) (by rfl) ?_
  refine ao0 (em_assign (by rfl) (by rfl)) (by rfl) (by rfl) ?_
  refine ao_nil (by first | dsimp only [setO, setE] | rfl) (by first | dsimp only [setM, setE, setR] | rfl) (by rfl) ?_
  refine AW.seq ?_
  refine AW.region ?_
  refine ao0 (em_move (by rfl) (by rfl)) (by rfl) (by rfl) ?_
  refine ao_callL [] [] (GetVar_ok nn l hnn hb hl) (by rfl) (by rfl) (by rfl) (by rfl) (by rfl) (by repeat' (first | exact True.intro | exact .inl ⟨by rfl, by rfl⟩ | exact rfl | exact .inr (.inl ⟨_, _, _, _, by rfl, by rfl⟩) | exact .inr (.inr ⟨_, _, _, _, _, _, by rfl, by rfl, by rfl, by first | exact .head _ | exact .tail _ (.head _) | exact .tail _ (.tail _ (.head _)) | exact .tail _ (.tail _ (.tail _ (.head _)))⟩) | refine And.intro ?_ ?_)) (by repeat' (first | exact True.intro | exact .inl ⟨by rfl, by rfl⟩ | exact rfl | exact .inl rfl | exact .inr (.inl ⟨_, _, _, _, by rfl, by rfl⟩) | exact .inr ⟨rfl, by simp [D.scalar, bD]⟩ | refine And.intro ?_ ?_)) (by rfl) (by rfl) (by rfl) (by decide) (by rfl) (by rfl) (by omega) (by first | rfl | (simp [keptB, notGone, (by rfl).live]; done)) (by rfl) (by rfl) (by rfl) (by rfl) (by rfl) (by rfl) (by rfl) ?_
  refine ao0 (sem_move (.inl (by rfl))) (by rfl) (by rfl) ?_
  refine ao0 (sem_extract (by rfl) (by rfl) (by rfl)) (by rfl) (by rfl) ?_
  refine ao0 (sem_extract (by rfl) (by rfl) (by rfl)) (by rfl) (by rfl) ?_
  refine ao0 (sem_extract (by rfl) (by rfl) (by rfl)) (by rfl) (by rfl) ?_
  refine ao0 (em_assign (by rfl) (by rfl)) (by rfl) (by rfl) ?_
  refine ao0 (em_assign (by rfl) (by rfl)) (by rfl) (by rfl) ?_
  refine ao0 (em_assign (by rfl) (by rfl)) (by rfl) (by rfl) ?_
  refine ao_nil (by first | dsimp only [setO, setE] | rfl) (by first | dsimp only [setM, setE, setR] | rfl) (by rfl) ?_
  refine AW.seq ?_
  refine AW.seq ?_
  refine AW.region ?_
  refine ao0 (em_move (by rfl) (by rfl)) (by rfl) (by rfl) ?_
  refine ao0 (sem_unOp (by rfl) (by rfl) (by rfl)) (by rfl) (by rfl) ?_
  refine ao_nil (by first | dsimp only [setO, setE] | rfl) (by first | dsimp only [setM, setE, setR] | rfl) (by rfl) ?_
  refine AW.cond (by rfl) (fun hc1 => ?_) (fun hc1 => ?_)
  · skip
    have hz : gz l = (0, 0, false) := by unfold gz; rw [if_neg (by simpa using hc1)]
    rw [hz]
    refine AW.seq ?_
    refine AW.region ?_
    refine ao0 (em_assign (by rfl) (by rfl)) (by rfl) (by rfl) ?_
    refine ao0 (em_assign (by rfl) (by rfl)) (by rfl) (by rfl) ?_
    refine ao0 (em_assign (by rfl) (by rfl)) (by rfl) (by rfl) ?_
    refine ao_nil (by first | dsimp only [setO, setE] | rfl) (by first | dsimp only [setM, setE, setR] | rfl) (by rfl) ?_
    refine AW.ret ?_
    refine retA_data (n := 0) rfl (by rfl) ?_ rfl rfl _ (.inr rfl)
    rfl
  · skip
    have ht : (gv l 0 1 0).2.2 = true := by simpa using hc1
    obtain ⟨n, r, hn, hl2, hg⟩ := gv_inv hb ht
    have hz : gz l = (unz n, (putL n).length, true) := by unfold gz; rw [if_pos ht, hg]
    rw [hz]
    rw [hg]
    refine AW.skip ?_
    refine AW.seq ?_
    refine AW.region ?_
    refine ao0 (em_move (by rfl) (by rfl)) (by rfl) (by rfl) ?_
    refine ao_callL [] [] (iUnzig_ok n hn) (by rfl) (by rfl) (by rfl) (by rfl) (by rfl) (by repeat' (first | exact True.intro | exact .inl ⟨by rfl, by rfl⟩ | exact rfl | exact .inr (.inl ⟨_, _, _, _, by rfl, by rfl⟩) | exact .inr (.inr ⟨_, _, _, _, _, _, by rfl, by rfl, by rfl, by first | exact .head _ | exact .tail _ (.head _) | exact .tail _ (.tail _ (.head _)) | exact .tail _ (.tail _ (.tail _ (.head _)))⟩) | refine And.intro ?_ ?_)) (by repeat' (first | exact True.intro | exact .inl ⟨by rfl, by rfl⟩ | exact rfl | exact .inl rfl | exact .inr (.inl ⟨_, _, _, _, by rfl, by rfl⟩) | exact .inr ⟨rfl, by simp [D.scalar, bD]⟩ | refine And.intro ?_ ?_)) (by rfl) (by rfl) (by rfl) (by decide) (by rfl) (by rfl) (by omega) (by first | rfl | (simp [keptB, notGone, (by rfl).live]; done)) (by rfl) (by rfl) (by rfl) (by rfl) (by rfl) (by rfl) (by rfl) ?_
    refine ao0 (sem_move (.inl (by rfl))) (by rfl) (by rfl) ?_
    refine ao0 (sem_extract (by rfl) (by rfl) (by rfl)) (by rfl) (by rfl) ?_
    refine ao0 (sem_extract (by rfl) (by rfl) (by rfl)) (by rfl) (by rfl) ?_
    refine ao0 (em_assign (by rfl) (by rfl)) (by rfl) (by rfl) ?_
    refine ao0 (em_assign (by rfl) (by rfl)) (by rfl) (by rfl) ?_
    refine ao_nil (by first | dsimp only [setO, setE] | rfl) (by first | dsimp only [setM, setE, setR] | rfl) (by rfl) ?_
    refine AW.seq ?_
    refine AW.region ?_
    refine ao0 (em_move (by rfl) (by rfl)) (by rfl) (by rfl) ?_
    refine ao0 (em_move (by rfl) (by rfl)) (by rfl) (by rfl) ?_
    refine ao0 (em_move (by rfl) (by rfl)) (by rfl) (by rfl) ?_
    refine ao0 (em_assign (by rfl) (by rfl)) (by rfl) (by rfl) ?_
    refine ao0 (em_assign (by rfl) (by rfl)) (by rfl) (by rfl) ?_
    refine ao0 (em_assign (by rfl) (by rfl)) (by rfl) (by rfl) ?_
    refine ao_nil (by first | dsimp only [setO, setE] | rfl) (by first | dsimp only [setM, setE, setR] | rfl) (by rfl) ?_
    refine AW.ret ?_
    refine retA_data (n := 0) rfl (by rfl) ?_ rfl rfl _ (.inr rfl)
    rfl
def entVB (k t v : Int) : Bool := decide (0 ≤ k ∧ k ≤ 7 ∧ 0 ≤ t ∧ t ≤ 1000 ∧ -1000 ≤ v ∧ v ≤ 1000)
def entZ (k t v : Int) : List Nat := if entVB k t v = true then entL k.toNat t.toNat v else []
theorem entZ_bad {k t v : Int} (h : entVB k t v = false) : entZ k t v = [] := by unfold entZ; rw [h]; rfl
theorem entZ_good {k t : Nat} {v : Int} (h : entVB k t v = true) : entZ k t v = entL k t v := by unfold entZ; rw [if_pos h]; simp
theorem entVB_i {k t v : Int} (h : entVB k t v = true) : 0 ≤ k ∧ k ≤ 7 ∧ 0 ≤ t ∧ t ≤ 1000 ∧ -1000 ≤ v ∧ v ≤ 1000 := of_decide_eq_true h
theorem entZ_ok (k t v : Int) : (entVB k t v = false → entZ k t v = []) ∧ (∀ b ∈ entZ k t v, b ≤ 255) ∧ (entZ k t v).length ≤ 9 := by
  cases h : entVB k t v with
  | false => rw [entZ_bad h]; exact ⟨fun _ => rfl, (fun b hb => by cases hb), by simp⟩
  | true =>
    obtain ⟨h1, h2, h3, h4, h5, h6⟩ := entVB_i h
    obtain ⟨k, rfl⟩ := Int.eq_ofNat_of_zero_le h1
    obtain ⟨t, rfl⟩ := Int.eq_ofNat_of_zero_le h3
    rw [entZ_good h]
    refine ⟨(fun h => by cases h), fun b hb => ?_, (entL_length (by omega) h5 h6).2⟩
    have hbd := entB_bd (k := k) (t := t) (v := v) (by omega)
    have hbl := entB_len (k := k) (t := t) (v := v) (by omega) h5 h6
    have hs := sumF_bd (entB k t v)
    unfold entL at hb
    simp only [List.mem_append, List.mem_singleton] at hb
    rcases hb with (rfl | hb) | rfl
    · omega
    · exact hbd b hb
    · omega
theorem entVB_iff (k t v : Int) : entVB k t v = true ↔ entV k t v := by unfold entVB entV; rw [decide_eq_true_iff]
theorem sEntryOf_any (k t v : Int) : FnOk Try.prog noG 22 [.v false [.i .i64 k], .v true [.i .i64 t, .i .i64 v]] [] (.v false [.sl true (entVB k t v) (entZ k t v).length ((entZ k t v).map bD)]) [] := by
  cases h : entVB k t v with
  | false => rw [entZ_bad h]; exact EntryOf_bad k t v (fun h' => by rw [(entVB_iff k t v).2 h'] at h; cases h)
  | true =>
    obtain ⟨h1, h2, h3, h4, h5, h6⟩ := entVB_i h
    obtain ⟨k, rfl⟩ := Int.eq_ofNat_of_zero_le h1
    obtain ⟨t, rfl⟩ := Int.eq_ofNat_of_zero_le h3
    rw [entZ_good h]
    exact (EntryOf_ok k t v (by omega) (by omega) h5 h6).freeze
theorem iEntryOf_any (k t v : Int) : FnOk Try.prog noG 24 [.v false [.i .i64 k], .v true [.i .i64 t, .i .i64 v]] [] (.v false [.sl true (entVB k t v) (entZ k t v).length ((entZ k t v).map bD)]) [] := by
  cases h : entVB k t v with
  | false => rw [entZ_bad h]; exact iEntryOf_bad k t v (fun h' => by rw [(entVB_iff k t v).2 h'] at h; cases h)
  | true =>
    obtain ⟨h1, h2, h3, h4, h5, h6⟩ := entVB_i h
    obtain ⟨k, rfl⟩ := Int.eq_ofNat_of_zero_le h1
    obtain ⟨t, rfl⟩ := Int.eq_ofNat_of_zero_le h3
    rw [entZ_good h]
    exact (iEntryOf_ok k t v (by omega) (by omega) h5 h6).freeze
def recC (x : Rec3) : List C := [.i .i64 (x.1 : Int), .i .i64 (x.2.1 : Int), .i .i64 x.2.2]
def entO : Option Rec3 → List Nat
  | none => []
  | some x => entX x
def resI (o : Option Rec3) : A := .tup [(true, recC (o.getD (0, 0, 0))), (false, [.i .i64 ((entO o).length : Int)]), (false, [.b o.isSome])]
def resS (o : Option Rec3) : A := .tup [(true, recC (o.getD (0, 0, 0))), (false, [.i .i64 ((entO o).length : Int)])]
theorem IsE.gv {l : List Nat} {k t : Nat} {v : Int} (h : IsE l k t v) : l.getD 1 0 = k ∧ Proofs.Ytiibfkekcdkjdaa.gv (l.drop 2) 0 1 0 = (t, (putL t).length, true) ∧ Proofs.Ytiibfkekcdkjdaa.gv (l.drop (2 + (putL t).length)) 0 1 0 = (zig v, (putL (zig v)).length, true) := by
  obtain ⟨h1, h2, h3, h4, r, rfl⟩ := h
  have hz := zig_le h3 h4
  refine ⟨by rw [entL_cons]; rfl, by rw [entL_cons]; exact gv_put (by omega) _, ?_⟩
  rw [entL_cons, ← List.drop_drop]
  show Proofs.Ytiibfkekcdkjdaa.gv (List.drop (putL t).length (putL t ++ _)) 0 1 0 = _
  rw [drop_put]
  exact gv_put (by omega) _
set_option maxHeartbeats 1000000 in
theorem readEntry_ok (nn : Bool) (l : List Nat) (hl : l.length ≤ 1048576) (hnn : nn = false → l = []) (hb : ∀ b ∈ l, b ≤ 255) : FnOk Try.prog noG 55 [.v false [.sl false nn l.length (l.map bD)]] [] (resI (rdE l)) [] := by
  refine fnOk_of' (k := 0) tyOk Try.func55 rfl (by kernel_rfl) Try.ntmps55 (by rw [Try.results55]) rfl (by simp only [List.length_cons, List.length_nil, Nat.reduceAdd, Nat.reduceSub, List.replicate_succ, List.replicate_zero, List.cons_append, List.nil_append]; rfl) (by simp) (by simp) (fun r hr => by simp at hr) fun base => ?_
  refine AW.seq ?_
  refine AW.region ?_
  refine ao1 (sem_alloc tyOk (by rfl) (by rfl)) (by omega) (by rfl) (by rfl) ?_
  refine ao0 (em_assign (by rfl) (by rfl)) (by rfl) (by rfl) ?_
  refine ao0 (em_assign (by rfl) (by rfl)) (by rfl) (by rfl) ?_
  refine ao_nil (by first | dsimp only [setO, setE] | rfl) (by first | dsimp only [setM, setE, setR] | rfl) (by rfl) ?_
  refine AW.seq ?_
  refine AW.seq ?_
  refine AW.region ?_
  refine ao0 (em_move (by rfl) (by rfl)) (by rfl) (by rfl) ?_
  refine ao0 (sem_len tyOk (by rfl) (by rfl) (by rfl) (by rfl) (by first | exact .inl ⟨_, _, _, rfl⟩ | exact .inr ⟨_, _, rfl⟩)) (by rfl) (by rfl) ?_
  refine ao0 (em_binI (by rfl) (by rfl) (by rfl) (by rfl) (by first | rfl | trivial | exact ⟨rfl, by decide⟩ | exact ⟨rfl, by omega⟩ | decide | omega)) (by rfl) (by rfl) ?_
  refine ao_nil (by first | dsimp only [setO, setE] | rfl) (by first | dsimp only [setM, setE, setR] | rfl) (by rfl) ?_
  refine AW.cond (by rfl) (fun hc1 => ?_) (fun hc1 => ?_)
  · skip
    have hfin : rdE l = none := rdE_none fun k t v h => by have := h.len; simp at hc1; omega
    refine AW.seq ?_
    refine AW.region ?_
    refine ao0 (sem_build tyOk (by rfl) (by rfl) (by rfl) (by rfl)) (by rfl) (by rfl) ?_
    refine ao_store_box tyOk (by rfl) (by rfl) (by rfl) (by rfl) (by rfl) (by rfl) (by rfl) (by rfl) (by first | exact Nat.le_of_ble_eq_true rfl | decide | (simp; done) | omega) ?_
    refine ao0 (em_assign (by rfl) (by rfl)) (by rfl) (by rfl) ?_
    refine ao0 (em_assign (by rfl) (by rfl)) (by rfl) (by rfl) ?_
    refine ao_nil (by first | dsimp only [setO, setE] | rfl) (by first | dsimp only [setM, setE, setR] | rfl) (by rfl) ?_
    refine AW.ret ?_
    refine retA_data (n := 0) rfl (by rfl) ?_ rfl rfl _ (.inr rfl)
    rw [hfin]; rfl
  · skip
    have hl2 : 2 ≤ l.length := by simp at hc1; omega
    obtain rfl := nn_of (i := 1) hnn (by omega)
    have hb2 : ∀ b ∈ l.drop 2, b ≤ 255 := fun b h => hb b (List.mem_of_mem_drop h)
    obtain ⟨hs1, hs2⟩ := sl_tail bD l 2 (by omega) (by omega)
    rw [show (2 : Int).toNat = 2 from rfl] at hs1 hs2
    have hL2 : (l.drop 2).length = l.length - 2 := by simp
    refine AW.skip ?_
    refine AW.seq ?_
    refine AW.region ?_
    refine ao0 (em_move (by rfl) (by rfl)) (by rfl) (by rfl) ?_
    refine ao0 (sem_slice tyOk (by rfl) (by rfl) (by rfl) (by rfl) (by rfl) (by rfl) (by omega) (by omega) (by omega)) (by rfl) (by rfl) ?_
    refine ao0 (em_assign (by rfl) (by rfl)) (by rfl) (by rfl) ?_
    refine ao_nil (by first | dsimp only [setO, setE] | rfl) (by first | dsimp only [setM, setE, setR] | rfl) (by rfl) ?_
    rw [show (2 : Int).toNat = 2 from rfl, hs2, hs1]
    refine AW.seq ?_
    refine AW.region ?_
    refine ao0 (em_move (by rfl) (by rfl)) (by rfl) (by rfl) ?_
    refine ao_callL [] [] (GetVar_ok true (l.drop 2) (by simp) hb2 (by omega)) (by rfl) (by rfl) (by rfl) (by rfl) (by rfl) (by repeat' (first | exact True.intro | exact .inl ⟨by rfl, by rfl⟩ | exact rfl | exact .inr (.inl ⟨_, _, _, _, by rfl, by rfl⟩) | exact .inr (.inr ⟨_, _, _, _, _, _, by rfl, by rfl, by rfl, by first | exact .head _ | exact .tail _ (.head _) | exact .tail _ (.tail _ (.head _)) | exact .tail _ (.tail _ (.tail _ (.head _)))⟩) | refine And.intro ?_ ?_)) (by repeat' (first | exact True.intro | exact .inl ⟨by rfl, by rfl⟩ | exact rfl | exact .inl rfl | exact .inr (.inl ⟨_, _, _, _, by rfl, by rfl⟩) | exact .inr ⟨rfl, by simp [D.scalar, bD]⟩ | refine And.intro ?_ ?_)) (by rfl) (by rfl) (by rfl) (by decide) (by rfl) (by rfl) (by omega) (by first | rfl | (simp [keptB, notGone, (by rfl).live]; done)) (by rfl) (by rfl) (by rfl) (by rfl) (by rfl) (by rfl) (by rfl) ?_
    refine ao0 (sem_move (.inl (by rfl))) (by rfl) (by rfl) ?_
    refine ao0 (sem_extract (by rfl) (by rfl) (by rfl)) (by rfl) (by rfl) ?_
    refine ao0 (sem_extract (by rfl) (by rfl) (by rfl)) (by rfl) (by rfl) ?_
    refine ao0 (sem_extract (by rfl) (by rfl) (by rfl)) (by rfl) (by rfl) ?_
    refine ao0 (em_assign (by rfl) (by rfl)) (by rfl) (by rfl) ?_
    refine ao0 (em_assign (by rfl) (by rfl)) (by rfl) (by rfl) ?_
    refine ao0 (em_assign (by rfl) (by rfl)) (by rfl) (by rfl) ?_
    refine ao_nil (by first | dsimp only [setO, setE] | rfl) (by first | dsimp only [setM, setE, setR] | rfl) (by rfl) ?_
    refine AW.seq ?_
    refine AW.seq ?_
    refine AW.region ?_
    refine ao0 (em_move (by rfl) (by rfl)) (by rfl) (by rfl) ?_
    refine ao0 (sem_unOp (by rfl) (by rfl) (by rfl)) (by rfl) (by rfl) ?_
    refine ao_nil (by first | dsimp only [setO, setE] | rfl) (by first | dsimp only [setM, setE, setR] | rfl) (by rfl) ?_
    refine AW.cond (by rfl) (fun hc2 => ?_) (fun hc2 => ?_)
    · skip
      have hfin : rdE l = none := rdE_none fun k t v h => by rw [h.gv.2.1] at hc2; simp at hc2
      refine AW.seq ?_
      refine AW.region ?_
      refine ao0 (sem_build tyOk (by rfl) (by rfl) (by rfl) (by rfl)) (by rfl) (by rfl) ?_
      refine ao_store_box tyOk (by rfl) (by rfl) (by rfl) (by rfl) (by rfl) (by rfl) (by rfl) (by rfl) (by first | exact Nat.le_of_ble_eq_true rfl | decide | (simp; done) | omega) ?_
      refine ao0 (em_assign (by rfl) (by rfl)) (by rfl) (by rfl) ?_
      refine ao0 (em_assign (by rfl) (by rfl)) (by rfl) (by rfl) ?_
      refine ao_nil (by first | dsimp only [setO, setE] | rfl) (by first | dsimp only [setM, setE, setR] | rfl) (by rfl) ?_
      refine AW.ret ?_
      refine retA_data (n := 0) rfl (by rfl) ?_ rfl rfl _ (.inr rfl)
      rw [hfin]; rfl
    · skip
      obtain ⟨n1, r1, hn1, hr1, hg1⟩ := gv_inv hb2 (by simpa using hc2)
      have hlr : (putL n1).length + r1.length = (l.drop 2).length := by rw [hr1]; simp
      have hb3 : ∀ b ∈ r1, b ≤ 255 := fun b h => hb2 b (by rw [hr1]; exact List.mem_append_right _ h)
      obtain ⟨ht1, ht2⟩ := sl_tail bD (l.drop 2) ((putL n1).length : Int) (by omega) (by omega)
      rw [Int.toNat_natCast] at ht1 ht2
      have hd1 : (l.drop 2).drop (putL n1).length = r1 := by rw [hr1, drop_put]
      rw [hd1] at ht1 ht2
      rw [hg1]
      dsimp only
      refine AW.skip ?_
      refine AW.seq ?_
      refine AW.region ?_
      refine ao0 (em_move (by rfl) (by rfl)) (by rfl) (by rfl) ?_
      refine ao0 (em_move (by rfl) (by rfl)) (by rfl) (by rfl) ?_
      refine ao0 (sem_slice tyOk (by rfl) (by rfl) (by rfl) (by rfl) (by rfl) (by rfl) (by omega) (by omega) (by omega)) (by rfl) (by rfl) ?_
      rw [Int.toNat_natCast, ht2, ht1]
      refine ao_callL [] [] (getZigzag_ok true r1 (by simp) hb3 (by omega)) (by rfl) (by rfl) (by rfl) (by rfl) (by rfl) (by repeat' (first | exact True.intro | exact .inl ⟨by rfl, by rfl⟩ | exact rfl | exact .inr (.inl ⟨_, _, _, _, by rfl, by rfl⟩) | exact .inr (.inr ⟨_, _, _, _, _, _, by rfl, by rfl, by rfl, by first | exact .head _ | exact .tail _ (.head _) | exact .tail _ (.tail _ (.head _)) | exact .tail _ (.tail _ (.tail _ (.head _)))⟩) | refine And.intro ?_ ?_)) (by repeat' (first | exact True.intro | exact .inl ⟨by rfl, by rfl⟩ | exact rfl | exact .inl rfl | exact .inr (.inl ⟨_, _, _, _, by rfl, by rfl⟩) | exact .inr ⟨rfl, by simp [D.scalar, bD]⟩ | refine And.intro ?_ ?_)) (by rfl) (by rfl) (by rfl) (by decide) (by rfl) (by rfl) (by omega) (by first | rfl | (simp [keptB, notGone, (by rfl).live]; done)) (by rfl) (by rfl) (by rfl) (by rfl) (by rfl) (by rfl) (by rfl) ?_
      refine ao0 (sem_move (.inl (by rfl))) (by rfl) (by rfl) ?_
      refine ao0 (sem_extract (by rfl) (by rfl) (by rfl)) (by rfl) (by rfl) ?_
      refine ao0 (sem_extract (by rfl) (by rfl) (by rfl)) (by rfl) (by rfl) ?_
      refine ao0 (sem_extract (by rfl) (by rfl) (by rfl)) (by rfl) (by rfl) ?_
      refine ao0 (em_assign (by rfl) (by rfl)) (by rfl) (by rfl) ?_
      refine ao0 (em_assign (by rfl) (by rfl)) (by rfl) (by rfl) ?_
      refine ao0 (em_assign (by rfl) (by rfl)) (by rfl) (by rfl) ?_
      refine ao_nil (by first | dsimp only [setO, setE] | rfl) (by first | dsimp only [setM, setE, setR] | rfl) (by rfl) ?_
      refine AW.seq ?_
      refine AW.seq ?_
      refine AW.region ?_
      refine ao0 (em_move (by rfl) (by rfl)) (by rfl) (by rfl) ?_
      refine ao0 (sem_unOp (by rfl) (by rfl) (by rfl)) (by rfl) (by rfl) ?_
      refine ao_nil (by first | dsimp only [setO, setE] | rfl) (by first | dsimp only [setM, setE, setR] | rfl) (by rfl) ?_
      refine AW.cond (by rfl) (fun hc3 => ?_) (fun hc3 => ?_)
      · skip
        have hfin : rdE l = none := rdE_none fun k t v h => by
          have e1 := h.gv.2.1
          have e2 := h.gv.2.2
          rw [hg1] at e1
          have e3 := congrArg Prod.fst e1
          dsimp only at e3
          subst e3
          rw [← List.drop_drop, hd1] at e2
          have e4 : (gz r1).2.2 = true := by unfold gz; rw [if_pos (by rw [e2])]
          rw [e4] at hc3; simp at hc3
        refine AW.seq ?_
        refine AW.region ?_
        refine ao0 (sem_build tyOk (by rfl) (by rfl) (by rfl) (by rfl)) (by rfl) (by rfl) ?_
        refine ao_store_box tyOk (by rfl) (by rfl) (by rfl) (by rfl) (by rfl) (by rfl) (by rfl) (by rfl) (by first | exact Nat.le_of_ble_eq_true rfl | decide | (simp; done) | omega) ?_
        refine ao0 (em_assign (by rfl) (by rfl)) (by rfl) (by rfl) ?_
        refine ao0 (em_assign (by rfl) (by rfl)) (by rfl) (by rfl) ?_
        refine ao_nil (by first | dsimp only [setO, setE] | rfl) (by first | dsimp only [setM, setE, setR] | rfl) (by rfl) ?_
        refine AW.ret ?_
        refine retA_data (n := 0) rfl (by rfl) ?_ rfl rfl _ (.inr rfl)
        rw [hfin]; rfl
      · skip
        have hz0 : (gz r1).2.2 = true := by simpa using hc3
        have hz3 : (gv r1 0 1 0).2.2 = true := by unfold gz at hz0; split at hz0; assumption; cases hz0
        obtain ⟨n2, r2, hn2, hr2, hg2⟩ := gv_inv hb3 hz3
        have hgz : gz r1 = (unz n2, (putL n2).length, true) := by unfold gz; rw [if_pos hz3, hg2]
        rw [hgz]
        dsimp only
        have HD := drop_bZ l 1 (by omega) (by omega)
        obtain ⟨kk, hkk⟩ : ∃ kk, kk = l.getD 1 0 := ⟨_, rfl⟩
        have hk255 : kk ≤ 255 := by rw [hkk]; exact getD_255 hb 1
        rw [show l.getD (1 : Int).toNat 0 = kk from hkk.symm] at HD
        obtain ⟨hz1, hz2, hz3⟩ := entZ_ok (kk : Int) (n1 : Int) (unz n2)
        refine AW.skip ?_
        refine AW.seq ?_
        refine AW.region ?_
        refine ao0 (em_move (by rfl) (by rfl)) (by rfl) (by rfl) ?_
        refine ao0 (sem_indexR tyOk (by rfl) (by rfl) (by rfl) (by rfl) (by rfl) HD (by omega) (by omega)) (by rfl) (by rfl) ?_
        refine ao_load tyOk (by rfl) (by rfl) (by rfl) (by rfl) (by rfl) (by rfl) (by rfl) (by first | trivial | exact Nat.le_of_ble_eq_true rfl | decide | (simp; done) | omega) ?_
        refine ao0 (em_conv tyOk (by rfl) (by rfl) (by rfl) (by rfl) (by rfl) (by omega) (by omega)) (by rfl) (by rfl) ?_
        refine ao0 (em_move (by rfl) (by rfl)) (by rfl) (by rfl) ?_
        refine ao0 (em_move (by rfl) (by rfl)) (by rfl) (by rfl) ?_
        refine ao0 (sem_build tyOk (by rfl) (by rfl) (by rfl) (by rfl)) (by rfl) (by rfl) ?_
        refine ao0 (sem_build tyOk (by rfl) (by rfl) (by rfl) (by rfl)) (by rfl) (by rfl) ?_
        refine ao1 (sem_alloc tyOk (by rfl) (by rfl)) (by omega) (by rfl) (by rfl) ?_
        refine ao_store_box tyOk (by rfl) (by rfl) (by rfl) (by rfl) (by rfl) (by rfl) (by rfl) (by rfl) (by first | exact Nat.le_of_ble_eq_true rfl | decide | (simp; done) | omega) ?_
        refine ao_nil (by first | dsimp only [setO, setE] | rfl) (by first | dsimp only [setM, setE, setR] | rfl) (by rfl) ?_
        refine AW.seq ?_
        refine AW.region ?_
        refine ao0 (sem_fieldAddr tyOk (by rfl) (by rfl) (by rfl) (by rfl) (by rfl) (by rfl)) (by rfl) (by rfl) ?_
        refine ao_load tyOk (by rfl) (by rfl) (by rfl) (by rfl) (by rfl) (by rfl) (by rfl) (by first | trivial | exact Nat.le_of_ble_eq_true rfl | decide | (simp; done) | omega) ?_
        refine ao0 (sem_fieldAddr tyOk (by rfl) (by rfl) (by rfl) (by rfl) (by rfl) (by rfl)) (by rfl) (by rfl) ?_
        refine ao_load tyOk (by rfl) (by rfl) (by rfl) (by rfl) (by rfl) (by rfl) (by rfl) (by first | trivial | exact Nat.le_of_ble_eq_true rfl | decide | (simp; done) | omega) ?_
        refine ao_callL [] [] (iEntryOf_any (kk : Int) (n1 : Int) (unz n2)) (by rfl) (by rfl) (by rfl) (by rfl) (by rfl) (by repeat' (first | exact True.intro | exact .inl ⟨by rfl, by rfl⟩ | exact rfl | exact .inr (.inl ⟨_, _, _, _, by rfl, by rfl⟩) | exact .inr (.inr ⟨_, _, _, _, _, _, by rfl, by rfl, by rfl, by first | exact .head _ | exact .tail _ (.head _) | exact .tail _ (.tail _ (.head _)) | exact .tail _ (.tail _ (.tail _ (.head _)))⟩) | refine And.intro ?_ ?_)) (by repeat' (first | exact True.intro | exact .inl ⟨by rfl, by rfl⟩ | exact rfl | exact .inl rfl | exact .inr (.inl ⟨_, _, _, _, by rfl, by rfl⟩) | exact .inr ⟨rfl, by simp [D.scalar, bD]⟩ | refine And.intro ?_ ?_)) (by rfl) (by rfl) (by rfl) (by decide) (by rfl) (by rfl) (by omega) (by first | rfl | (simp [keptB, notGone, (by rfl).live]; done)) (by rfl) (by rfl) (by rfl) (by rfl) (by rfl) (by rfl) (by rfl) ?_
        refine ao0 (em_assign (by rfl) (by rfl)) (by rfl) (by rfl) ?_
        refine ao_nil (by first | dsimp only [setO, setE] | rfl) (by first | dsimp only [setM, setE, setR] | rfl) (by rfl) ?_
        refine AW.seq ?_
        refine AW.seq ?_
        refine AW.region ?_
        refine ao0 (em_move (by rfl) (by rfl)) (by rfl) (by rfl) ?_
        refine ao0 (sem_nilS tyOk (by rfl) (by rfl) (by rfl) (by rfl) (by rfl) (by first | exact .inl ⟨rfl, rfl⟩ | exact .inr ⟨rfl, rfl⟩)) (by rfl) (by rfl) ?_
        refine ao0 (em_move (by rfl) (by rfl)) (by rfl) (by rfl) ?_
        refine ao_opt (by rfl) (by rfl) (fun he => astep0 (em_move (by rfl) (by rfl))) ?_
        refine ao_opt (by rfl) (by rfl) (fun he => astep0 (em_move (by rfl) (by rfl))) ?_
        refine ao_opt (by rfl) (by rfl) (fun he => by rw [he]; exact astep_callL [] [] (hasPrefix_ok true (entVB (kk : Int) (n1 : Int) (unz n2)) l (entZ (kk : Int) (n1 : Int) (unz n2)) (by simp) hz1 hb hz2) (by rfl) (by rfl) (by rfl) (by repeat' (first | exact True.intro | exact .inl ⟨by rfl, by rfl⟩ | exact rfl | exact .inr (.inl ⟨_, _, _, _, by rfl, by rfl⟩) | exact .inr (.inr ⟨_, _, _, _, _, _, by rfl, by rfl, by rfl, by first | exact .head _ | exact .tail _ (.head _) | exact .tail _ (.tail _ (.head _)) | exact .tail _ (.tail _ (.tail _ (.head _)))⟩) | refine And.intro ?_ ?_)) (by repeat' (first | exact True.intro | exact .inl ⟨by rfl, by rfl⟩ | exact rfl | exact .inl rfl | exact .inr (.inl ⟨_, _, _, _, by rfl, by rfl⟩) | exact .inr ⟨rfl, by simp [D.scalar, bD]⟩ | refine And.intro ?_ ?_)) (by rfl) (by rfl) (by rfl) (by decide) (by rfl) (by rfl) (by omega) (by first | rfl | (simp [keptB, notGone, (by rfl).live]; done)) (by rfl) (by rfl) (by rfl) (by rfl) (by rfl) (by rfl) (by rfl)) ?_
        refine ao_opt (by rfl) (by rfl) (fun he => by rw [he]; exact astep0 (sem_unOp (by rfl) (by rfl) (by rfl))) ?_
        refine ao0 (sem_pickg (by rfl) (by rfl) (by rfl) (by rfl) (by intro hh; first | rfl | exact hh | (exact Bool.noConfusion hh) | (simp [wexp]; done) | (simp [wexp] at hh; done) | (simpa [wexp] using hh) | (simp_all; done)) (by intro hh; first | rfl | exact hh | (exact Bool.noConfusion hh) | (simp [wexp]; done) | (simp [wexp] at hh; done) | (simpa [wexp] using hh) | (simp_all; done))) (by rfl) (by rfl) ?_
        refine ao_nil (by first | dsimp only [setO, setE] | rfl) (by first | dsimp only [setM, setE, setR] | rfl) (by rfl) ?_
        refine AW.cond (by rfl) (fun hc4 => ?_) (fun hc4 => ?_)
        · skip
          have hfin : rdE l = none := rdE_none fun k t v h => by
            obtain ⟨e0, e1, e2⟩ := h.gv
            rw [hg1] at e1
            have e3 := congrArg Prod.fst e1
            dsimp only at e3
            subst e3
            rw [← List.drop_drop, hd1, hg2] at e2
            have e4 := congrArg Prod.fst e2
            dsimp only at e4
            rw [← hkk] at e0
            subst e0 e4
            rw [unz_zig] at hc4
            obtain ⟨h1, h2, h3, h4, r, h5⟩ := h
            have hv : entVB (kk : Int) (n1 : Int) v = true := decide_eq_true ⟨by omega, by omega, by omega, by omega, h3, h4⟩
            rw [entZ_good hv, hv] at hc4
            have hp : (entL kk n1 v).isPrefixOf l = true := List.isPrefixOf_iff_prefix.2 ⟨r, h5.symm⟩
            rw [hp] at hc4; simp at hc4
          refine AW.seq ?_
          refine AW.region ?_
          refine ao0 (sem_build tyOk (by rfl) (by rfl) (by rfl) (by rfl)) (by rfl) (by rfl) ?_
          refine ao_store_box tyOk (by rfl) (by rfl) (by rfl) (by rfl) (by rfl) (by rfl) (by rfl) (by rfl) (by first | exact Nat.le_of_ble_eq_true rfl | decide | (simp; done) | omega) ?_
          refine ao0 (em_assign (by rfl) (by rfl)) (by rfl) (by rfl) ?_
          refine ao0 (em_assign (by rfl) (by rfl)) (by rfl) (by rfl) ?_
          refine ao_nil (by first | dsimp only [setO, setE] | rfl) (by first | dsimp only [setM, setE, setR] | rfl) (by rfl) ?_
          refine AW.ret ?_
          refine retA_data (n := 0) rfl (by rfl) ?_ rfl rfl _ (.inr rfl)
          rw [hfin]; rfl
        · skip
          obtain ⟨hv, hp⟩ := or_F hc4
          have hv : entVB (kk : Int) (n1 : Int) (unz n2) = true := by simpa using hv
          have hp : (entZ (kk : Int) (n1 : Int) (unz n2)).isPrefixOf l = true := by simpa using hp
          obtain ⟨r, hr⟩ := List.isPrefixOf_iff_prefix.1 hp
          have hez := entZ_good hv
          have hvi := entVB_i hv
          have hfin : rdE l = some (kk, n1, unz n2) := rdE_is ⟨by omega, by omega, by omega, by omega, r, by rw [← hez]; exact hr.symm⟩
          rw [hez]
          refine AW.skip ?_
          refine AW.seq ?_
          refine AW.region ?_
          refine ao_load tyOk (by rfl) (by rfl) (by rfl) (by rfl) (by rfl) (by rfl) (by rfl) (by first | trivial | exact Nat.le_of_ble_eq_true rfl | decide | (simp; done) | omega) ?_
          refine ao0 (em_move (by rfl) (by rfl)) (by rfl) (by rfl) ?_
          refine ao0 (sem_len tyOk (by rfl) (by rfl) (by rfl) (by rfl) (by first | exact .inl ⟨_, _, _, rfl⟩ | exact .inr ⟨_, _, rfl⟩)) (by rfl) (by rfl) ?_
          refine ao_store_box tyOk (by rfl) (by rfl) (by rfl) (by rfl) (by rfl) (by rfl) (by rfl) (by rfl) (by first | exact Nat.le_of_ble_eq_true rfl | decide | (simp; done) | omega) ?_
          refine ao0 (em_assign (by rfl) (by rfl)) (by rfl) (by rfl) ?_
          refine ao0 (em_assign (by rfl) (by rfl)) (by rfl) (by rfl) ?_
          refine ao_nil (by first | dsimp only [setO, setE] | rfl) (by first | dsimp only [setM, setE, setR] | rfl) (by rfl) ?_
          refine AW.ret ?_
          refine retA_data (n := 0) rfl (by rfl) ?_ rfl rfl _ (.inr rfl)
          rw [hfin]; rfl
end Go.Proofs.Ytiibfkekcdkjdaa
