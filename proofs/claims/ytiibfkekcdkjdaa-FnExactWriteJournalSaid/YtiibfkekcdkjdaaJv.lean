/-
  Numbers read back out of their bytes: the program's text.
-/
import Derived.Test.YtiibfkekcdkjdaaJy
import Derived.Test.YtiibfkekcdkjdaaJs
namespace Go.Proofs.Ytiibfkekcdkjdaa
open Go
set_option linter.unusedVariables false
set_option linter.unusedSimpArgs false
set_option linter.unnecessarySimpa false

def gv : List Nat → Nat → Nat → Nat → Nat × Nat × Bool
  | [], _, _, _ => (0, 0, false)
  | b :: bs, acc, sc, i => if 200000 < acc + b % 128 * sc then (0, 0, false) else if b < 128 then (if b = 0 ∧ 0 < i then (0, 0, false) else (acc + b % 128 * sc, i + 1, true)) else if i = 3 then (0, 0, false) else gv bs (acc + b % 128 * sc) (sc * 128) (i + 1)
theorem gv_cons (b : Nat) (bs : List Nat) (acc sc i : Nat) : gv (b :: bs) acc sc i = if 200000 < acc + b % 128 * sc then (0, 0, false) else if b < 128 then (if b = 0 ∧ 0 < i then (0, 0, false) else (acc + b % 128 * sc, i + 1, true)) else if i = 3 then (0, 0, false) else gv bs (acc + b % 128 * sc) (sc * 128) (i + 1) := rfl
structure GvI (l : List Nat) (x : Nat × Nat × Nat) : Prop where
  le : x.1 ≤ l.length
  le3 : x.1 ≤ 3
  acc : x.2.1 ≤ 200000
  sc : x.2.2 = 128 ^ x.1
  eq : gv l 0 1 0 = gv (l.drop x.1) x.2.1 x.2.2 x.1
set_option maxHeartbeats 1000000 in
theorem GetVar_ok (nn : Bool) (l : List Nat) (hnn : nn = false → l = []) (hb : ∀ b ∈ l, b ≤ 255) (hl : l.length ≤ 1048576) : FnOk Try.prog noG 63 [.v false [.sl false nn l.length (l.map bD)]] [] (.tup [(false, [.i .i64 ((gv l 0 1 0).1 : Int)]), (false, [.i .i64 ((gv l 0 1 0).2.1 : Int)]), (false, [.b (gv l 0 1 0).2.2])]) [] := by
  refine fnOk_of' (k := 0) tyOk Try.func63 rfl (by kernel_rfl) Try.ntmps63 (by rw [Try.results63]) rfl (by simp only [List.length_cons, List.length_nil, Nat.reduceAdd, Nat.reduceSub, List.replicate_succ, List.replicate_zero, List.cons_append, List.nil_append]; rfl) (by simp) (by simp) (fun r hr => by simp at hr) fun base => ?_
  refine AW.seq ?_
  refine AW.region ?_
  refine ao0 (em_assign (by rfl) (by rfl)) (by rfl) (by rfl) ?_
  refine ao0 (em_assign (by rfl) (by rfl)) (by rfl) (by rfl) ?_
  refine ao0 (em_assign (by rfl) (by rfl)) (by rfl) (by rfl) ?_
  refine ao_nil (by first | dsimp only [setO, setE] | rfl) (by first | dsimp only [setM, setE, setR] | rfl) (by rfl) ?_
  refine AW.seq ?_
  refine AW.region ?_
  refine ao0 (em_assign (by rfl) (by rfl)) (by rfl) (by rfl) ?_
  refine ao0 (em_assign (by rfl) (by rfl)) (by rfl) (by rfl) ?_
  refine ao_nil (by first | dsimp only [setO, setE] | rfl) (by first | dsimp only [setM, setE, setR] | rfl) (by rfl) ?_
  refine AW.seq ?_
  refine AW.seq ?_
  refine AW.region ?_
  refine ao0 (em_move (by rfl) (by rfl)) (by rfl) (by rfl) ?_
  refine ao0 (sem_len tyOk (by rfl) (by rfl) (by rfl) (by rfl) (by first | exact .inl ⟨_, _, _, rfl⟩ | exact .inr ⟨_, _, rfl⟩)) (by rfl) (by rfl) ?_
  refine ao0 (em_move (by rfl) (by rfl)) (by rfl) (by rfl) ?_
  refine ao_nil (by first | dsimp only [setO, setE] | rfl) (by first | dsimp only [setM, setE, setR] | rfl) (by rfl) ?_
  refine AW.block ?_
  refine AW.loopU (X := {x : Nat × Nat × Nat // GvI l x}) (fun x => [(11, .v false [.i .i64 (x.1.1 : Int)]), (5, .v false [.i .i64 (x.1.2.1 : Int)]), (6, .v false [.i .i64 (x.1.2.2 : Int)]), (0, .any), (1, .any), (2, .any), (3, .any), (4, .any), (7, .any), (8, .any), (12, .any), (13, .any), (14, .any), (15, .any), (16, .any), (17, .any), (18, .any), (19, .any), (20, .any), (21, .any), (22, .any), (23, .any), (24, .any), (25, .any), (26, .any), (27, .any), (28, .any), (29, .any), (30, .any), (31, .any), (32, .any), (33, .any), (34, .any), (35, .any), (36, .any), (37, .any), (38, .any), (39, .any), (40, .any)]) (fun x => []) 0 (fun x => l.length - x.1.1) ⟨(0, 0, 1), ⟨Nat.zero_le _, by decide, by decide, rfl, rfl⟩⟩ ?_ ?_
  · skip
    dsimp only [updL, setE]
    refine into_lists [] ?_ ?_ rfl rfl (by decide) (by rfl) (by rfl) (by rfl) (by rfl) (by omega)
    all_goals (try (repeat' (first | exact True.intro | exact Or.inl rfl | exact Or.inr (Or.inl rfl) | refine And.intro ?_ ?_ | exact le_i (by omega) | exact le_own (by rfl) (by rfl) (by first | rfl | omega) | exact le_arr (by rfl) (by rfl) (by first | rfl | omega) (by rfl) | exact Or.inr (Or.inr (Or.inl ⟨_, _, rfl, rfl⟩)) | exact Or.inr (Or.inr ⟨_, _, rfl⟩) | exact Or.inr (Or.inr (Or.inr ⟨_, _, _, _, rfl, rfl⟩)))))
  · intro x
    refine AW.norm (by first | dsimp only [updL, setE] | rfl) rfl rfl ?_
    obtain ⟨⟨i, acc, sc⟩, hx⟩ := x
    obtain ⟨hi, hi3, hacc, hsc, heq⟩ := hx
    dsimp only at hi hi3 hacc hsc heq ⊢
    refine AW.seq ?_
    refine AW.region ?_
    refine ao0 (em_binI (by rfl) (by rfl) (by rfl) (by rfl) (by first | rfl | trivial | exact ⟨rfl, by decide⟩ | exact ⟨rfl, by omega⟩ | decide | omega)) (by rfl) (by rfl) ?_
    refine ao_nil (by first | dsimp only [setO, setE] | rfl) (by first | dsimp only [setM, setE, setR] | rfl) (by rfl) ?_
    refine AW.seq ?_
    refine AW.cond (by rfl) (fun hc1 => ?_) (fun hc1 => ?_)
    · skip
      have hlt : i < l.length := by simp at hc1; omega
      obtain rfl := nn_of hnn hlt
      have HD := drop_bD l i hlt
      obtain ⟨b, hbe⟩ : ∃ b, b = l[i] := ⟨_, rfl⟩
      have hbb : b ≤ 255 := by rw [hbe]; exact hb _ (List.getElem_mem hlt)
      have hm : 1 ≤ sc ∧ sc ≤ 2097152 ∧ b % 128 * sc ≤ 266338304 := by subst hsc; have h4 : i = 0 ∨ i = 1 ∨ i = 2 ∨ i = 3 := (by omega); rcases h4 with rfl | rfl | rfl | rfl <;> exact ⟨by decide, by decide, by omega⟩
      have hm2 : ((b : Int) % 128) * (sc : Int) = ((b % 128 * sc : Nat) : Int) := by rw [Int.natCast_mul, Int.natCast_emod]; rfl
      rw [← hbe] at HD
      rw [List.drop_eq_getElem_cons hlt, ← hbe] at heq
      rw [gv_cons] at heq
      refine AW.skip ?_
      refine AW.seq ?_
      refine AW.block ?_
      refine AW.seq ?_
      refine AW.region ?_
      refine ao0 (em_move (by rfl) (by rfl)) (by rfl) (by rfl) ?_
      refine ao0 (sem_indexR tyOk (by rfl) (by rfl) (by rfl) (by rfl) (by rfl) HD (by omega) (by omega)) (by rfl) (by rfl) ?_
      refine ao_load tyOk (by rfl) (by rfl) (by rfl) (by rfl) (by rfl) (by rfl) (by rfl) (by first | trivial | exact Nat.le_of_ble_eq_true rfl | decide | (simp; done) | omega) ?_
      refine ao0 (em_assign (by rfl) (by rfl)) (by rfl) (by rfl) ?_
      refine ao0 (em_assign (by rfl) (by rfl)) (by rfl) (by rfl) ?_
      refine ao_nil (by first | dsimp only [setO, setE] | rfl) (by first | dsimp only [setM, setE, setR] | rfl) (by rfl) ?_
      refine AW.seq ?_
      refine AW.region ?_
      refine ao0 (em_move (by rfl) (by rfl)) (by rfl) (by rfl) ?_
      refine ao0 (em_move (by rfl) (by rfl)) (by rfl) (by rfl) ?_
      refine ao0 (em_rem (by rfl) (by rfl) (by rfl) (by omega) (by omega)) (by rfl) (by rfl) ?_
      refine ao0 (em_conv tyOk (by rfl) (by rfl) (by rfl) (by rfl) (by rfl) (by omega) (by omega)) (by rfl) (by rfl) ?_
      refine ao0 (em_move (by rfl) (by rfl)) (by rfl) (by rfl) ?_
      refine ao0 (em_mul (by rfl) (by rfl) (by rfl) (by omega) (by omega)) (by rfl) (by rfl) ?_
      refine ao0 (em_add (by rfl) (by rfl) (by rfl) (by omega) (by omega)) (by rfl) (by rfl) ?_
      refine ao0 (em_assign (by rfl) (by rfl)) (by rfl) (by rfl) ?_
      refine ao_nil (by first | dsimp only [setO, setE] | rfl) (by first | dsimp only [setM, setE, setR] | rfl) (by rfl) ?_
      rw [hm2, show (acc : Int) + ((b % 128 * sc : Nat) : Int) = ((acc + b % 128 * sc : Nat) : Int) by omega]
      refine AW.seq ?_
      refine AW.seq ?_
      refine AW.region ?_
      refine ao0 (em_move (by rfl) (by rfl)) (by rfl) (by rfl) ?_
      refine ao0 (em_binI (by rfl) (by rfl) (by rfl) (by rfl) (by first | rfl | trivial | exact ⟨rfl, by decide⟩ | exact ⟨rfl, by omega⟩ | decide | omega)) (by rfl) (by rfl) ?_
      refine ao_nil (by first | dsimp only [setO, setE] | rfl) (by first | dsimp only [setM, setE, setR] | rfl) (by rfl) ?_
      refine AW.cond (by rfl) (fun hc2 => ?_) (fun hc2 => ?_)
      · skip
        have hfin : gv l 0 1 0 = (0, 0, false) := by rw [heq, if_pos (by simp at hc2; omega)]
        refine AW.seq ?_
        refine AW.region ?_
        refine ao0 (em_assign (by rfl) (by rfl)) (by rfl) (by rfl) ?_
        refine ao0 (em_assign (by rfl) (by rfl)) (by rfl) (by rfl) ?_
        refine ao0 (em_assign (by rfl) (by rfl)) (by rfl) (by rfl) ?_
        refine ao_nil (by first | dsimp only [setO, setE] | rfl) (by first | dsimp only [setM, setE, setR] | rfl) (by rfl) ?_
        refine AW.ret ?_
        refine retA_data (n := 0) rfl (by rfl) ?_ rfl rfl _ (.inr rfl)
        rw [hfin]; rfl
      · skip
        have h2 : ¬ 200000 < acc + b % 128 * sc := by simp at hc2; omega
        rw [if_neg h2] at heq
        refine AW.skip ?_
        refine AW.seq ?_
        refine AW.seq ?_
        refine AW.region ?_
        refine ao0 (em_move (by rfl) (by rfl)) (by rfl) (by rfl) ?_
        refine ao0 (em_binI (by rfl) (by rfl) (by rfl) (by rfl) (by first | rfl | trivial | exact ⟨rfl, by decide⟩ | exact ⟨rfl, by omega⟩ | decide | omega)) (by rfl) (by rfl) ?_
        refine ao_nil (by first | dsimp only [setO, setE] | rfl) (by first | dsimp only [setM, setE, setR] | rfl) (by rfl) ?_
        refine AW.cond (by rfl) (fun hc3 => ?_) (fun hc3 => ?_)
        · skip
          rw [if_pos (show b < 128 by simp at hc3; omega)] at heq
          refine AW.seq ?_
          refine AW.seq ?_
          refine AW.region ?_
          refine ao0 (em_move (by rfl) (by rfl)) (by rfl) (by rfl) ?_
          refine ao0 (em_binI (by rfl) (by rfl) (by rfl) (by rfl) (by first | rfl | trivial | exact ⟨rfl, by decide⟩ | exact ⟨rfl, by omega⟩ | decide | omega)) (by rfl) (by rfl) ?_
          refine ao0 (em_move (by rfl) (by rfl)) (by rfl) (by rfl) ?_
          refine ao_opt (by rfl) (by rfl) (fun he => astep0 (em_move (by rfl) (by rfl))) ?_
          refine ao_opt (by rfl) (by rfl) (fun he => by rw [he]; exact astep0 (em_binI (by rfl) (by rfl) (by rfl) (by rfl) (by first | rfl | trivial | exact ⟨rfl, by decide⟩ | exact ⟨rfl, by omega⟩ | decide | omega))) ?_
          refine ao0 (sem_pickg (by rfl) (by rfl) (by rfl) (by rfl) (by intro hh; first | rfl | exact hh | (exact Bool.noConfusion hh) | (simp [wexp]; done) | (simp [wexp] at hh; done) | (simpa [wexp] using hh) | (simp_all; done)) (by intro hh; first | rfl | exact hh | (exact Bool.noConfusion hh) | (simp [wexp]; done) | (simp [wexp] at hh; done) | (simpa [wexp] using hh) | (simp_all; done))) (by rfl) (by rfl) ?_
          refine ao_nil (by first | dsimp only [setO, setE] | rfl) (by first | dsimp only [setM, setE, setR] | rfl) (by rfl) ?_
          refine AW.cond (by rfl) (fun hc4 => ?_) (fun hc4 => ?_)
          · skip
            obtain ⟨ha, hb4⟩ := and_T hc4
            have hfin : gv l 0 1 0 = (0, 0, false) := by rw [heq, if_pos ⟨by simp at ha; omega, by simp at hb4; omega⟩]
            refine AW.seq ?_
            refine AW.region ?_
            refine ao0 (em_assign (by rfl) (by rfl)) (by rfl) (by rfl) ?_
            refine ao0 (em_assign (by rfl) (by rfl)) (by rfl) (by rfl) ?_
            refine ao0 (em_assign (by rfl) (by rfl)) (by rfl) (by rfl) ?_
            refine ao_nil (by first | dsimp only [setO, setE] | rfl) (by first | dsimp only [setM, setE, setR] | rfl) (by rfl) ?_
            refine AW.ret ?_
            refine retA_data (n := 0) rfl (by rfl) ?_ rfl rfl _ (.inr rfl)
            rw [hfin]; rfl
          · skip
            have hfin : gv l 0 1 0 = (acc + b % 128 * sc, i + 1, true) := by rw [heq, if_neg (fun hh => by rcases and_F hc4 with h | h <;> simp at h <;> omega)]
            refine AW.skip ?_
            refine AW.seq ?_
            refine AW.region ?_
            refine ao0 (em_move (by rfl) (by rfl)) (by rfl) (by rfl) ?_
            refine ao0 (em_move (by rfl) (by rfl)) (by rfl) (by rfl) ?_
            refine ao0 (em_add (by rfl) (by rfl) (by rfl) (by omega) (by omega)) (by rfl) (by rfl) ?_
            refine ao0 (em_assign (by rfl) (by rfl)) (by rfl) (by rfl) ?_
            refine ao0 (em_assign (by rfl) (by rfl)) (by rfl) (by rfl) ?_
            refine ao0 (em_assign (by rfl) (by rfl)) (by rfl) (by rfl) ?_
            refine ao_nil (by first | dsimp only [setO, setE] | rfl) (by first | dsimp only [setM, setE, setR] | rfl) (by rfl) ?_
            refine AW.ret ?_
            refine retA_data (n := 0) rfl (by rfl) ?_ rfl rfl _ (.inr rfl)
            rw [hfin]; rfl
        · skip
          rw [if_neg (show ¬ b < 128 by simp at hc3; omega)] at heq
          refine AW.skip ?_
          refine AW.seq ?_
          refine AW.seq ?_
          refine AW.region ?_
          refine ao0 (em_move (by rfl) (by rfl)) (by rfl) (by rfl) ?_
          refine ao0 (em_binI (by rfl) (by rfl) (by rfl) (by rfl) (by first | rfl | trivial | exact ⟨rfl, by decide⟩ | exact ⟨rfl, by omega⟩ | decide | omega)) (by rfl) (by rfl) ?_
          refine ao_nil (by first | dsimp only [setO, setE] | rfl) (by first | dsimp only [setM, setE, setR] | rfl) (by rfl) ?_
          refine AW.cond (by rfl) (fun hc5 => ?_) (fun hc5 => ?_)
          · skip
            have hfin : gv l 0 1 0 = (0, 0, false) := by rw [heq, if_pos (by simp at hc5; omega)]
            refine AW.seq ?_
            refine AW.region ?_
            refine ao0 (em_assign (by rfl) (by rfl)) (by rfl) (by rfl) ?_
            refine ao0 (em_assign (by rfl) (by rfl)) (by rfl) (by rfl) ?_
            refine ao0 (em_assign (by rfl) (by rfl)) (by rfl) (by rfl) ?_
            refine ao_nil (by first | dsimp only [setO, setE] | rfl) (by first | dsimp only [setM, setE, setR] | rfl) (by rfl) ?_
            refine AW.ret ?_
            refine retA_data (n := 0) rfl (by rfl) ?_ rfl rfl _ (.inr rfl)
            rw [hfin]; rfl
          · skip
            have h5 : ¬ i = 3 := by simp at hc5; omega
            rw [if_neg h5] at heq
            refine AW.skip ?_
            refine AW.region ?_
            refine ao0 (em_move (by rfl) (by rfl)) (by rfl) (by rfl) ?_
            refine ao0 (em_mul (by rfl) (by rfl) (by rfl) (by omega) (by omega)) (by rfl) (by rfl) ?_
            refine ao0 (em_assign (by rfl) (by rfl)) (by rfl) (by rfl) ?_
            refine ao_nil (by first | dsimp only [setO, setE] | rfl) (by first | dsimp only [setM, setE, setR] | rfl) (by rfl) ?_
            rw [show (sc : Int) * 128 = ((sc * 128 : Nat) : Int) by omega]
            refine AW.region ?_
            refine ao0 (em_add (by rfl) (by rfl) (by rfl) (by omega) (by omega)) (by rfl) (by rfl) ?_
            refine ao0 (em_move (by rfl) (by rfl)) (by rfl) (by rfl) ?_
            refine ao_nil (by first | dsimp only [setO, setE] | rfl) (by first | dsimp only [setM, setE, setR] | rfl) (by rfl) ?_
            refine ⟨⟨(i + 1, acc + b % 128 * sc, sc * 128), ⟨hlt, by dsimp only; omega, by dsimp only; omega, by dsimp only; rw [hsc, Nat.pow_succ], heq⟩⟩, by dsimp only; omega, ?_⟩
            dsimp only [updL, setE]
            refine into_lists [] ?_ ?_ rfl rfl (by decide) (by rfl) (by rfl) (by rfl) (by rfl) (by omega)
            all_goals (try (repeat' (first | exact True.intro | exact Or.inl rfl | exact Or.inr (Or.inl rfl) | refine And.intro ?_ ?_ | exact le_i (by omega) | exact le_own (by rfl) (by rfl) (by first | rfl | omega) | exact le_arr (by rfl) (by rfl) (by first | rfl | omega) (by rfl) | exact Or.inr (Or.inr (Or.inl ⟨_, _, rfl, rfl⟩)) | exact Or.inr (Or.inr ⟨_, _, rfl⟩) | exact Or.inr (Or.inr (Or.inr ⟨_, _, _, _, rfl, rfl⟩)))))
    · skip
      have hfin : gv l 0 1 0 = (0, 0, false) := by rw [heq, List.drop_eq_nil_of_le (by simp at hc1; omega)]; rfl
      refine AW.exit ?_
      refine AW.seq ?_
      refine AW.region ?_
      refine ao0 (em_assign (by rfl) (by rfl)) (by rfl) (by rfl) ?_
      refine ao0 (em_assign (by rfl) (by rfl)) (by rfl) (by rfl) ?_
      refine ao0 (em_assign (by rfl) (by rfl)) (by rfl) (by rfl) ?_
      refine ao_nil (by first | dsimp only [setO, setE] | rfl) (by first | dsimp only [setM, setE, setR] | rfl) (by rfl) ?_
      refine AW.ret ?_
      refine retA_data (n := 0) rfl (by rfl) ?_ rfl rfl _ (.inr rfl)
      rw [hfin]; rfl
def sv : List Nat → Nat → Nat → Nat → Nat × Nat
  | [], _, _, _ => (0, 0)
  | b :: bs, acc, sc, i => if 3 ≤ i then (0, 0) else if b < 128 then (if 200000 < acc + sc * (b % 128) ∨ (0 < i ∧ b = 0) then (0, 0) else (acc + sc * (b % 128), i + 1)) else sv bs (acc + sc * (b % 128)) (sc * 128) (i + 1)
theorem sv_cons (b : Nat) (bs : List Nat) (acc sc i : Nat) : sv (b :: bs) acc sc i = if 3 ≤ i then (0, 0) else if b < 128 then (if 200000 < acc + sc * (b % 128) ∨ (0 < i ∧ b = 0) then (0, 0) else (acc + sc * (b % 128), i + 1)) else sv bs (acc + sc * (b % 128)) (sc * 128) (i + 1) := rfl
structure SvI (l : List Nat) (x : Nat × Nat × Nat) : Prop where
  le : x.1 ≤ l.length
  le3 : x.1 ≤ 3
  acc : x.2.1 ≤ x.1 * 300000000
  sc : x.2.2 = 128 ^ x.1
  eq : sv l 0 1 0 = sv (l.drop x.1) x.2.1 x.2.2 x.1
set_option maxHeartbeats 1000000 in
theorem getVar_ok (nn : Bool) (l : List Nat) (hnn : nn = false → l = []) (hb : ∀ b ∈ l, b ≤ 255) (hl : l.length ≤ 1048576) : FnOk Try.prog noG 66 [.v false [.sl false nn l.length (l.map bD)]] [] (.tup [(false, [.i .i64 ((sv l 0 1 0).1 : Int)]), (false, [.i .i64 ((sv l 0 1 0).2 : Int)])]) [] := by
  refine fnOk_of' (k := 0) tyOk Try.func66 rfl (by kernel_rfl) Try.ntmps66 (by rw [Try.results66]) rfl (by simp only [List.length_cons, List.length_nil, Nat.reduceAdd, Nat.reduceSub, List.replicate_succ, List.replicate_zero, List.cons_append, List.nil_append]; rfl) (by simp) (by simp) (fun r hr => by simp at hr) fun base => ?_
  refine AW.seq ?_
  refine AW.region ?_
  refine ao0 (em_assign (by rfl) (by rfl)) (by rfl) (by rfl) ?_
  refine ao0 (em_assign (by rfl) (by rfl)) (by rfl) (by rfl) ?_
  refine ao_nil (by first | dsimp only [setO, setE] | rfl) (by first | dsimp only [setM, setE, setR] | rfl) (by rfl) ?_
  refine AW.seq ?_
  refine AW.region ?_
  refine ao0 (em_assign (by rfl) (by rfl)) (by rfl) (by rfl) ?_
  refine ao_nil (by first | dsimp only [setO, setE] | rfl) (by first | dsimp only [setM, setE, setR] | rfl) (by rfl) ?_
  refine AW.seq ?_
  refine AW.region ?_
  refine ao0 (em_assign (by rfl) (by rfl)) (by rfl) (by rfl) ?_
  refine ao_nil (by first | dsimp only [setO, setE] | rfl) (by first | dsimp only [setM, setE, setR] | rfl) (by rfl) ?_
  refine AW.seq ?_
  refine AW.seq ?_
  refine AW.region ?_
  refine ao0 (em_assign (by rfl) (by rfl)) (by rfl) (by rfl) ?_
  refine ao_nil (by first | dsimp only [setO, setE] | rfl) (by first | dsimp only [setM, setE, setR] | rfl) (by rfl) ?_
  refine AW.block ?_
  refine AW.loopU (X := {x : Nat × Nat × Nat // SvI l x}) (fun x => [(6, .v false [.i .i64 (x.1.1 : Int)]), (4, .v false [.i .i64 (x.1.2.1 : Int)]), (5, .v false [.i .i64 (x.1.2.2 : Int)]), (1, .any), (2, .any), (3, .any), (7, .any), (8, .any), (9, .any), (10, .any), (11, .any), (12, .any), (13, .any), (14, .any), (15, .any), (16, .any), (17, .any), (18, .any), (19, .any), (20, .any), (21, .any), (22, .any), (23, .any), (24, .any), (25, .any), (26, .any), (27, .any), (28, .any), (29, .any), (30, .any), (31, .any), (32, .any), (33, .any), (34, .any), (35, .any), (36, .any), (37, .any), (38, .any), (39, .any), (40, .any), (41, .any), (42, .any), (43, .any), (44, .any), (45, .any), (46, .any), (47, .any), (48, .any), (49, .any)]) (fun x => []) 0 (fun x => l.length - x.1.1) ⟨(0, 0, 1), ⟨Nat.zero_le _, by decide, by decide, rfl, rfl⟩⟩ ?_ ?_
  · skip
    dsimp only [updL, setE]
    refine into_lists [] ?_ ?_ rfl rfl (by decide) (by rfl) (by rfl) (by rfl) (by rfl) (by omega)
    all_goals (try (repeat' (first | exact True.intro | exact Or.inl rfl | exact Or.inr (Or.inl rfl) | refine And.intro ?_ ?_ | exact le_i (by omega) | exact le_own (by rfl) (by rfl) (by first | rfl | omega) | exact le_arr (by rfl) (by rfl) (by first | rfl | omega) (by rfl) | exact Or.inr (Or.inr (Or.inl ⟨_, _, rfl, rfl⟩)) | exact Or.inr (Or.inr ⟨_, _, rfl⟩) | exact Or.inr (Or.inr (Or.inr ⟨_, _, _, _, rfl, rfl⟩)))))
  · intro x
    refine AW.norm (by first | dsimp only [updL, setE] | rfl) rfl rfl ?_
    obtain ⟨⟨i, acc, sc⟩, hx⟩ := x
    obtain ⟨hi, hi3, hacc, hsc, heq⟩ := hx
    dsimp only at hi hi3 hacc hsc heq ⊢
    refine AW.seq ?_
    refine AW.seq ?_
    refine AW.region ?_
    refine ao0 (em_move (by rfl) (by rfl)) (by rfl) (by rfl) ?_
    refine ao0 (em_move (by rfl) (by rfl)) (by rfl) (by rfl) ?_
    refine ao0 (sem_len tyOk (by rfl) (by rfl) (by rfl) (by rfl) (by first | exact .inl ⟨_, _, _, rfl⟩ | exact .inr ⟨_, _, rfl⟩)) (by rfl) (by rfl) ?_
    refine ao0 (em_binI (by rfl) (by rfl) (by rfl) (by rfl) (by first | rfl | trivial | exact ⟨rfl, by decide⟩ | exact ⟨rfl, by omega⟩ | decide | omega)) (by rfl) (by rfl) ?_
    refine ao0 (em_move (by rfl) (by rfl)) (by rfl) (by rfl) ?_
    refine ao_opt (by rfl) (by rfl) (fun he => astep0 (em_move (by rfl) (by rfl))) ?_
    refine ao_opt (by rfl) (by rfl) (fun he => by rw [he]; exact astep0 (em_binI (by rfl) (by rfl) (by rfl) (by rfl) (by first | rfl | trivial | exact ⟨rfl, by decide⟩ | exact ⟨rfl, by omega⟩ | decide | omega))) ?_
    refine ao0 (sem_pickg (by rfl) (by rfl) (by rfl) (by rfl) (by intro hh; first | rfl | exact hh | (exact Bool.noConfusion hh) | (simp [wexp]; done) | (simp [wexp] at hh; done) | (simpa [wexp] using hh) | (simp_all; done)) (by intro hh; first | rfl | exact hh | (exact Bool.noConfusion hh) | (simp [wexp]; done) | (simp [wexp] at hh; done) | (simpa [wexp] using hh) | (simp_all; done))) (by rfl) (by rfl) ?_
    refine ao_nil (by first | dsimp only [setO, setE] | rfl) (by first | dsimp only [setM, setE, setR] | rfl) (by rfl) ?_
    refine AW.cond (by rfl) (fun hc1 => ?_) (fun hc1 => ?_)
    · skip
      obtain ⟨h1a, h1b⟩ := and_T hc1
      have hlt : i < l.length := by simp at h1a; omega
      have hlt3 : i < 3 := by simp at h1b; omega
      obtain rfl := nn_of hnn hlt
      have HD := drop_bD l i hlt
      obtain ⟨b, hbe⟩ : ∃ b, b = l[i] := ⟨_, rfl⟩
      have hbb : b ≤ 255 := by rw [hbe]; exact hb _ (List.getElem_mem hlt)
      have hm : 1 ≤ sc ∧ sc ≤ 16384 ∧ sc * (b % 128) ≤ 2080768 := by subst hsc; have h4 : i = 0 ∨ i = 1 ∨ i = 2 := (by omega); rcases h4 with rfl | rfl | rfl <;> exact ⟨by decide, by decide, by omega⟩
      have hm2 : (sc : Int) * ((b : Int) % 128) = ((sc * (b % 128) : Nat) : Int) := by rw [Int.natCast_mul, Int.natCast_emod]; rfl
      have hacc2 : acc ≤ 900000000 := by omega
      rw [← hbe] at HD
      rw [List.drop_eq_getElem_cons hlt, ← hbe] at heq
      rw [sv_cons, if_neg (by omega)] at heq
      refine AW.skip ?_
      refine AW.seq ?_
      refine AW.block ?_
      refine AW.seq ?_
      refine AW.region ?_
      refine ao0 (em_move (by rfl) (by rfl)) (by rfl) (by rfl) ?_
      refine ao0 (em_move (by rfl) (by rfl)) (by rfl) (by rfl) ?_
      refine ao0 (em_move (by rfl) (by rfl)) (by rfl) (by rfl) ?_
      refine ao0 (em_move (by rfl) (by rfl)) (by rfl) (by rfl) ?_
      refine ao0 (sem_indexR tyOk (by rfl) (by rfl) (by rfl) (by rfl) (by rfl) HD (by omega) (by omega)) (by rfl) (by rfl) ?_
      refine ao_load tyOk (by rfl) (by rfl) (by rfl) (by rfl) (by rfl) (by rfl) (by rfl) (by first | trivial | exact Nat.le_of_ble_eq_true rfl | decide | (simp; done) | omega) ?_
      refine ao0 (em_conv tyOk (by rfl) (by rfl) (by rfl) (by rfl) (by rfl) (by omega) (by omega)) (by rfl) (by rfl) ?_
      refine ao0 (em_rem (by rfl) (by rfl) (by rfl) (by omega) (by omega)) (by rfl) (by rfl) ?_
      refine ao0 (em_mul (by rfl) (by rfl) (by rfl) (by omega) (by omega)) (by rfl) (by rfl) ?_
      refine ao0 (em_add (by rfl) (by rfl) (by rfl) (by omega) (by omega)) (by rfl) (by rfl) ?_
      refine ao0 (em_assign (by rfl) (by rfl)) (by rfl) (by rfl) ?_
      refine ao_nil (by first | dsimp only [setO, setE] | rfl) (by first | dsimp only [setM, setE, setR] | rfl) (by rfl) ?_
      rw [hm2, show (acc : Int) + ((sc * (b % 128) : Nat) : Int) = ((acc + sc * (b % 128) : Nat) : Int) by omega]
      refine AW.seq ?_
      refine AW.region ?_
      refine ao0 (em_move (by rfl) (by rfl)) (by rfl) (by rfl) ?_
      refine ao0 (em_mul (by rfl) (by rfl) (by rfl) (by omega) (by omega)) (by rfl) (by rfl) ?_
      refine ao0 (em_assign (by rfl) (by rfl)) (by rfl) (by rfl) ?_
      refine ao_nil (by first | dsimp only [setO, setE] | rfl) (by first | dsimp only [setM, setE, setR] | rfl) (by rfl) ?_
      rw [show (sc : Int) * 128 = ((sc * 128 : Nat) : Int) by omega]
      refine AW.seq ?_
      refine AW.region ?_
      refine ao0 (em_move (by rfl) (by rfl)) (by rfl) (by rfl) ?_
      refine ao0 (em_move (by rfl) (by rfl)) (by rfl) (by rfl) ?_
      refine ao0 (sem_indexR tyOk (by rfl) (by rfl) (by rfl) (by rfl) (by rfl) HD (by omega) (by omega)) (by rfl) (by rfl) ?_
      refine ao_load tyOk (by rfl) (by rfl) (by rfl) (by rfl) (by rfl) (by rfl) (by rfl) (by first | trivial | exact Nat.le_of_ble_eq_true rfl | decide | (simp; done) | omega) ?_
      refine ao0 (em_binI (by rfl) (by rfl) (by rfl) (by rfl) (by first | rfl | trivial | exact ⟨rfl, by decide⟩ | exact ⟨rfl, by omega⟩ | decide | omega)) (by rfl) (by rfl) ?_
      refine ao_nil (by first | dsimp only [setO, setE] | rfl) (by first | dsimp only [setM, setE, setR] | rfl) (by rfl) ?_
      refine AW.cond (by rfl) (fun hc2 => ?_) (fun hc2 => ?_)
      · skip
        rw [if_pos (show b < 128 by simp at hc2; omega)] at heq
        refine AW.seq ?_
        refine AW.seq ?_
        refine AW.region ?_
        refine ao0 (em_move (by rfl) (by rfl)) (by rfl) (by rfl) ?_
        refine ao0 (em_binI (by rfl) (by rfl) (by rfl) (by rfl) (by first | rfl | trivial | exact ⟨rfl, by decide⟩ | exact ⟨rfl, by omega⟩ | decide | omega)) (by rfl) (by rfl) ?_
        refine ao0 (em_move (by rfl) (by rfl)) (by rfl) (by rfl) ?_
        refine ao_opt (by rfl) (by rfl) (fun he => astep0 (em_move (by rfl) (by rfl))) ?_
        refine ao_opt (by rfl) (by rfl) (fun he => by rw [he]; exact astep0 (em_binI (by rfl) (by rfl) (by rfl) (by rfl) (by first | rfl | trivial | exact ⟨rfl, by decide⟩ | exact ⟨rfl, by omega⟩ | decide | omega))) ?_
        refine ao_opt (by rfl) (by rfl) (fun he => by rw [he]; exact astep0 (em_move (by rfl) (by rfl))) ?_
        refine ao_opt (by rfl) (by rfl) (fun he => astep0 (em_move (by rfl) (by rfl))) ?_
        refine ao_opt (by rfl) (by rfl) (fun he => astep0 (em_move (by rfl) (by rfl))) ?_
        refine ao_opt (by rfl) (by rfl) (fun he => by rw [he]; exact astep0 (sem_indexR tyOk (by rfl) (by rfl) (by rfl) (by rfl) (by rfl) HD (by omega) (by omega))) ?_
        refine ao_opt (by rfl) (by rfl) (fun he => by rw [he]; exact astep_load tyOk (by rfl) (by rfl) (by rfl) (by rfl) (by rfl) (by first | trivial | exact Nat.le_of_ble_eq_true rfl | decide | (simp; done) | omega)) ?_
        refine ao_opt (by rfl) (by rfl) (fun he => by rw [he]; exact astep0 (em_binI (by rfl) (by rfl) (by rfl) (by rfl) (by first | rfl | trivial | exact ⟨rfl, by decide⟩ | exact ⟨rfl, by omega⟩ | decide | omega))) ?_
        refine ao_opt (by rfl) (by rfl) (fun he => by rw [he]; exact astep0 (sem_pickg (by rfl) (by rfl) (by rfl) (by rfl) (by intro hh; first | rfl | exact hh | (exact Bool.noConfusion hh) | (simp [wexp]; done) | (simp [wexp] at hh; done) | (simpa [wexp] using hh) | (simp_all; done)) (by intro hh; first | rfl | exact hh | (exact Bool.noConfusion hh) | (simp [wexp]; done) | (simp [wexp] at hh; done) | (simpa [wexp] using hh) | (simp_all; done)))) ?_
        dsimp only [setO, setE]
        refine ao0 (sem_pickg (by rfl) (by rfl) (by rfl) (by rfl) (by intro hh; first | rfl | exact hh | (exact Bool.noConfusion hh) | (simp [wexp]; done) | (simp [wexp] at hh; done) | (simpa [wexp] using hh) | (simp_all; done)) (by intro hh; first | rfl | exact hh | (exact Bool.noConfusion hh) | (simp [wexp]; done) | (simp [wexp] at hh; done) | (simpa [wexp] using hh) | (simp_all; done))) (by rfl) (by rfl) ?_
        refine ao_nil (by first | dsimp only [setO, setE] | rfl) (by first | dsimp only [setM, setE, setR] | rfl) (by rfl) ?_
        refine AW.cond (by rfl) (fun hc3 => ?_) (fun hc3 => ?_)
        · skip
          have hfin : sv l 0 1 0 = (0, 0) := by
            refine heq.trans (if_pos ?_)
            rcases or_T hc3 with h | h
            · left; simp at h; omega
            · right; obtain ⟨p, q⟩ := and_T h; exact ⟨by simp at p; omega, by simp at q; omega⟩
          refine AW.seq ?_
          refine AW.region ?_
          refine ao0 (em_assign (by rfl) (by rfl)) (by rfl) (by rfl) ?_
          refine ao0 (em_assign (by rfl) (by rfl)) (by rfl) (by rfl) ?_
          refine ao_nil (by first | dsimp only [setO, setE] | rfl) (by first | dsimp only [setM, setE, setR] | rfl) (by rfl) ?_
          refine AW.ret ?_
          refine retA_data (n := 0) rfl (by rfl) ?_ rfl rfl _ (.inr rfl)
          rw [hfin]; rfl
        · skip
          have hfin : sv l 0 1 0 = (acc + sc * (b % 128), i + 1) := by
            refine heq.trans (if_neg ?_)
            obtain ⟨p, q⟩ := or_F hc3
            rintro (h | h)
            · simp at p; omega
            · rcases and_F q with q | q <;> simp at q <;> omega
          refine AW.skip ?_
          refine AW.seq ?_
          refine AW.region ?_
          refine ao0 (em_move (by rfl) (by rfl)) (by rfl) (by rfl) ?_
          refine ao0 (em_move (by rfl) (by rfl)) (by rfl) (by rfl) ?_
          refine ao0 (em_add (by rfl) (by rfl) (by rfl) (by omega) (by omega)) (by rfl) (by rfl) ?_
          refine ao0 (em_assign (by rfl) (by rfl)) (by rfl) (by rfl) ?_
          refine ao0 (em_assign (by rfl) (by rfl)) (by rfl) (by rfl) ?_
          refine ao_nil (by first | dsimp only [setO, setE] | rfl) (by first | dsimp only [setM, setE, setR] | rfl) (by rfl) ?_
          refine AW.ret ?_
          refine retA_data (n := 0) rfl (by rfl) ?_ rfl rfl _ (.inr rfl)
          rw [hfin]; rfl
      · skip
        rw [if_neg (show ¬ b < 128 by simp at hc2; omega)] at heq
        refine AW.skip ?_
        refine AW.region ?_
        refine ao0 (em_move (by rfl) (by rfl)) (by rfl) (by rfl) ?_
        refine ao0 (em_add (by rfl) (by rfl) (by rfl) (by omega) (by omega)) (by rfl) (by rfl) ?_
        refine ao0 (em_assign (by rfl) (by rfl)) (by rfl) (by rfl) ?_
        refine ao_nil (by first | dsimp only [setO, setE] | rfl) (by first | dsimp only [setM, setE, setR] | rfl) (by rfl) ?_
        refine ⟨⟨(i + 1, acc + sc * (b % 128), sc * 128), ⟨hlt, by dsimp only; omega, by dsimp only; omega, by dsimp only; rw [hsc, Nat.pow_succ], heq⟩⟩, by dsimp only; omega, ?_⟩
        dsimp only [updL, setE]
        refine into_lists [] ?_ ?_ rfl rfl (by decide) (by rfl) (by rfl) (by rfl) (by rfl) (by omega)
        all_goals (try (repeat' (first | exact True.intro | exact Or.inl rfl | exact Or.inr (Or.inl rfl) | refine And.intro ?_ ?_ | exact le_i (by omega) | exact le_own (by rfl) (by rfl) (by first | rfl | omega) | exact le_arr (by rfl) (by rfl) (by first | rfl | omega) (by rfl) | exact Or.inr (Or.inr (Or.inl ⟨_, _, rfl, rfl⟩)) | exact Or.inr (Or.inr ⟨_, _, rfl⟩) | exact Or.inr (Or.inr (Or.inr ⟨_, _, _, _, rfl, rfl⟩)))))
    · skip
      have hfin : sv l 0 1 0 = (0, 0) := by
        rcases and_F hc1 with h | h
        · rw [heq, List.drop_eq_nil_of_le (by simp at h; omega)]; rfl
        · cases hd : l.drop i with
          | nil => rw [heq, hd]; rfl
          | cons b bs => rw [heq, hd, sv_cons, if_pos (by simp at h; omega)]
      refine AW.exit ?_
      refine AW.seq ?_
      refine AW.region ?_
      refine ao0 (em_assign (by rfl) (by rfl)) (by rfl) (by rfl) ?_
      refine ao0 (em_assign (by rfl) (by rfl)) (by rfl) (by rfl) ?_
      refine ao_nil (by first | dsimp only [setO, setE] | rfl) (by first | dsimp only [setM, setE, setR] | rfl) (by rfl) ?_
      refine AW.ret ?_
      refine retA_data (n := 0) rfl (by rfl) ?_ rfl rfl _ (.inr rfl)
      rw [hfin]; rfl
theorem sv_big : ∀ (bs : List Nat) (acc sc i : Nat), 200000 < acc → sv bs acc sc i = (0, 0)
  | [], _, _, _, _ => rfl
  | b :: bs, acc, sc, i, h => by
    rw [sv_cons]
    split
    · rfl
    · split
      · rw [if_pos (.inl (by omega))]
      · exact sv_big bs _ _ _ (by omega)
theorem sv_gv : ∀ (bs : List Nat) (acc sc i : Nat), i ≤ 3 → sc = 128 ^ i → sv bs acc sc i = ((gv bs acc sc i).1, (gv bs acc sc i).2.1) ∧ ((gv bs acc sc i).2.2 = true ↔ (gv bs acc sc i).2.1 ≠ 0)
  | [], _, _, _, _, _ => ⟨rfl, by simp [gv]⟩
  | b :: bs, acc, sc, i, hi, hs => by
    rw [sv_cons, gv_cons, Nat.mul_comm sc]
    by_cases h3 : 3 ≤ i
    · obtain rfl : i = 3 := by omega
      subst hs
      rw [if_pos h3]
      by_cases h1 : 200000 < acc + b % 128 * 128 ^ 3
      · rw [if_pos h1]; simp
      · rw [if_neg h1]
        by_cases h2 : b < 128
        · rw [if_pos h2, if_pos (by omega)]; simp
        · rw [if_neg h2, if_pos rfl]; simp
    · rw [if_neg h3]
      by_cases h1 : 200000 < acc + b % 128 * sc
      · rw [if_pos h1]
        by_cases h2 : b < 128
        · rw [if_pos h2, if_pos (.inl h1)]; simp
        · rw [if_neg h2, sv_big _ _ _ _ h1]; simp
      · rw [if_neg h1]
        by_cases h2 : b < 128
        · rw [if_pos h2, if_pos h2]
          by_cases h4 : b = 0 ∧ 0 < i
          · rw [if_pos (.inr ⟨h4.2, h4.1⟩), if_pos h4]; simp
          · rw [if_neg (by rintro (h | h); exact h1 h; exact h4 ⟨h.2, h.1⟩), if_neg h4]; simp
        · rw [if_neg h2, if_neg h2, if_neg (by omega)]
          exact sv_gv bs _ _ _ (by omega) (by rw [hs, Nat.pow_succ])
end Go.Proofs.Ytiibfkekcdkjdaa
