/-
  The reader of the drawn arguments.
-/
import Derived.Test.YtpobimdcphjljaaAp2
namespace Go.Proofs.Ytpobimdcphjljaa
open Go
set_option linter.unusedVariables false
set_option linter.unusedSimpArgs false
set_option linter.unnecessarySimpa false
set_option maxRecDepth 4000

def rdr (nn : Bool) (l : List Nat) (p : Nat) : R := .box [.sl false nn l.length (l.map bD), .i .i64 p]
def pickX (l : List Nat) (p : Nat) : Int := (l.getD ((p : Int) % (l.length : Int)).toNat 0 : Nat) * 131 + (l.getD (((p : Int) * 7 + 3) % (l.length : Int)).toNat 0 : Nat) * 1117 + (p : Int) * 29 + (p : Int) / (l.length : Int) * 53
theorem pickX_eq (l : List Nat) (p : Nat) : pickX l p = (l.getD ((p : Int) % (l.length : Int)).toNat 0 : Nat) * 131 + (l.getD (((p : Int) * 7 + 3) % (l.length : Int)).toNat 0 : Nat) * 1117 + (p : Int) * 29 + (p : Int) / (l.length : Int) * 53 := rfl
def pickN (l : List Nat) (p : Nat) (n : Int) : Nat := if n < 1 ∨ l = [] then 0 else if p < l.length then l.getD p 0 % n.toNat else ((pickX l p).toNat ^^^ (pickX l p / 64).toNat) % n.toNat
theorem pickN_lt (l : List Nat) (p : Nat) (n : Int) (h : 1 ≤ n) : (pickN l p n : Int) < n := by
  have : pickN l p n < n.toNat := by
    unfold pickN
    split
    · omega
    · split <;> exact Nat.mod_lt _ (by omega)
  omega
theorem drop_bZ (l : List Nat) (z : Int) (h0 : 0 ≤ z) (h1 : z < (l.length : Int)) : List.drop (z.toNat * 1) (l.map bD) = bD (l.getD z.toNat 0) :: List.drop (z.toNat + 1) (l.map bD) := by
  rw [Nat.mul_one, List.drop_eq_getElem_cons (by simp; omega), List.getElem_map, List.getD_eq_getElem?_getD, List.getElem?_eq_getElem (by omega), Option.getD_some]
theorem getD_255 {l : List Nat} (hb : ∀ b ∈ l, b ≤ 255) (i : Nat) : l.getD i 0 ≤ 255 := by
  rw [List.getD_eq_getElem?_getD]
  cases h : l[i]? with
  | none => simp
  | some x => exact hb x (List.mem_of_getElem? h)
theorem rd_F {n : Int} {k : Nat} (h : (if decide (n < 1) = true then true else (k : Int) == 0) = false) : 1 ≤ n ∧ 0 < k := by
  by_cases hn : n < 1
  · simp [hn] at h
  · simp [hn] at h; omega
theorem rd_T {n : Int} {l : List Nat} (h : (if decide (n < 1) = true then true else (l.length : Int) == 0) = true) : n < 1 ∨ l = [] := by
  by_cases hn : n < 1
  · exact .inl hn
  · simp [hn] at h; exact .inr h
theorem pickN_T {l : List Nat} {p : Nat} {n : Int} (h : n < 1 ∨ l = []) : 0 = (pickN l p n : Int) := by unfold pickN; rw [if_pos h]; rfl
theorem pickN_1 {l : List Nat} {p : Nat} {n : Int} (h1 : 1 ≤ n) (h2 : 0 < l.length) (h : p < l.length) : (l.getD (p : Int).toNat 0 : Int) % n = (pickN l p n : Int) := by
  unfold pickN
  rw [if_neg (by rintro (h | h); omega; subst h; simp at h2), if_pos h, Int.toNat_natCast, Int.natCast_emod, Int.toNat_of_nonneg (by omega)]
theorem pickN_2 {l : List Nat} {p : Nat} {n : Int} (h1 : 1 ≤ n) (h2 : 0 < l.length) (h : l.length ≤ p) : ((((pickX l p).toNat ^^^ (pickX l p / 64).toNat : Nat)) : Int) % n = (pickN l p n : Int) := by
  unfold pickN
  rw [if_neg (by rintro (h | h); omega; subst h; simp at h2), if_neg (by omega), Int.natCast_emod, Int.toNat_of_nonneg (by omega)]
set_option maxHeartbeats 1000000 in
theorem pick_ok (nn : Bool) (l : List Nat) (p : Nat) (n : Int) (hl : l.length ≤ 2000) (hp : p ≤ 1000000) (hnn : nn = false → l = []) (hb : ∀ b ∈ l, b ≤ 255) : FnOk Try.prog noG 55 [.v false [.ref 0 0], .v false [.i .i64 n]] [rdr nn l p] (.v false [.i .i64 (pickN l p n)]) [rdr nn l (p + 1)] := by
  unfold rdr
  refine fnOk_of' (k := 1) tyOk Try.func55 rfl (by kernel_rfl) Try.ntmps55 (by rw [Try.results55]) rfl (by simp only [List.length_cons, List.length_nil, Nat.reduceAdd, Nat.reduceSub, List.replicate_succ, List.replicate_zero, List.cons_append, List.nil_append]; rfl) (by simp) (by simp) (fun r hr => ((keptB_get (by first | rfl | (simp [keptB, notGone, R.live]; done))).2 r hr).2) fun base => ?_
  refine AW.seq ?_
  refine AW.region ?_
  refine ao0 (em_assign (by rfl) (by rfl)) (by rfl) (by rfl) ?_
  refine ao_nil (by first | dsimp only [setO, setE] | rfl) (by first | dsimp only [setM, setE, setR] | rfl) (by rfl) ?_
  refine AW.seq ?_
  refine AW.region ?_
  refine ao0 (em_move (by rfl) (by rfl)) (by rfl) (by rfl) ?_
  refine ao0 (em_move (by rfl) (by rfl)) (by rfl) (by rfl) ?_
  refine ao0 (sem_nilCheck (by rfl) (by rfl) (by first | exact .inl ⟨_, _, rfl⟩ | exact .inr (.inl ⟨_, rfl⟩))) (by rfl) (by rfl) ?_
  refine ao0 (sem_fieldAddr tyOk (by rfl) (by rfl) (by rfl) (by rfl) (by rfl) (by rfl)) (by rfl) (by rfl) ?_
  refine ao_load tyOk (by rfl) (by rfl) (by rfl) (by rfl) (by rfl) (by rfl) (by rfl) (by first | trivial | exact Nat.le_of_ble_eq_true rfl | decide | (simp; done) | omega) ?_
  refine ao0 (em_add (by rfl) (by rfl) (by rfl) (by omega) (by omega)) (by rfl) (by rfl) ?_
  refine ao0 (sem_nilCheck (by rfl) (by rfl) (by first | exact .inl ⟨_, _, rfl⟩ | exact .inr (.inl ⟨_, rfl⟩))) (by rfl) (by rfl) ?_
  refine ao0 (sem_fieldAddr tyOk (by rfl) (by rfl) (by rfl) (by rfl) (by rfl) (by rfl)) (by rfl) (by rfl) ?_
  refine ao_store_box tyOk (by rfl) (by rfl) (by rfl) (by rfl) (by rfl) (by rfl) (by rfl) (by rfl) (by first | exact Nat.le_of_ble_eq_true rfl | decide | (simp; done) | omega) ?_
  refine ao_nil (by first | dsimp only [setO, setE] | rfl) (by first | dsimp only [setM, setE, setR] | rfl) (by rfl) ?_
  rw [show (p : Int) + 1 = ((p + 1 : Nat) : Int) by omega]
  refine AW.seq ?_
  refine AW.seq ?_
  refine AW.region ?_
  refine ao0 (em_move (by rfl) (by rfl)) (by rfl) (by rfl) ?_
  refine ao0 (em_binI (by rfl) (by rfl) (by rfl) (by rfl) (by first | rfl | trivial | exact ⟨rfl, by decide⟩ | exact ⟨rfl, by omega⟩ | decide | omega)) (by rfl) (by rfl) ?_
  refine ao0 (em_move (by rfl) (by rfl)) (by rfl) (by rfl) ?_
  refine ao_opt (by rfl) (by rfl) (fun he => astep0 (em_move (by rfl) (by rfl))) ?_
  refine ao_opt (by rfl) (by rfl) (fun he => by rw [he]; exact astep0 (sem_nilCheck (by rfl) (by rfl) (by first | exact .inl ⟨_, _, rfl⟩ | exact .inr (.inl ⟨_, rfl⟩)))) ?_
  refine ao_opt (by rfl) (by rfl) (fun he => by rw [he]; exact astep0 (sem_fieldAddr tyOk (by rfl) (by rfl) (by rfl) (by rfl) (by rfl) (by rfl))) ?_
  refine ao_opt (by rfl) (by rfl) (fun he => by rw [he]; exact astep_load tyOk (by rfl) (by rfl) (by rfl) (by rfl) (by rfl) (by first | trivial | exact Nat.le_of_ble_eq_true rfl | decide | (simp; done) | omega)) ?_
  refine ao_opt (by rfl) (by rfl) (fun he => by rw [he]; exact astep0 (sem_len tyOk (by rfl) (by rfl) (by rfl) (by rfl) (by first | exact .inl ⟨_, _, _, rfl⟩ | exact .inr ⟨_, _, rfl⟩))) ?_
  refine ao_opt (by rfl) (by rfl) (fun he => by rw [he]; exact astep0 (em_binI (by rfl) (by rfl) (by rfl) (by rfl) (by first | rfl | trivial | exact ⟨rfl, by decide⟩ | exact ⟨rfl, by omega⟩ | decide | omega))) ?_
  refine ao0 (sem_pickg (by rfl) (by rfl) (by rfl) (by rfl) (by intro hh; first | rfl | exact hh | (exact Bool.noConfusion hh) | (simp [wexp]; done) | (simp [wexp] at hh; done) | (simpa [wexp] using hh) | (simp_all; done)) (by intro hh; first | rfl | exact hh | (exact Bool.noConfusion hh) | (simp [wexp]; done) | (simp [wexp] at hh; done) | (simpa [wexp] using hh) | (simp_all; done))) (by rfl) (by rfl) ?_
  refine ao_nil (by first | dsimp only [setO, setE] | rfl) (by first | dsimp only [setM, setE, setR] | rfl) (by rfl) ?_
  refine AW.cond (by rfl) (fun hc1 => ?_) (fun hc1 => ?_)
  · skip
    have hT := rd_T hc1
    refine AW.seq ?_
    refine AW.region ?_
    refine ao0 (em_assign (by rfl) (by rfl)) (by rfl) (by rfl) ?_
    refine ao_nil (by first | dsimp only [setO, setE] | rfl) (by first | dsimp only [setM, setE, setR] | rfl) (by rfl) ?_
    refine AW.ret ?_
    refine retA_own (n := 0) [0] (by rfl) ?_ ?_ rfl (by simp) (by rfl) (by rfl) (by rfl) (by rfl) (by simp) _ (.inr rfl)
    · exact ⟨le_box (by rfl) (by rfl), trivial⟩
    · exact le_i (by first | exact pickN_T hT | exact pickN_1 hn1 hl1 hlt | exact pickN_2 hn1 hl1 hge)
  · skip
    obtain ⟨hn1, hl1⟩ := rd_F hc1
    obtain rfl := nn_of hnn hl1
    refine AW.skip ?_
    refine AW.seq ?_
    refine AW.region ?_
    refine ao0 (em_move (by rfl) (by rfl)) (by rfl) (by rfl) ?_
    refine ao0 (sem_nilCheck (by rfl) (by rfl) (by first | exact .inl ⟨_, _, rfl⟩ | exact .inr (.inl ⟨_, rfl⟩))) (by rfl) (by rfl) ?_
    refine ao0 (sem_fieldAddr tyOk (by rfl) (by rfl) (by rfl) (by rfl) (by rfl) (by rfl)) (by rfl) (by rfl) ?_
    refine ao_load tyOk (by rfl) (by rfl) (by rfl) (by rfl) (by rfl) (by rfl) (by rfl) (by first | trivial | exact Nat.le_of_ble_eq_true rfl | decide | (simp; done) | omega) ?_
    refine ao0 (em_sub (by rfl) (by rfl) (by rfl) (by omega) (by omega)) (by rfl) (by rfl) ?_
    refine ao0 (em_assign (by rfl) (by rfl)) (by rfl) (by rfl) ?_
    refine ao_nil (by first | dsimp only [setO, setE] | rfl) (by first | dsimp only [setM, setE, setR] | rfl) (by rfl) ?_
    rw [show ((p + 1 : Nat) : Int) - 1 = (p : Int) by omega]
    refine AW.seq ?_
    refine AW.seq ?_
    refine AW.region ?_
    refine ao0 (em_move (by rfl) (by rfl)) (by rfl) (by rfl) ?_
    refine ao0 (em_move (by rfl) (by rfl)) (by rfl) (by rfl) ?_
    refine ao0 (sem_nilCheck (by rfl) (by rfl) (by first | exact .inl ⟨_, _, rfl⟩ | exact .inr (.inl ⟨_, rfl⟩))) (by rfl) (by rfl) ?_
    refine ao0 (sem_fieldAddr tyOk (by rfl) (by rfl) (by rfl) (by rfl) (by rfl) (by rfl)) (by rfl) (by rfl) ?_
    refine ao_load tyOk (by rfl) (by rfl) (by rfl) (by rfl) (by rfl) (by rfl) (by rfl) (by first | trivial | exact Nat.le_of_ble_eq_true rfl | decide | (simp; done) | omega) ?_
    refine ao0 (sem_len tyOk (by rfl) (by rfl) (by rfl) (by rfl) (by first | exact .inl ⟨_, _, _, rfl⟩ | exact .inr ⟨_, _, rfl⟩)) (by rfl) (by rfl) ?_
    refine ao0 (em_binI (by rfl) (by rfl) (by rfl) (by rfl) (by first | rfl | trivial | exact ⟨rfl, by decide⟩ | exact ⟨rfl, by omega⟩ | decide | omega)) (by rfl) (by rfl) ?_
    refine ao_nil (by first | dsimp only [setO, setE] | rfl) (by first | dsimp only [setM, setE, setR] | rfl) (by rfl) ?_
    refine AW.cond (by rfl) (fun hc2 => ?_) (fun hc2 => ?_)
    · skip
      have hlt : p < l.length := by simp at hc2; omega
      have HD := drop_bZ l (p : Int) (by omega) (by omega)
      have hx := getD_255 hb (p : Int).toNat
      refine AW.seq ?_
      refine AW.region ?_
      refine ao0 (em_move (by rfl) (by rfl)) (by rfl) (by rfl) ?_
      refine ao0 (sem_nilCheck (by rfl) (by rfl) (by first | exact .inl ⟨_, _, rfl⟩ | exact .inr (.inl ⟨_, rfl⟩))) (by rfl) (by rfl) ?_
      refine ao0 (sem_fieldAddr tyOk (by rfl) (by rfl) (by rfl) (by rfl) (by rfl) (by rfl)) (by rfl) (by rfl) ?_
      refine ao_load tyOk (by rfl) (by rfl) (by rfl) (by rfl) (by rfl) (by rfl) (by rfl) (by first | trivial | exact Nat.le_of_ble_eq_true rfl | decide | (simp; done) | omega) ?_
      refine ao0 (em_move (by rfl) (by rfl)) (by rfl) (by rfl) ?_
      refine ao0 (sem_indexR tyOk (by rfl) (by rfl) (by rfl) (by rfl) (by rfl) HD (by omega) (by omega)) (by rfl) (by rfl) ?_
      refine ao_load tyOk (by rfl) (by rfl) (by rfl) (by rfl) (by rfl) (by rfl) (by rfl) (by first | trivial | exact Nat.le_of_ble_eq_true rfl | decide | (simp; done) | omega) ?_
      refine ao0 (em_conv tyOk (by rfl) (by rfl) (by rfl) (by rfl) (by rfl) (by omega) (by omega)) (by rfl) (by rfl) ?_
      refine ao0 (em_move (by rfl) (by rfl)) (by rfl) (by rfl) ?_
      refine ao0 (em_rem (by rfl) (by rfl) (by rfl) (by omega) (by omega)) (by rfl) (by rfl) ?_
      refine ao0 (em_assign (by rfl) (by rfl)) (by rfl) (by rfl) ?_
      refine ao_nil (by first | dsimp only [setO, setE] | rfl) (by first | dsimp only [setM, setE, setR] | rfl) (by rfl) ?_
      refine AW.ret ?_
      refine retA_own (n := 0) [0] (by rfl) ?_ ?_ rfl (by simp) (by rfl) (by rfl) (by rfl) (by rfl) (by simp) _ (.inr rfl)
      · exact ⟨le_box (by rfl) (by rfl), trivial⟩
      · exact le_i (by first | exact pickN_T hT | exact pickN_1 hn1 hl1 hlt | exact pickN_2 hn1 hl1 hge)
    · skip
      have hge : l.length ≤ p := by simp at hc2; omega
      have m1 := Int.emod_nonneg (p : Int) (b := (l.length : Int)) (by omega)
      have m2 := Int.emod_lt_of_pos (p : Int) (b := (l.length : Int)) (by omega)
      have m3 := Int.emod_nonneg ((p : Int) * 7 + 3) (b := (l.length : Int)) (by omega)
      have m4 := Int.emod_lt_of_pos ((p : Int) * 7 + 3) (b := (l.length : Int)) (by omega)
      have m5 := Int.ediv_nonneg (a := (p : Int)) (b := (l.length : Int)) (by omega) (by omega)
      have m6 := Int.ediv_le_self (a := (p : Int)) (l.length : Int) (by omega)
      have HD := drop_bZ l ((p : Int) % (l.length : Int)) m1 m2
      have HE := drop_bZ l (((p : Int) * 7 + 3) % (l.length : Int)) m3 m4
      have hx := getD_255 hb ((p : Int) % (l.length : Int)).toNat
      have hy := getD_255 hb (((p : Int) * 7 + 3) % (l.length : Int)).toNat
      refine AW.skip ?_
      refine AW.seq ?_
      refine AW.draw follows0 (by kernel_rfl) ?_
      refine ao0 (em_move (by rfl) (by rfl)) (by rfl) (by rfl) ?_
      refine ao0 (sem_nilCheck (by rfl) (by rfl) (by first | exact .inl ⟨_, _, rfl⟩ | exact .inr (.inl ⟨_, rfl⟩))) (by rfl) (by rfl) ?_
      refine ao0 (sem_fieldAddr tyOk (by rfl) (by rfl) (by rfl) (by rfl) (by rfl) (by rfl)) (by rfl) (by rfl) ?_
      refine ao_load tyOk (by rfl) (by rfl) (by rfl) (by rfl) (by rfl) (by rfl) (by rfl) (by first | trivial | exact Nat.le_of_ble_eq_true rfl | decide | (simp; done) | omega) ?_
      refine ao0 (em_move (by rfl) (by rfl)) (by rfl) (by rfl) ?_
      refine ao0 (em_move (by rfl) (by rfl)) (by rfl) (by rfl) ?_
      refine ao0 (sem_nilCheck (by rfl) (by rfl) (by first | exact .inl ⟨_, _, rfl⟩ | exact .inr (.inl ⟨_, rfl⟩))) (by rfl) (by rfl) ?_
      refine ao0 (sem_fieldAddr tyOk (by rfl) (by rfl) (by rfl) (by rfl) (by rfl) (by rfl)) (by rfl) (by rfl) ?_
      refine ao_load tyOk (by rfl) (by rfl) (by rfl) (by rfl) (by rfl) (by rfl) (by rfl) (by first | trivial | exact Nat.le_of_ble_eq_true rfl | decide | (simp; done) | omega) ?_
      refine ao0 (sem_len tyOk (by rfl) (by rfl) (by rfl) (by rfl) (by first | exact .inl ⟨_, _, _, rfl⟩ | exact .inr ⟨_, _, rfl⟩)) (by rfl) (by rfl) ?_
      refine ao0 (em_rem (by rfl) (by rfl) (by rfl) (by omega) (by omega)) (by rfl) (by rfl) ?_
      refine ao0 (sem_indexR tyOk (by rfl) (by rfl) (by rfl) (by rfl) (by rfl) HD (by omega) (by omega)) (by rfl) (by rfl) ?_
      dsimp only [setO, setE]
      refine ao_load tyOk (by rfl) (by rfl) (by rfl) (by rfl) (by rfl) (by rfl) (by rfl) (by first | trivial | exact Nat.le_of_ble_eq_true rfl | decide | (simp; done) | omega) ?_
      refine ao0 (em_conv tyOk (by rfl) (by rfl) (by rfl) (by rfl) (by rfl) (by omega) (by omega)) (by rfl) (by rfl) ?_
      refine ao0 (em_mul (by rfl) (by rfl) (by rfl) (by omega) (by omega)) (by rfl) (by rfl) ?_
      refine ao0 (em_move (by rfl) (by rfl)) (by rfl) (by rfl) ?_
      refine ao0 (sem_nilCheck (by rfl) (by rfl) (by first | exact .inl ⟨_, _, rfl⟩ | exact .inr (.inl ⟨_, rfl⟩))) (by rfl) (by rfl) ?_
      refine ao0 (sem_fieldAddr tyOk (by rfl) (by rfl) (by rfl) (by rfl) (by rfl) (by rfl)) (by rfl) (by rfl) ?_
      refine ao_load tyOk (by rfl) (by rfl) (by rfl) (by rfl) (by rfl) (by rfl) (by rfl) (by first | trivial | exact Nat.le_of_ble_eq_true rfl | decide | (simp; done) | omega) ?_
      refine ao0 (em_move (by rfl) (by rfl)) (by rfl) (by rfl) ?_
      refine ao0 (em_mul (by rfl) (by rfl) (by rfl) (by omega) (by omega)) (by rfl) (by rfl) ?_
      refine ao0 (em_add (by rfl) (by rfl) (by rfl) (by omega) (by omega)) (by rfl) (by rfl) ?_
      refine ao0 (em_move (by rfl) (by rfl)) (by rfl) (by rfl) ?_
      refine ao0 (sem_nilCheck (by rfl) (by rfl) (by first | exact .inl ⟨_, _, rfl⟩ | exact .inr (.inl ⟨_, rfl⟩))) (by rfl) (by rfl) ?_
      dsimp only [setO, setE]
      refine ao0 (sem_fieldAddr tyOk (by rfl) (by rfl) (by rfl) (by rfl) (by rfl) (by rfl)) (by rfl) (by rfl) ?_
      refine ao_load tyOk (by rfl) (by rfl) (by rfl) (by rfl) (by rfl) (by rfl) (by rfl) (by first | trivial | exact Nat.le_of_ble_eq_true rfl | decide | (simp; done) | omega) ?_
      refine ao0 (sem_len tyOk (by rfl) (by rfl) (by rfl) (by rfl) (by first | exact .inl ⟨_, _, _, rfl⟩ | exact .inr ⟨_, _, rfl⟩)) (by rfl) (by rfl) ?_
      refine ao0 (em_rem (by rfl) (by rfl) (by rfl) (by omega) (by omega)) (by rfl) (by rfl) ?_
      refine ao0 (sem_indexR tyOk (by rfl) (by rfl) (by rfl) (by rfl) (by rfl) HE (by omega) (by omega)) (by rfl) (by rfl) ?_
      refine ao_load tyOk (by rfl) (by rfl) (by rfl) (by rfl) (by rfl) (by rfl) (by rfl) (by first | trivial | exact Nat.le_of_ble_eq_true rfl | decide | (simp; done) | omega) ?_
      refine ao0 (em_conv tyOk (by rfl) (by rfl) (by rfl) (by rfl) (by rfl) (by omega) (by omega)) (by rfl) (by rfl) ?_
      refine ao0 (em_mul (by rfl) (by rfl) (by rfl) (by omega) (by omega)) (by rfl) (by rfl) ?_
      refine ao0 (em_add (by rfl) (by rfl) (by rfl) (by omega) (by omega)) (by rfl) (by rfl) ?_
      refine ao0 (em_move (by rfl) (by rfl)) (by rfl) (by rfl) ?_
      refine ao0 (em_mul (by rfl) (by rfl) (by rfl) (by omega) (by omega)) (by rfl) (by rfl) ?_
      refine ao0 (em_add (by rfl) (by rfl) (by rfl) (by omega) (by omega)) (by rfl) (by rfl) ?_
      dsimp only [setO, setE]
      refine ao0 (em_move (by rfl) (by rfl)) (by rfl) (by rfl) ?_
      refine ao0 (em_move (by rfl) (by rfl)) (by rfl) (by rfl) ?_
      refine ao0 (sem_nilCheck (by rfl) (by rfl) (by first | exact .inl ⟨_, _, rfl⟩ | exact .inr (.inl ⟨_, rfl⟩))) (by rfl) (by rfl) ?_
      refine ao0 (sem_fieldAddr tyOk (by rfl) (by rfl) (by rfl) (by rfl) (by rfl) (by rfl)) (by rfl) (by rfl) ?_
      refine ao_load tyOk (by rfl) (by rfl) (by rfl) (by rfl) (by rfl) (by rfl) (by rfl) (by first | trivial | exact Nat.le_of_ble_eq_true rfl | decide | (simp; done) | omega) ?_
      refine ao0 (sem_len tyOk (by rfl) (by rfl) (by rfl) (by rfl) (by first | exact .inl ⟨_, _, _, rfl⟩ | exact .inr ⟨_, _, rfl⟩)) (by rfl) (by rfl) ?_
      refine ao0 (em_quo (by rfl) (by rfl) (by rfl) (by omega) (by omega) (by omega)) (by rfl) (by rfl) ?_
      refine ao0 (em_mul (by rfl) (by rfl) (by rfl) (by omega) (by omega)) (by rfl) (by rfl) ?_
      refine ao0 (em_add (by rfl) (by rfl) (by rfl) (by omega) (by omega)) (by rfl) (by rfl) ?_
      refine ao0 (em_assign (by rfl) (by rfl)) (by rfl) (by rfl) ?_
      refine ao_nil (by first | dsimp only [setO, setE] | rfl) (by first | dsimp only [setM, setE, setR] | rfl) (by rfl) ?_
      refine ⟨by kernel_rfl, ?_⟩
      have hX : 0 ≤ pickX l p ∧ pickX l p ≤ 1000000000 := by unfold pickX; omega
      rw [← pickX_eq l p]
      refine AW.seq ?_
      refine AW.region ?_
      refine ao0 (em_move (by rfl) (by rfl)) (by rfl) (by rfl) ?_
      refine ao0 (em_move (by rfl) (by rfl)) (by rfl) (by rfl) ?_
      refine ao0 (em_quo (by rfl) (by rfl) (by rfl) (by omega) (by omega) (by omega)) (by rfl) (by rfl) ?_
      refine ao0 (em_xor (by rfl) (by rfl) (by rfl) (by omega) (by omega) (by omega) (by omega)) (by rfl) (by rfl) ?_
      refine ao0 (em_assign (by rfl) (by rfl)) (by rfl) (by rfl) ?_
      refine ao_nil (by first | dsimp only [setO, setE] | rfl) (by first | dsimp only [setM, setE, setR] | rfl) (by rfl) ?_
      refine AW.seq ?_
      refine AW.region ?_
      refine ao0 (em_move (by rfl) (by rfl)) (by rfl) (by rfl) ?_
      refine ao0 (em_move (by rfl) (by rfl)) (by rfl) (by rfl) ?_
      refine ao0 (em_rem (by rfl) (by rfl) (by rfl) (by omega) (by omega)) (by rfl) (by rfl) ?_
      refine ao0 (em_assign (by rfl) (by rfl)) (by rfl) (by rfl) ?_
      refine ao_nil (by first | dsimp only [setO, setE] | rfl) (by first | dsimp only [setM, setE, setR] | rfl) (by rfl) ?_
      refine AW.ret ?_
      refine retA_own (n := 0) [0] (by rfl) ?_ ?_ rfl (by simp) (by rfl) (by rfl) (by rfl) (by rfl) (by simp) _ (.inr rfl)
      · exact ⟨le_box (by rfl) (by rfl), trivial⟩
      · exact le_i (by first | exact pickN_T hT | exact pickN_1 hn1 hl1 hlt | exact pickN_2 hn1 hl1 hge)
def iD (z : Int) : D := .i .i64 z
def oneZ (l : List Nat) (p : Nat) (xs : List Int) : Int := xs.getD (pickN l p xs.length) 0
theorem oneZ_mem {l : List Nat} {p : Nat} {xs : List Int} (h : 0 < xs.length) : oneZ l p xs ∈ xs := by
  have := pickN_lt l p xs.length (by omega)
  unfold oneZ
  rw [List.getD_eq_getElem?_getD, List.getElem?_eq_getElem (by omega), Option.getD_some]
  exact List.getElem_mem _
theorem drop_iD (l : List Int) (z : Nat) (h1 : z < l.length) : List.drop ((z : Int).toNat * 1) (l.map iD) = iD (l.getD z 0) :: List.drop (z + 1) (l.map iD) := by
  rw [Nat.mul_one, Int.toNat_natCast, List.drop_eq_getElem_cons (by simp; omega), List.getElem_map, List.getD_eq_getElem?_getD, List.getElem?_eq_getElem (by omega), Option.getD_some]
theorem one_ok (nn : Bool) (l : List Nat) (p : Nat) (xs : List Int) (hl : l.length ≤ 2000) (hp : p ≤ 1000000) (hnn : nn = false → l = []) (hb : ∀ b ∈ l, b ≤ 255) (hx : 0 < xs.length) : FnOk Try.prog noG 32 [.v false [.ref 0 0], .v false [.sl false true xs.length (xs.map iD)]] [rdr nn l p] (.v false [.i .i64 (oneZ l p xs)]) [rdr nn l (p + 1)] := by
  have hpl := pickN_lt l p xs.length (by omega)
  have HD := drop_iD xs (pickN l p xs.length) (by omega)
  refine fnOk_of' (k := 1) tyOk Try.func32 rfl (by kernel_rfl) Try.ntmps32 (by rw [Try.results32]) rfl (by simp only [List.length_cons, List.length_nil, Nat.reduceAdd, Nat.reduceSub, List.replicate_succ, List.replicate_zero, List.cons_append, List.nil_append]; rfl) (by simp) (by simp) (fun r hr => ((keptB_get (by first | rfl | (simp [keptB, notGone, R.live]; done))).2 r hr).2) fun base => ?_
  refine AW.seq ?_
  refine AW.region ?_
  refine ao0 (em_assign (by rfl) (by rfl)) (by rfl) (by rfl) ?_
  refine ao_nil (by first | dsimp only [setO, setE] | rfl) (by first | dsimp only [setM, setE, setR] | rfl) (by rfl) ?_
  refine AW.seq ?_
  refine AW.region ?_
  refine ao0 (em_move (by rfl) (by rfl)) (by rfl) (by rfl) ?_
  refine ao0 (em_move (by rfl) (by rfl)) (by rfl) (by rfl) ?_
  refine ao0 (em_move (by rfl) (by rfl)) (by rfl) (by rfl) ?_
  refine ao0 (sem_len tyOk (by rfl) (by rfl) (by rfl) (by rfl) (by first | exact .inl ⟨_, _, _, rfl⟩ | exact .inr ⟨_, _, rfl⟩)) (by rfl) (by rfl) ?_
  refine ao_callL [0] [] (pick_ok _ _ _ _ (by omega) (by omega) (by assumption) (by assumption)) (by rfl) (by rfl) (by rfl) (by rfl) (by rfl) (by repeat' (first | exact True.intro | exact .inl ⟨by rfl, by rfl⟩ | exact rfl | exact .inr (.inl ⟨_, _, _, _, by rfl, by rfl⟩) | exact .inr (.inr ⟨_, _, _, _, _, _, by rfl, by rfl, by rfl, by first | exact .head _ | exact .tail _ (.head _) | exact .tail _ (.tail _ (.head _)) | exact .tail _ (.tail _ (.tail _ (.head _)))⟩) | refine And.intro ?_ ?_)) (by repeat' (first | exact True.intro | exact .inl ⟨by rfl, by rfl⟩ | exact rfl | exact .inl rfl | exact .inr (.inl ⟨_, _, _, _, by rfl, by rfl⟩) | exact .inr ⟨rfl, by simp [D.scalar, bD]⟩ | refine And.intro ?_ ?_)) (by rfl) (by rfl) (by rfl) (by decide) (by rfl) (by rfl) (by omega) (by first | rfl | (simp [keptB, notGone, (by rfl).live]; done)) (by rfl) (by rfl) (by rfl) (by rfl) (by rfl) (by rfl) (by rfl) ?_
  refine ao0 (sem_indexR tyOk (by rfl) (by rfl) (by rfl) (by rfl) (by rfl) HD (by omega) (by omega)) (by rfl) (by rfl) ?_
  refine ao_load tyOk (by rfl) (by rfl) (by rfl) (by rfl) (by rfl) (by rfl) (by rfl) (by first | trivial | exact Nat.le_of_ble_eq_true rfl | decide | (simp; done) | omega) ?_
  refine ao0 (em_assign (by rfl) (by rfl)) (by rfl) (by rfl) ?_
  refine ao_nil (by first | dsimp only [setO, setE] | rfl) (by first | dsimp only [setM, setE, setR] | rfl) (by rfl) ?_
  refine AW.ret ?_
  refine retA_own (n := 0) [0] (by rfl) ?_ ?_ rfl (by simp) (by rfl) (by rfl) (by rfl) (by rfl) (by simp) _ (.inr rfl)
  · exact ⟨le_box (by rfl) (by rfl), trivial⟩
  · exact le_i (by rfl)
theorem newReader_ok (nn : Bool) (l : List Nat) (hnn : nn = false → l = []) : FnOk Try.prog noG 30 [.v false [.sl false nn l.length (l.map bD)]] [] (.v false [.ref 0 0]) [rdr nn (l.take 2000) 0] := by
  refine fnOk_of' (k := 0) tyOk Try.func30 rfl (by kernel_rfl) Try.ntmps30 (by rw [Try.results30]) rfl (by simp only [List.length_cons, List.length_nil, Nat.reduceAdd, Nat.reduceSub, List.replicate_succ, List.replicate_zero, List.cons_append, List.nil_append]; rfl) (by simp) (by simp) (fun r hr => by simp at hr) fun base => ?_
  refine AW.seq ?_
  refine AW.region ?_
  refine ao0 (em_assign (by rfl) (by rfl)) (by rfl) (by rfl) ?_
  refine ao_nil (by first | dsimp only [setO, setE] | rfl) (by first | dsimp only [setM, setE, setR] | rfl) (by rfl) ?_
  refine AW.seq ?_
  refine AW.seq ?_
  refine AW.region ?_
  refine ao0 (em_move (by rfl) (by rfl)) (by rfl) (by rfl) ?_
  refine ao0 (sem_len tyOk (by rfl) (by rfl) (by rfl) (by rfl) (by first | exact .inl ⟨_, _, _, rfl⟩ | exact .inr ⟨_, _, rfl⟩)) (by rfl) (by rfl) ?_
  refine ao0 (em_binI (by rfl) (by rfl) (by rfl) (by rfl) (by first | rfl | trivial | exact ⟨rfl, by decide⟩ | exact ⟨rfl, by omega⟩ | decide | omega)) (by rfl) (by rfl) ?_
  refine ao_nil (by first | dsimp only [setO, setE] | rfl) (by first | dsimp only [setM, setE, setR] | rfl) (by rfl) ?_
  refine AW.cond (by rfl) (fun hc1 => ?_) (fun hc1 => ?_)
  · skip
    have hg : 2000 < l.length := by simp at hc1; omega
    obtain rfl := nn_of hnn hg
    refine AW.region ?_
    refine ao0 (em_move (by rfl) (by rfl)) (by rfl) (by rfl) ?_
    refine ao0 (sem_slice tyOk (by rfl) (by rfl) (by rfl) (by rfl) (by rfl) (by rfl) (by omega) (by omega) (by omega)) (by rfl) (by rfl) ?_
    refine ao0 (em_assign (by rfl) (by rfl)) (by rfl) (by rfl) ?_
    refine ao_nil (by first | dsimp only [setO, setE] | rfl) (by first | dsimp only [setM, setE, setR] | rfl) (by rfl) ?_
    refine AW.seq ?_
    refine AW.region ?_
    refine ao0 (em_move (by rfl) (by rfl)) (by rfl) (by rfl) ?_
    refine ao0 (sem_build tyOk (by rfl) (by rfl) (by rfl) (by rfl)) (by rfl) (by rfl) ?_
    refine ao1 (sem_box (by rfl) (by rfl)) (by omega) (by rfl) (by rfl) ?_
    refine ao0 (em_assign (by rfl) (by rfl)) (by rfl) (by rfl) ?_
    refine ao_nil (by first | dsimp only [setO, setE] | rfl) (by first | dsimp only [setM, setE, setR] | rfl) (by rfl) ?_
    refine AW.ret ?_
    refine retA_own (n := 0) [0] (by rfl) ?_ ?_ rfl (by simp) (by rfl) (by rfl) (by rfl) (by rfl) (by simp) _ (.inr rfl)
    · exact ⟨le_box (by rfl) (by first | (rw [List.take_of_length_le hg]; rfl) | (simp [renC, List.map_take]; omega)), trivial⟩
    · exact .inr (.inl (by rfl))
  · skip
    have hg : l.length ≤ 2000 := by simp at hc1; omega
    refine AW.skip ?_
    refine AW.seq ?_
    refine AW.region ?_
    refine ao0 (em_move (by rfl) (by rfl)) (by rfl) (by rfl) ?_
    refine ao0 (sem_build tyOk (by rfl) (by rfl) (by rfl) (by rfl)) (by rfl) (by rfl) ?_
    refine ao1 (sem_box (by rfl) (by rfl)) (by omega) (by rfl) (by rfl) ?_
    refine ao0 (em_assign (by rfl) (by rfl)) (by rfl) (by rfl) ?_
    refine ao_nil (by first | dsimp only [setO, setE] | rfl) (by first | dsimp only [setM, setE, setR] | rfl) (by rfl) ?_
    refine AW.ret ?_
    refine retA_own (n := 0) [0] (by rfl) ?_ ?_ rfl (by simp) (by rfl) (by rfl) (by rfl) (by rfl) (by simp) _ (.inr rfl)
    · exact ⟨le_box (by rfl) (by first | (rw [List.take_of_length_le hg]; rfl) | (simp [renC, List.map_take]; omega)), trivial⟩
    · exact .inr (.inl (by rfl))
theorem and_T {a b : Bool} (h : (if a = true then b else false) = true) : a = true ∧ b = true := by cases a <;> simp_all
theorem and_F {a b : Bool} (h : (if a = true then b else false) = false) : a = false ∨ b = false := by cases a <;> simp_all
theorem or_T {a b : Bool} (h : (if a = true then true else b) = true) : a = true ∨ b = true := by cases a <;> simp_all
theorem or_F {a b : Bool} (h : (if a = true then true else b) = false) : a = false ∧ b = false := by cases a <;> simp_all
/-- A row of drawn bytes, written one behind the other. -/
def drawS (l : List Nat) (p : Nat) (k : Int) (n : Nat) : Nat → List Nat
  | 0 => List.replicate n 0
  | i + 1 => (drawS l p k n i).set i (pickN l (p + i) k)
theorem drawS_len (l : List Nat) (p : Nat) (k : Int) (n : Nat) : ∀ i, (drawS l p k n i).length = n
  | 0 => by simp [drawS]
  | i + 1 => by simp [drawS, drawS_len l p k n i]
theorem drawS_bd (l : List Nat) (p : Nat) {k : Int} (n : Nat) (h1 : 1 ≤ k) (h2 : k ≤ 256) : ∀ i, ∀ b ∈ drawS l p k n i, b ≤ 255
  | 0, b, hb => by simp [drawS] at hb; omega
  | i + 1, b, hb => by
    rcases List.mem_or_eq_of_mem_set hb with hb | rfl
    · exact drawS_bd l p n h1 h2 i b hb
    · have := pickN_lt l (p + i) k h1; omega
theorem setR_set {α : Type} (f : α → D) (l : List α) (i : Nat) (x : α) (h : i < l.length) : setR (l.map f) ((i : Int).toNat * 1) [f x] = (l.set i x).map f := by
  rw [Int.toNat_natCast, Nat.mul_one, setR_eq _ _ _ (by simp; omega), List.set_eq_take_append_cons_drop, if_pos h]
  simp
theorem flat_rep {α : Type} (d : α) (n : Nat) : (List.replicate n [d]).flatten = List.replicate n d := by
  induction n with
  | zero => rfl
  | succ n ih => rw [List.replicate_succ, List.flatten_cons, ih, List.replicate_succ]; rfl
end Go.Proofs.Ytpobimdcphjljaa
