/-
  Drawn times, values and points.
-/
import Derived.Test.YtpobimdcphjljaaPk
namespace Go.Proofs.Ytpobimdcphjljaa
open Go
set_option linter.unusedVariables false
set_option linter.unusedSimpArgs false
set_option linter.unnecessarySimpa false
set_option maxRecDepth 4000

def someTimeZ (l : List Nat) (p : Nat) : Int := oneZ l (p + 2) [0, 10, 20, 25, 100, 1000, (pickN l p 50 : Int), 4 * (pickN l (p + 1) 250 : Int), 30, 40]
def someValueZ (l : List Nat) (p : Nat) : Int := oneZ l (p + 2) [0, 1, -1, 5, 10, 100, 1000, -1000, (pickN l p 40 : Int), 4 * (pickN l (p + 1) 250 : Int) - 500]
theorem someTimeZ_bd (l : List Nat) (p : Nat) : 0 ≤ someTimeZ l p ∧ someTimeZ l p ≤ 1000 := by
  have h1 := pickN_lt l p 50 (by decide)
  have h2 := pickN_lt l (p + 1) 250 (by decide)
  have h := oneZ_mem (l := l) (p := p + 2) (xs := [0, 10, 20, 25, 100, 1000, (pickN l p 50 : Int), 4 * (pickN l (p + 1) 250 : Int), 30, 40]) (by simp)
  show 0 ≤ oneZ _ _ _ ∧ oneZ _ _ _ ≤ 1000
  simp only [List.mem_cons, List.not_mem_nil, or_false] at h
  omega
theorem someValueZ_bd (l : List Nat) (p : Nat) : -1000 ≤ someValueZ l p ∧ someValueZ l p ≤ 1000 := by
  have h1 := pickN_lt l p 40 (by decide)
  have h2 := pickN_lt l (p + 1) 250 (by decide)
  have h := oneZ_mem (l := l) (p := p + 2) (xs := [0, 1, -1, 5, 10, 100, 1000, -1000, (pickN l p 40 : Int), 4 * (pickN l (p + 1) 250 : Int) - 500]) (by simp)
  show -1000 ≤ oneZ _ _ _ ∧ oneZ _ _ _ ≤ 1000
  simp only [List.mem_cons, List.not_mem_nil, or_false] at h
  omega
theorem le_rdr {σ : Nat → Nat} {m : Nat → R} {r : Nat} {nn : Bool} {l : List Nat} {p p' : Nat} (h0 : m (σ r) = rdr nn l p) (h : p = p') : leR σ m r (rdr nn l p') := by subst h; exact le_box h0 (by rfl)
section
variable (nn : Bool) (l : List Nat) (p : Nat) (hl : l.length ≤ 2000) (hp : p ≤ 900000) (hnn : nn = false → l = []) (hb : ∀ b ∈ l, b ≤ 255)
include hl hp hnn hb
theorem someValue_fn : FnOk Try.prog noG 54 [.v false [.ref 0 0]] [rdr nn l p] (.v false [.i .i64 (someValueZ l p)]) [rdr nn l (p + 3)] := by
  have h1 := pickN_lt l p 40 (by decide)
  have h2 := pickN_lt l (p + 1) 250 (by decide)
  unfold someValueZ
  refine fnOk_of' (k := 1) tyOk Try.func54 rfl (by kernel_rfl) Try.ntmps54 (by rw [Try.results54]) rfl (by simp only [List.length_cons, List.length_nil, Nat.reduceAdd, Nat.reduceSub, List.replicate_succ, List.replicate_zero, List.cons_append, List.nil_append]; rfl) (by simp) (by simp) (fun r hr => ((keptB_get (by first | rfl | (simp [keptB, notGone, R.live]; done))).2 r hr).2) fun base => ?_
  refine AW.seq ?_
  refine AW.region ?_
  first
    | refine ao0 (em_assign (by rfl) (by rfl)) (by rfl) (by rfl) ?_
    | refine ao0 (em_assignG (by rfl) (by rfl)) (by rfl) (by rfl) ?_
    | refine ao0 (sem_move (.inr (by rfl))) (by rfl) (by rfl) ?_
  refine ao_nil (by first | dsimp only [setO, setE] | rfl) (by first | dsimp only [setM, setE, setR] | rfl) (by rfl) ?_
  refine AW.seq ?_
  refine AW.region ?_
  first
    | refine ao0 (em_move (by rfl) (by rfl)) (by rfl) (by rfl) ?_
    | refine ao0 (em_moveG (by rfl) (by rfl)) (by rfl) (by rfl) ?_
    | refine ao0 (sem_move (.inl (by rfl))) (by rfl) (by rfl) ?_
  first
    | refine ao0 (em_move (by rfl) (by rfl)) (by rfl) (by rfl) ?_
    | refine ao0 (em_moveG (by rfl) (by rfl)) (by rfl) (by rfl) ?_
    | refine ao0 (sem_move (.inl (by rfl))) (by rfl) (by rfl) ?_
  refine ao_callL [0] [] (pick_ok nn l p 40 hl (by omega) hnn hb) (by rfl) (by rfl) (by rfl) (by rfl) (by rfl) (by repeat' (first | exact True.intro | exact .inl ⟨by rfl, by rfl⟩ | exact rfl | exact .inr (.inl ⟨_, _, _, _, by rfl, by rfl⟩) | exact .inr (.inr ⟨_, _, _, _, _, _, by rfl, by rfl, by rfl, by first | exact .head _ | exact .tail _ (.head _) | exact .tail _ (.tail _ (.head _)) | exact .tail _ (.tail _ (.tail _ (.head _)))⟩) | refine And.intro ?_ ?_)) (by repeat' (first | exact True.intro | exact .inl ⟨by rfl, by rfl⟩ | exact rfl | exact .inl rfl | exact .inr (.inl ⟨_, _, _, _, by rfl, by rfl⟩) | exact .inr ⟨rfl, by simp [D.scalar, bD]⟩ | refine And.intro ?_ ?_)) (by rfl) (by rfl) (by rfl) (by decide) (by rfl) (by rfl) (by omega) (by first | rfl | (simp [keptB, notGone, (by rfl).live]; done)) (by rfl) (by rfl) (by rfl) (by rfl) (by rfl) (by rfl) (by rfl) ?_
  first
    | refine ao0 (em_move (by rfl) (by rfl)) (by rfl) (by rfl) ?_
    | refine ao0 (em_moveG (by rfl) (by rfl)) (by rfl) (by rfl) ?_
    | refine ao0 (sem_move (.inl (by rfl))) (by rfl) (by rfl) ?_
  refine ao_callL [0] [] (pick_ok nn l (p + 1) 250 hl (by omega) hnn hb) (by rfl) (by rfl) (by rfl) (by rfl) (by rfl) (by repeat' (first | exact True.intro | exact .inl ⟨by rfl, by rfl⟩ | exact rfl | exact .inr (.inl ⟨_, _, _, _, by rfl, by rfl⟩) | exact .inr (.inr ⟨_, _, _, _, _, _, by rfl, by rfl, by rfl, by first | exact .head _ | exact .tail _ (.head _) | exact .tail _ (.tail _ (.head _)) | exact .tail _ (.tail _ (.tail _ (.head _)))⟩) | refine And.intro ?_ ?_)) (by repeat' (first | exact True.intro | exact .inl ⟨by rfl, by rfl⟩ | exact rfl | exact .inl rfl | exact .inr (.inl ⟨_, _, _, _, by rfl, by rfl⟩) | exact .inr ⟨rfl, by simp [D.scalar, bD]⟩ | refine And.intro ?_ ?_)) (by rfl) (by rfl) (by rfl) (by decide) (by rfl) (by rfl) (by omega) (by first | rfl | (simp [keptB, notGone, (by rfl).live]; done)) (by rfl) (by rfl) (by rfl) (by rfl) (by rfl) (by rfl) (by rfl) ?_
  first
    | refine ao0 (em_mul (by rfl) (by rfl) (by rfl) (by omega) (by omega)) (by rfl) (by rfl) ?_
    | refine ao0 (em_binI (by rfl) (by rfl) (by rfl) (by rfl) (by first | rfl | trivial | exact ⟨rfl, by decide⟩ | exact ⟨rfl, by omega⟩ | decide | omega)) (by rfl) (by rfl) ?_
    | refine ao0 (sem_binS (by rfl) (by rfl) (by rfl) (by rfl) (by trivial)) (by rfl) (by rfl) ?_
  first
    | refine ao0 (em_sub (by rfl) (by rfl) (by rfl) (by omega) (by omega)) (by rfl) (by rfl) ?_
    | refine ao0 (em_sub8 (by rfl) (by rfl) (by rfl) (by omega) (by omega)) (by rfl) (by rfl) ?_
    | refine ao0 (em_binI (by rfl) (by rfl) (by rfl) (by rfl) (by first | rfl | trivial | exact ⟨rfl, by decide⟩ | exact ⟨rfl, by omega⟩ | decide | omega)) (by rfl) (by rfl) ?_
    | refine ao0 (sem_binS (by rfl) (by rfl) (by rfl) (by rfl) (by trivial)) (by rfl) (by rfl) ?_
  first
    | refine ao0 (sem_buildSliceV tyOk (by rfl) (by rfl) (by rfl) (by rfl) (by rfl) (by rfl) (by rfl) (by decide) (by decide) (by rfl)) (by rfl) (by rfl) ?_
    | refine ao1 (sem_buildSlice0 tyOk (by rfl) (by rfl) (by rfl) (by rfl)) (by omega) (by rfl) (by rfl) ?_
    | refine ao1 (sem_buildSlice tyOk (by rfl) (by rfl) (by rfl) (by rfl) (by rfl) (by rfl) (by rfl) (by decide) (by decide) (by rfl)) (by omega) (by rfl) (by rfl) ?_
  refine ao_callL [0] [] (one_ok nn l (p + 2) [0, 1, -1, 5, 10, 100, 1000, -1000, (pickN l p 40 : Int), 4 * (pickN l (p + 1) 250 : Int) - 500] hl (by omega) hnn hb (by simp)) (by rfl) (by rfl) (by rfl) (by rfl) (by rfl) (by repeat' (first | exact True.intro | exact .inl ⟨by rfl, by rfl⟩ | exact rfl | exact .inr (.inl ⟨_, _, _, _, by rfl, by rfl⟩) | exact .inr (.inr ⟨_, _, _, _, _, _, by rfl, by rfl, by rfl, by first | exact .head _ | exact .tail _ (.head _) | exact .tail _ (.tail _ (.head _)) | exact .tail _ (.tail _ (.tail _ (.head _)))⟩) | refine And.intro ?_ ?_)) (by repeat' (first | exact True.intro | exact .inl ⟨by rfl, by rfl⟩ | exact rfl | exact .inl rfl | exact .inr (.inl ⟨_, _, _, _, by rfl, by rfl⟩) | exact .inr ⟨rfl, by simp [D.scalar, bD]⟩ | refine And.intro ?_ ?_)) (by rfl) (by rfl) (by rfl) (by decide) (by rfl) (by rfl) (by omega) (by first | rfl | (simp [keptB, notGone, (by rfl).live]; done)) (by rfl) (by rfl) (by rfl) (by rfl) (by rfl) (by rfl) (by rfl) ?_
  first
    | refine ao0 (em_assign (by rfl) (by rfl)) (by rfl) (by rfl) ?_
    | refine ao0 (em_assignG (by rfl) (by rfl)) (by rfl) (by rfl) ?_
    | refine ao0 (sem_move (.inr (by rfl))) (by rfl) (by rfl) ?_
  refine ao_nil (by first | dsimp only [setO, setE] | rfl) (by first | dsimp only [setM, setE, setR] | rfl) (by rfl) ?_
  refine AW.ret ?_
  refine retA_own (n := 0) [0] (by rfl) ?_ ?_ rfl (by simp) (by rfl) (by rfl) (by rfl) (by rfl) (by simp) _ (.inr rfl)
  · exact ⟨le_box (by rfl) (by rfl), trivial⟩
  · exact le_i (by rfl)
end
end Go.Proofs.Ytpobimdcphjljaa
