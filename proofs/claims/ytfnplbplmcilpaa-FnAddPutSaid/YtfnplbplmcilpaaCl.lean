/-
  The evaluator's rules for functions with captured variables, for whole numbers without a sign, and sort.Search.
-/
import Derived.Test.YtfnplbplmcilpaaPn
namespace Go.Proofs.Ytfnplbplmcilpaa
open Go
set_option linter.unusedVariables false
set_option linter.unusedSimpArgs false
set_option linter.unnecessarySimpa false

def capsOf (ov : Operand → A) : List Operand → Option (List Nat)
  | [] => some []
  | x :: xs => match slot (ov x), capsOf ov xs with
    | some (.ref r 0), some rs => some (r :: rs)
    | _, _ => none
theorem capsOf_rel {w : World} {g : Gh} {base : Nat} {ov : Operand → A} {a : Act} : ∀ {xs : List Operand} {rs : List Nat}, (∀ x ∈ xs, RelA w g base (ov x) (a.eval x)) → capsOf ov xs = some rs → (∀ r ∈ rs, g.born r) ∧ xs.map a.eval = rs.map fun r => Value.pointer (some ⟨g.gb r, 0, none⟩)
  | [], rs, _, h => by cases h; exact ⟨(fun r hr => by cases hr), rfl⟩
  | x :: xs, rs, hx, h => by
    unfold capsOf at h
    split at h
    · rename_i r rs' h1 h2
      cases h
      obtain ⟨k1, k2⟩ := capsOf_rel (fun y hy => hx y (List.mem_cons_of_mem _ hy)) h2
      obtain ⟨e1, e2⟩ := slot_rel (hx x (List.mem_cons_self ..)) h1
      refine ⟨fun q hq => ?_, ?_⟩
      · rcases List.mem_cons.1 hq with rfl | hq
        · exact e1
        · exact k1 q hq
      · rw [List.map_cons, List.map_cons, k2, e2]
    · cases h
section
variable {P : Program} {G : Nat → Option (List D)} {base k : Nat} {o : Oper} {ov : Operand → A} {nid : Nat}
theorem sem_makeFunc {f : FuncId} {cs : Array Operand} {rs : List Nat} (ho : o.op = .makeFunc (.func f) #[] cs) (hc : capsOf ov cs.toList = some rs) : ASem P G base k o ov [] (.v false [.fn f rs]) [] nid 0 := by
  refine .pure fun w g a _ hop _ => ?_
  obtain ⟨k1, k2⟩ := capsOf_rel (a := a) (w := w) (g := g) (base := base) (xs := cs.toList) (fun x hx => hop x (by simp [ho, Op.operands]; simpa using hx)) hc
  refine ⟨.func (.func f) #[] (rs.map fun r => Value.pointer (some ⟨g.gb r, 0, none⟩)).toArray, ?_, _, rfl, k1, rfl⟩
  unfold execOp
  have e : cs.map a.eval = (rs.map fun r => Value.pointer (some ⟨g.gb r, 0, none⟩)).toArray := by
    rw [← k2]
    apply Array.ext'
    simp
  simp [ho, Instr.makeFunc, e]
theorem em_convU {T : TypeId → Option TI} (hT : TOk P T) {s t : TypeId} {ti si : TI} {x : Operand} {kk : IntKind} {n : Int} (ho : o.op = .convert s t x) (ht : T t = some ti) (hk : ti.k = .int .u64) (hsrc : T s = some si) (hx : slot (ov x) = some (.i kk n)) (h1 : 0 ≤ n) (h2 : n ≤ 9223372036854775807) : ASem P G base k o ov [] (.v false [.i .u64 n]) [] nid 0 := by
  have := sem_convI (P := P) (G := G) (base := base) (k := k) (nid := nid) hT ho ht hk hsrc hx
  have e : IntKind.u64.wrap n = n := by rw [IntKind.wrap_u64]; omega
  rwa [e] at this
/-- Half of a number. -/
theorem em_half {t t' : TypeId} {x y : Operand} {kk kb : IntKind} {a : Int} (ho : o.op = .binOp .shr t x y t') (hx : slot (ov x) = some (.i kk a)) (hy : slot (ov y) = some (.i kb 1)) (hb : 1 ≤ kk.bits) (h1 : 0 ≤ a) : ASem P G base k o ov [] (.v false [.i kk (a / 2)]) [] nid 0 := by
  have h := sem_binI (P := P) (G := G) (base := base) (k := k) (nid := nid) ho hx hy (show (binI .shr kk kb a 1).2 from (by decide : (0 : Int) ≤ 1))
  have e : (binI .shr kk kb a 1).1 = .i kk (a / 2) := by
    show C.i kk (a.fdiv (2 ^ (min (1 : Int).toNat kk.bits))) = _
    rw [show min (1 : Int).toNat kk.bits = 1 by simp; omega, Int.fdiv_eq_ediv_of_nonneg _ (by decide)]
    rfl
  rwa [e] at h
end
def srchF (P : Nat → Bool) (i j : Nat) : Nat := if i < j then (if P ((i + j) / 2) = true then srchF P i ((i + j) / 2) else srchF P ((i + j) / 2 + 1) j) else i
termination_by j - i
decreasing_by all_goals omega
theorem srchF_T {P : Nat → Bool} {i j : Nat} (h : i < j) (k : P ((i + j) / 2) = true) : srchF P i j = srchF P i ((i + j) / 2) := by
  conv => lhs; rw [srchF]
  rw [if_pos h, if_pos k]
theorem srchF_F {P : Nat → Bool} {i j : Nat} (h : i < j) (k : P ((i + j) / 2) = false) : srchF P i j = srchF P ((i + j) / 2 + 1) j := by
  conv => lhs; rw [srchF]
  rw [if_pos h, if_neg (by simp [k])]
theorem srchF_end {P : Nat → Bool} {i : Nat} : srchF P i i = i := by
  rw [srchF, if_neg (Nat.lt_irrefl _)]
theorem srchF_le (P : Nat → Bool) (i j : Nat) (h : i ≤ j) : i ≤ srchF P i j ∧ srchF P i j ≤ j := by
  rw [srchF]
  split
  · split
    · have := srchF_le P i ((i + j) / 2) (by omega); omega
    · have := srchF_le P ((i + j) / 2 + 1) j (by omega); omega
  · omega
termination_by j - i
decreasing_by all_goals omega
/-- Where the places are first false and then true, the search finds the first true one. -/
theorem srchF_first (P : Nat → Bool) (n : Nat) (hm : ∀ a b, a ≤ b → b < n → P a = true → P b = true) (i j : Nat) (h : i ≤ j) (hj : j ≤ n) (h1 : ∀ a, a < i → P a = false) (h2 : ∀ a, j ≤ a → a < n → P a = true) : (∀ a, a < srchF P i j → P a = false) ∧ (∀ a, srchF P i j ≤ a → a < n → P a = true) := by
  rw [srchF]
  split
  · split
    · rename_i hk
      exact srchF_first P n hm i ((i + j) / 2) (by omega) (by omega) h1 fun a ha hn => hm _ a ha hn hk
    · rename_i hlt hk
      refine srchF_first P n hm ((i + j) / 2 + 1) j (by omega) hj (fun a ha => ?_) h2
      cases hp : P a with
      | false => rfl
      | true => exact absurd (hm a ((i + j) / 2) (by omega) (by omega) hp) hk
  · have e : i = j := by omega
    subst e
    exact ⟨h1, h2⟩
termination_by j - i
decreasing_by all_goals omega
def srB0 (nn : Bool) (n : Nat) (ds : List D) : R := .box [.sl false nn n ds]
def srB1 (t : Int) : R := .box [.i .i64 t]
set_option maxHeartbeats 1000000 in
theorem Search_ok (f : FuncId) (nn : Bool) (m : Nat) (ds : List D) (t : Int) (P : Nat → Bool) (n : Nat) (hn : n ≤ 1048576) (hcl : ∀ i, i < n → FnOk Try.prog noG f [.v false [.i .i64 (i : Int)], .v false [.ref 0 0], .v false [.ref 1 0]] [srB0 nn m ds, srB1 t] (.v false [.b (P i)]) [srB0 nn m ds, srB1 t]) : FnOk Try.prog noG 34 [.v false [.i .i64 (n : Int)], .v false [.fn f [0, 1]]] [srB0 nn m ds, srB1 t] (.v false [.i .i64 (srchF P 0 n : Nat)]) [srB0 nn m ds, srB1 t] := by
  refine fnOk_of' (k := 2) tyOk Try.func34 rfl (by kernel_rfl) Try.ntmps34 (by rw [Try.results34]) rfl (by simp only [List.length_cons, List.length_nil, Nat.reduceAdd, Nat.reduceSub, List.replicate_succ, List.replicate_zero, List.cons_append, List.nil_append]; rfl) (by simp) (by simp) (fun r hr => ((keptB_get (by first | rfl | (simp [keptB, notGone, R.live]; done))).2 r hr).2) fun base => ?_
  refine AW.seq ?_
  refine AW.region ?_
  first
    | refine ao0 (em_assign (by rfl) (by rfl)) (by rfl) (by rfl) ?_
    | refine ao0 (em_assignG (by rfl) (by rfl)) (by rfl) (by rfl) ?_
    | refine ao0 (sem_move (.inr (by rfl))) (by rfl) (by rfl) ?_
  refine ao_nil (by first | dsimp only [setO, setE] | rfl) (by first | dsimp only [setM, setE, setR] | rfl) (by rfl) ?_
  refine AW.seq ?_
  refine AW.region ?_
  first
    | refine ao0 (em_move (by rfl) (by rfl)) (by rfl) (by rfl) ?_
    | refine ao0 (em_moveG (by rfl) (by rfl)) (by rfl) (by rfl) ?_
    | refine ao0 (sem_move (.inl (by rfl))) (by rfl) (by rfl) ?_
  first
    | refine ao0 (em_assign (by rfl) (by rfl)) (by rfl) (by rfl) ?_
    | refine ao0 (em_assignG (by rfl) (by rfl)) (by rfl) (by rfl) ?_
    | refine ao0 (sem_move (.inr (by rfl))) (by rfl) (by rfl) ?_
  first
    | refine ao0 (em_assign (by rfl) (by rfl)) (by rfl) (by rfl) ?_
    | refine ao0 (em_assignG (by rfl) (by rfl)) (by rfl) (by rfl) ?_
    | refine ao0 (sem_move (.inr (by rfl))) (by rfl) (by rfl) ?_
  refine ao_nil (by first | dsimp only [setO, setE] | rfl) (by first | dsimp only [setM, setE, setR] | rfl) (by rfl) ?_
  refine AW.seq ?_
  refine AW.block ?_
  refine AW.loopU (X := {x : Nat × Nat // x.1 ≤ x.2 ∧ x.2 ≤ n ∧ srchF P x.1 x.2 = srchF P 0 n}) (fun i => [(5, .v false [.i .i64 (i.1.1 : Int)]), (6, .v false [.i .i64 (i.1.2 : Int)]), (0, .any), (2, .any), (3, .any), (7, .any), (8, .any), (9, .any), (10, .any), (11, .any), (12, .any), (13, .any), (14, .any), (15, .any), (16, .any), (17, .any), (18, .any), (19, .any), (20, .any), (21, .any), (22, .any), (23, .any), (24, .any)]) (fun i => [srB0 nn m ds, srB1 t]) 2 (fun i => i.1.2 - i.1.1) ⟨(0, n), Nat.zero_le _, Nat.le_refl _, rfl⟩ ?_ ?_
  · skip
    dsimp only [updL, setE]
    refine into_lists [0, 1] ?_ ?_ rfl rfl (by decide) (by rfl) (by rfl) (by rfl) (by rfl) (by omega)
    all_goals (try (repeat' (first | exact True.intro | exact Or.inl rfl | exact Or.inr (Or.inl rfl) | refine And.intro ?_ ?_ | exact le_i (by omega) | exact le_own (by rfl) (by rfl) (by first | rfl | omega) | exact le_arr (by rfl) (by rfl) (by first | rfl | omega) (by rfl) | exact Or.inr (Or.inr (Or.inl ⟨_, _, rfl, rfl⟩)) | exact Or.inr (Or.inr ⟨_, _, rfl⟩) | exact Or.inr (Or.inr (Or.inr ⟨_, _, _, _, rfl, rfl⟩)))))
    all_goals first | exact le_i (by rfl) | exact le_box (by rfl) (by rfl)
  · intro i
    refine AW.norm (by first | dsimp only [updL, setE] | rfl) rfl rfl ?_
    obtain ⟨⟨i, j⟩, hij, hjn, heq⟩ := i
    dsimp only at hij hjn heq ⊢
    refine AW.seq ?_
    refine AW.seq ?_
    refine AW.region ?_
    first
      | refine ao0 (em_move (by rfl) (by rfl)) (by rfl) (by rfl) ?_
      | refine ao0 (em_moveG (by rfl) (by rfl)) (by rfl) (by rfl) ?_
      | refine ao0 (sem_move (.inl (by rfl))) (by rfl) (by rfl) ?_
    first
      | refine ao0 (em_move (by rfl) (by rfl)) (by rfl) (by rfl) ?_
      | refine ao0 (em_moveG (by rfl) (by rfl)) (by rfl) (by rfl) ?_
      | refine ao0 (sem_move (.inl (by rfl))) (by rfl) (by rfl) ?_
    first
      | refine ao0 (em_binI (by rfl) (by rfl) (by rfl) (by rfl) (by first | rfl | trivial | exact ⟨rfl, by decide⟩ | exact ⟨rfl, by omega⟩ | decide | omega)) (by rfl) (by rfl) ?_
      | refine ao0 (sem_binS (by rfl) (by rfl) (by rfl) (by rfl) (by trivial)) (by rfl) (by rfl) ?_
    refine ao_nil (by first | dsimp only [setO, setE] | rfl) (by first | dsimp only [setM, setE, setR] | rfl) (by rfl) ?_
    refine AW.cond (by rfl) (fun hc1 => ?_) (fun hc1 => ?_)
    · skip
      have hlt : i < j := by simpa using hc1
      refine AW.skip ?_
      refine AW.block ?_
      refine AW.seq ?_
      refine AW.region ?_
      first
        | refine ao0 (em_move (by rfl) (by rfl)) (by rfl) (by rfl) ?_
        | refine ao0 (em_moveG (by rfl) (by rfl)) (by rfl) (by rfl) ?_
        | refine ao0 (sem_move (.inl (by rfl))) (by rfl) (by rfl) ?_
      first
        | refine ao0 (em_move (by rfl) (by rfl)) (by rfl) (by rfl) ?_
        | refine ao0 (em_moveG (by rfl) (by rfl)) (by rfl) (by rfl) ?_
        | refine ao0 (sem_move (.inl (by rfl))) (by rfl) (by rfl) ?_
      first
        | refine ao0 (em_add (by rfl) (by rfl) (by rfl) (by omega) (by omega)) (by rfl) (by rfl) ?_
        | refine ao0 (em_add8 (by rfl) (by rfl) (by rfl) (by omega) (by omega)) (by rfl) (by rfl) ?_
        | refine ao0 (em_binI (by rfl) (by rfl) (by rfl) (by rfl) (by first | rfl | trivial | exact ⟨rfl, by decide⟩ | exact ⟨rfl, by omega⟩ | decide | omega)) (by rfl) (by rfl) ?_
        | refine ao0 (sem_binS (by rfl) (by rfl) (by rfl) (by rfl) (by trivial)) (by rfl) (by rfl) ?_
      first
        | refine ao0 (em_conv tyOk (by rfl) (by rfl) (by rfl) (by rfl) (by rfl) (by omega) (by omega)) (by rfl) (by rfl) ?_
        | refine ao0 (em_conv8 tyOk (by rfl) (by rfl) (by rfl) (by rfl) (by rfl) (by omega) (by omega)) (by rfl) (by rfl) ?_
        | refine ao0 (em_convU tyOk (by rfl) (by rfl) (by rfl) (by rfl) (by rfl) (by omega) (by omega)) (by rfl) (by rfl) ?_
        | refine ao0 (sem_convI tyOk (by rfl) (by rfl) (by rfl) (by rfl) (by rfl)) (by rfl) (by rfl) ?_
        | refine ao0 (sem_convN tyOk (by rfl) (by rfl) (by rfl) (by rfl) (by rfl) (by rfl) (by rfl) (by rfl) (by first | rfl | simp) (by first | assumption | simp)) (by rfl) (by rfl) ?_
      first
        | refine ao0 (em_half (by rfl) (by rfl) (by rfl) (by decide) (by omega)) (by rfl) (by rfl) ?_
        | refine ao0 (em_binI (by rfl) (by rfl) (by rfl) (by rfl) (by first | rfl | trivial | exact ⟨rfl, by decide⟩ | exact ⟨rfl, by omega⟩ | decide | omega)) (by rfl) (by rfl) ?_
        | refine ao0 (sem_binS (by rfl) (by rfl) (by rfl) (by rfl) (by trivial)) (by rfl) (by rfl) ?_
      first
        | refine ao0 (em_conv tyOk (by rfl) (by rfl) (by rfl) (by rfl) (by rfl) (by omega) (by omega)) (by rfl) (by rfl) ?_
        | refine ao0 (em_conv8 tyOk (by rfl) (by rfl) (by rfl) (by rfl) (by rfl) (by omega) (by omega)) (by rfl) (by rfl) ?_
        | refine ao0 (em_convU tyOk (by rfl) (by rfl) (by rfl) (by rfl) (by rfl) (by omega) (by omega)) (by rfl) (by rfl) ?_
        | refine ao0 (sem_convI tyOk (by rfl) (by rfl) (by rfl) (by rfl) (by rfl)) (by rfl) (by rfl) ?_
        | refine ao0 (sem_convN tyOk (by rfl) (by rfl) (by rfl) (by rfl) (by rfl) (by rfl) (by rfl) (by rfl) (by first | rfl | simp) (by first | assumption | simp)) (by rfl) (by rfl) ?_
      first
        | refine ao0 (em_assign (by rfl) (by rfl)) (by rfl) (by rfl) ?_
        | refine ao0 (em_assignG (by rfl) (by rfl)) (by rfl) (by rfl) ?_
        | refine ao0 (sem_move (.inr (by rfl))) (by rfl) (by rfl) ?_
      refine ao_nil (by first | dsimp only [setO, setE] | rfl) (by first | dsimp only [setM, setE, setR] | rfl) (by rfl) ?_
      refine AW.seq ?_
      refine AW.region ?_
      rw [show ((i : Int) + (j : Int)) / 2 = (((i + j) / 2 : Nat) : Int) by omega]
      first
        | refine ao0 (em_move (by rfl) (by rfl)) (by rfl) (by rfl) ?_
        | refine ao0 (em_moveG (by rfl) (by rfl)) (by rfl) (by rfl) ?_
        | refine ao0 (sem_move (.inl (by rfl))) (by rfl) (by rfl) ?_
      first
        | refine ao0 (em_move (by rfl) (by rfl)) (by rfl) (by rfl) ?_
        | refine ao0 (em_moveG (by rfl) (by rfl)) (by rfl) (by rfl) ?_
        | refine ao0 (sem_move (.inl (by rfl))) (by rfl) (by rfl) ?_
      refine ao_callL [0, 1] [] ((hcl ((i + j) / 2) (by omega))) (by rfl) (by rfl) (by rfl) (by rfl) (by rfl) (by repeat' (first | exact True.intro | exact .inl ⟨by rfl, by rfl⟩ | exact rfl | exact .inr (.inl ⟨_, _, _, _, by rfl, by rfl⟩) | exact .inr (.inr ⟨_, _, _, _, _, _, by rfl, by rfl, by rfl, by first | exact .head _ | exact .tail _ (.head _) | exact .tail _ (.tail _ (.head _)) | exact .tail _ (.tail _ (.tail _ (.head _)))⟩) | refine And.intro ?_ ?_)) (by repeat' (first | exact True.intro | exact .inl ⟨by rfl, by rfl⟩ | exact rfl | exact .inl rfl | exact .inr (.inl ⟨_, _, _, _, by rfl, by rfl⟩) | exact .inr ⟨rfl, by simp [D.scalar, bD]⟩ | refine And.intro ?_ ?_)) (by rfl) (by rfl) (by rfl) (by decide) (by rfl) (by rfl) (by omega) (by first | rfl | (simp [keptB, notGone, (by rfl).live]; done)) (by rfl) (by rfl) (by rfl) (by rfl) (by rfl) (by rfl) (by rfl) ?_
      refine ao0 (sem_unOp (by rfl) (by rfl) (by rfl)) (by rfl) (by rfl) ?_
      refine ao_nil (by first | dsimp only [setO, setE] | rfl) (by first | dsimp only [setM, setE, setR] | rfl) (by rfl) ?_
      refine AW.cond (by rfl) (fun hc2 => ?_) (fun hc2 => ?_)
      · skip
        have hP : P ((i + j) / 2) = false := by simpa using hc2
        obtain ⟨x, hx1, hx2, hx3, hx4, hx5⟩ : ∃ x : Nat × Nat, x.1 = (i + j) / 2 + 1 ∧ x.2 = j ∧ x.1 ≤ x.2 ∧ x.2 ≤ n ∧ srchF P x.1 x.2 = srchF P 0 n := ⟨((i + j) / 2 + 1, j), rfl, rfl, by dsimp only; omega, hjn, by rw [← heq, srchF_F hlt hP]⟩
        refine AW.region ?_
        first
          | refine ao0 (em_move (by rfl) (by rfl)) (by rfl) (by rfl) ?_
          | refine ao0 (em_moveG (by rfl) (by rfl)) (by rfl) (by rfl) ?_
          | refine ao0 (sem_move (.inl (by rfl))) (by rfl) (by rfl) ?_
        first
          | refine ao0 (em_add (by rfl) (by rfl) (by rfl) (by omega) (by omega)) (by rfl) (by rfl) ?_
          | refine ao0 (em_add8 (by rfl) (by rfl) (by rfl) (by omega) (by omega)) (by rfl) (by rfl) ?_
          | refine ao0 (em_binI (by rfl) (by rfl) (by rfl) (by rfl) (by first | rfl | trivial | exact ⟨rfl, by decide⟩ | exact ⟨rfl, by omega⟩ | decide | omega)) (by rfl) (by rfl) ?_
          | refine ao0 (sem_binS (by rfl) (by rfl) (by rfl) (by rfl) (by trivial)) (by rfl) (by rfl) ?_
        first
          | refine ao0 (em_assign (by rfl) (by rfl)) (by rfl) (by rfl) ?_
          | refine ao0 (em_assignG (by rfl) (by rfl)) (by rfl) (by rfl) ?_
          | refine ao0 (sem_move (.inr (by rfl))) (by rfl) (by rfl) ?_
        refine ao_nil (by first | dsimp only [setO, setE] | rfl) (by first | dsimp only [setM, setE, setR] | rfl) (by rfl) ?_
        refine ⟨⟨x, hx3, hx4, hx5⟩, by dsimp only; omega, ?_⟩
        dsimp only [updL, setE]
        refine into_lists [0, 1] ?_ ?_ rfl rfl (by decide) (by rfl) (by rfl) (by rfl) (by rfl) (by omega)
        all_goals (try (repeat' (first | exact True.intro | exact Or.inl rfl | exact Or.inr (Or.inl rfl) | refine And.intro ?_ ?_ | exact le_i (by omega) | exact le_own (by rfl) (by rfl) (by first | rfl | omega) | exact le_arr (by rfl) (by rfl) (by first | rfl | omega) (by rfl) | exact Or.inr (Or.inr (Or.inl ⟨_, _, rfl, rfl⟩)) | exact Or.inr (Or.inr ⟨_, _, rfl⟩) | exact Or.inr (Or.inr (Or.inr ⟨_, _, _, _, rfl, rfl⟩)))))
        all_goals first | exact le_i (by rw [hx1]; rfl) | exact le_i (by rw [hx2]) | exact le_i (by rw [hx1]) | exact le_i (by omega) | exact le_box (by rfl) (by rfl)
      · skip
        have hP : P ((i + j) / 2) = true := by simpa using hc2
        obtain ⟨x, hx1, hx2, hx3, hx4, hx5⟩ : ∃ x : Nat × Nat, x.1 = i ∧ x.2 = (i + j) / 2 ∧ x.1 ≤ x.2 ∧ x.2 ≤ n ∧ srchF P x.1 x.2 = srchF P 0 n := ⟨(i, (i + j) / 2), rfl, rfl, by dsimp only; omega, by dsimp only; omega, by rw [← heq, srchF_T hlt hP]⟩
        refine AW.region ?_
        first
          | refine ao0 (em_move (by rfl) (by rfl)) (by rfl) (by rfl) ?_
          | refine ao0 (em_moveG (by rfl) (by rfl)) (by rfl) (by rfl) ?_
          | refine ao0 (sem_move (.inl (by rfl))) (by rfl) (by rfl) ?_
        first
          | refine ao0 (em_assign (by rfl) (by rfl)) (by rfl) (by rfl) ?_
          | refine ao0 (em_assignG (by rfl) (by rfl)) (by rfl) (by rfl) ?_
          | refine ao0 (sem_move (.inr (by rfl))) (by rfl) (by rfl) ?_
        refine ao_nil (by first | dsimp only [setO, setE] | rfl) (by first | dsimp only [setM, setE, setR] | rfl) (by rfl) ?_
        refine ⟨⟨x, hx3, hx4, hx5⟩, by dsimp only; omega, ?_⟩
        dsimp only [updL, setE]
        refine into_lists [0, 1] ?_ ?_ rfl rfl (by decide) (by rfl) (by rfl) (by rfl) (by rfl) (by omega)
        all_goals (try (repeat' (first | exact True.intro | exact Or.inl rfl | exact Or.inr (Or.inl rfl) | refine And.intro ?_ ?_ | exact le_i (by omega) | exact le_own (by rfl) (by rfl) (by first | rfl | omega) | exact le_arr (by rfl) (by rfl) (by first | rfl | omega) (by rfl) | exact Or.inr (Or.inr (Or.inl ⟨_, _, rfl, rfl⟩)) | exact Or.inr (Or.inr ⟨_, _, rfl⟩) | exact Or.inr (Or.inr (Or.inr ⟨_, _, _, _, rfl, rfl⟩)))))
        all_goals first | exact le_i (by rw [hx1]; rfl) | exact le_i (by rw [hx2]) | exact le_i (by rw [hx1]) | exact le_i (by omega) | exact le_box (by rfl) (by rfl)
    · skip
      have hge : i = j := by simp at hc1; omega
      subst hge
      rw [srchF_end] at heq
      refine AW.exit ?_
      refine AW.seq ?_
      refine AW.region ?_
      first
        | refine ao0 (em_move (by rfl) (by rfl)) (by rfl) (by rfl) ?_
        | refine ao0 (em_moveG (by rfl) (by rfl)) (by rfl) (by rfl) ?_
        | refine ao0 (sem_move (.inl (by rfl))) (by rfl) (by rfl) ?_
      first
        | refine ao0 (em_assign (by rfl) (by rfl)) (by rfl) (by rfl) ?_
        | refine ao0 (em_assignG (by rfl) (by rfl)) (by rfl) (by rfl) ?_
        | refine ao0 (sem_move (.inr (by rfl))) (by rfl) (by rfl) ?_
      refine ao_nil (by first | dsimp only [setO, setE] | rfl) (by first | dsimp only [setM, setE, setR] | rfl) (by rfl) ?_
      refine AW.ret ?_
      refine retA_own (n := 0) [0, 1] (by rfl) ?_ ?_ rfl (by simp) (by rfl) (by rfl) (by rfl) (by rfl) (by simp) _ (.inr rfl)
      · exact ⟨le_box (by rfl) (by rfl), le_box (by rfl) (by rfl), trivial⟩
      · exact le_i (by rw [heq])
end Go.Proofs.Ytfnplbplmcilpaa
