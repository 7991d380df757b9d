/-
  The evaluator's rules for functions with captured variables, for whole numbers without a sign, and sort.Search.
-/
import Derived.Test.YtpobimdcphjljaaPn
namespace Go.Proofs.Ytpobimdcphjljaa
open Go
set_option linter.unusedVariables false
set_option linter.unusedSimpArgs false
set_option linter.unnecessarySimpa false
set_option maxRecDepth 4000

def capsOf (ov : Operand → A) : List Operand → Option (List Nat)
  | [] => some []
  | x :: xs => match slot (ov x), capsOf ov xs with
    | some (.ref r 0), some rs => some (r :: rs)
    | _, _ => none
theorem capsOf_rel {w : World} {g : Gh} {base : Nat} {ov : Operand → A} {a : Act} : ∀ {xs : List Operand} {rs : List Nat}, (∀ x ∈ xs, RelA w g base (ov x) (a.eval x)) → capsOf ov xs = some rs → (∀ r ∈ rs, g.born r) ∧ xs.map a.eval = rs.map fun r => Value.pointer (some ⟨g.gb r, 0, none⟩)
  | [], rs, _, h => by cases h; exact ⟨(fun r hr => by cases hr), rfl⟩
  | x :: xs, rs, hx, h => by
    unfold capsOf at h
    split at h
    · rename_i r rs' h1 h2
      cases h
      obtain ⟨k1, k2⟩ := capsOf_rel (fun y hy => hx y (List.mem_cons_of_mem _ hy)) h2
      obtain ⟨e1, e2⟩ := slot_rel (hx x (List.mem_cons_self ..)) h1
      refine ⟨fun q hq => ?_, ?_⟩
      · rcases List.mem_cons.1 hq with rfl | hq
        · exact e1
        · exact k1 q hq
      · rw [List.map_cons, List.map_cons, k2, e2]
    · cases h
section
variable {P : Program} {G : Nat → Option (List D)} {base k : Nat} {o : Oper} {ov : Operand → A} {nid : Nat}
theorem sem_makeFunc {f : FuncId} {cs : Array Operand} {rs : List Nat} (ho : o.op = .makeFunc (.func f) #[] cs) (hc : capsOf ov cs.toList = some rs) : ASem P G base k o ov [] (.v false [.fn f rs]) [] nid 0 := by
  refine .pure fun w g a _ hop _ => ?_
  obtain ⟨k1, k2⟩ := capsOf_rel (a := a) (w := w) (g := g) (base := base) (xs := cs.toList) (fun x hx => hop x (by simp [ho, Op.operands]; simpa using hx)) hc
  refine ⟨.func (.func f) #[] (rs.map fun r => Value.pointer (some ⟨g.gb r, 0, none⟩)).toArray, ?_, _, rfl, k1, rfl⟩
  unfold execOp
  have e : cs.map a.eval = (rs.map fun r => Value.pointer (some ⟨g.gb r, 0, none⟩)).toArray := by
    rw [← k2]
    apply Array.ext'
    simp
  simp [ho, Instr.makeFunc, e]
theorem em_convU {T : TypeId → Option TI} (hT : TOk P T) {s t : TypeId} {ti si : TI} {x : Operand} {kk : IntKind} {n : Int} (ho : o.op = .convert s t x) (ht : T t = some ti) (hk : ti.k = .int .u64) (hsrc : T s = some si) (hx : slot (ov x) = some (.i kk n)) (h1 : 0 ≤ n) (h2 : n ≤ 9223372036854775807) : ASem P G base k o ov [] (.v false [.i .u64 n]) [] nid 0 := by
  have := sem_convI (P := P) (G := G) (base := base) (k := k) (nid := nid) hT ho ht hk hsrc hx
  have e : IntKind.u64.wrap n = n := by rw [IntKind.wrap_u64]; omega
  rwa [e] at this
/-- Half of a number. -/
theorem em_half {t t' : TypeId} {x y : Operand} {kk kb : IntKind} {a : Int} (ho : o.op = .binOp .shr t x y t') (hx : slot (ov x) = some (.i kk a)) (hy : slot (ov y) = some (.i kb 1)) (hb : 1 ≤ kk.bits) (h1 : 0 ≤ a) : ASem P G base k o ov [] (.v false [.i kk (a / 2)]) [] nid 0 := by
  have h := sem_binI (P := P) (G := G) (base := base) (k := k) (nid := nid) ho hx hy (show (binI .shr kk kb a 1).2 from (by decide : (0 : Int) ≤ 1))
  have e : (binI .shr kk kb a 1).1 = .i kk (a / 2) := by
    show C.i kk (a.fdiv (2 ^ (min (1 : Int).toNat kk.bits))) = _
    rw [show min (1 : Int).toNat kk.bits = 1 by simp; omega, Int.fdiv_eq_ediv_of_nonneg _ (by decide)]
    rfl
  rwa [e] at h
end
def srchF (P : Nat → Bool) (i j : Nat) : Nat := if i < j then (if P ((i + j) / 2) = true then srchF P i ((i + j) / 2) else srchF P ((i + j) / 2 + 1) j) else i
termination_by j - i
decreasing_by all_goals omega
theorem srchF_T {P : Nat → Bool} {i j : Nat} (h : i < j) (k : P ((i + j) / 2) = true) : srchF P i j = srchF P i ((i + j) / 2) := by
  conv => lhs; rw [srchF]
  rw [if_pos h, if_pos k]
theorem srchF_F {P : Nat → Bool} {i j : Nat} (h : i < j) (k : P ((i + j) / 2) = false) : srchF P i j = srchF P ((i + j) / 2 + 1) j := by
  conv => lhs; rw [srchF]
  rw [if_pos h, if_neg (by simp [k])]
theorem srchF_end {P : Nat → Bool} {i : Nat} : srchF P i i = i := by
  rw [srchF, if_neg (Nat.lt_irrefl _)]
theorem srchF_le (P : Nat → Bool) (i j : Nat) (h : i ≤ j) : i ≤ srchF P i j ∧ srchF P i j ≤ j := by
  rw [srchF]
  split
  · split
    · have := srchF_le P i ((i + j) / 2) (by omega); omega
    · have := srchF_le P ((i + j) / 2 + 1) j (by omega); omega
  · omega
termination_by j - i
decreasing_by all_goals omega
/-- Where the places are first false and then true, the search finds the first true one. -/
theorem srchF_first (P : Nat → Bool) (n : Nat) (hm : ∀ a b, a ≤ b → b < n → P a = true → P b = true) (i j : Nat) (h : i ≤ j) (hj : j ≤ n) (h1 : ∀ a, a < i → P a = false) (h2 : ∀ a, j ≤ a → a < n → P a = true) : (∀ a, a < srchF P i j → P a = false) ∧ (∀ a, srchF P i j ≤ a → a < n → P a = true) := by
  rw [srchF]
  split
  · split
    · rename_i hk
      exact srchF_first P n hm i ((i + j) / 2) (by omega) (by omega) h1 fun a ha hn => hm _ a ha hn hk
    · rename_i hlt hk
      refine srchF_first P n hm ((i + j) / 2 + 1) j (by omega) hj (fun a ha => ?_) h2
      cases hp : P a with
      | false => rfl
      | true => exact absurd (hm a ((i + j) / 2) (by omega) (by omega) hp) hk
  · have e : i = j := by omega
    subst e
    exact ⟨h1, h2⟩
termination_by j - i
decreasing_by all_goals omega
end Go.Proofs.Ytpobimdcphjljaa
