/-
  A slice against nil.
-/
import Derived.Test.YtpobimdcphjljaaSt
import Derived.Laws.Cover3
namespace Go.Proofs.Ytpobimdcphjljaa
open Go

/-- Whether a slice is there (not nil). -/
def thereC : C → Option Bool
  | .sl _ nn _ _ => some nn
  | .own nn _ _ => some nn
  | _ => none
theorem there_rel {w : World} {g : Gh} {base : Nat} {c : C} {nn : Bool} {V : Value} (h : RelC w g base c V) (hc : thereC c = some nn) : ∃ (a : Option Addr) (l cap : Nat), V = .slice a l cap ∧ a.isNone = !nn := by
  cases c with
  | sl f nn' n cs =>
    cases hc
    cases h with
    | nil => exact ⟨none, 0, 0, rfl, rfl⟩
    | sl n cs a cap vs _ _ _ _ _ => exact ⟨some a, n, cap, rfl, rfl⟩
  | own nn' r n =>
    cases hc
    obtain ⟨_, h⟩ := h
    cases nn
    · exact ⟨none, 0, 0, h.2, rfl⟩
    · exact ⟨some ⟨g.gb r, 0, none⟩, n, g.gc r, h, rfl⟩
  | _ => cases hc
theorem sem_nilS {P : Program} {T : TypeId → Option TI} (hT : TOk P T) {G : Nat → Option (List D)} {base k : Nat} {o : Oper} {ov : Operand → A} {op : BinOp} {t t' : TypeId} {ti : TI} {e s : Nat} {x : Operand} {c : C} {nn b : Bool} {nid : Nat}
    (ho : o.op = .binOp op t x (.const (.slice none 0 0)) t') (ht : T t = some ti) (hk : ti.k = .slice e s) (hx : slot (ov x) = some c) (hc : thereC c = some nn) (hop : op = .eql ∧ b = !nn ∨ op = .neq ∧ b = nn) : ASem P G base k o ov [] (.v false [.b b]) [] nid 0 := by
  refine .pure fun w g ac _ hop' _ => ?_
  have h1 := slot_rel (hop' x (by simp [ho, Op.operands])) hx
  obtain ⟨hu, _⟩ := (hT.get ht).slice hk
  obtain ⟨a, l, cap, hV, ha⟩ := there_rel h1 hc
  refine ⟨.bool b, ?_, _, rfl, rfl⟩
  have hg : (eqGuard op t x (.const (.slice none 0 0)) (.slice a l cap) (.slice none 0 0)).run P w = .ok () w := by
    rcases hop with ⟨rfl, _⟩ | ⟨rfl, _⟩ <;> rfl
  have he : ac.eval (.const (.slice none 0 0)) = .slice none 0 0 := rfl
  have hb : (binOp op t (.slice a l cap) (.slice none 0 0)).run P w = .ok (.bool b) w := by
    rcases hop with ⟨rfl, rfl⟩ | ⟨rfl, rfl⟩
    · simp only [binOp]
      simp [run_equal_slice_nil w t e a l cap hu, ha]
    · rw [run_neq_slice_nil w t e a l cap hu, ha]; simp
  unfold execOp
  simp only [ho]
  rw [hV, he, Sem.run_bind, Sem.run_bind, hg, Result.andThen_ok, hb]; rfl
end Go.Proofs.Ytpobimdcphjljaa
