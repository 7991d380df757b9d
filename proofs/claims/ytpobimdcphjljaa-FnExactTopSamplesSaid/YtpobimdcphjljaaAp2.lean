/-
  Append to a row of one's own that may be nil; less.
-/
import Derived.Test.YtpobimdcphjljaaQt
namespace Go.Proofs.Ytpobimdcphjljaa
open Go
set_option linter.unusedVariables false
set_option linter.unusedSimpArgs false
set_option linter.unnecessarySimpa false
set_option maxRecDepth 4000

theorem sem_append_any {P : Program} {T : TypeId → Option TI} (hT : TOk P T) {G : Nat → Option (List D)} {base k : Nat} {o : Oper} {ov : Operand → A} {t e e' s : Nat} {x y : Operand} {ti te : TI} {r n n' nid : Nat} {f' nn nn' : Bool} {ds ds' : List D} {p : C} {m : Nat → R}
    (ho : o.op = .call { callee := .builtin .append, args := #[x, y], argTypes := #[t, t] }) (ht : T t = some ti) (hk : ti.k = .slice e s) (he : T e = some te) (hx : slot (ov x) = some (.own nn r n)) (hm : m r = .arr e' true nn n ds) (hee : e' = e) (hy : slot (ov y) = some p) (hp : sliceOf m p = some (f', nn', n', ds'))
    (hl : ds'.length = n' * s) (h1 : n + n' ≤ maxLen) (h2 : (n + n') * te.bytes ≤ 140737488355328) (hr : r < nid) :
    ASem P G base k o ov ((r, m r) :: ftSl m p) (.v false [.own (nn || decide (0 < n')) nid (n + n')]) [(r, .gone), (nid, .arr e f' (nn || decide (0 < n')) (n + n') (ds ++ ds'))] nid 1 := by
  cases nn with
  | true =>
    have := sem_append_own (k := k) (base := base) (G := G) hT ho ht hk he hx hm hee hy hp hl h1 h2 hr
    simpa using this
  | false =>
    intro w g a q1 q2 q3 q4 q5 q6 q7
    have hres := q4 r (m r) (List.mem_cons_self ..)
    have h0 : n = 0 ∧ ds = [] := by
      rw [hm] at hres
      obtain ⟨_, hlen, hn⟩ := hres
      have hn : n = 0 := by simpa using hn
      subst hn
      exact ⟨rfl, List.eq_nil_of_length_eq_zero (by simpa using hlen)⟩
    obtain ⟨rfl, rfl⟩ := h0
    have := sem_append_nil (k := k) (base := base) (G := G) (nid := nid) hT ho ht hk he hx (.inr ⟨r, rfl, hr⟩) hy hp hl (by simpa using h1) (by simpa using h2)
    simp only [Nat.zero_add, List.nil_append, Bool.false_or] at *
    exact this w g a q1 q2 q3 q4 q5 q6 q7
section
variable {P : Program} {G : Nat → Option (List D)} {base k nt n : Nat} {ops : List Oper} {o : Oper} {rest : List Oper} {l : List A} {m : List R} {acc : List Rec} {K : St → Nat → List Rec → Prop}
theorem ao_append_any {T : TypeId → Option TI} (hT : TOk P T) {t e e' s : Nat} {x y : Operand} {ti te : TI} {r q n' : Nat} {f' nn nn' b : Bool} {ds ds' : List D} {p : C}
    (ho : o.op = .call { callee := .builtin .append, args := #[x, y], argTypes := #[t, t] }) (hw : wantA ops (lsA l) o = some true) (hd : dstOk o nt = true) (ht : T t = some ti) (hk : ti.k = .slice e s) (he : T e = some te) (hx : slot (evO G (lsA l) x) = some (.own nn r q)) (hm : lsR m r = .arr e' true nn q ds) (hee : e' = e) (hy : slot (evO G (lsA l) y) = some p) (hp : sliceOf (lsR m) p = some (f', nn', n', ds'))
    (hl : ds'.length = n' * s) (h1 : q + n' ≤ maxLen) (h2 : (q + n') * te.bytes ≤ 140737488355328) (hr : r < n) (hkr : k ≤ r) (hb : (nn || decide (0 < n')) = b)
    (h : aops P G base k nt ops rest (sL (setO l o.dst (.v false [.own b n (q + n')])) (setE .gone (setE .gone m r .gone) n (.arr e f' b (q + n') (ds ++ ds')))) (n + 1) (acc ++ [⟨true, .v false [.own b n (q + n')], [(r, .gone), (n, .arr e f' b (q + n') (ds ++ ds'))], (r, lsR m r) :: ftSl (lsR m) p, n, 1⟩]) K) : aops P G base k nt ops (o :: rest) (sL l m) n acc K := by
  subst hb
  have nw : nwOf n 1 n := ⟨Nat.le_refl _, by omega⟩
  refine ao_step hw hd ⟨sem_append_any hT ho ht hk he hx hm hee hy hp hl h1 h2 hr, (fun c y hc => ?_), ⟨by simp; omega, (fun c y hc hn => ?_), (fun c hc => ?_), (fun c y hc hn hl' => ?_)⟩, (fun c y hc hn => ?_)⟩ h
  · rcases List.mem_cons.1 hc with hc | hc
    · cases hc; rfl
    · cases p <;> simp [ftSl] at hc
      obtain ⟨rfl, rfl⟩ := hc; rfl
  · rcases mem_two hc with e | e
    · cases e; exact hkr
    · cases e; omega
  · rcases mem_two hc with e | e
    · cases e; exact hkr
    · cases e
  · rcases mem_two hc with e | e
    · cases e; cases hl'
    · cases e; exact absurd nw hn
  · rcases mem_two hc with e | e
    · cases e; exact ⟨_, List.mem_cons_self ..⟩
    · cases e; exact absurd nw hn
end
section
variable {P : Program} {G : Nat → Option (List D)} {base k : Nat} {o : Oper} {ov : Operand → A} {nid : Nat}
theorem em_neg {t : TypeId} {x : Operand} {a : Int} (ho : o.op = .unOp .neg t x) (hx : slot (ov x) = some (.i .i64 a)) (h1 : -9223372036854775807 ≤ a) (h2 : a ≤ 9223372036854775807) : ASem P G base k o ov [] (.v false [.i .i64 (-a)]) [] nid 0 := by
  have := sem_unOp (P := P) (G := G) (base := base) (k := k) (nid := nid) (c' := .i .i64 (IntKind.i64.wrap (0 - a))) ho hx rfl
  rwa [wrap64 (by omega) (by omega), Int.zero_sub] at this
/-- A number that is not above 0, halved. -/
theorem em_quoN {t t' : TypeId} {x y : Operand} {a b : Int} (ho : o.op = .binOp .quo t x y t') (hx : slot (ov x) = some (.i .i64 a)) (hy : slot (ov y) = some (.i .i64 b)) (h1 : a ≤ 0) (h2 : 0 < b) (h3 : -9223372036854775808 ≤ a) : ASem P G base k o ov [] (.v false [.i .i64 (-((-a) / b))]) [] nid 0 := by
  have := em_binI (P := P) (G := G) (base := base) (k := k) (nid := nid) ho hx hy rfl ⟨rfl, by omega⟩
  have e0 : a.tdiv b = -((-a) / b) := by
    have : a = -(-a) := by omega
    rw [this, Int.neg_tdiv, Int.tdiv_eq_ediv_of_nonneg (by omega)]; simp
  rw [e0] at this
  have e1 : 0 ≤ (-a) / b := Int.ediv_nonneg (by omega) (by omega)
  have e2 : (-a) / b ≤ -a := Int.ediv_le_self b (by omega)
  rwa [wrap64 (by omega) (by omega)] at this
end
theorem setR_len {α : Type} : ∀ (l : List α) (o : Nat) (xs : List α), (setR l o xs).length = l.length
  | l, o, [] => by cases l <;> cases o <;> rfl
  | [], _, _ :: _ => rfl
  | _ :: l, 0, _ :: xs => by simp [setR, setR_len l 0 xs]
  | _ :: l, o + 1, x :: xs => by simp [setR, setR_len l o (x :: xs)]
theorem sl_tail {α : Type} (f : α → D) (l : List α) (z : Int) (h0 : 0 ≤ z) (h1 : z ≤ (l.length : Int)) : ((l.length : Int) - z).toNat = (l.drop z.toNat).length ∧ List.take (((l.length : Int) - z).toNat * 1) (List.drop (z.toNat * 1) (l.map f)) = (l.drop z.toNat).map f := by
  refine ⟨by simp; omega, ?_⟩
  rw [Nat.mul_one, Nat.mul_one, List.map_drop, List.take_of_length_le (by simp; omega)]
theorem sl_head {α : Type} (f : α → D) (l : List α) (z : Int) (h0 : 0 ≤ z) (h1 : z ≤ (l.length : Int)) : (z - 0).toNat = (l.take z.toNat).length ∧ List.take ((z - 0).toNat * 1) (List.drop ((0 : Int).toNat * 1) (l.map f)) = (l.take z.toNat).map f := by
  refine ⟨by simp; omega, ?_⟩
  rw [Nat.mul_one, Int.sub_zero, List.map_take]; rfl
end Go.Proofs.Ytpobimdcphjljaa
