/-
  What one operation comes to: the evaluator's rules, each proved of the model's own run.
-/
import Derived.Test.YtpobimdcphjljaaEv
namespace Go.Proofs.Ytpobimdcphjljaa
open Go

/-! ### Types -/
inductive TK where
  | int (k : IntKind)
  | bool
  | str
  | slice (e : TypeId) (size : Nat)
  | struct (fs : List (Nat × Nat × Bool))
  | arr (n : Nat) (e : TypeId) (size : Nat) (agg : Bool)
  | ptr
structure TI where
  k : TK
  size : Nat
  bytes : Nat
  zero : List C
def TK.agg : TK → Bool
  | .struct _ => true
  | .arr .. => true
  | _ => false
def litB : C → Value → Bool
  | .b x, .bool y => x == y
  | .i k n, .int k' n' => decide (k = k') && decide (n = n')
  | .s x, .string y => decide (x = y)
  | .sl _ false 0 [], .slice none 0 0 => true
  | .nilp, .pointer none => true
  | _, _ => false
def litsB : List C → List Value → Bool
  | [], [] => true
  | c :: cs, v :: vs => litB c v && litsB cs vs
  | _, _ => false
def descAgg : TypeDesc → Bool
  | .struct _ | .array _ _ => true
  | _ => false
def fieldsB (P : Program) : List (Nat × Nat × Bool) → List Field → Bool
  | [], [] => true
  | x :: xs, f :: fs => decide (x.1 = f.offset) && (match P.info? f.type with | some i => decide (x.2.1 = i.size) && decide (0 < i.size) | none => false) && (match P.underlying f.type with | some d => x.2.2 == descAgg d | none => false) && fieldsB P xs fs
  | _, _ => false
def kindB (P : Program) : TK → Option TypeDesc → Bool
  | .int k, some (.int k') => decide (k = k')
  | .bool, some .bool => true
  | .str, some .string => true
  | .slice e s, some (.slice e') => decide (e = e') && (match P.info? e with | some i => decide (i.size = s) && decide (0 < s) | none => false)
  | .struct fs, some (.struct fields) => fieldsB P fs fields.toList
  | .arr n e s g, some (.array n' e') => decide (n = n') && decide (e = e') && (match P.info? e with | some i => decide (i.size = s) && decide (0 < s) | none => false) && (match P.underlying e with | some d => g == descAgg d | none => false)
  | .ptr, some d => !descAgg d && (match d with | .pointer _ => true | .func .. => true | _ => false)
  | _, _ => false
def tiB (P : Program) (t : TypeId) (ti : TI) : Bool :=
  (match P.info? t with
    | some i => decide (i.size = ti.size) && decide (i.bytes = ti.bytes) && (match i.zero with | some z => litsB ti.zero z.cells.toList | none => false)
    | none => false) && kindB P ti.k (P.underlying t) && decide (ti.zero.length = ti.size)
def tabB (P : Program) (l : List (Nat × TI)) : Bool := l.all fun x => tiB P x.1 x.2
def tab (l : List (Nat × TI)) (t : TypeId) : Option TI :=
  match l with
  | [] => none
  | x :: xs => if x.1 = t then some x.2 else tab xs t
structure TOk (P : Program) (T : TypeId → Option TI) : Prop where
  ok : ∀ t ti, T t = some ti → tiB P t ti = true
theorem tok_tab {P : Program} {l : List (Nat × TI)} (h : tabB P l = true) : TOk P (tab l) := by
  refine ⟨fun t ti ht => ?_⟩
  induction l with
  | nil => cases ht
  | cons x xs ih =>
    unfold tabB at h ih
    rw [List.all_cons, Bool.and_eq_true] at h
    unfold tab at ht
    split at ht
    · rename_i e; subst e; cases ht; exact h.1
    · exact ih h.2 ht
structure TFact (P : Program) (t : TypeId) (ti : TI) : Prop where
  info : ∃ i z, P.info? t = some i ∧ i.size = ti.size ∧ i.bytes = ti.bytes ∧ i.zero = some z ∧ litsB ti.zero z.cells.toList = true
  kind : kindB P ti.k (P.underlying t) = true
  zlen : ti.zero.length = ti.size
theorem TOk.get {P : Program} {T : TypeId → Option TI} (h : TOk P T) {t : TypeId} {ti : TI} (ht : T t = some ti) : TFact P t ti := by
  have := h.ok t ti ht
  unfold tiB at this
  rw [Bool.and_eq_true, Bool.and_eq_true, decide_eq_true_eq] at this
  refine ⟨?_, this.1.2, this.2⟩
  have h1 := this.1.1
  split at h1
  · rename_i i hi
    split at h1
    · rename_i z hz
      simp only [Bool.and_eq_true, decide_eq_true_eq] at h1
      exact ⟨i, z, hi, h1.1.1, h1.1.2, hz, h1.2⟩
    · simp at h1
  · cases h1
theorem TFact.cells {P : Program} {t : TypeId} {ti : TI} (h : TFact P t ti) : P.cellsOf t = ti.size := by
  obtain ⟨i, z, h1, h2, _⟩ := h.info
  simp [Program.cellsOf, h1, h2]
theorem TFact.slice {P : Program} {t e : TypeId} {s : Nat} {ti : TI} (h : TFact P t ti) (hk : ti.k = .slice e s) : P.underlying t = some (.slice e) ∧ P.cellsOf e = s ∧ 0 < s ∧ ∃ i, P.info? e = some i ∧ i.size = s := by
  have := h.kind
  rw [hk] at this
  unfold kindB at this
  split at this <;> try (first | cases this; done | (rename_i hh _; cases hh; done))
  · rename_i e0 s0 e' heq _ 
    cases heq
    simp only [Bool.and_eq_true, decide_eq_true_eq] at this
    obtain ⟨rfl, h2⟩ := this
    split at h2
    · rename_i i hi
      simp only [Bool.and_eq_true, decide_eq_true_eq] at h2
      exact ⟨by assumption, by simp [Program.cellsOf, hi, h2.1], h2.2, i, hi, h2.1⟩
    · cases h2
  all_goals (first | contradiction | cases this)

theorem TFact.agg {P : Program} {t : TypeId} {ti : TI} (h : TFact P t ti) (w : World) : (isAgg t).run P w = .ok ti.k.agg w := by
  have hk := h.kind
  unfold isAgg
  cases hu : P.underlying t with
  | none => rw [hu] at hk; cases hti : ti.k <;> rw [hti] at hk <;> simp [kindB] at hk
  | some d =>
    rw [hu] at hk
    rw [Sem.run_bind, run_underlying hu]
    cases hti : ti.k <;> rw [hti] at hk <;> cases d <;> simp [kindB, descAgg] at hk <;> rfl
theorem TFact.size {P : Program} {t : TypeId} {ti : TI} (h : TFact P t ti) (w : World) : (sizeOf t).run P w = .ok ti.size w := by
  obtain ⟨i, z, h1, h2, _⟩ := h.info
  simp [sizeOf, typeInfo, h1, h2]
theorem TFact.int {P : Program} {t : TypeId} {ti : TI} (h : TFact P t ti) {k : IntKind} (hk : ti.k = .int k) : P.underlying t = some (.int k) := by
  have hk' := h.kind
  rw [hk] at hk'
  cases hu : P.underlying t with
  | none => rw [hu] at hk'; cases hk'
  | some d => rw [hu] at hk'; cases d <;> simp [kindB] at hk'; rw [hk']
theorem TFact.bool {P : Program} {t : TypeId} {ti : TI} (h : TFact P t ti) (hk : ti.k = .bool) : P.underlying t = some .bool := by
  have hk' := h.kind
  rw [hk] at hk'
  cases hu : P.underlying t with
  | none => rw [hu] at hk'; cases hk'
  | some d => rw [hu] at hk'; cases d <;> simp [kindB] at hk'; rfl
theorem TFact.str {P : Program} {t : TypeId} {ti : TI} (h : TFact P t ti) (hk : ti.k = .str) : P.underlying t = some .string := by
  have hk' := h.kind
  rw [hk] at hk'
  cases hu : P.underlying t with
  | none => rw [hu] at hk'; cases hk'
  | some d => rw [hu] at hk'; cases d <;> simp [kindB] at hk'; rfl
theorem fieldsB_get {P : Program} : ∀ {xs : List (Nat × Nat × Bool)} {fs : List Field}, fieldsB P xs fs = true → ∀ {j : Nat} {x : Nat × Nat × Bool}, xs[j]? = some x →
    ∃ f, fs[j]? = some f ∧ f.offset = x.1 ∧ (∃ i d, P.info? f.type = some i ∧ i.size = x.2.1 ∧ 0 < x.2.1 ∧ P.underlying f.type = some d ∧ descAgg d = x.2.2)
  | [], [], _, j, x, hx => by simp at hx
  | [], _ :: _, h, _, _, _ => by simp [fieldsB] at h
  | _ :: _, [], h, _, _, _ => by simp [fieldsB] at h
  | y :: ys, f :: fs, h, j, x, hx => by
    simp only [fieldsB, Bool.and_eq_true, decide_eq_true_eq] at h
    obtain ⟨⟨⟨h1, h2⟩, h3⟩, h4⟩ := h
    cases j with
    | zero =>
      simp at hx; subst hx
      refine ⟨f, rfl, h1.symm, ?_⟩
      split at h2
      · rename_i i hi
        split at h3
        · rename_i d hd
          simp only [Bool.and_eq_true, decide_eq_true_eq] at h2
          simp only [beq_iff_eq] at h3
          exact ⟨i, d, hi, h2.1.symm, by rw [h2.1]; exact h2.2, hd, h3.symm⟩
        · cases h3
      · cases h2
    | succ j => exact fieldsB_get h4 (j := j) (by simpa using hx)
theorem fieldsB_len {P : Program} : ∀ {xs : List (Nat × Nat × Bool)} {fs : List Field}, fieldsB P xs fs = true → xs.length = fs.length
  | [], [], _ => rfl
  | [], _ :: _, h => by simp [fieldsB] at h
  | _ :: _, [], h => by simp [fieldsB] at h
  | y :: ys, f :: fs, h => by
    simp only [fieldsB, Bool.and_eq_true] at h
    simp [fieldsB_len h.2]
theorem TFact.struct {P : Program} {t : TypeId} {ti : TI} (h : TFact P t ti) {fs : List (Nat × Nat × Bool)} (hk : ti.k = .struct fs) : ∃ fields, P.underlying t = some (.struct fields) ∧ fieldsB P fs fields.toList = true := by
  have hk' := h.kind
  rw [hk] at hk'
  cases hu : P.underlying t with
  | none => rw [hu] at hk'; cases hk'
  | some d => rw [hu] at hk'; cases d <;> simp [kindB] at hk'; exact ⟨_, rfl, hk'⟩
theorem TFact.arr {P : Program} {t : TypeId} {ti : TI} (h : TFact P t ti) {n : Nat} {e : TypeId} {s : Nat} {ag : Bool} (hk : ti.k = .arr n e s ag) : P.underlying t = some (.array n e) ∧ 0 < s ∧ ∃ i d, P.info? e = some i ∧ i.size = s ∧ P.underlying e = some d ∧ descAgg d = ag := by
  have hk' := h.kind
  rw [hk] at hk'
  cases hu : P.underlying t with
  | none => rw [hu] at hk'; cases hk'
  | some d =>
    rw [hu] at hk'
    cases d <;> simp only [kindB, Bool.false_eq_true] at hk'
    simp only [Bool.and_eq_true, decide_eq_true_eq] at hk'
    obtain ⟨⟨⟨h1, h2⟩, h3⟩, h4⟩ := hk'
    subst h1 h2
    split at h3
    · rename_i i hi
      split at h4
      · rename_i d hd
        simp only [Bool.and_eq_true, decide_eq_true_eq] at h3
        simp only [beq_iff_eq] at h4
        exact ⟨rfl, h3.2, i, d, hi, h3.1, hd, h4.symm⟩
      · cases h4
    · cases h3

/-! ### What an operation comes to, whatever the world -/
def ASem (P : Program) (G : Nat → Option (List D)) (base k : Nat) (o : Oper) (ov : Operand → A) (ft : List (Nat × R)) (v : A) (ups : List (Nat × R)) (nid cnt : Nat) : Prop :=
  ∀ (w : World) (g : Gh) (a : Act), base ≤ w.heap.size → Glob G w g.fr → (∀ x ∈ o.op.operands.toList, RelA w g base (ov x) (a.eval x)) → (∀ r x, (r, x) ∈ ft → ResOk P w g base r x) →
    (∀ r x r' x', (r, x) ∈ ft → (r', x') ∈ ft → r ≠ r' → x.live = true → x'.live = true → g.gb r ≠ g.gb r') → (∀ r x, (r, x) ∈ ft → k ≤ r → x.live = true → base ≤ g.gb r) → (∀ r, nid ≤ r → r < nid + cnt → ¬ g.born r) →
    ∀ next Q, (∀ w' g' V, Eff P w g base v ups (fun r => nid ≤ r ∧ r < nid + cnt) (fun r => ∃ x, (r, x) ∈ ft ∧ x.live = true) w' g' V → next (a.put o.dst V) w') → o.wp P a w next Q

theorem ASem.value {P : Program} {G : Nat → Option (List D)} {base k : Nat} {o : Oper} {ov : Operand → A} {ft : List (Nat × R)} {v : A} {ups : List (Nat × R)} {nid cnt : Nat}
    (h : ∀ (w : World) (g : Gh) (a : Act), base ≤ w.heap.size → Glob G w g.fr → (∀ x ∈ o.op.operands.toList, RelA w g base (ov x) (a.eval x)) → (∀ r x, (r, x) ∈ ft → ResOk P w g base r x) →
      (∀ r, nid ≤ r → r < nid + cnt → ¬ g.born r) →
      ∃ w' g' V, ((execOp a.eval o).run P w = .ok (.value V) w' ∨ (execOp a.eval o).run P w = .ok .skip w' ∧ V = Go.undef) ∧ Eff P w g base v ups (fun r => nid ≤ r ∧ r < nid + cnt) (fun r => ∃ x, (r, x) ∈ ft ∧ x.live = true) w' g' V) :
    ASem P G base k o ov ft v ups nid cnt := by
  intro w g a h1 h2 h3 h4 h5 h6 h7 next Q hn
  obtain ⟨w', g', V, hr, he⟩ := h w g a h1 h2 h3 h4 h7
  unfold Oper.wp
  rcases hr with hr | ⟨hr, rfl⟩ <;> rw [hr]
  · exact hn w' g' V he
  · exact hn w' g' _ he
theorem Step.refl (w : World) (g : Gh) (wr nw : Nat → Prop) : Step w g w g wr nw := ⟨rfl, rfl, rfl, Evo.refl _ _, fun _ _ _ => rfl, fun _ _ => rfl, fun _ h => ⟨h, rfl, rfl⟩, fun _ h => .inl h⟩
theorem eff_pure {P : Program} {w : World} {g : Gh} {base : Nat} {v : A} {nw lv : Nat → Prop} {V : Value} (h : RelA w g base v V) : Eff P w g base v [] nw lv w g V :=
  ⟨Step.refl _ _ _ _, h, (fun _ _ h => by cases h), (fun _ _ h => by cases h), (fun _ _ _ _ h => by cases h)⟩
theorem ASem.weaken {P : Program} {G : Nat → Option (List D)} {base k : Nat} {o : Oper} {ov : Operand → A} {ft : List (Nat × R)} {v x : A} {ups : List (Nat × R)} {nid cnt : Nat} (h : ASem P G base k o ov ft v ups nid cnt) (hx : ∀ w g V, RelA w g base v V → RelA w g base x V) : ASem P G base k o ov ft x ups nid cnt :=
  fun w g a h1 h2 h3 h4 h5 h6 h7 next Q hn => h w g a h1 h2 h3 h4 h5 h6 h7 next Q fun w' g' V he => hn w' g' V ⟨he.step, hx _ _ _ he.val, he.ok, he.new, he.inj⟩
/-- An operation that only computes. -/
theorem ASem.pure {P : Program} {G : Nat → Option (List D)} {base k : Nat} {o : Oper} {ov : Operand → A} {ft : List (Nat × R)} {v : A} {nid : Nat}
    (h : ∀ (w : World) (g : Gh) (a : Act), Glob G w g.fr → (∀ x ∈ o.op.operands.toList, RelA w g base (ov x) (a.eval x)) → (∀ r x, (r, x) ∈ ft → ResOk P w g base r x) →
      ∃ V, (execOp a.eval o).run P w = .ok (.value V) w ∧ RelA w g base v V) : ASem P G base k o ov ft v [] nid 0 :=
  .value fun w g a _ h2 h3 h4 _ => let ⟨V, hr, hv⟩ := h w g a h2 h3 h4; ⟨w, g, V, .inl hr, eff_pure hv⟩

/-! ### Cells behind a pointer -/
def contOf (m : Nat → R) : C → Option (List C)
  | .ref r off =>
    match m r with
    | .box cs => some (cs.drop off)
    | .arr _ f true _ ds => some ((ds.drop off).map (D.toC f))
    | _ => none
  | .ro ds => some (ds.map (D.toC false))
  | _ => none
def ftOf (m : Nat → R) : C → List (Nat × R)
  | .ref r _ => [(r, m r)]
  | _ => []
theorem add_none (b o j : Nat) : (⟨b, o, none⟩ : Addr).add j = ⟨b, o + j, none⟩ := by unfold Addr.add; split <;> simp_all
theorem cont_cells {P : Program} {w : World} {g : Gh} {base : Nat} {m : Nat → R} {p : C} {L : List C} {V : Value} (hp : RelC w g base p V) (hc : contOf m p = some L) (hft : ∀ r x, (r, x) ∈ ftOf m p → ResOk P w g base r x) :
    ∃ (a : Addr) (vs : List Value), V = .pointer (some a) ∧ RelL w g base L vs ∧ ∀ j v, vs[j]? = some v → w.cell? (a.add j) = some v := by
  cases p with
  | ref r off =>
    obtain ⟨hb, rfl⟩ := hp
    have hr := hft r (m r) (by simp [ftOf])
    unfold contOf at hc
    simp only at hc
    split at hc
    · rename_i cs hm
      cases hc
      rw [hm] at hr
      obtain ⟨_, _, vs, T, h1, h2⟩ := hr
      refine ⟨_, vs.drop off, rfl, h2.drop off, fun j v hv => ?_⟩
      rw [List.getElem?_drop] at hv
      rw [add_none]
      simp [World.cell?, h1, hv]
    · rename_i e f n ds hm
      cases hc
      rw [hm] at hr
      obtain ⟨_, hlen, hr⟩ := hr
      simp only [if_true] at hr
      obtain ⟨_, cur, h1, h2, h3, h4, h5⟩ := hr
      refine ⟨_, (cur.toList.take (n * P.cellsOf e)).drop off, rfl, ?_, fun j v hv => ?_⟩
      · have := h5.drop off
        rwa [← List.map_drop] at this
      · rw [List.getElem?_drop, List.getElem?_take] at hv
        split at hv
        · rw [add_none]
          simp [World.cell?, h1]
          simpa using hv
        · cases hv
    · cases hc
  | ro ds =>
    obtain ⟨a, vs, rfl, h⟩ := hp
    cases hc
    refine ⟨a, (List.range ds.length).map vs, rfl, RelL.intro (by simp) fun j c v h1 h2 => ?_, fun j v hv => ?_⟩
    · rw [List.getElem?_map] at h1
      obtain ⟨x, hx, rfl⟩ := Option.map_eq_some_iff.1 h1
      obtain ⟨e1, e2, e3⟩ := h j x hx
      have hj : j < ds.length := (List.getElem?_eq_some_iff.1 hx).1
      simp [hj] at h2
      subst h2
      exact RelC.toC e3
    · rw [List.getElem?_map] at hv
      obtain ⟨i, hi, rfl⟩ := Option.map_eq_some_iff.1 hv
      have hj : j < ds.length := by have := (List.getElem?_eq_some_iff.1 hi).1; simpa using this
      have : i = j := by simp [hj] at hi; exact hi.symm
      subst this
      exact (h i ds[i] (List.getElem?_eq_getElem hj)).1
  | _ => cases hc

def slot : A → Option C
  | .v false [c] => some c
  | .opt true x => slot x
  | _ => none
theorem slot_rel {w : World} {g : Gh} {base : Nat} {x : A} {c : C} {V : Value} (h : RelA w g base x V) (hx : slot x = some c) : RelC w g base c V := by
  induction x with
  | v ag cs =>
    unfold slot at hx
    split at hx
    · rename_i e
      cases e
      cases hx
      obtain ⟨c', h1, h2⟩ := h
      cases h1; exact h2
    · rename_i e; cases e
    · cases hx
  | opt b x ih =>
    cases b with
    | true => exact ih (h.1 rfl) (by simpa [slot] using hx)
    | false => cases hx
  | _ => cases hx
def loadA (ti : TI) (L : List C) : Option (A × Prop) :=
  if ti.k.agg then some (.v true (L.take ti.size), ti.size ≤ L.length) else match L with
    | c :: _ => some (.v false [c], True)
    | [] => none
theorem sem_load {P : Program} {T : TypeId → Option TI} (hT : TOk P T) {G : Nat → Option (List D)} {base k : Nat} {o : Oper} {ov : Operand → A} {m : Nat → R} {t : TypeId} {x : Operand} {ti : TI} {p : C} {L : List C} {v : A} {side : Prop} {nid : Nat}
    (ho : o.op = .load t x) (ht : T t = some ti) (hx : slot (ov x) = some p) (hc : contOf m p = some L) (hl : loadA ti L = some (v, side)) (hs : side) : ASem P G base k o ov (ftOf m p) v [] nid 0 := by
  refine .pure fun w g a _ hop hft => ?_
  have hp := slot_rel (hop x (by simp [ho, Op.operands])) hx
  obtain ⟨ad, vs, hV, hL, hcell⟩ := cont_cells hp hc hft
  have hf := hT.get ht
  have hrun : (execOp a.eval o).run P w = ((loadVar t ad).run P w).andThen fun z w => .ok (.value z) w := by
    unfold execOp
    simp only [ho, hV, Instr.loadAt, Instr.sureAddr, Sem.run_bind, Sem.run_pure, Result.andThen_ok]
  unfold loadA at hl
  split at hl
  · rename_i hag
    simp only [Option.some.injEq, Prod.mk.injEq] at hl
    obtain ⟨rfl, rfl⟩ := hl
    refine ⟨.agg (vs.take ti.size).toArray, ?_, vs.take ti.size, rfl, hL.take _⟩
    have hlen : (vs.take ti.size).length = ti.size := by rw [List.length_take, ← hL.length]; omega
    have hl := run_loadCells_list (P := P) w ad (vs.take ti.size) (fun j v hv => hcell j v (by rw [List.getElem?_take] at hv; split at hv <;> simp_all))
    rw [hlen] at hl
    rw [hrun]
    simp [loadVar, Sem.run_bind, hf.agg, hag, hf.size, hl]
  · rename_i hag
    split at hl
    · rename_i c rest
      simp only [Option.some.injEq, Prod.mk.injEq] at hl
      obtain ⟨rfl, rfl⟩ := hl
      cases vs with
      | nil => exact hL.elim
      | cons v vs =>
        refine ⟨v, ?_, c, rfl, hL.1⟩
        have := hcell 0 v rfl
        rw [show ad.add 0 = ad from by unfold Addr.add; simp] at this
        rw [hrun]
        simp [loadVar, Sem.run_bind, hf.agg, hag, this]
    · cases hl

theorem sem_move {P : Program} {G : Nat → Option (List D)} {base k : Nat} {o : Oper} {ov : Operand → A} {x : Operand} {nid : Nat} (ho : o.op = .move x ∨ o.op = .assign x) : ASem P G base k o ov [] (ov x) [] nid 0 := by
  refine .pure fun w g a _ hop _ => ⟨a.eval x, ?_, hop x (by rcases ho with h | h <;> simp [h, Op.operands])⟩
  unfold execOp
  rcases ho with h | h <;> simp [h]
theorem sem_pick {P : Program} {G : Nat → Option (List D)} {base k : Nat} {o : Oper} {ov : Operand → A} {c x y : Operand} {b : Bool} {nid : Nat} (ho : o.op = .pick c x y) (hc : slot (ov c) = some (.b b)) : ASem P G base k o ov [] (if b then ov x else ov y) [] nid 0 := by
  refine .pure fun w g a _ hop _ => ⟨if b then a.eval x else a.eval y, ?_, ?_⟩
  · have := slot_rel (hop c (by simp [ho, Op.operands])) hc
    unfold RelC at this
    unfold execOp
    simp [ho, this, asBool]
  · cases b
    · exact hop y (by simp [ho, Op.operands])
    · exact hop x (by simp [ho, Op.operands])
def boolOf : A → Option (Bool × Bool)
  | .v false [.b p] => some (true, p)
  | .opt e (.v false [.b p]) => some (e, p)
  | _ => none
theorem boolOf_rel {w : World} {g : Gh} {base : Nat} {x : A} {e p : Bool} {V : Value} (h : RelA w g base x V) (hx : boolOf x = some (e, p)) (he : e = true) : V = .bool p := by
  unfold boolOf at hx
  split at hx
  · cases hx
    obtain ⟨c, h1, h2⟩ := h
    cases h1; exact h2
  · cases hx
    obtain ⟨c, h1, h2⟩ := h.1 he
    cases h1; exact h2
  · cases hx
/-- Picking of two truth values, of which one may not have been asked for. -/
theorem sem_pickg {P : Program} {G : Nat → Option (List D)} {base k : Nat} {o : Oper} {ov : Operand → A} {c x y : Operand} {b e1 e2 p q : Bool} {nid : Nat} (ho : o.op = .pick c x y) (hc : slot (ov c) = some (.b b)) (hx : boolOf (ov x) = some (e1, p)) (hy : boolOf (ov y) = some (e2, q)) (h1 : b = true → e1 = true) (h2 : b = false → e2 = true) :
    ASem P G base k o ov [] (.v false [.b (if b then p else q)]) [] nid 0 := by
  refine .pure fun w g a _ hop _ => ⟨if b then a.eval x else a.eval y, ?_, ?_⟩
  · have := slot_rel (hop c (by simp [ho, Op.operands])) hc
    unfold RelC at this
    unfold execOp
    simp [ho, this, asBool]
  · cases b
    · exact ⟨_, rfl, boolOf_rel (hop y (by simp [ho, Op.operands])) hy (h2 rfl)⟩
    · exact ⟨_, rfl, boolOf_rel (hop x (by simp [ho, Op.operands])) hx (h1 rfl)⟩
/-- Picking of two truth values is one truth value. -/
theorem sem_pickb {P : Program} {G : Nat → Option (List D)} {base k : Nat} {o : Oper} {ov : Operand → A} {c x y : Operand} {b p q : Bool} {nid : Nat} (ho : o.op = .pick c x y) (hc : slot (ov c) = some (.b b)) (hx : ov x = .v false [.b p]) (hy : ov y = .v false [.b q]) :
    ASem P G base k o ov [] (.v false [.b (if b then p else q)]) [] nid 0 := by
  have := sem_pick (P := P) (G := G) (base := base) (k := k) (nid := nid) ho hc
  rw [hx, hy] at this
  cases b <;> exact this

/-! ### New boxes -/
def nuG (g : Gh) (w : World) (nid cap f : Nat) : Gh := ⟨upd g.fr w.heap.size f, upd g.gb nid w.heap.size, upd g.gc nid cap, fun r => g.born r ∨ r = nid⟩
theorem alloc_old (w : World) (o : Obj) (b : Nat) (h : b < w.heap.size) : (w.alloc o).heap[b]? = w.heap[b]? := by
  show (w.heap.push o)[b]? = _
  rw [Array.getElem?_push, if_neg (Nat.ne_of_lt h)]
theorem alloc_cell {w : World} {o : Obj} {a : Addr} {v : Value} (h : w.cell? a = some v) : (w.alloc o).cell? a = some v := by
  rw [World.cell?_of_block (alloc_old w o a.block (cell_lt h))]; exact h
theorem step_new {w : World} {g : Gh} {nid cap f : Nat} {o : Obj} {wr nw : Nat → Prop} (hb : ¬ g.born nid) (hn : nw nid) : Step w g (w.alloc o) (nuG g w nid cap f) wr nw := by
  refine ⟨rfl, rfl, rfl, ⟨by simp, fun b hb => ?_, fun a v _ h => alloc_cell h, fun b _ hb => alloc_old w o b hb, fun b hb _ => ?_⟩, fun b hb _ => alloc_old w o b hb, fun b hb => ?_, fun r hr => ⟨.inl hr, ?_, ?_⟩, fun r hr => ?_⟩
  · show g.fr b ≤ upd g.fr w.heap.size f b
    unfold upd; rw [if_neg (by omega)]; exact Nat.le_refl _
  · show upd g.fr w.heap.size f b = g.fr b
    unfold upd; rw [if_neg (by omega)]
  · show upd g.fr w.heap.size f b = g.fr b
    unfold upd; rw [if_neg (by omega)]
  · show upd g.gb nid w.heap.size r = g.gb r
    unfold upd; rw [if_neg (fun (e : r = nid) => hb (e ▸ hr))]
  · show upd g.gc nid cap r = g.gc r
    unfold upd; rw [if_neg (fun (e : r = nid) => hb (e ▸ hr))]
  · rcases hr with h | rfl
    · exact .inl h
    · exact .inr hn
theorem alloc_new (w : World) (o : Obj) : (w.alloc o).heap[w.heap.size]? = some o := by
  show (w.heap.push o)[w.heap.size]? = some o
  simp
theorem eff_box {P : Program} {w : World} {g : Gh} {base nid : Nat} {cs : List C} {vs : List Value} {t : TypeId} {lv : Nat → Prop} (hb : ¬ g.born nid) (h : RelL w g base cs vs) :
    Eff P w g base (.v false [.ref nid 0]) [(nid, .box cs)] (fun r => nid ≤ r ∧ r < nid + 1) lv (w.alloc (.cells vs.toArray t (0, 0))) (nuG g w nid 0 0) (.pointer (some ⟨w.heap.size, 0, none⟩)) := by
  have hs : Step w g (w.alloc (.cells vs.toArray t (0, 0))) (nuG g w nid 0 0) (fun r => (∃ x, (r, x) ∈ [(nid, R.box cs)]) ∧ ¬ (nid ≤ r ∧ r < nid + 1) ∧ lv r) (fun r => nid ≤ r ∧ r < nid + 1) := step_new hb ⟨Nat.le_refl _, by omega⟩
  have hgb : (nuG g w nid 0 0).gb nid = w.heap.size := by simp [nuG, upd]
  refine ⟨hs, ⟨_, rfl, .inr rfl, by rw [hgb]⟩, fun r x hx => ?_, fun r x hx _ _ => .inl ?_, fun r x r' x' hx hx' _ _ hne => ?_⟩
  · simp only [List.mem_singleton, Prod.mk.injEq] at hx
    obtain ⟨rfl, rfl⟩ := hx
    exact ⟨.inr rfl, by rw [hgb]; simp [nuG, upd], vs, t, by rw [hgb]; exact alloc_new w _, h.step hs⟩
  · simp only [List.mem_singleton, Prod.mk.injEq] at hx
    obtain ⟨rfl, rfl⟩ := hx
    rw [hgb]; exact Nat.le_refl _
  · simp only [List.mem_singleton, Prod.mk.injEq] at hx hx'
    exact absurd (hx.1.trans hx'.1.symm) hne
theorem litsB_rel {w : World} {g : Gh} {base : Nat} : ∀ {cs : List C} {vs : List Value}, litsB cs vs = true → RelL w g base cs vs
  | [], [], _ => trivial
  | [], _ :: _, h => by cases h
  | _ :: _, [], h => by cases h
  | c :: cs, v :: vs, h => by
    simp only [litsB, Bool.and_eq_true] at h
    refine ⟨?_, litsB_rel h.2⟩
    have h1 := h.1
    unfold litB at h1
    split at h1 <;> simp only [beq_iff_eq, Bool.and_eq_true, decide_eq_true_eq, Bool.false_eq_true] at h1
    · subst h1; rfl
    · obtain ⟨rfl, rfl⟩ := h1; rfl
    · subst h1; rfl
    · exact RelD.nil
    · rfl
theorem sem_alloc {P : Program} {T : TypeId → Option TI} (hT : TOk P T) {G : Nat → Option (List D)} {base k : Nat} {o : Oper} {ov : Operand → A} {t : TypeId} {ti : TI} {nid : Nat} (ho : o.op = .alloc t) (ht : T t = some ti) :
    ASem P G base k o ov [] (.v false [.ref nid 0]) [(nid, .box ti.zero)] nid 1 := by
  refine .value fun w g a _ _ _ _ hb => ?_
  obtain ⟨i, z, h1, h2, h3, h4, h5⟩ := (hT.get ht).info
  refine ⟨_, _, _, .inl ?_, eff_box (t := t) (hb nid (Nat.le_refl _) (by omega)) (litsB_rel h5)⟩
  unfold execOp
  simp [ho, Instr.alloc, zeroValue, typeInfo, h1, h4, newVar, newRow]
def cellsA : A → Option (List C)
  | .v _ cs => some cs
  | .opt true x => cellsA x
  | _ => none
theorem cellsA_rel {w : World} {g : Gh} {base : Nat} {x : A} {cs : List C} {V : Value} (h : RelA w g base x V) (hx : cellsA x = some cs) : RelL w g base cs V.cells.toList := by
  induction x with
  | v ag cs' =>
    cases hx
    cases ag with
    | true =>
      obtain ⟨xs, rfl, h2⟩ := (show ∃ xs : List Value, V = .agg xs.toArray ∧ RelL w g base cs xs from h)
      exact h2
    | false =>
      obtain ⟨c, rfl, h2⟩ := (show ∃ c, cs = [c] ∧ RelC w g base c V from h)
      have h1 := h2.one
      cases V <;> first | (cases h1; done) | exact ⟨h2, trivial⟩
  | opt b x ih =>
    cases b with
    | true => exact ih (h.1 rfl) (by simpa [cellsA] using hx)
    | false => cases hx
  | _ => cases hx
theorem sem_box {P : Program} {G : Nat → Option (List D)} {base k : Nat} {o : Oper} {ov : Operand → A} {t : TypeId} {x : Operand} {cs : List C} {nid : Nat} (ho : o.op = .box t x) (hx : cellsA (ov x) = some cs) :
    ASem P G base k o ov [] (.v false [.ref nid 0]) [(nid, .box cs)] nid 1 := by
  refine .value fun w g a _ _ hop _ hb => ?_
  refine ⟨_, _, _, .inl ?_, eff_box (t := t) (hb nid (Nat.le_refl _) (by omega)) (cellsA_rel (hop x (by simp [ho, Op.operands])) hx)⟩
  unfold execOp
  simp [ho, Instr.box, newVar, newRow]

/-! ### Stores -/
def setR {α : Type} : List α → Nat → List α → List α
  | l, _, [] => l
  | [], _, _ => []
  | _ :: l, 0, x :: xs => x :: setR l 0 xs
  | a :: l, n + 1, xs => a :: setR l n xs
theorem setR_eq {α : Type} : ∀ (l : List α) (n : Nat) (xs : List α), n + xs.length ≤ l.length → setR l n xs = l.take n ++ xs ++ l.drop (n + xs.length)
  | l, n, [], _ => by cases l <;> cases n <;> simp [setR]
  | [], n, x :: xs, h => by simp at h
  | a :: l, 0, x :: xs, h => by
    have := setR_eq l 0 xs (by simpa using h)
    simp [setR, this]
  | a :: l, n + 1, x :: xs, h => by
    have := setR_eq l n (x :: xs) (by simp at h ⊢; omega)
    simp only [List.length_cons] at this ⊢
    rw [setR, this]
    simp [show n + 1 + (xs.length + 1) = (n + (xs.length + 1)) + 1 from by omega]
    simp
theorem take_setR {α : Type} : ∀ (l : List α) (off : Nat) (v : List α) (N : Nat), off + v.length ≤ N → N ≤ l.length → (setR l off v).take N = setR (l.take N) off v
  | l, off, [], N, _, _ => by cases l <;> cases off <;> cases N <;> rfl
  | [], off, v :: vs, N, h, h' => by simp at h'; subst h'; simp at h
  | a :: l, 0, v :: vs, 0, h, _ => by simp at h
  | a :: l, 0, v :: vs, N + 1, h, h' => by simp only [setR, List.take_succ_cons]; rw [take_setR l 0 vs N (by simp at h ⊢; omega) (by simpa using h')]
  | a :: l, off + 1, v :: vs, 0, h, _ => by omega
  | a :: l, off + 1, v :: vs, N + 1, h, h' => by simp only [setR, List.take_succ_cons]; rw [take_setR l off (v :: vs) N (by omega) (by simpa using h')]
theorem RelL.setR {w : World} {g : Gh} {base : Nat} : ∀ {cs : List C} {vs : List Value} (n : Nat) {xs : List C} {us : List Value}, RelL w g base cs vs → RelL w g base xs us → RelL w g base (setR cs n xs) (setR vs n us)
  | cs, vs, n, [], [], h, _ => by
    have e1 : Proofs.Ytpobimdcphjljaa.setR cs n [] = cs := by cases cs <;> cases n <;> rfl
    have e2 : Proofs.Ytpobimdcphjljaa.setR vs n [] = vs := by cases vs <;> cases n <;> rfl
    rw [e1, e2]; exact h
  | _, _, _, [], _ :: _, _, h => h.elim
  | _, _, _, _ :: _, [], _, h => h.elim
  | [], [], _, _ :: _, _ :: _, _, _ => trivial
  | [], _ :: _, _, _, _, h, _ => h.elim
  | _ :: _, [], _, _, _, h, _ => h.elim
  | c :: cs, v :: vs, 0, x :: xs, u :: us, h, k => ⟨k.1, RelL.setR 0 h.2 k.2⟩
  | c :: cs, v :: vs, n + 1, x :: xs, u :: us, h, k => ⟨h.1, RelL.setR n h.2 k⟩
def toDs : List C → Option (Bool × List D)
  | [] => some (true, [])
  | c :: cs =>
    match C.toD c, toDs cs with
    | some (f, d), some (f', ds) => some (f && f', d :: ds)
    | _, _ => none
theorem toDs_rel {w : World} {g : Gh} {base : Nat} : ∀ {cs : List C} {vs : List Value} {f : Bool} {ds : List D}, RelL w g base cs vs → toDs cs = some (f, ds) → ∀ f', (f' = true → f = true) → RelL w g base (ds.map (D.toC f')) vs
  | [], [], f, ds, _, h, f', _ => by cases h; trivial
  | [], _ :: _, _, _, h, _, _, _ => h.elim
  | _ :: _, [], _, _, h, _, _, _ => h.elim
  | c :: cs, v :: vs, f, ds, h, hd, f', hf => by
    unfold toDs at hd
    split at hd
    · rename_i f1 d f2 ds' h1 h2
      cases hd
      exact ⟨RelC.toC (h.1.toD h1 f' (fun e => (Bool.and_eq_true _ _ ▸ hf e).1)), toDs_rel h.2 h2 f' (fun e => (Bool.and_eq_true _ _ ▸ hf e).2)⟩
    · cases hd
theorem RelL.weaken {w : World} {g : Gh} {base : Nat} {f f' : Bool} (hf : f' = true → f = true) : ∀ {ds : List D} {vs : List Value}, RelL w g base (ds.map (D.toC f)) vs → RelL w g base (ds.map (D.toC f')) vs
  | [], [], _ => trivial
  | [], _ :: _, h => h.elim
  | _ :: _, [], h => h.elim
  | d :: ds, v :: vs, h => ⟨by
      have h1 := RelC.ofC h.1
      refine RelC.toC ?_
      cases f' with
      | true => rw [hf rfl] at h1; exact h1
      | false => exact h1.weaken (frOf_ge _ _ _), RelL.weaken hf h.2⟩
theorem step_row {w : World} {g : Gh} {b : Nat} {cur cur' : Array Value} {t : TypeId} {wr nw : Nat → Prop} (_h : w.heap[b]? = some (.cells cur t (0, 0))) (hf : g.fr b = 0) (hr : ∃ r, wr r ∧ g.gb r = b) : Step w g (w.setRow b cur') g wr nw := by
  obtain ⟨r, hr1, hr2⟩ := hr
  refine ⟨rfl, rfl, rfl, ⟨by simp, fun _ _ => Nat.le_refl _, fun a v ha hc => ?_, fun b' hb' _ => setRow_other w b b' cur' (fun e => by rw [e, hf] at hb'; omega), fun _ _ _ => rfl⟩, fun b' _ hne => ?_, fun _ _ => rfl, fun _ h => ⟨h, rfl, rfl⟩, fun _ h => .inl h⟩
  · have : a.block ≠ b := fun e => by rw [e, hf] at ha; omega
    rw [World.cell?_of_block (setRow_other w b a.block cur' this)]; exact hc
  · exact setRow_other w b b' cur' (fun e => hne r hr1 (by rw [hr2, e]))
theorem sem_store_box {P : Program} {T : TypeId → Option TI} (hT : TOk P T) {G : Nat → Option (List D)} {base k : Nat} {o : Oper} {ov : Operand → A} {t : TypeId} {x y : Operand} {ti : TI} {r off : Nat} {cs xs : List C} {nid : Nat} {m : Nat → R}
    (ho : o.op = .store t x y) (ht : T t = some ti) (hx : slot (ov x) = some (.ref r off)) (hm : m r = .box cs) (hy : cellsA (ov y) = some xs) (h1 : xs.length = ti.size) (h2 : off + xs.length ≤ cs.length) : ASem P G base k o ov [(r, m r)] .undef [(r, .box (setR cs off xs))] nid 0 := by
  refine .value fun w g a _ _ hop hft hb => ?_
  have hp := slot_rel (hop x (by simp [ho, Op.operands])) hx
  obtain ⟨hbr, hp⟩ := hp
  have hv := cellsA_rel (hop y (by simp [ho, Op.operands])) hy
  obtain ⟨_, hfr, vs, U, hheap, hrel⟩ := (by have := hft r (m r) (by simp); rw [hm] at this; exact this : ResOk P w g base r (.box cs))
  have hf := hT.get ht
  have hlen : (a.eval y).cells.size = ti.size := by rw [← h1, hv.length]; simp
  have hst := run_storeCells_at P (g.gb r) off U (a.eval y).cells.toList 0 vs.toArray w hheap (by simp only [Nat.add_zero, List.size_toArray, ← hrel.length, ← hv.length]; exact h2) hv.ones
  refine ⟨w.setRow (g.gb r) (vs.take (off + 0) ++ (a.eval y).cells.toList ++ vs.drop (off + 0 + (a.eval y).cells.toList.length)).toArray, g, Go.undef, .inr ⟨?_, rfl⟩, step_row hheap hfr ⟨r, ⟨⟨_, List.mem_singleton.2 rfl⟩, by omega, m r, by simp, by rw [hm]; rfl⟩, rfl⟩, rfl, fun r' x' hx' => ?_, fun r' x' _ hn => by omega, fun r' x' r'' x'' _ _ hn => by omega⟩
  · unfold execOp
    simp only [ho, hp, Instr.storeAt, Instr.sureAddr, Sem.run_bind, Sem.run_pure, Result.andThen_ok, storeVar, hf.size, hlen, ne_eq, not_true_eq_false, if_false, hst]
  · simp only [List.mem_singleton, Prod.mk.injEq] at hx'
    obtain ⟨rfl, rfl⟩ := hx'
    refine ⟨hbr, hfr, setR vs off (a.eval y).cells.toList, U, ?_, ?_⟩
    · rw [setRow_heap w _ _ _ U _ hheap, setR_eq _ _ _ (by rw [← hrel.length, ← hv.length]; exact h2)]
      simp
    · have hs : Step w g (w.setRow (g.gb r') (vs.take (off + 0) ++ (a.eval y).cells.toList ++ vs.drop (off + 0 + (a.eval y).cells.toList.length)).toArray) g (fun x => x = r') (fun _ => False) := step_row hheap hfr ⟨r', rfl, rfl⟩
      exact (RelL.setR off hrel hv).step hs

theorem sem_store_arr {P : Program} {T : TypeId → Option TI} (hT : TOk P T) {G : Nat → Option (List D)} {base k : Nat} {o : Oper} {ov : Operand → A} {t e : TypeId} {x y : Operand} {ti : TI} {r off n : Nat} {f f' : Bool} {ds ys : List D} {xs : List C} {nid : Nat} {m : Nat → R}
    (ho : o.op = .store t x y) (ht : T t = some ti) (hx : slot (ov x) = some (.ref r off)) (hm : m r = .arr e f true n ds) (hy : cellsA (ov y) = some xs) (hd : toDs xs = some (f', ys)) (h1 : xs.length = ti.size) (h2 : off + xs.length ≤ ds.length) :
    ASem P G base k o ov [(r, m r)] .undef [(r, .arr e (f && f') true n (setR ds off ys))] nid 0 := by
  refine .value fun w g a _ _ hop hft hb => ?_
  have hp := slot_rel (hop x (by simp [ho, Op.operands])) hx
  obtain ⟨hbr, hp⟩ := hp
  have hv := cellsA_rel (hop y (by simp [ho, Op.operands])) hy
  have hres := (by have := hft r (m r) (by simp); rw [hm] at this; exact this : ResOk P w g base r (.arr e f true n ds))
  obtain ⟨_, hlen0, hres⟩ := hres
  simp only [if_true] at hres
  obtain ⟨hfr, cur, hheap, hn, hc, hcs, hrel⟩ := hres
  have hf := hT.get ht
  have hlen : (a.eval y).cells.size = ti.size := by rw [← h1, hv.length]; simp
  have hxl : (a.eval y).cells.toList.length = xs.length := hv.length.symm
  have hyl : ys.length = xs.length := by have := (toDs_rel hv hd false (fun e => by cases e)).length; simp at this; rw [this, hv.length]; simp
  have hcl : n * P.cellsOf e ≤ cur.size := by rw [hcs]; exact Nat.mul_le_mul_right _ hn
  have hfit : off + (a.eval y).cells.toList.length ≤ cur.toList.length := by have e0 : cur.toList.length = cur.size := Array.length_toList; rw [hxl, e0]; omega
  have hst := run_storeCells_at P (g.gb r) off e (a.eval y).cells.toList 0 cur w hheap (by have e0 : cur.toList.length = cur.size := Array.length_toList; rw [e0] at hfit; exact hfit) hv.ones
  refine ⟨w.setRow (g.gb r) (cur.toList.take (off + 0) ++ (a.eval y).cells.toList ++ cur.toList.drop (off + 0 + (a.eval y).cells.toList.length)).toArray, g, Go.undef, .inr ⟨?_, rfl⟩, step_row hheap hfr ⟨r, ⟨⟨_, List.mem_singleton.2 rfl⟩, by omega, m r, by simp, by rw [hm]; rfl⟩, rfl⟩, rfl, fun r' x' hx' => ?_, fun r' x' _ hn => by omega, fun r' x' r'' x'' _ _ hn => by omega⟩
  · unfold execOp
    simp only [ho, hp, Instr.storeAt, Instr.sureAddr, Sem.run_bind, Sem.run_pure, Result.andThen_ok, storeVar, hf.size, hlen, ne_eq, not_true_eq_false, if_false, hst]
  · simp only [List.mem_singleton, Prod.mk.injEq] at hx'
    obtain ⟨rfl, rfl⟩ := hx'
    have hs : Step w g (w.setRow (g.gb r') (cur.toList.take (off + 0) ++ (a.eval y).cells.toList ++ cur.toList.drop (off + 0 + (a.eval y).cells.toList.length)).toArray) g (fun x => x = r') (fun _ => False) := step_row hheap hfr ⟨r', rfl, rfl⟩
    refine ⟨hbr, ?_, ?_⟩
    · rw [setR_eq _ _ _ (by rw [hyl]; exact h2)]
      simp only [List.length_append, List.length_take, List.length_drop, hyl]
      omega
    · simp only [if_true]
      refine ⟨hfr, _, setRow_heap w _ _ _ e _ hheap, hn, hc, ?_, ?_⟩
      · rw [← hcs]
        simp only [List.size_toArray, List.length_append, List.length_take, List.length_drop, Array.length_toList] at hfit ⊢
        omega
      · have e1 : (cur.toList.take (off + 0) ++ (a.eval y).cells.toList ++ cur.toList.drop (off + 0 + (a.eval y).cells.toList.length)) = setR cur.toList off (a.eval y).cells.toList := by
          rw [setR_eq _ _ _ hfit]; simp
        have e2 : (setR cur.toList off (a.eval y).cells.toList).take (n * P.cellsOf e) = setR (cur.toList.take (n * P.cellsOf e)) off (a.eval y).cells.toList := by
          exact take_setR _ _ _ _ (by rw [hxl]; omega) (by have e0 : cur.toList.length = cur.size := Array.length_toList; rw [e0]; exact hcl)
        rw [e1] at hs
        rw [List.toList_toArray, e1, e2]
        have hD : RelL w g base ((setR ds off ys).map (D.toC (f && f'))) (setR (cur.toList.take (n * P.cellsOf e)) off (a.eval y).cells.toList) := by
          have m1 : (setR ds off ys).map (D.toC (f && f')) = setR (ds.map (D.toC (f && f'))) off (ys.map (D.toC (f && f'))) := by
            rw [setR_eq _ _ _ (by rw [hyl]; exact h2), setR_eq _ _ _ (by simp only [List.length_map, hyl]; exact h2)]
            simp [List.map_take, List.map_drop]
          rw [m1]
          exact RelL.setR off (RelL.weaken (fun e => (Bool.and_eq_true _ _ ▸ e).1) hrel) (toDs_rel hv hd _ (fun e => (Bool.and_eq_true _ _ ▸ e).2))
        exact hD.step hs

/-! ### Structs and slices built -/
def fillC (place : Nat → Option (Nat × Nat)) (cells : List C) : List (Nat × List C) → Option (List C)
  | [] => some cells
  | (i, v) :: rest =>
    match place i with
    | none => none
    | some (off, size) => if v.length = size ∧ off + v.length ≤ cells.length then fillC place (setR cells off v) rest else none
theorem fold_set : ∀ (vs : List Value) (off i : Nat) (cells : Array Value), off + i + vs.length ≤ cells.size →
    ((vs.zipIdx i).foldl (fun cs (x : Value × Nat) => cs.setIfInBounds (off + x.2) x.1) cells).toList = setR cells.toList (off + i) vs
  | [], off, i, cells, _ => by simp; cases h : cells.toList <;> cases off + i <;> rfl
  | v :: vs, off, i, cells, h => by
    simp only [List.zipIdx_cons, List.foldl_cons]
    have hl : (off + (i + 1)) + vs.length ≤ (cells.setIfInBounds (off + i) v).size := by simp at h ⊢; omega
    have := fold_set vs off (i + 1) (cells.setIfInBounds (off + i) v) hl
    rw [this, setR_eq _ _ _ (by simpa using hl), setR_eq _ _ _ (by simpa using h)]
    simp only [Array.toList_setIfInBounds, List.length_cons]
    have := list_seg_step cells.toList (off + i) v vs (by simpa using h)
    rw [show off + (i + 1) = off + i + 1 by omega]
    rw [show off + i + (vs.length + 1) = off + i + (v :: vs).length by simp]
    simpa using this
theorem fill_rel {w : World} {g : Gh} {base : Nat} {place : Nat → Option (Nat × Nat)} : ∀ {ps : List (Nat × List C)} {qs : List (Nat × Value)} {cells : List C} {vals : Array Value} {out : List C},
    ps.length = qs.length → (∀ (j : Nat) (p : Nat × List C) (q : Nat × Value), ps[j]? = some p → qs[j]? = some q → p.1 = q.1 ∧ RelL w g base p.2 q.2.cells.toList) → RelL w g base cells vals.toList → fillC place cells ps = some out →
    ∃ vs, Instr.fill place vals qs = some vs ∧ RelL w g base out vs.toList
  | [], [], cells, vals, out, _, _, h, ho => by cases ho; exact ⟨vals, rfl, h⟩
  | [], _ :: _, _, _, _, hl, _, _, _ => by simp at hl
  | _ :: _, [], _, _, _, hl, _, _, _ => by simp at hl
  | (i, p) :: ps, (i', q) :: qs, cells, vals, out, hl, hr, h, ho => by
    obtain ⟨rfl, hpq⟩ := hr 0 _ _ rfl rfl
    unfold fillC at ho
    unfold Instr.fill
    simp only at ho hpq ⊢
    cases hp : place i with
    | none => rw [hp] at ho; cases ho
    | some pl =>
      obtain ⟨off, size⟩ := pl
      rw [hp] at ho
      simp only at ho ⊢
      split at ho
      · rename_i hc
        have hq : q.cells.size = p.length := by rw [hpq.length]; simp
        have hcl : cells.length = vals.size := by rw [h.length]; simp
        rw [if_neg (by simp [hq, hc.1, ← hcl]; have := hc.2; omega)]
        have hfold := fold_set q.cells.toList off 0 vals (by simp only [Array.length_toList]; have := hc.2; omega)
        obtain ⟨vs, h1, h2⟩ := fill_rel (ps := ps) (qs := qs) (vals := (q.cells.zipIdx.foldl (fun cs (x : Value × Nat) => cs.setIfInBounds (off + x.2) x.1) vals)) (by simpa using hl) (fun j p q hp hq => hr (j + 1) p q (by simpa using hp) (by simpa using hq)) (by
          have e : (q.cells.zipIdx.foldl (fun cs (x : Value × Nat) => cs.setIfInBounds (off + x.2) x.1) vals).toList = setR vals.toList off q.cells.toList := by
            rw [← Array.foldl_toList]
            simpa using hfold
          rw [e]
          exact RelL.setR off h hpq) ho
        exact ⟨vs, h1, h2⟩
      · cases ho
def partsA (ov : Operand → A) : List (Nat × Operand) → Option (List (Nat × List C))
  | [] => some []
  | (i, x) :: ps =>
    match cellsA (ov x), partsA ov ps with
    | some cs, some rest => some ((i, cs) :: rest)
    | _, _ => none
theorem partsA_rel {w : World} {g : Gh} {base : Nat} {ov : Operand → A} {a : Act} : ∀ {ps : List (Nat × Operand)} {qs : List (Nat × List C)}, (∀ p ∈ ps, RelA w g base (ov p.2) (a.eval p.2)) → partsA ov ps = some qs →
    qs.length = ps.length ∧ ∀ (j : Nat) p q, qs[j]? = some p → (ps.map fun x => (x.1, a.eval x.2))[j]? = some q → p.1 = q.1 ∧ RelL w g base p.2 q.2.cells.toList
  | [], qs, _, h => by cases h; exact ⟨rfl, fun j p q hp => by simp at hp⟩
  | (i, x) :: ps, qs, hr, h => by
    unfold partsA at h
    split at h
    · rename_i cs rest h1 h2
      cases h
      obtain ⟨e1, e2⟩ := partsA_rel (fun p hp => hr p (List.mem_cons_of_mem _ hp)) h2
      refine ⟨by simp [e1], fun j p q hp hq => ?_⟩
      cases j with
      | zero => simp at hp hq; subst hp hq; exact ⟨rfl, cellsA_rel (hr _ (List.mem_cons_self ..)) h1⟩
      | succ j => exact e2 j p q (by simpa using hp) (by simpa using hq)
    · cases h
def buildC (ti : TI) (ps : List (Nat × List C)) : Option (List C) :=
  match ti.k with
  | .struct fs => fillC (fun i => (fs[i]?).map fun x => (x.1, x.2.1)) ti.zero ps
  | .arr _ _ s _ => fillC (fun i => some (i * s, s)) ti.zero ps
  | _ => none
theorem sem_build {P : Program} {T : TypeId → Option TI} (hT : TOk P T) {G : Nat → Option (List D)} {base k : Nat} {o : Oper} {ov : Operand → A} {t : TypeId} {parts : Array (Nat × Operand)} {ti : TI} {ps : List (Nat × List C)} {cs : List C} {nid : Nat}
    (ho : o.op = .build t parts) (ht : T t = some ti) (hp : partsA ov parts.toList = some ps) (hb : buildC ti ps = some cs) : ASem P G base k o ov [] (.v true cs) [] nid 0 := by
  refine .pure fun w g a _ hop _ => ?_
  have hops : ∀ p ∈ parts.toList, RelA w g base (ov p.2) (a.eval p.2) := fun p hp => hop p.2 (by simp [ho, Op.operands]; exact ⟨p.1, by simpa using hp⟩)
  obtain ⟨e1, e2⟩ := partsA_rel hops hp
  have hf := hT.get ht
  obtain ⟨i, z, h1, h2, h3, h4, h5⟩ := hf.info
  have hz : RelL w g base ti.zero z.cells.toList := litsB_rel h5
  have main : ∀ place, fillC place ti.zero ps = some cs → ∃ vs, Instr.fill place z.cells (parts.map fun (i, x) => (i, a.eval x)).toList = some vs ∧ RelL w g base cs vs.toList := fun place hc =>
    fill_rel (by simp [e1]) (fun j p q hp hq => e2 j p q hp (by simpa using hq)) hz hc
  unfold buildC at hb
  split at hb
  · rename_i fs hk
    obtain ⟨fields, hu, hfl⟩ := hf.struct hk
    obtain ⟨vs, hv1, hv2⟩ := main _ hb
    refine ⟨.agg vs, ?_, vs.toList, rfl, hv2⟩
    have hbuilt : P.built t (parts.map fun (i, x) => (i, a.eval x)).toList = some vs := by
      unfold Program.built
      simp only [h1, hu, h4]
      have hm : fields.toList.mapM (fun f => (P.info? f.type).map fun i => (f.offset, i.size)) = some (fs.map fun x => (x.1, x.2.1)) := by
        clear hb hv1 main hu hk
        generalize fields.toList = fl at hfl
        induction fl generalizing fs with
        | nil => cases fs with
          | nil => rfl
          | cons _ _ => simp [fieldsB] at hfl
        | cons f fl ih =>
          cases fs with
          | nil => simp [fieldsB] at hfl
          | cons x xs =>
            obtain ⟨f', q1, q2, i', d', q3, q4, _⟩ := fieldsB_get hfl (j := 0) (x := x) rfl
            simp at q1; subst q1
            have hrest : fieldsB P xs fl = true := by simp only [fieldsB, Bool.and_eq_true] at hfl; exact hfl.2
            simp [List.mapM_cons, q3, ih xs hrest, q2, q4]
      rw [hm]
      simp only
      rw [← hv1]
      congr 1
      funext j
      simp
    unfold execOp
    simp only [ho, Sem.run_bind, run_build w t _ vs hbuilt, Result.andThen_ok, Sem.run_pure]
  · rename_i n e s ag hk
    obtain ⟨hu, hs, ie, d, hie, hes, _⟩ := hf.arr hk
    obtain ⟨vs, hv1, hv2⟩ := main _ hb
    refine ⟨.agg vs, ?_, vs.toList, rfl, hv2⟩
    subst hes
    unfold execOp
    simp only [ho, Instr.build, Sem.run_bind, run_underlying hu, zeroValue, typeInfo, sizeOf, run_program, Result.andThen_ok, h1, h4, hie, Sem.run_pure, hv1]
  · cases hb
end Go.Proofs.Ytpobimdcphjljaa
