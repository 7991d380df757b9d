/-
  Further operations: slices made, cut and appended to; addresses; arithmetic.
-/
import Derived.Test.YtpobimdcphjljaaEw
import Derived.Laws.Small
namespace Go.Proofs.Ytpobimdcphjljaa
open Go

theorem eff_arr {P : Program} {w : World} {g : Gh} {base nid : Nat} {e : TypeId} {f : Bool} {n cap : Nat} {ds : List D} {cur : Array Value} {ups : List (Nat × R)} {lv : Nat → Prop} (hb : ¬ g.born nid) (hl : ds.length = n * P.cellsOf e) (hn : n ≤ cap) (hc : cap ≤ maxLen)
    (hcs : cur.size = cap * P.cellsOf e) (h : RelL w g base (ds.map (D.toC f)) (cur.toList.take (n * P.cellsOf e)))
    (hu : ∀ r x, (r, x) ∈ ups → (r, x) = (nid, R.arr e f true n ds) ∨ ((r < nid ∨ nid + 1 ≤ r) ∧ x = .gone)) :
    Eff P w g base (.v false [.own true nid n]) ups (fun r => nid ≤ r ∧ r < nid + 1) lv (w.alloc (.cells cur e (0, 0))) (nuG g w nid cap 0) (.slice (some ⟨w.heap.size, 0, none⟩) n cap) := by
  have hs : Step w g (w.alloc (.cells cur e (0, 0))) (nuG g w nid cap 0) (fun r => (∃ x, (r, x) ∈ ups) ∧ ¬ (nid ≤ r ∧ r < nid + 1) ∧ lv r) (fun r => nid ≤ r ∧ r < nid + 1) := step_new hb ⟨Nat.le_refl _, by omega⟩
  have hgb : (nuG g w nid cap 0).gb nid = w.heap.size := by simp [nuG, upd]
  have hgc : (nuG g w nid cap 0).gc nid = cap := by simp [nuG, upd]
  refine ⟨hs, ⟨_, rfl, .inr rfl, by rw [hgb, hgc]; rfl⟩, fun r x hx => ?_, fun r x hx hr hl => .inl ?_, fun r x r' x' hx hx' hr hr' hne => ?_⟩
  · rcases hu r x hx with h1 | ⟨_, rfl⟩
    · simp only [Prod.mk.injEq] at h1
      obtain ⟨rfl, rfl⟩ := h1
      refine ⟨.inr rfl, hl, ?_⟩
      simp only [if_true]
      exact ⟨by rw [hgb]; simp [nuG, upd], cur, by rw [hgb]; exact alloc_new w _, by rw [hgc]; exact hn, by rw [hgc]; exact hc, by rw [hgc]; exact hcs, h.step hs⟩
    · trivial
  · rcases hu r x hx with h1 | ⟨h1, _⟩
    · simp only [Prod.mk.injEq] at h1
      rw [h1.1, hgb]; exact Nat.le_refl _
    · omega
  · omega
/-- What a slice's header is, and what lies behind it. -/
def sliceOf (m : Nat → R) : C → Option (Bool × Bool × Nat × List D)
  | .sl f nn n ds => some (f, nn, n, ds)
  | .own nn r n =>
    match m r with
    | .arr _ f nn' n' ds => if nn = nn' ∧ n = n' then some (f, nn, n, ds) else none
    | _ => none
  | _ => none
def ftSl (m : Nat → R) : C → List (Nat × R)
  | .own _ r _ => [(r, m r)]
  | _ => []
theorem slice_cells {P : Program} {w : World} {g : Gh} {base : Nat} {m : Nat → R} {p : C} {f nn : Bool} {n : Nat} {ds : List D} {V : Value} (hp : RelC w g base p V) (hc : sliceOf m p = some (f, nn, n, ds)) (hft : ∀ r x, (r, x) ∈ ftSl m p → ResOk P w g base r x) :
    (nn = false ∧ n = 0 ∧ V = .slice none 0 0) ∨ (nn = true ∧ ∃ (a : Addr) (cap : Nat) (vs : List Value), V = .slice (some a) n cap ∧ n ≤ cap ∧ RelL w g base (ds.map (D.toC f)) vs ∧ ∀ j v, vs[j]? = some v → w.cell? (a.add j) = some v) := by
  cases p with
  | sl f' nn' n' ds' =>
    cases hc
    have h : RelD w (frOf f base g.fr) (.sl nn n ds) V := hp
    cases h with
    | nil => exact .inl ⟨rfl, rfl, rfl⟩
    | sl _ _ a cap vs hn hc h1 h2 h3 =>
      refine .inr ⟨rfl, a, cap, (List.range ds.length).map vs, rfl, hn, RelL.intro (by simp) fun j c v hc hv => ?_, fun j v hv => ?_⟩
      · rw [List.getElem?_map] at hc
        obtain ⟨x, hx, rfl⟩ := Option.map_eq_some_iff.1 hc
        have hj : j < ds.length := (List.getElem?_eq_some_iff.1 hx).1
        simp [hj] at hv
        subst hv
        exact RelC.toC (h3 j x hx)
      · rw [List.getElem?_map] at hv
        obtain ⟨i, hi, rfl⟩ := Option.map_eq_some_iff.1 hv
        have hj : j < ds.length := by have := (List.getElem?_eq_some_iff.1 hi).1; simpa using this
        have : i = j := by simp [hj] at hi; exact hi.symm
        subst this
        exact h1 i ds[i] (List.getElem?_eq_getElem hj)
  | own nn' r n' =>
    unfold sliceOf at hc
    simp only at hc
    split at hc
    · rename_i e f0 nn0 n0 ds0 hm
      split at hc
      · rename_i he
        obtain ⟨rfl, rfl⟩ := he
        cases hc
        have hr := hft r (m r) (by simp [ftSl])
        rw [hm] at hr
        obtain ⟨hb, hp⟩ := hp
        obtain ⟨_, hlen, hr⟩ := hr
        cases nn with
        | false => exact .inl ⟨rfl, by simpa using hr, by have := hp; simp at this; exact this.2⟩
        | true =>
          simp only [if_true] at hr hp
          obtain ⟨_, cur, h1, h2, h3, h4, h5⟩ := hr
          refine .inr ⟨rfl, _, _, _, hp, h2, h5, fun j v hv => ?_⟩
          rw [List.getElem?_take] at hv
          split at hv
          · rw [add_none]
            simp [World.cell?, h1]
            simpa using hv
          · cases hv
      · cases hc
    · cases hc
  | _ => cases hc

/-! ### Length -/
theorem sem_len {P : Program} {T : TypeId → Option TI} (hT : TOk P T) {G : Nat → Option (List D)} {base k : Nat} {o : Oper} {ov : Operand → A} {t : TypeId} {x : Operand} {ti : TI} {e s : Nat} {p : C} {n : Nat} {nid : Nat}
    (ho : o.op = .call { callee := .builtin .len, args := #[x], argTypes := #[t] }) (ht : T t = some ti) (hk : ti.k = .slice e s) (hx : slot (ov x) = some p) (hp : (∃ f nn ds, p = .sl f nn n ds) ∨ ∃ nn r, p = .own nn r n) :
    ASem P G base k o ov [] (.v false [.i .i64 n]) [] nid 0 := by
  refine .pure fun w g a _ hop _ => ⟨.int .i64 n, ?_, _, rfl, rfl⟩
  have hv := slot_rel (hop x (by simp [ho, Op.operands, Call.operands])) hx
  have hu := ((hT.get ht).slice hk).1
  have : ∃ b c, a.eval x = .slice b n c := by
    rcases hp with ⟨f, nn, ds, rfl⟩ | ⟨nn, r, rfl⟩
    · have h : RelD w (frOf f base g.fr) (.sl nn n ds) (a.eval x) := hv
      generalize a.eval x = V at h
      cases h
      · exact ⟨_, _, rfl⟩
      · exact ⟨_, _, rfl⟩
    · obtain ⟨_, h⟩ := hv
      split at h
      · exact ⟨_, _, h⟩
      · obtain ⟨rfl, h⟩ := h; exact ⟨_, _, h⟩
  obtain ⟨b, c, hbc⟩ := this
  unfold execOp
  simp [ho, resolve, invoke, builtin, hbc, Builtin.len_, run_underlying hu, goInt]
theorem sem_len_str {P : Program} {T : TypeId → Option TI} (hT : TOk P T) {G : Nat → Option (List D)} {base k : Nat} {o : Oper} {ov : Operand → A} {t : TypeId} {x : Operand} {ti : TI} {s : ByteArray} {nid : Nat}
    (ho : o.op = .call { callee := .builtin .len, args := #[x], argTypes := #[t] }) (ht : T t = some ti) (hk : ti.k = .str) (hx : slot (ov x) = some (.s s)) :
    ASem P G base k o ov [] (.v false [.i .i64 s.size]) [] nid 0 := by
  refine .pure fun w g a _ hop _ => ⟨.int .i64 s.size, ?_, _, rfl, rfl⟩
  have hv := slot_rel (hop x (by simp [ho, Op.operands, Call.operands])) hx
  unfold RelC at hv
  have hu := (hT.get ht).str hk
  unfold execOp
  simp [ho, resolve, invoke, builtin, hv, Builtin.len_, run_underlying hu, goInt]

/-! ### Addresses -/
def fieldP (p : C) (off : Nat) : Option C :=
  match p with
  | .ref r o => some (.ref r (o + off))
  | .ro ds => some (.ro (ds.drop off))
  | _ => none
theorem fieldP_rel {w : World} {g : Gh} {base : Nat} {p q : C} {off : Nat} {V : Value} (h : RelC w g base p V) (hq : fieldP p off = some q) : ∃ a : Addr, V = .pointer (some a) ∧ RelC w g base q (.pointer (some (a.add off))) := by
  cases p with
  | ref r o => cases hq; obtain ⟨hb, rfl⟩ := h; exact ⟨_, rfl, hb, by rw [add_none]⟩
  | ro ds =>
    cases hq
    obtain ⟨a, vs, rfl, h⟩ := h
    refine ⟨a, rfl, a.add off, fun j => vs (off + j), rfl, fun j x hx => ?_⟩
    rw [List.getElem?_drop] at hx
    obtain ⟨e1, e2, e3⟩ := h _ x hx
    have hadd : ∀ (i j : Nat) (b : Addr) (v : Value), w.cell? (b.add (i + j)) = some v → (b.add i).add j = b.add (i + j) ∨ w.cell? ((b.add i).add j) = w.cell? (b.add (i + j)) := by
      intro i j b v hv
      left
      unfold Addr.add
      by_cases hi : i = 0
      · subst hi; simp
      · by_cases hj : j = 0
        · subst hj; simp [hi]
        · simp [hi, hj, Nat.add_assoc]
    rcases hadd off j a _ e1 with h' | h'
    · rw [h', addr_block]; exact ⟨e1, e2, e3⟩
    · rw [h']; refine ⟨e1, ?_, e3⟩
      rw [addr_block]
      have : ((a.add off).add j).off = (a.add (off + j)).off := by
        unfold Addr.add
        by_cases hi : off = 0
        · subst hi; simp
        · by_cases hj : j = 0
          · subst hj; simp [hi]
          · simp [hi, hj, Nat.add_assoc]
      rw [this]; exact e2
  | _ => cases hq
theorem sem_fieldAddr {P : Program} {T : TypeId → Option TI} (hT : TOk P T) {G : Nat → Option (List D)} {base k : Nat} {o : Oper} {ov : Operand → A} {t : TypeId} {x : Operand} {j : Nat} {ti : TI} {fs : List (Nat × Nat × Bool)} {off sz : Nat} {ag : Bool} {p q : C} {nid : Nat}
    (ho : o.op = .fieldAddr t x j) (ht : T t = some ti) (hk : ti.k = .struct fs) (hj : fs[j]? = some (off, sz, ag)) (hx : slot (ov x) = some p) (hq : fieldP p off = some q) : ASem P G base k o ov [] (.v false [q]) [] nid 0 := by
  refine .pure fun w g a _ hop _ => ?_
  have hv := slot_rel (hop x (by simp [ho, Op.operands])) hx
  obtain ⟨ad, hV, hr⟩ := fieldP_rel hv hq
  obtain ⟨fields, hu, hfl⟩ := (hT.get ht).struct hk
  obtain ⟨f, hf, hoff, i, d, hi, hsz, hpos, _⟩ := fieldsB_get hfl hj
  have hf' : fields[j]? = some f := by simpa using hf
  refine ⟨_, ?_, q, rfl, hr⟩
  unfold execOp
  have h0 : i.size ≠ 0 := by omega
  simp [ho, Instr.fieldAt, run_underlying hu, hf', hV, Instr.sureAddr, fieldPlace, sizeOf, typeInfo, hi, h0, hoff]
def indexP (p : C) (i : Int) (s : Nat) : Option (C × Nat) :=
  match p with
  | .sl false true n ds => some (.ro (ds.drop (i.toNat * s)), n)
  | .sl true true n ds => some (.ro (ds.drop (i.toNat * s)), n)
  | .own true r n => some (.ref r (i.toNat * s), n)
  | _ => none
theorem sem_indexAddr {P : Program} {T : TypeId → Option TI} (hT : TOk P T) {G : Nat → Option (List D)} {base k : Nat} {o : Oper} {ov : Operand → A} {t : TypeId} {x y : Operand} {ti : TI} {e s : Nat} {p q : C} {kk : IntKind} {i : Int} {n : Nat} {nid : Nat}
    (ho : o.op = .indexAddr t x y) (ht : T t = some ti) (hk : ti.k = .slice e s) (hx : slot (ov x) = some p) (hy : slot (ov y) = some (.i kk i)) (hq : indexP p i s = some (q, n)) (h0 : 0 ≤ i) (h1 : i < n) : ASem P G base k o ov [] (.v false [q]) [] nid 0 := by
  refine .pure fun w g a _ hop _ => ?_
  have hv := slot_rel (hop x (by simp [ho, Op.operands])) hx
  have hi := slot_rel (hop y (by simp [ho, Op.operands])) hy
  unfold RelC at hi
  obtain ⟨hu, hs, hpos, ie, hie, hies⟩ := (hT.get ht).slice hk
  have main : ∃ (ad : Addr) (c : Nat), a.eval x = .slice (some ad) n c ∧ RelC w g base q (.pointer (some (ad.add (i.toNat * s)))) := by
    have sl : ∀ f ds, RelD w (frOf f base g.fr) (.sl true n ds) (a.eval x) → ∃ (ad : Addr) (c : Nat), a.eval x = .slice (some ad) n c ∧ RelC w g base (.ro (ds.drop (i.toNat * s))) (.pointer (some (ad.add (i.toNat * s)))) := by
      intro f ds h
      have h' := h.weaken (frOf_ge f base g.fr)
      generalize a.eval x = V at h'
      cases h' with
      | sl _ _ ad cap vs hn hc h1 h2 h3 =>
        have : RelC w g base (.ro ds) (.pointer (some ad)) := ⟨ad, vs, rfl, fun j x hx => ⟨h1 j x hx, by have := h2 j x hx; exact this, h3 j x hx⟩⟩
        obtain ⟨a', ha', hr⟩ := fieldP_rel (off := i.toNat * s) this rfl
        cases ha'
        exact ⟨ad, cap, rfl, hr⟩
    cases p with
    | sl f nn m ds =>
      cases f <;> cases nn <;> simp [indexP] at hq
      · obtain ⟨rfl, rfl⟩ := hq; exact sl _ _ hv
      · obtain ⟨rfl, rfl⟩ := hq; exact sl _ _ hv
    | own nn r m =>
      cases nn <;> simp [indexP] at hq
      obtain ⟨rfl, rfl⟩ := hq
      obtain ⟨hb, h⟩ := hv
      simp only [if_true] at h
      exact ⟨_, _, h, hb, by rw [add_none]; simp⟩
    | _ => simp [indexP] at hq
  obtain ⟨ad, c, hV, hr⟩ := main
  refine ⟨_, ?_, q, rfl, hr⟩
  unfold execOp
  simp [ho, Instr.indexAt, hi, asIntOf, run_underlying hu, hV, h0, h1, sizeOf, typeInfo, hie, hies]
/-- An element of an array behind a pointer. -/
theorem sem_indexAddrA {P : Program} {T : TypeId → Option TI} (hT : TOk P T) {G : Nat → Option (List D)} {base k : Nat} {o : Oper} {ov : Operand → A} {t : TypeId} {x y : Operand} {ti : TI} {n e s : Nat} {ag : Bool} {p q : C} {kk : IntKind} {i : Int} {nid : Nat}
    (ho : o.op = .indexAddr t x y) (ht : T t = some ti) (hk : ti.k = .arr n e s ag) (hx : slot (ov x) = some p) (hy : slot (ov y) = some (.i kk i)) (hq : fieldP p (i.toNat * s) = some q) (h0 : 0 ≤ i) (h1 : i < n) : ASem P G base k o ov [] (.v false [q]) [] nid 0 := by
  refine .pure fun w g a _ hop _ => ?_
  have hv := slot_rel (hop x (by simp [ho, Op.operands])) hx
  have hi := slot_rel (hop y (by simp [ho, Op.operands])) hy
  unfold RelC at hi
  obtain ⟨hu, hpos, ie, d, hie, hies, _⟩ := (hT.get ht).arr hk
  obtain ⟨ad, hV, hr⟩ := fieldP_rel hv hq
  refine ⟨_, ?_, q, rfl, hr⟩
  unfold execOp
  simp [ho, Instr.indexAt, hi, asIntOf, run_underlying hu, hV, Instr.sureAddr, h0, h1, sizeOf, typeInfo, hie, hies]

/-! ### Parts -/
theorem sem_field {P : Program} {T : TypeId → Option TI} (hT : TOk P T) {G : Nat → Option (List D)} {base k : Nat} {o : Oper} {ov : Operand → A} {t : TypeId} {x : Operand} {j : Nat} {ti : TI} {fs : List (Nat × Nat × Bool)} {off sz : Nat} {ag : Bool} {cs : List C} {v : A} {nid : Nat}
    (ho : o.op = .field t x j) (ht : T t = some ti) (hk : ti.k = .struct fs) (hj : fs[j]? = some (off, sz, ag)) (hx : ov x = .v true cs) (hv : (if ag then some (A.v true ((cs.drop off).take sz)) else (cs[off]?).map fun c => A.v false [c]) = some v) : ASem P G base k o ov [] v [] nid 0 := by
  refine .pure fun w g a _ hop _ => ?_
  have h := hop x (by simp [ho, Op.operands])
  rw [hx] at h
  obtain ⟨xs, hV, hr⟩ := (show ∃ xs : List Value, a.eval x = .agg xs.toArray ∧ RelL w g base cs xs from h)
  obtain ⟨fields, hu, hfl⟩ := (hT.get ht).struct hk
  obtain ⟨f, hf, hoff, i, d, hi, hsz, hpos, hd, hag⟩ := fieldsB_get hfl hj
  have hf' : fields[j]? = some f := by simpa using hf
  have hagg : (isAgg f.type).run P w = .ok ag w := by
    simp only at hag
    rw [← hag]
    unfold isAgg
    rw [Sem.run_bind, run_underlying hd]
    cases d <;> rfl
  cases ag with
  | true =>
    simp only [if_true, Option.some.injEq] at hv
    subst hv
    refine ⟨.agg ((xs.drop off).take sz).toArray, ?_, _, rfl, (hr.drop _).take _⟩
    unfold execOp
    simp only at hsz hoff
    simp [ho, Instr.field, run_underlying hu, hf', hV, asAgg, part, hagg, sizeOf, typeInfo, hi, hsz, hoff]
  | false =>
    simp only [Bool.false_eq_true, if_false] at hv
    obtain ⟨c, hc, rfl⟩ := Option.map_eq_some_iff.1 hv
    obtain ⟨u, h1, h2⟩ := hr.get hc
    refine ⟨u, ?_, c, rfl, h2⟩
    unfold execOp
    simp only at hoff
    simp [ho, Instr.field, run_underlying hu, hf', hV, asAgg, part, hagg, hoff, h1]
def partV : Bool × List C → A := fun p => .v p.1 p.2
theorem relT_get {w : World} {g : Gh} {base : Nat} : ∀ {xs : List (Bool × List C)} {vs : List Value} {j : Nat} {p : Bool × List C}, RelT w g base xs vs → xs[j]? = some p → ∃ v, vs[j]? = some v ∧ RelA w g base (partV p) v
  | [], [], j, c, _, hc => by simp at hc
  | [], _ :: _, _, _, h, _ => h.elim
  | _ :: _, [], _, _, h, _ => h.elim
  | c :: cs, v :: vs, 0, c', h, hc => by simp at hc; subst hc; exact ⟨v, rfl, h.1⟩
  | c :: cs, v :: vs, j + 1, c', h, hc => by
    obtain ⟨u, h1, h2⟩ := relT_get (j := j) h.2 (by simpa using hc)
    exact ⟨u, by simpa using h1, h2⟩
theorem sem_extract {P : Program} {G : Nat → Option (List D)} {base k : Nat} {o : Oper} {ov : Operand → A} {x : Operand} {j : Nat} {xs : List (Bool × List C)} {p : Bool × List C} {nid : Nat} (ho : o.op = .extract x j) (hx : ov x = .tup xs) (hp : xs[j]? = some p) :
    ASem P G base k o ov [] (partV p) [] nid 0 := by
  refine .pure fun w g a _ hop _ => ?_
  have h := hop x (by simp [ho, Op.operands])
  rw [hx] at h
  obtain ⟨ys, hV, hr⟩ := (show ∃ ys : List Value, a.eval x = .tuple ys.toArray ∧ RelT w g base xs ys from h)
  obtain ⟨v, h1, h2⟩ := relT_get hr hp
  refine ⟨v, ?_, h2⟩
  unfold execOp
  simp [ho, Instr.extract, hV, h1]

/-! ### Arithmetic -/
def bitsI (op : BinOp) (k : IntKind) (a b : Int) : Int :=
  let x := BitVec.ofInt k.bits a
  let y := BitVec.ofInt k.bits b
  match op with
  | .and => k.wrap (x &&& y).toNat
  | .or => k.wrap (x ||| y).toNat
  | .xor => k.wrap (x ^^^ y).toNat
  | _ => k.wrap (x &&& ~~~y).toNat
def binI (op : BinOp) (k k' : IntKind) (a b : Int) : C × Prop :=
  match op with
  | .add => (.i k (k.wrap (a + b)), k = k')
  | .sub => (.i k (k.wrap (a - b)), k = k')
  | .mul => (.i k (k.wrap (a * b)), k = k')
  | .quo => (.i k (k.wrap (a.tdiv b)), k = k' ∧ b ≠ 0)
  | .rem => (.i k (a.tmod b), k = k' ∧ b ≠ 0)
  | .eql => (.b (a == b), k = k')
  | .neq => (.b (a != b), k = k')
  | .lss => (.b (decide (a < b)), k = k')
  | .leq => (.b (decide (a ≤ b)), k = k')
  | .gtr => (.b (decide (b < a)), k = k')
  | .geq => (.b (decide (b ≤ a)), k = k')
  | .and => (.i k (bitsI .and k a b), k = k')
  | .or => (.i k (bitsI .or k a b), k = k')
  | .xor => (.i k (bitsI .xor k a b), k = k')
  | .andNot => (.i k (bitsI .andNot k a b), k = k')
  | .shl => (.i k (k.wrap (a * 2 ^ (min b.toNat k.bits))), 0 ≤ b)
  | .shr => (.i k (a.fdiv (2 ^ (min b.toNat k.bits))), 0 ≤ b)
theorem sem_binI {P : Program} {G : Nat → Option (List D)} {base k : Nat} {o : Oper} {ov : Operand → A} {op : BinOp} {t t' : TypeId} {x y : Operand} {ka kb : IntKind} {a b : Int} {nid : Nat}
    (ho : o.op = .binOp op t x y t') (hx : slot (ov x) = some (.i ka a)) (hy : slot (ov y) = some (.i kb b)) (hs : (binI op ka kb a b).2) : ASem P G base k o ov [] (.v false [(binI op ka kb a b).1]) [] nid 0 := by
  refine .pure fun w g ac _ hop _ => ?_
  have h1 := slot_rel (hop x (by simp [ho, Op.operands])) hx
  have h2 := slot_rel (hop y (by simp [ho, Op.operands])) hy
  generalize hV1 : ac.eval x = V1 at h1
  generalize hV2 : ac.eval y = V2 at h2
  cases h1
  cases h2
  unfold execOp
  simp only [ho]
  rw [hV1, hV2]
  cases op <;> simp only [binI] at hs ⊢
  case quo =>
    obtain ⟨rfl, hb⟩ := hs
    exact ⟨_, by simp [go_sem, Op.intDiv, hb], _, rfl, rfl⟩
  case rem =>
    obtain ⟨rfl, hb⟩ := hs
    exact ⟨_, by simp [go_sem, Op.intDiv, hb], _, rfl, rfl⟩
  case shl =>
    have hb : ¬ b < 0 := by omega
    exact ⟨_, by simp [go_sem, Op.shift, hb], _, rfl, rfl⟩
  case shr =>
    have hb : ¬ b < 0 := by omega
    exact ⟨_, by simp [go_sem, Op.shift, hb], _, rfl, rfl⟩
  all_goals
    subst hs
    exact ⟨_, by simp [go_sem, Op.intArith, Op.intBits, bitsI], _, rfl, rfl⟩
def binB (op : BinOp) (a b : Bool) : Option C :=
  match op with
  | .eql => some (.b (a == b))
  | .neq => some (.b (a != b))
  | _ => none
theorem sem_binB {P : Program} {T : TypeId → Option TI} (hT : TOk P T) {G : Nat → Option (List D)} {base k : Nat} {o : Oper} {ov : Operand → A} {op : BinOp} {t t' : TypeId} {ti : TI} {x y : Operand} {a b : Bool} {c : C} {nid : Nat}
    (ho : o.op = .binOp op t x y t') (ht : T t = some ti) (hk : ti.k = .bool) (hx : slot (ov x) = some (.b a)) (hy : slot (ov y) = some (.b b)) (hc : binB op a b = some c) : ASem P G base k o ov [] (.v false [c]) [] nid 0 := by
  refine .pure fun w g ac _ hop _ => ?_
  have h1 := slot_rel (hop x (by simp [ho, Op.operands])) hx
  have h2 := slot_rel (hop y (by simp [ho, Op.operands])) hy
  generalize hV1 : ac.eval x = V1 at h1
  generalize hV2 : ac.eval y = V2 at h2
  have hu := (hT.get ht).bool hk
  cases h1
  cases h2
  unfold execOp
  simp only [ho]
  rw [hV1, hV2]
  cases op <;> cases hc
  · refine ⟨_, ?_, _, rfl, rfl⟩
    rw [Sem.run_bind, Sem.run_bind, eqGuard_at_bool, Sem.run_pure, Result.andThen_ok, run_eql_bool w t a b hu]; rfl
  · refine ⟨_, ?_, _, rfl, rfl⟩
    rw [Sem.run_bind, Sem.run_bind, eqGuard_at_bool, Sem.run_pure, Result.andThen_ok, run_neq_bool w t a b hu]; rfl
def binS (op : BinOp) (a b : ByteArray) : Option (C × Prop) :=
  match op with
  | .add => some (.s (a ++ b), a.size + b.size ≤ 9223372036854775807)
  | .eql => some (.b (a.toList == b.toList), True)
  | .neq => some (.b (!(a.toList == b.toList)), True)
  | .lss => some (.b (Op.bytesLess a.toList b.toList), True)
  | .leq => some (.b (Op.bytesLess a.toList b.toList || a.toList == b.toList), True)
  | .gtr => some (.b (!(Op.bytesLess a.toList b.toList || a.toList == b.toList)), True)
  | .geq => some (.b (!Op.bytesLess a.toList b.toList), True)
  | _ => none
theorem sem_binS {P : Program} {G : Nat → Option (List D)} {base k : Nat} {o : Oper} {ov : Operand → A} {op : BinOp} {t t' : TypeId} {x y : Operand} {a b : ByteArray} {c : C} {side : Prop} {nid : Nat}
    (ho : o.op = .binOp op t x y t') (hx : slot (ov x) = some (.s a)) (hy : slot (ov y) = some (.s b)) (hc : binS op a b = some (c, side)) (hs : side) : ASem P G base k o ov [] (.v false [c]) [] nid 0 := by
  refine .pure fun w g ac _ hop _ => ?_
  have h1 := slot_rel (hop x (by simp [ho, Op.operands])) hx
  have h2 := slot_rel (hop y (by simp [ho, Op.operands])) hy
  generalize hV1 : ac.eval x = V1 at h1
  generalize hV2 : ac.eval y = V2 at h2
  cases h1
  cases h2
  unfold execOp
  simp only [ho]
  rw [hV1, hV2]
  cases op <;> simp only [binS, Option.some.injEq, Prod.mk.injEq, reduceCtorEq] at hc
  case add =>
    obtain ⟨rfl, rfl⟩ := hc
    have e : ¬ ((a.size + b.size : Nat) : Int) > IntKind.i64.max := by
      have : IntKind.i64.max = 9223372036854775807 := by decide
      rw [this]; omega
    exact ⟨_, by simp only [go_sem, binOp, Op.stringOp, e, if_false, Sem.run_bind, Sem.run_pure, Result.andThen_ok], _, rfl, rfl⟩
  all_goals
    obtain ⟨rfl, rfl⟩ := hc
    exact ⟨_, by simp [go_sem, binOp, Op.stringOp], _, rfl, rfl⟩
def unC (op : UnOp) (c : C) : Option C :=
  match op, c with
  | .not, .b x => some (.b (!x))
  | .neg, .i k n => some (.i k (k.wrap (0 - n)))
  | _, _ => none
theorem sem_unOp {P : Program} {G : Nat → Option (List D)} {base k : Nat} {o : Oper} {ov : Operand → A} {op : UnOp} {t : TypeId} {x : Operand} {c c' : C} {nid : Nat}
    (ho : o.op = .unOp op t x) (hx : slot (ov x) = some c) (hc : unC op c = some c') : ASem P G base k o ov [] (.v false [c']) [] nid 0 := by
  refine .pure fun w g ac _ hop _ => ?_
  have h1 := slot_rel (hop x (by simp [ho, Op.operands])) hx
  generalize hV1 : ac.eval x = V1 at h1
  unfold execOp
  simp only [ho]
  rw [hV1]
  cases op <;> cases c <;> cases hc
  · cases h1; exact ⟨_, rfl, _, rfl, rfl⟩
  · cases h1; exact ⟨_, rfl, _, rfl, rfl⟩
theorem sem_convI {P : Program} {T : TypeId → Option TI} (hT : TOk P T) {G : Nat → Option (List D)} {base k : Nat} {o : Oper} {ov : Operand → A} {s t : TypeId} {ti si : TI} {x : Operand} {kk k' : IntKind} {n : Int} {nid : Nat}
    (ho : o.op = .convert s t x) (ht : T t = some ti) (hk : ti.k = .int k') (hsrc : T s = some si) (hx : slot (ov x) = some (.i kk n)) : ASem P G base k o ov [] (.v false [.i k' (k'.wrap n)]) [] nid 0 := by
  refine .pure fun w g ac _ hop _ => ?_
  have h1 := slot_rel (hop x (by simp [ho, Op.operands])) hx
  unfold RelC at h1
  have hu := (hT.get ht).int hk
  have hs := (hT.get hsrc).kind
  obtain ⟨d, hd⟩ : ∃ d, P.underlying s = some d := by
    cases h : P.underlying s with
    | none => rw [h] at hs; cases hk : si.k <;> rw [hk] at hs <;> cases hs
    | some d => exact ⟨d, rfl⟩
  refine ⟨.int k' (k'.wrap n), ?_, _, rfl, rfl⟩
  unfold execOp
  simp [ho, h1, convert, run_underlying hu, run_underlying hd, Conv.intToInt]
theorem sem_nilCheck {P : Program} {G : Nat → Option (List D)} {base k : Nat} {o : Oper} {ov : Operand → A} {x : Operand} {c : C} {nid : Nat}
    (ho : o.op = .nilCheck x) (hx : slot (ov x) = some c) (hc : (∃ r off, c = .ref r off) ∨ (∃ ds, c = .ro ds) ∨ ∃ f caps, c = .fn f caps) : ASem P G base k o ov [] (.v false [c]) [] nid 0 := by
  refine .pure fun w g a _ hop _ => ?_
  have h1 := slot_rel (hop x (by simp [ho, Op.operands])) hx
  refine ⟨a.eval x, ?_, c, rfl, h1⟩
  unfold execOp
  rcases hc with ⟨r, off, rfl⟩ | ⟨ds, rfl⟩ | ⟨f, caps, rfl⟩
  · obtain ⟨_, h⟩ := h1; simp [ho, h]
  · obtain ⟨ad, vs, h, _⟩ := h1; simp [ho, h]
  · obtain ⟨_, h⟩ := h1; simp [ho, h]
theorem sem_min {P : Program} {G : Nat → Option (List D)} {base k : Nat} {o : Oper} {ov : Operand → A} {x y : Operand} {ts : Array TypeId} {ka kb : IntKind} {a b : Int} {nid : Nat}
    (ho : o.op = .call { callee := .builtin .min, args := #[x, y], argTypes := ts }) (hx : slot (ov x) = some (.i ka a)) (hy : slot (ov y) = some (.i kb b)) : ASem P G base k o ov [] (.v false [.i ka (if b < a then b else a)]) [] nid 0 := by
  refine .pure fun w g ac _ hop _ => ?_
  have h1 := slot_rel (hop x (by simp [ho, Op.operands, Call.operands])) hx
  have h2 := slot_rel (hop y (by simp [ho, Op.operands, Call.operands])) hy
  unfold RelC at h1 h2
  refine ⟨_, ?_, _, rfl, rfl⟩
  unfold execOp
  simp [ho, resolve, invoke, builtin, h1, h2, Builtin.min_, Builtin.min2]
theorem sem_max {P : Program} {G : Nat → Option (List D)} {base k : Nat} {o : Oper} {ov : Operand → A} {x y : Operand} {ts : Array TypeId} {ka kb : IntKind} {a b : Int} {nid : Nat}
    (ho : o.op = .call { callee := .builtin .max, args := #[x, y], argTypes := ts }) (hx : slot (ov x) = some (.i ka a)) (hy : slot (ov y) = some (.i kb b)) : ASem P G base k o ov [] (.v false [.i ka (if a < b then b else a)]) [] nid 0 := by
  refine .pure fun w g ac _ hop _ => ?_
  have h1 := slot_rel (hop x (by simp [ho, Op.operands, Call.operands])) hx
  have h2 := slot_rel (hop y (by simp [ho, Op.operands, Call.operands])) hy
  unfold RelC at h1 h2
  refine ⟨_, ?_, _, rfl, rfl⟩
  unfold execOp
  simp [ho, resolve, invoke, builtin, h1, h2, Builtin.max_, Builtin.max2]
end Go.Proofs.Ytpobimdcphjljaa
