/-
  An evaluator of the model's programs over plain data: slices that are only read are lists; boxes and own slices are cells of an abstract memory.
  What it says of values, of memory, and how both stay related to the model's world.
-/
import Derived.Laws.AppendOwn
import Derived.Laws.MakeOwn
import Derived.Great.BuildSlice
import Derived.Laws.Tables
import Derived.Laws.Rows
import Derived.Orders
import Derived.Tactics
import Derived.Below
import Derived.Handy
import Derived.Test.YtpobimdcphjljaaRows
namespace Go.Proofs.Ytpobimdcphjljaa
open Go

/-! ### Data -/
inductive D where
  | b (x : Bool)
  | i (k : IntKind) (n : Int)
  | s (x : ByteArray)
  | sl (nn : Bool) (n : Nat) (cs : List D)
  | raw (v : Value)
  | wh (nn : Bool) (n sz : Nat) (T : TypeId) (xs : List Value) (tag : Nat)

inductive RelD (w : World) (fr : Nat → Nat) : D → Value → Prop
  | b (x : Bool) : RelD w fr (.b x) (.bool x)
  | i (k : IntKind) (n : Int) : RelD w fr (.i k n) (.int k n)
  | s (x : ByteArray) : RelD w fr (.s x) (.string x)
  | nil : RelD w fr (.sl false 0 []) (.slice none 0 0)
  | sl (n : Nat) (cs : List D) (a : Addr) (cap : Nat) (vs : Nat → Value) (hn : n ≤ cap) (hc : cap ≤ maxLen)
      (h1 : ∀ j x, cs[j]? = some x → w.cell? (a.add j) = some (vs j)) (h2 : ∀ j x, cs[j]? = some x → (a.add j).off < fr a.block)
      (h3 : ∀ j x, cs[j]? = some x → RelD w fr x (vs j)) : RelD w fr (.sl true n cs) (.slice (some a) n cap)
  | raw (v : Value) (h : v.oneCell' = true) : RelD w fr (.raw v) v
  | whn (sz : Nat) (T : TypeId) (tag : Nat) : RelD w fr (.wh false 0 sz T [] tag) (.slice none 0 0)
  | wh (n sz : Nat) (T : TypeId) (xs : List Value) (tag b cap : Nat) (cur : Array Value) (hh : w.heap[b]? = some (.cells cur T (0, 0))) (ht : 0 < tag) (hf : fr b = tag) (hn : n ≤ cap) (hc : cap ≤ maxLen)
      (hs : cur.size = cap * sz) (hx : cur.toList.take (n * sz) = xs) : RelD w fr (.wh true n sz T xs tag) (.slice (some ⟨b, 0, none⟩) n cap)

/-- What was below the frontier stays. -/
structure Evo (w : World) (fr : Nat → Nat) (w' : World) (fr' : Nat → Nat) : Prop where
  size : w.heap.size ≤ w'.heap.size
  le : ∀ b, b < w.heap.size → fr b ≤ fr' b
  cell : ∀ (a : Addr) v, a.off < fr a.block → w.cell? a = some v → w'.cell? a = some v
  blk : ∀ b, 0 < fr b → b < w.heap.size → w'.heap[b]? = w.heap[b]?
  feq : ∀ b, b < w.heap.size → 0 < fr b → fr' b = fr b

theorem cell_lt {w : World} {a : Addr} {v : Value} (h : w.cell? a = some v) : a.block < w.heap.size := by
  unfold World.cell? at h
  split at h
  · rename_i h1; exact (Array.getElem?_eq_some_iff.1 h1).1
  · cases h
theorem addr_block (a : Addr) (i : Nat) : (a.add i).block = a.block := by unfold Addr.add; split <;> rfl
theorem Evo.refl (w : World) (fr : Nat → Nat) : Evo w fr w fr := ⟨Nat.le_refl _, fun _ _ => Nat.le_refl _, fun _ _ _ h => h, fun _ _ _ => rfl, fun _ _ _ => rfl⟩
theorem Evo.trans {w w' w'' : World} {f f' f'' : Nat → Nat} (h : Evo w f w' f') (k : Evo w' f' w'' f'') : Evo w f w'' f'' :=
  ⟨Nat.le_trans h.size k.size, fun b hb => Nat.le_trans (h.le b hb) (k.le b (Nat.lt_of_lt_of_le hb h.size)),
    fun a v h1 h2 => k.cell a v (Nat.lt_of_lt_of_le h1 (h.le _ (cell_lt h2))) (h.cell a v h1 h2),
    fun b h1 h2 => (k.blk b (Nat.lt_of_lt_of_le h1 (h.le b h2)) (Nat.lt_of_lt_of_le h2 h.size)).trans (h.blk b h1 h2),
    fun b h1 h2 => (k.feq b (Nat.lt_of_lt_of_le h1 h.size) (Nat.lt_of_lt_of_le h2 (h.le b h1))).trans (h.feq b h1 h2)⟩
theorem RelD.evo {w w' : World} {f f' : Nat → Nat} {x : D} {v : Value} (h : RelD w f x v) (k : Evo w f w' f') : RelD w' f' x v := by
  induction h with
  | b x => exact .b x
  | i kk n => exact .i kk n
  | s x => exact .s x
  | nil => exact .nil
  | sl n cs a cap vs hn hc h1 h2 h3 ih =>
    exact .sl n cs a cap vs hn hc (fun j x hx => k.cell _ _ (by rw [addr_block]; exact h2 j x hx) (h1 j x hx))
      (fun j x hx => Nat.lt_of_lt_of_le (h2 j x hx) (k.le _ (by have := cell_lt (h1 j x hx); rwa [addr_block] at this))) (fun j x hx => ih j x hx)
  | raw v hv => exact .raw v hv
  | whn sz T tag => exact .whn sz T tag
  | wh n sz T xs tag b cap cur hh ht hf hn hc hs hx =>
    have hb := (Array.getElem?_eq_some_iff.1 hh).1
    have hp : 0 < f b := by rw [hf]; exact ht
    exact .wh n sz T xs tag b cap cur ((k.blk b hp hb).trans hh) ht ((k.feq b hb hp).trans hf) hn hc hs hx
/-- More is frozen, and what was frozen stays as it was. -/
def Fge (f f' : Nat → Nat) : Prop := ∀ b, f b = 0 ∨ f' b = f b
theorem Fge.le {f f' : Nat → Nat} (h : Fge f f') (b : Nat) : f b ≤ f' b := by rcases h b with h | h <;> omega
theorem Fge.trans {f f' f'' : Nat → Nat} (h : Fge f f') (k : Fge f' f'') : Fge f f'' := fun b => by
  rcases h b with h1 | h1
  · exact .inl h1
  · rcases k b with h2 | h2
    · exact .inl (by omega)
    · exact .inr (by omega)
/-- The same below a lesser frontier that still covers it. -/
theorem RelD.weaken {w : World} {f f' : Nat → Nat} {x : D} {v : Value} (h : RelD w f x v) (k : Fge f f') : RelD w f' x v :=
  h.evo ⟨Nat.le_refl _, fun b _ => k.le b, fun _ _ _ h => h, fun _ _ _ => rfl, fun b _ h => (k b).resolve_left (by omega)⟩
theorem RelD.one {w : World} {f : Nat → Nat} {x : D} {v : Value} (h : RelD w f x v) : v.oneCell' = true := by
  cases h with
  | raw _ h => exact h
  | _ => rfl

def restr (base : Nat) (fr : Nat → Nat) : Nat → Nat := fun b => if b < base then 0 else fr b
def frOf (fresh : Bool) (base : Nat) (fr : Nat → Nat) : Nat → Nat := if fresh then restr base fr else fr
theorem frOf_le (fresh : Bool) (base : Nat) (fr : Nat → Nat) (b : Nat) : frOf fresh base fr b ≤ fr b := by
  unfold frOf restr; cases fresh <;> simp; split <;> omega
theorem frOf_ge (fresh : Bool) (base : Nat) (fr : Nat → Nat) : Fge (frOf fresh base fr) fr := fun b => by
  cases fresh with
  | false => exact .inr rfl
  | true =>
    show (if b < base then 0 else fr b) = 0 ∨ fr b = if b < base then 0 else fr b
    split
    · exact .inl rfl
    · exact .inr rfl
theorem Evo.restr {w w' : World} {f f' : Nat → Nat} (h : Evo w f w' f') (base : Nat) : Evo w (restr base f) w' (restr base f') := by
  refine ⟨h.size, fun b hb => ?_, fun a v h1 h2 => h.cell a v ?_ h2, fun b h1 h2 => h.blk b ?_ h2, fun b h1 h2 => ?_⟩
  · unfold Proofs.Ytpobimdcphjljaa.restr; split
    · exact Nat.le_refl _
    · exact h.le b hb
  · unfold Proofs.Ytpobimdcphjljaa.restr at h1; split at h1
    · omega
    · exact h1
  · unfold Proofs.Ytpobimdcphjljaa.restr at h1; split at h1
    · omega
    · exact h1
  · unfold Proofs.Ytpobimdcphjljaa.restr at h2 ⊢; split at h2
    · omega
    · rw [if_neg ‹_›, if_neg ‹_›]; exact h.feq b h1 h2
theorem Evo.frOf {w w' : World} {f f' : Nat → Nat} (h : Evo w f w' f') (fresh : Bool) (base : Nat) : Evo w (frOf fresh base f) w' (frOf fresh base f') := by
  cases fresh
  · exact h
  · exact h.restr base

/-! ### Cells, values, resources -/
inductive C where
  | b (x : Bool)
  | i (k : IntKind) (n : Int)
  | s (x : ByteArray)
  | sl (fresh nn : Bool) (n : Nat) (cs : List D)
  | own (nn : Bool) (r n : Nat)
  | ref (r off : Nat)
  | ro (cs : List D)
  | nilp
  | fn (f : FuncId) (caps : List Nat)
  | raw (v : Value)
  | wh (fresh nn : Bool) (n sz : Nat) (T : TypeId) (xs : List Value) (tag : Nat)
  | vw (v : Value) (nn : Bool) (n : Nat) (cs : List D)
inductive A where
  | any
  | undef
  | v (ag : Bool) (cs : List C)
  | tup (xs : List (Bool × List C))
  | opt (b : Bool) (x : A)
inductive R where
  | gone
  | box (cs : List C)
  | arr (e : TypeId) (fresh nn : Bool) (n : Nat) (cs : List D)
def R.live : R → Bool
  | .gone => false
  | .box _ => true
  | .arr _ _ nn _ _ => nn
def D.toC (fresh : Bool) : D → C
  | .b x => .b x
  | .i k n => .i k n
  | .s x => .s x
  | .sl nn n cs => .sl fresh nn n cs
  | .raw v => .raw v
  | .wh nn n sz T xs tag => .wh fresh nn n sz T xs tag
def C.toD : C → Option (Bool × D)
  | .b x => some (true, .b x)
  | .i k n => some (true, .i k n)
  | .s x => some (true, .s x)
  | .sl fresh nn n cs => some (fresh, .sl nn n cs)
  | .raw v => some (true, .raw v)
  | .wh fresh nn n sz T xs tag => some (fresh, .wh nn n sz T xs tag)
  | _ => none

/-- The ghost: frontiers of blocks; block and capacity of resources; which are born. -/
structure Gh where
  fr : Nat → Nat
  gb : Nat → Nat
  gc : Nat → Nat
  born : Nat → Prop

def RelC (w : World) (g : Gh) (base : Nat) : C → Value → Prop
  | .b x, V => V = .bool x
  | .i k n, V => V = .int k n
  | .s x, V => V = .string x
  | .sl fresh nn n cs, V => RelD w (frOf fresh base g.fr) (.sl nn n cs) V
  | .own nn r n, V => g.born r ∧ (if nn then V = .slice (some ⟨g.gb r, 0, none⟩) n (g.gc r) else n = 0 ∧ V = .slice none 0 0)
  | .ref r off, V => g.born r ∧ V = .pointer (some ⟨g.gb r, off, none⟩)
  | .ro cs, V => ∃ (a : Addr) (vs : Nat → Value), V = .pointer (some a) ∧ ∀ j x, cs[j]? = some x → w.cell? (a.add j) = some (vs j) ∧ (a.add j).off < g.fr a.block ∧ RelD w g.fr x (vs j)
  | .nilp, V => V = .pointer none
  | .fn f caps, V => (∀ r ∈ caps, g.born r) ∧ V = .func (.func f) #[] (caps.map fun r => Value.pointer (some ⟨g.gb r, 0, none⟩)).toArray
  | .raw v, V => v.oneCell' = true ∧ V = v
  | .wh fresh nn n sz T xs tag, V => RelD w (frOf fresh base g.fr) (.wh nn n sz T xs tag) V
  | .vw v nn n cs, V => V = v ∧ RelD w g.fr (.sl nn n cs) V

def RelL (w : World) (g : Gh) (base : Nat) : List C → List Value → Prop
  | [], [] => True
  | c :: cs, v :: vs => RelC w g base c v ∧ RelL w g base cs vs
  | _, _ => False
def RelV (w : World) (g : Gh) (base : Nat) (ag : Bool) (cs : List C) (V : Value) : Prop :=
  if ag then ∃ xs : List Value, V = .agg xs.toArray ∧ RelL w g base cs xs else ∃ c, cs = [c] ∧ RelC w g base c V
def RelT (w : World) (g : Gh) (base : Nat) : List (Bool × List C) → List Value → Prop
  | [], [] => True
  | x :: xs, v :: vs => RelV w g base x.1 x.2 v ∧ RelT w g base xs vs
  | _, _ => False
def RelA (w : World) (g : Gh) (base : Nat) : A → Value → Prop
  | .any, _ => True
  | .undef, V => V = Go.undef
  | .v ag cs, V => RelV w g base ag cs V
  | .tup xs, V => ∃ ys : List Value, V = .tuple ys.toArray ∧ RelT w g base xs ys
  | .opt b x, V => (b = true → RelA w g base x V) ∧ (b = false → V = Go.undef)

def ResOk (P : Program) (w : World) (g : Gh) (base r : Nat) : R → Prop
  | .gone => True
  | .box cs => g.born r ∧ g.fr (g.gb r) = 0 ∧ ∃ (vs : List Value) (T : TypeId), w.heap[g.gb r]? = some (.cells vs.toArray T (0, 0)) ∧ RelL w g base cs vs
  | .arr e fresh nn n cs => g.born r ∧ cs.length = n * P.cellsOf e ∧ (if nn then g.fr (g.gb r) = 0 ∧ ∃ cur : Array Value, w.heap[g.gb r]? = some (.cells cur e (0, 0)) ∧ n ≤ g.gc r ∧ g.gc r ≤ maxLen ∧
      cur.size = g.gc r * P.cellsOf e ∧ RelL w g base (cs.map (D.toC fresh)) (cur.toList.take (n * P.cellsOf e)) else n = 0)

theorem RelL.length {w : World} {g : Gh} {base : Nat} : ∀ {cs : List C} {vs : List Value}, RelL w g base cs vs → cs.length = vs.length
  | [], [], _ => rfl
  | [], _ :: _, h => h.elim
  | _ :: _, [], h => h.elim
  | _ :: cs, _ :: vs, h => by simp [RelL.length h.2]
theorem RelL.get {w : World} {g : Gh} {base : Nat} : ∀ {cs : List C} {vs : List Value} {j : Nat} {c : C}, RelL w g base cs vs → cs[j]? = some c → ∃ v, vs[j]? = some v ∧ RelC w g base c v
  | [], [], j, c, _, hc => by simp at hc
  | [], _ :: _, _, _, h, _ => h.elim
  | _ :: _, [], _, _, h, _ => h.elim
  | c :: cs, v :: vs, 0, c', h, hc => by simp at hc; subst hc; exact ⟨v, rfl, h.1⟩
  | c :: cs, v :: vs, j + 1, c', h, hc => by
    obtain ⟨u, h1, h2⟩ := RelL.get (j := j) h.2 (by simpa using hc)
    exact ⟨u, by simpa using h1, h2⟩
theorem RelL.intro {w : World} {g : Gh} {base : Nat} : ∀ {cs : List C} {vs : List Value}, cs.length = vs.length → (∀ (j : Nat) (c : C) (v : Value), cs[j]? = some c → vs[j]? = some v → RelC w g base c v) → RelL w g base cs vs
  | [], [], _, _ => trivial
  | [], _ :: _, h, _ => by simp at h
  | _ :: _, [], h, _ => by simp at h
  | c :: cs, v :: vs, h, k => ⟨k 0 c v rfl rfl, RelL.intro (by simpa using h) fun j c' v' h1 h2 => k (j + 1) c' v' (by simpa using h1) (by simpa using h2)⟩
theorem RelL.append {w : World} {g : Gh} {base : Nat} : ∀ {cs : List C} {vs : List Value} {cs' : List C} {vs' : List Value}, RelL w g base cs vs → RelL w g base cs' vs' → RelL w g base (cs ++ cs') (vs ++ vs')
  | [], [], _, _, _, k => k
  | [], _ :: _, _, _, h, _ => h.elim
  | _ :: _, [], _, _, h, _ => h.elim
  | _ :: _, _ :: _, _, _, h, k => ⟨h.1, RelL.append h.2 k⟩
theorem RelL.drop {w : World} {g : Gh} {base : Nat} {cs : List C} {vs : List Value} (h : RelL w g base cs vs) (n : Nat) : RelL w g base (cs.drop n) (vs.drop n) :=
  RelL.intro (by simp [h.length]) fun j c v h1 h2 => by
    rw [List.getElem?_drop] at h1 h2
    obtain ⟨u, e1, e2⟩ := h.get h1
    rw [h2] at e1; cases e1; exact e2
theorem RelL.take {w : World} {g : Gh} {base : Nat} {cs : List C} {vs : List Value} (h : RelL w g base cs vs) (n : Nat) : RelL w g base (cs.take n) (vs.take n) :=
  RelL.intro (by simp [h.length]) fun j c v h1 h2 => by
    rw [List.getElem?_take] at h1 h2
    split at h1
    · rename_i hj; rw [if_pos hj] at h2
      obtain ⟨u, e1, e2⟩ := h.get h1
      rw [h2] at e1; cases e1; exact e2
    · cases h1
theorem RelC.one {w : World} {g : Gh} {base : Nat} {c : C} {v : Value} (h : RelC w g base c v) : v.oneCell' = true := by
  cases c with
  | sl fresh nn n cs => exact RelD.one h
  | own nn r n => obtain ⟨_, h⟩ := h; split at h <;> (first | (subst h; rfl) | (obtain ⟨_, rfl⟩ := h; rfl))
  | ref r off => obtain ⟨_, rfl⟩ := h; rfl
  | ro cs => obtain ⟨a, vs, rfl, _⟩ := h; rfl
  | fn f caps => obtain ⟨_, rfl⟩ := h; rfl
  | raw v => obtain ⟨h1, rfl⟩ := h; exact h1
  | wh fresh nn n sz T xs tag => exact RelD.one h
  | vw v nn n cs => exact RelD.one h.2
  | _ => unfold RelC at h; subst h; rfl
theorem RelL.ones {w : World} {g : Gh} {base : Nat} {cs : List C} {vs : List Value} (h : RelL w g base cs vs) : ∀ v ∈ vs, v.oneCell' = true := by
  intro v hv
  obtain ⟨j, hj⟩ := List.getElem?_of_mem hv
  have hl := h.length
  have hlt : j < cs.length := by rw [hl]; exact (List.getElem?_eq_some_iff.1 hj).1
  obtain ⟨u, e1, e2⟩ := h.get (List.getElem?_eq_getElem hlt)
  rw [hj] at e1; cases e1; exact e2.one
theorem RelC.toC {w : World} {g : Gh} {base : Nat} {x : D} {v : Value} {fresh : Bool} (h : RelD w (frOf fresh base g.fr) x v) : RelC w g base (x.toC fresh) v := by
  cases h <;> simp only [D.toC, RelC]
  · exact .nil
  · exact .sl _ _ _ _ _ ‹_› ‹_› ‹_› ‹_› ‹_›
  · exact ⟨‹_›, trivial⟩
  · exact .whn _ _ _
  · exact .wh _ _ _ _ _ _ _ _ ‹_› ‹_› ‹_› ‹_› ‹_› ‹_› ‹_›
theorem RelC.ofC {w : World} {g : Gh} {base : Nat} {x : D} {v : Value} {fresh : Bool} (h : RelC w g base (x.toC fresh) v) : RelD w (frOf fresh base g.fr) x v := by
  cases x <;> simp only [D.toC, RelC] at h
  · subst h; exact .b _
  · subst h; exact .i _ _
  · subst h; exact .s _
  · exact h
  · obtain ⟨h1, rfl⟩ := h; exact .raw _ h1
  · exact h
theorem RelC.toD {w : World} {g : Gh} {base : Nat} {c : C} {v : Value} {fresh : Bool} {x : D} (h : RelC w g base c v) (hx : c.toD = some (fresh, x)) (f' : Bool) (hf : f' = true → fresh = true) : RelD w (frOf f' base g.fr) x v := by
  cases c <;> simp only [C.toD, Option.some.injEq, Prod.mk.injEq, reduceCtorEq] at hx
  · obtain ⟨_, rfl⟩ := hx; unfold RelC at h; subst h; exact .b _
  · obtain ⟨_, rfl⟩ := hx; unfold RelC at h; subst h; exact .i _ _
  · obtain ⟨_, rfl⟩ := hx; unfold RelC at h; subst h; exact .s _
  · obtain ⟨rfl, rfl⟩ := hx
    unfold RelC at h
    cases f' with
    | true => rw [hf rfl] at h; exact h
    | false => exact h.weaken (frOf_ge _ _ _)
  · obtain ⟨_, rfl⟩ := hx; unfold RelC at h; obtain ⟨h1, rfl⟩ := h; exact .raw _ h1
  · obtain ⟨rfl, rfl⟩ := hx
    unfold RelC at h
    cases f' with
    | true => rw [hf rfl] at h; exact h
    | false => exact h.weaken (frOf_ge _ _ _)

/-! ### Steps -/
/-- What one operation does to the world: it writes into the blocks of 'wr', makes those of 'nw', and leaves all else. -/
structure Step (w : World) (g : Gh) (w' : World) (g' : Gh) (wr nw : Nat → Prop) : Prop where
  os : w'.os = w.os
  tape : w'.tape = w.tape
  output : w'.output = w.output
  evo : Evo w g.fr w' g'.fr
  keep : ∀ b, b < w.heap.size → (∀ r, wr r → b ≠ g.gb r) → w'.heap[b]? = w.heap[b]?
  frk : ∀ b, b < w.heap.size → g'.fr b = g.fr b
  gk : ∀ r, g.born r → g'.born r ∧ g'.gb r = g.gb r ∧ g'.gc r = g.gc r
  bk : ∀ r, g'.born r → g.born r ∨ nw r

theorem RelC.step {w w' : World} {g g' : Gh} {wr nw : Nat → Prop} (k : Step w g w' g' wr nw) {base : Nat} {c : C} {v : Value} (h : RelC w g base c v) : RelC w' g' base c v := by
  cases c with
  | sl fresh nn n cs => exact RelD.evo h (k.evo.frOf fresh base)
  | wh fresh nn n sz T xs tag => exact RelD.evo h (k.evo.frOf fresh base)
  | vw v nn n cs => exact ⟨h.1, RelD.evo h.2 k.evo⟩
  | own nn r n => obtain ⟨hb, h⟩ := h; obtain ⟨h1, h2, h3⟩ := k.gk r hb; exact ⟨h1, by rw [h2, h3]; exact h⟩
  | ref r off => obtain ⟨hb, h⟩ := h; obtain ⟨h1, h2, h3⟩ := k.gk r hb; exact ⟨h1, by rw [h2]; exact h⟩
  | ro cs =>
    obtain ⟨a, vs, h1, h2⟩ := h
    refine ⟨a, vs, h1, fun j x hx => ?_⟩
    obtain ⟨e1, e2, e3⟩ := h2 j x hx
    exact ⟨k.evo.cell _ _ (by rw [addr_block]; exact e2) e1, Nat.lt_of_lt_of_le e2 (k.evo.le _ (by have := cell_lt e1; rwa [addr_block] at this)), e3.evo k.evo⟩
  | fn f caps =>
    obtain ⟨hb, h⟩ := h
    refine ⟨fun r hr => (k.gk r (hb r hr)).1, h.trans ?_⟩
    congr 2
    exact List.map_congr_left fun r hr => by rw [(k.gk r (hb r hr)).2.1]
  | _ => exact h
theorem RelL.step {w w' : World} {g g' : Gh} {wr nw : Nat → Prop} (k : Step w g w' g' wr nw) {base : Nat} : ∀ {cs : List C} {vs : List Value}, RelL w g base cs vs → RelL w' g' base cs vs
  | [], [], _ => trivial
  | [], _ :: _, h => h.elim
  | _ :: _, [], h => h.elim
  | _ :: _, _ :: _, h => ⟨h.1.step k, RelL.step k h.2⟩
theorem RelV.step {w w' : World} {g g' : Gh} {wr nw : Nat → Prop} (k : Step w g w' g' wr nw) {base : Nat} {ag : Bool} {cs : List C} {V : Value} (h : RelV w g base ag cs V) : RelV w' g' base ag cs V := by
  unfold RelV at h ⊢
  split
  · rw [if_pos ‹_›] at h; obtain ⟨xs, h1, h2⟩ := h; exact ⟨xs, h1, h2.step k⟩
  · rw [if_neg ‹_›] at h; obtain ⟨c, h1, h2⟩ := h; exact ⟨c, h1, h2.step k⟩
theorem RelT.step {w w' : World} {g g' : Gh} {wr nw : Nat → Prop} (k : Step w g w' g' wr nw) {base : Nat} : ∀ {cs : List (Bool × List C)} {vs : List Value}, RelT w g base cs vs → RelT w' g' base cs vs
  | [], [], _ => trivial
  | [], _ :: _, h => h.elim
  | _ :: _, [], h => h.elim
  | _ :: _, _ :: _, h => ⟨h.1.step k, RelT.step k h.2⟩
theorem RelA.step {w w' : World} {g g' : Gh} {wr nw : Nat → Prop} (k : Step w g w' g' wr nw) {base : Nat} {x : A} {V : Value} (h : RelA w g base x V) : RelA w' g' base x V := by
  induction x with
  | any => trivial
  | undef => exact h
  | v ag cs => exact RelV.step k h
  | tup xs => obtain ⟨ys, h1, h2⟩ := h; exact ⟨ys, h1, h2.step k⟩
  | opt b x ih => exact ⟨fun hb => ih (h.1 hb), h.2⟩
theorem ResOk.lt {P : Program} {w : World} {g : Gh} {base r : Nat} {x : R} (h : ResOk P w g base r x) (hl : x.live = true) : g.gb r < w.heap.size := by
  cases x with
  | gone => cases hl
  | box cs => obtain ⟨_, _, vs, T, h1, _⟩ := h; exact (Array.getElem?_eq_some_iff.1 h1).1
  | arr e fresh nn n cs =>
    unfold R.live at hl; subst hl
    obtain ⟨_, _, h⟩ := h
    simp only [if_true] at h
    obtain ⟨_, cur, h1, _⟩ := h
    exact (Array.getElem?_eq_some_iff.1 h1).1
/-- A resource into whose block nothing is written stays as it was. -/
theorem ResOk.step {P : Program} {w w' : World} {g g' : Gh} {wr nw : Nat → Prop} (k : Step w g w' g' wr nw) {base r : Nat} {x : R} (h : ResOk P w g base r x) (hk : x.live = true → ∀ r', wr r' → g.gb r ≠ g.gb r') : ResOk P w' g' base r x := by
  cases x with
  | gone => trivial
  | box cs =>
    have hlt := h.lt rfl
    obtain ⟨hb, hf, vs, T, h1, h2⟩ := h
    obtain ⟨e1, e2, e3⟩ := k.gk r hb
    exact ⟨e1, by rw [e2, k.frk _ hlt]; exact hf, vs, T, by rw [e2, k.keep _ hlt (hk rfl)]; exact h1, h2.step k⟩
  | arr e fresh nn n cs =>
    cases nn with
    | false => obtain ⟨hb, h2, h3⟩ := h; exact ⟨(k.gk r hb).1, h2, h3⟩
    | true =>
      have hlt := h.lt rfl
      obtain ⟨hb, hl, h⟩ := h
      simp only [if_true] at h
      obtain ⟨hf, cur, h1, h2, h3, h4, h5⟩ := h
      obtain ⟨e1, e2, e3⟩ := k.gk r hb
      refine ⟨e1, hl, ?_⟩
      simp only [if_true]
      exact ⟨by rw [e2, k.frk _ hlt]; exact hf, cur, by rw [e2, k.keep _ hlt (hk rfl)]; exact h1, by rw [e3]; exact h2, by rw [e3]; exact h3, by rw [e3]; exact h4, h5.step k⟩

/-- The whole abstract memory. -/
structure Mem (P : Program) (w : World) (g : Gh) (base k : Nat) (mf : Nat → R) : Prop where
  ok : ∀ r, ResOk P w g base r (mf r)
  inj : ∀ r r', r ≠ r' → (mf r).live = true → (mf r').live = true → g.gb r ≠ g.gb r'
  own : ∀ r, k ≤ r → (mf r).live = true → base ≤ g.gb r

def upd {α : Type} (f : Nat → α) (n : Nat) (x : α) : Nat → α := fun m => if m = n then x else f m
def upds (f : Nat → R) : List (Nat × R) → Nat → R
  | [] => f
  | p :: ps => upds (upd f p.1 p.2) ps

/-- What an operation comes to: its value, and which resources it turns into what. 'lv': which were live before. -/
structure Eff (P : Program) (w : World) (g : Gh) (base : Nat) (v : A) (ups : List (Nat × R)) (nw lv : Nat → Prop) (w' : World) (g' : Gh) (V : Value) : Prop where
  step : Step w g w' g' (fun r => (∃ x, (r, x) ∈ ups) ∧ ¬ nw r ∧ lv r) nw
  val : RelA w' g' base v V
  ok : ∀ r x, (r, x) ∈ ups → ResOk P w' g' base r x
  new : ∀ r x, (r, x) ∈ ups → nw r → x.live = true → w.heap.size ≤ g'.gb r ∨ ∃ r0, (r0, R.gone) ∈ ups ∧ ¬ nw r0 ∧ lv r0 ∧ g'.gb r = g.gb r0
  inj : ∀ r x r' x', (r, x) ∈ ups → (r', x') ∈ ups → nw r → nw r' → r ≠ r' → x.live = true → x'.live = true → g'.gb r ≠ g'.gb r'

theorem upds_not : ∀ (ps : List (Nat × R)) (f : Nat → R) (r : Nat), (∀ x, (r, x) ∉ ps) → upds f ps r = f r
  | [], _, _, _ => rfl
  | p :: ps, f, r, h => by
    rw [upds, upds_not ps _ r (fun x hx => h x (List.mem_cons_of_mem _ hx))]
    unfold upd
    rw [if_neg (fun e => h p.2 (by subst e; exact List.mem_cons_self ..))]
theorem upds_mem : ∀ (ps : List (Nat × R)) (f : Nat → R) (r : Nat) (x : R), (ps.map (·.1)).Nodup → (r, x) ∈ ps → upds f ps r = x
  | p :: ps, f, r, x, hn, h => by
    rw [List.map_cons, List.nodup_cons] at hn
    rcases List.mem_cons.1 h with h | h
    · subst h
      rw [upds, upds_not ps _ r (fun y hy => hn.1 (List.mem_map.2 ⟨_, hy, rfl⟩))]
      unfold upd; simp
    · exact upds_mem ps _ r x hn.2 h

/-- Changes that keep the memory's order. -/
structure WfUps (k : Nat) (nw lv : Nat → Prop) (ups : List (Nat × R)) : Prop where
  nd : (ups.map (·.1)).Nodup
  nwk : ∀ r x, (r, x) ∈ ups → nw r → k ≤ r
  mv : ∀ r, (r, R.gone) ∈ ups → k ≤ r
  lvx : ∀ r x, (r, x) ∈ ups → ¬ nw r → x.live = true → lv r

theorem Mem.exec {P : Program} {w w' : World} {g g' : Gh} {base k : Nat} {mf : Nat → R} {v : A} {ups : List (Nat × R)} {nw lv : Nat → Prop} {V : Value} (m : Mem P w g base k mf) (h : Eff P w g base v ups nw lv w' g' V)
    (wf : WfUps k nw lv ups) (hb : base ≤ w.heap.size) (hlv : ∀ r x, (r, x) ∈ ups → ¬ nw r → lv r → (mf r).live = true) : Mem P w' g' base k (upds mf ups) := by
  have born : ∀ r, (mf r).live = true → g'.gb r = g.gb r := fun r hr => by
    have h1 := m.ok r
    have : g.born r := by
      cases hm : mf r with
      | gone => rw [hm] at hr; cases hr
      | box cs => rw [hm] at h1; exact h1.1
      | arr e f nn n cs => rw [hm] at h1; exact h1.1
    exact (h.step.gk r this).2.1
  have old : ∀ r, (upds mf ups r).live = true → (∃ x, (r, x) ∈ ups ∧ nw r ∧ x.live = true) ∨ ((mf r).live = true ∧ g'.gb r = g.gb r ∧ ((r, R.gone) ∉ ups)) := fun r hr => by
    by_cases hx : ∃ x, (r, x) ∈ ups
    · obtain ⟨x, hx⟩ := hx
      rw [upds_mem ups mf r x wf.nd hx] at hr
      by_cases hn : nw r
      · exact .inl ⟨x, hx, hn, hr⟩
      · have := hlv r x hx hn (wf.lvx r x hx hn hr)
        refine .inr ⟨this, born r this, fun hg => ?_⟩
        have e1 := upds_mem ups mf r x wf.nd hx
        rw [upds_mem ups mf r .gone wf.nd hg] at e1
        subst e1; cases hr
    · have hx' : ∀ x, (r, x) ∉ ups := fun x h => hx ⟨x, h⟩
      rw [upds_not ups mf r hx'] at hr
      exact .inr ⟨hr, born r hr, hx' _⟩
  have ltS : ∀ r, (mf r).live = true → g.gb r < w.heap.size := fun r hr => (m.ok r).lt hr
  refine ⟨fun r => ?_, fun r r' hne hr hr' => ?_, fun r hkr hr => ?_⟩
  · by_cases hx : ∃ x, (r, x) ∈ ups
    · obtain ⟨x, hx⟩ := hx
      rw [upds_mem ups mf r x wf.nd hx]
      exact h.ok r x hx
    · have hx' : ∀ x, (r, x) ∉ ups := fun x h => hx ⟨x, h⟩
      rw [upds_not ups mf r hx']
      refine (m.ok r).step h.step fun hl r' hr' => ?_
      obtain ⟨⟨x, hx2⟩, hn, hlv'⟩ := hr'
      exact m.inj r r' (fun e => hx' x (e ▸ hx2)) hl (hlv r' x hx2 hn hlv')
  · have newOld : ∀ r r' x, r ≠ r' → (r, x) ∈ ups → nw r → x.live = true → (mf r').live = true → g'.gb r' = g.gb r' → (r', R.gone) ∉ ups → g'.gb r ≠ g'.gb r' := by
      intro r r' x hne hx hn hxl hl' hg' hgone
      rcases h.new r x hx hn hxl with h1 | ⟨r0, h0, h1, h2, h3⟩
      · rw [hg']; exact Ne.symm (Nat.ne_of_lt (Nat.lt_of_lt_of_le (ltS r' hl') h1))
      · rw [hg', h3]
        exact m.inj r0 r' (fun e => hgone (e ▸ h0)) (hlv r0 _ h0 h1 h2) hl'
    rcases old r hr with ⟨x, hx, hn, hxl⟩ | ⟨hl, hg, hgone⟩
    · rcases old r' hr' with ⟨x', hx', hn', hxl'⟩ | ⟨hl', hg', hgone'⟩
      · exact h.inj r x r' x' hx hx' hn hn' hne hxl hxl'
      · exact newOld r r' x hne hx hn hxl hl' hg' hgone'
    · rcases old r' hr' with ⟨x', hx', hn', hxl'⟩ | ⟨hl', hg', hgone'⟩
      · exact (newOld r' r x' hne.symm hx' hn' hxl' hl hg hgone).symm
      · rw [hg, hg']; exact m.inj r r' hne hl hl'
  · rcases old r hr with ⟨x, hx, hn, hxl⟩ | ⟨hl, hg, _⟩
    · rcases h.new r x hx hn hxl with h1 | ⟨r0, h0, h1, h2, h3⟩
      · omega
      · rw [h3]; exact m.own r0 (wf.mv r0 h0) (hlv r0 _ h0 h1 h2)
    · rw [hg]; exact m.own r hkr hl

/-! ### A function's activation -/
/-- What stands of the world in which the call began. -/
structure Fr (w0 : World) (g0 : Gh) (k : Nat) (ins : Nat → R) (w : World) (g : Gh) : Prop where
  os : w.os = w0.os
  tape : w.tape = w0.tape
  output : w.output = w0.output
  evo : Evo w0 g0.fr w g.fr
  keep : ∀ b, b < w0.heap.size → (∀ r, r < k → (ins r).live = true → b ≠ g0.gb r) → w.heap[b]? = w0.heap[b]?
  frk : ∀ b, b < w0.heap.size → g.fr b = g0.fr b
  gk : ∀ r, g0.born r → g.born r ∧ g.gb r = g0.gb r ∧ g.gc r = g0.gc r

/-- The program's fixed data: what its package-level tables read as. -/
def Glob (G : Nat → Option (List D)) (w : World) (fr : Nat → Nat) : Prop :=
  ∀ i ds, G i = some ds → ∀ j x, ds[j]? = some x → ∃ v, w.cell? ⟨i, j, none⟩ = some v ∧ j < fr i ∧ RelD w fr x v
theorem Glob.evo {G : Nat → Option (List D)} {w w' : World} {f f' : Nat → Nat} (h : Glob G w f) (k : Evo w f w' f') : Glob G w' f' := by
  intro i ds hi j x hx
  obtain ⟨v, h1, h2, h3⟩ := h i ds hi j x hx
  exact ⟨v, k.cell ⟨i, j, none⟩ v h2 h1, Nat.lt_of_lt_of_le h2 (k.le i (cell_lt h1)), h3.evo k⟩

structure St where
  t : Nat → A
  m : Nat → R
structure Cx where
  P : Program
  G : Nat → Option (List D)
  w0 : World
  g0 : Gh
  k : Nat
  ins : Nat → R
def Cx.base (c : Cx) : Nat := c.w0.heap.size

structure RelS (c : Cx) (s : St) (a : Act) (w : World) (g : Gh) : Prop where
  slots : ∀ d, RelA w g c.base (s.t d) (a.tmps.getD d Go.undef)
  mem : Mem c.P w g c.base c.k s.m
  fr : Fr c.w0 c.g0 c.k c.ins w g
  glob : Glob c.G w g.fr
  lvk : ∀ r, r < c.k → (s.m r).live = true → (c.ins r).live = true
  bk : ∀ r, r < c.k → c.g0.born r
  bk2 : ∀ r, c.g0.born r → r < c.k
  defers : a.defers = []

def updO (f : Nat → A) : Option Nat → A → Nat → A
  | none, _ => f
  | some d, x => upd f d x

/-- One operation's effect, carried out. -/
theorem RelS.exec {c : Cx} {s : St} {a : Act} {w w' : World} {g g' : Gh} {v : A} {ups : List (Nat × R)} {nw lv : Nat → Prop} {V : Value} {dst : Option Nat} (h : RelS c s a w g) (e : Eff c.P w g c.base v ups nw lv w' g' V)
    (wf : WfUps c.k nw lv ups) (hlv : ∀ r x, (r, x) ∈ ups → ¬ nw r → lv r → (s.m r).live = true) (hd : ∀ d, dst = some d → d < a.tmps.size) :
    RelS c ⟨updO s.t dst v, upds s.m ups⟩ (a.put dst V) w' g' := by
  have hbase : c.base ≤ w.heap.size := h.fr.evo.size
  refine ⟨fun d => ?_, h.mem.exec e wf hbase hlv, ⟨e.step.os.trans h.fr.os, e.step.tape.trans h.fr.tape, e.step.output.trans h.fr.output, h.fr.evo.trans e.step.evo, fun b hb hk => ?_, fun b hb => ?_, fun r hr => ?_⟩, h.glob.evo e.step.evo, fun r hr hl => ?_, h.bk, h.bk2, ?_⟩
  · cases dst with
    | none => exact (h.slots d).step e.step
    | some d0 =>
      show RelA w' g' c.base (upd s.t d0 v d) ((a.tmps.setIfInBounds d0 V).getD d Go.undef)
      unfold upd
      by_cases hdd : d = d0
      · subst hdd
        rw [if_pos rfl]
        have := hd d rfl
        simp [Array.getD, this]
        exact e.val
      · rw [if_neg hdd]
        have h1 := (h.slots d).step e.step
        have : (a.tmps.setIfInBounds d0 V).getD d Go.undef = a.tmps.getD d Go.undef := by
          simp only [Array.getD_eq_getD_getElem?, Array.getElem?_setIfInBounds_ne (Ne.symm hdd)]
        rw [this]; exact h1
  · rw [e.step.keep b (Nat.lt_of_lt_of_le hb h.fr.evo.size) ?_]
    · exact h.fr.keep b hb hk
    · rintro r ⟨⟨x, hx⟩, hn, hl⟩ rfl
      have hlr := hlv r x hx hn hl
      by_cases hrk : r < c.k
      · exact hk r hrk (h.lvk r hrk hlr) (h.fr.gk r (h.bk r hrk)).2.1
      · have := h.mem.own r (by omega) hlr
        unfold Cx.base at this
        omega
  · rw [e.step.frk b (Nat.lt_of_lt_of_le hb h.fr.evo.size)]; exact h.fr.frk b hb
  · obtain ⟨h1, h2, h3⟩ := h.fr.gk r hr
    obtain ⟨k1, k2, k3⟩ := e.step.gk r h1
    exact ⟨k1, k2.trans h2, k3.trans h3⟩
  · by_cases hx : ∃ x, (r, x) ∈ ups
    · obtain ⟨x, hx⟩ := hx
      have hl' : x.live = true := by
        have : upds s.m ups r = x := upds_mem ups s.m r x wf.nd hx
        exact this ▸ hl
      by_cases hn : nw r
      · have := wf.nwk r x hx hn; omega
      · exact h.lvk r hr (hlv r x hx hn (wf.lvx r x hx hn hl'))
    · have : upds s.m ups r = s.m r := upds_not ups s.m r (fun x h => hx ⟨x, h⟩)
      exact h.lvk r hr (this ▸ hl)
  · cases dst <;> exact h.defers
end Go.Proofs.Ytpobimdcphjljaa
