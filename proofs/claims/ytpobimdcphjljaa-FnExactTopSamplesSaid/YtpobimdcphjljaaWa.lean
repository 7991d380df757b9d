/-
  Rows inside rows: what is known of the world itself; code walked from one known world to the next.
-/
import Derived.Test.YtpobimdcphjljaaTwo
import Derived.Test.YtpobimdcphjljaaCl
namespace Go.Proofs.Ytpobimdcphjljaa
open Go
set_option linter.unusedVariables false
set_option linter.unusedSimpArgs false
set_option linter.unnecessarySimpa false
set_option maxRecDepth 4000

/-! ### What stays -/
/-- From one world to a later one: nothing but the blocks of X is written. -/
structure Kp (w w' : World) (X : Nat → Prop) : Prop where
  os : w'.os = w.os
  tape : w'.tape = w.tape
  output : w'.output = w.output
  size : w.heap.size ≤ w'.heap.size
  keep : ∀ b, b < w.heap.size → ¬ X b → w'.heap[b]? = w.heap[b]?
def nowh : Nat → Prop := fun _ => False
theorem Kp.refl (w : World) (X : Nat → Prop) : Kp w w X := ⟨rfl, rfl, rfl, Nat.le_refl _, fun _ _ _ => rfl⟩
theorem Kp.trans {w w' w'' : World} {X : Nat → Prop} (h : Kp w w' X) (k : Kp w' w'' X) : Kp w w'' X :=
  ⟨k.os.trans h.os, k.tape.trans h.tape, k.output.trans h.output, Nat.le_trans h.size k.size, fun b hb hx => (k.keep b (Nat.lt_of_lt_of_le hb h.size) hx).trans (h.keep b hb hx)⟩
theorem Kp.trans2 {w w' w'' : World} {X Y : Nat → Prop} (h : Kp w w' X) (k : Kp w' w'' Y) (hx : ∀ b, b < w.heap.size → Y b → X b) : Kp w w'' X :=
  ⟨k.os.trans h.os, k.tape.trans h.tape, k.output.trans h.output, Nat.le_trans h.size k.size, fun b hb hn => (k.keep b (Nat.lt_of_lt_of_le hb h.size) fun e => hn (hx b hb e)).trans (h.keep b hb hn)⟩
theorem Kp.mono {w w' : World} {X Y : Nat → Prop} (h : Kp w w' X) (hx : ∀ b, b < w.heap.size → X b → Y b) : Kp w w' Y :=
  ⟨h.os, h.tape, h.output, h.size, fun b hb hy => h.keep b hb fun k => hy (hx b hb k)⟩
theorem Kp.none {w w' : World} {X : Nat → Prop} (h : Kp w w' nowh) : Kp w w' X := h.mono fun _ _ k => k.elim
theorem Kp.cell {w w' : World} {X : Nat → Prop} (h : Kp w w' X) {a : Addr} {v : Value} (hc : w.cell? a = some v) (hx : ¬ X a.block) : w'.cell? a = some v := by
  rw [World.cell?_of_block (h.keep a.block (cell_lt hc) hx)]; exact hc
theorem RelD.kp {w w' : World} {f : Nat → Nat} {x : D} {v : Value} {X : Nat → Prop} (h : RelD w f x v) (k : Kp w w' X) (hx : ∀ b, b < w.heap.size → X b → f b = 0) : RelD w' f x v :=
  h.evo ⟨k.size, fun _ _ => Nat.le_refl _, fun a v ha hc => k.cell hc (fun e => by rw [hx _ (cell_lt hc) e] at ha; omega), fun b hf hb => k.keep b hb (fun e => by rw [hx b hb e] at hf; omega), fun _ _ _ => rfl⟩
/-- The frontier of the blocks from lo to hi. -/
def frI (f : Nat → Nat) (lo hi : Nat) : Nat → Nat := fun b => if lo ≤ b ∧ b < hi then f b else 0
theorem frI_out {f : Nat → Nat} {lo hi b : Nat} (h : ¬ (lo ≤ b ∧ b < hi)) : frI f lo hi b = 0 := if_neg h
/-- What is only related to blocks from lo on. -/
theorem RelD.cut {w : World} {f : Nat → Nat} {base : Nat} {x : D} {v : Value} (h : RelD w (frOf true base f) x v) : RelD w (frI f base w.heap.size) x v := by
  induction h with
  | b x => exact .b x
  | i k n => exact .i k n
  | s x => exact .s x
  | nil => exact .nil
  | raw v hv => exact .raw v hv
  | whn sz T tag => exact .whn sz T tag
  | wh n sz T xs tag b cap cur hh ht hf hn hc hs hx =>
    refine .wh n sz T xs tag b cap cur hh ht ?_ hn hc hs hx
    have hb := (Array.getElem?_eq_some_iff.1 hh).1
    unfold frOf restr at hf
    unfold frI
    simp only [if_true] at hf
    split at hf
    · omega
    · rw [if_pos ⟨by omega, hb⟩]; exact hf
  | sl n cs a cap vs hn hc h1 h2 h3 ih =>
    refine .sl n cs a cap vs hn hc h1 (fun j x hx => ?_) ih
    have := h2 j x hx
    have hb := cell_lt (h1 j x hx)
    rw [addr_block] at hb
    unfold frOf restr at this
    unfold frI
    simp only [if_true] at this
    split at this
    · omega
    · rw [if_pos ⟨by omega, hb⟩]; exact this

/-! ### From a known world on -/
def WC (c : Cx) (nt : Nat) (code : Code) (Q : Exit → Act → World → Prop) (s : St) (n : Nat) : Prop :=
  ∀ (a : Act) (w : World) (g : Gh), RelS c s a w g → NB g n → a.tmps.size = nt → code.wp c.P Q a w
theorem WC.seq {P : Program} {G : Nat → Option (List D)} {w0 : World} {g0 : Gh} {k : Nat} {ins : Nat → R} {nt : Nat} {x y : Code} {Q : Exit → Act → World → Prop} {Qf : PostA} {s : St} {n : Nat} (hQ : ∀ e s n a w g, e ≠ .normal → Qf e s n → RelS ⟨P, G, w0, g0, k, ins⟩ s a w g → NB g n → a.tmps.size = nt → Q e a w)
    (h : AW P G w0.heap.size k nt x (thenA (fun s n => WC ⟨P, G, w0, g0, k, ins⟩ nt y Q s n) Qf) s n) : WC ⟨P, G, w0, g0, k, ins⟩ nt (.seq x y) Q s n := by
  intro a w g hr hn hs
  refine wp_seq (h ⟨P, G, w0, g0, k, ins⟩ a w g rfl rfl rfl rfl hr hn hs _ fun e s' n' a' w' g' hq hr' hn' hs' => ?_)
  cases e with
  | normal => exact hq a' w' g' hr' hn' hs'
  | _ => exact hQ _ _ _ _ _ _ (by simp) hq hr' hn' hs'
theorem WC.all {P : Program} {G : Nat → Option (List D)} {w0 : World} {g0 : Gh} {k : Nat} {ins : Nat → R} {nt : Nat} {x : Code} {Q : Exit → Act → World → Prop} {Qf : PostA} {s : St} {n : Nat} (hQ : ∀ e s n a w g, Qf e s n → RelS ⟨P, G, w0, g0, k, ins⟩ s a w g → NB g n → a.tmps.size = nt → Q e a w)
    (h : AW P G w0.heap.size k nt x Qf s n) : WC ⟨P, G, w0, g0, k, ins⟩ nt x Q s n := by
  intro a w g hr hn hs
  exact h ⟨P, G, w0, g0, k, ins⟩ a w g rfl rfl rfl rfl hr hn hs _ fun e s' n' a' w' g' hq hr' hn' hs' => hQ _ _ _ _ _ _ hq hr' hn' hs'
theorem mem_nil (P : Program) (w : World) (g : Gh) (base : Nat) : Mem P w g base 0 (lsR []) := ⟨fun r => trivial, (fun r r' _ h => by cases h), (fun r _ h => by cases h)⟩
theorem rel_start {P : Program} {w : World} {g : Gh} {a : Act} {l : List A} {m : List R} (slots : ∀ d, RelA w g w.heap.size (lsA l d) (a.tmps.getD d Go.undef)) (mem : Mem P w g w.heap.size m.length (lsR m)) (born : ∀ r, g.born r ↔ r < m.length) (hd : a.defers = []) :
    RelS ⟨P, noG, w, g, m.length, lsR m⟩ (sL l m) a w g :=
  ⟨slots, mem, ⟨rfl, rfl, rfl, Evo.refl _ _, fun _ _ _ => rfl, fun _ _ => rfl, fun r hr => ⟨hr, rfl, rfl⟩⟩, fun i ds h => (by cases h), fun _ _ h => h, fun r hr => (born r).2 hr, fun r hr => (born r).1 hr, hd⟩
theorem nb_start {g : Gh} {k : Nat} (born : ∀ r, g.born r ↔ r < k) : NB g k := fun r h1 h2 => by have := (born r).1 h2; omega
theorem slots_upd {w : World} {g : Gh} {base : Nat} {tm : Nat → Value} : ∀ (U : List (Nat × A)) (l : List A), (∀ d, RelA w g base (lsA l d) (tm d)) → (∀ p ∈ U, RelA w g base p.2 (tm p.1)) → ∀ d, RelA w g base (lsA (updL l U) d) (tm d)
  | [], l, h, _, d => h d
  | p :: U, l, h, k, d => by
    refine slots_upd U (setE .any l p.1 p.2) (fun d => ?_) (fun q hq => k q (List.mem_cons_of_mem _ hq)) d
    show RelA w g base ((setE .any l p.1 p.2).getD d .any) (tm d)
    rw [setE_get]
    split
    · rename_i e; subst e; exact k p (List.mem_cons_self ..)
    · exact h d
theorem slots_any {w : World} {g : Gh} {base : Nat} {tm : Nat → Value} (n : Nat) (d : Nat) : RelA w g base (lsA (List.replicate n .any) d) (tm d) := by
  have : lsA (List.replicate n A.any) d = .any := by
    unfold lsA
    rw [List.getD_eq_getElem?_getD, List.getElem?_replicate]
    split <;> rfl
  rw [this]; trivial
/-- What a walk without resources of its own left as it was. -/
theorem Kp.ofFr {w0 w : World} {g0 g : Gh} {ins : Nat → R} {X : Nat → Prop} {k : Nat} (h : Fr w0 g0 k ins w g) (hx : ∀ r, r < k → (ins r).live = true → X (g0.gb r)) : Kp w0 w X :=
  ⟨h.os, h.tape, h.output, h.evo.size, fun b hb hnx => h.keep b hb fun r hr hl e => hnx (e ▸ hx r hr hl)⟩

theorem WC.seqW {c : Cx} {nt : Nat} {x y : Code} {Q : Exit → Act → World → Prop} {s : St} {n : Nat} (h : WC c nt x (Exit.then (y.wp c.P Q) Q) s n) : WC c nt (.seq x y) Q s n := fun a w g hr hn hs => wp_seq (h a w g hr hn hs)
theorem rebase {P : Program} {w : World} {a : Act} {nt : Nat} {code : Code} {Q : Exit → Act → World → Prop} (g : Gh) (U : List (Nat × A)) (m : List R) (k : Nat) (hk : m.length = k) (h : WC ⟨P, noG, w, g, k, lsR m⟩ nt code Q (sL (updL (List.replicate nt .any) U) m) k)
    (slots : ∀ p ∈ U, RelA w g w.heap.size p.2 (a.tmps.getD p.1 Go.undef)) (mem : Mem P w g w.heap.size k (lsR m)) (born : ∀ r, g.born r ↔ r < k) (hd : a.defers = []) (hs : a.tmps.size = nt) : code.wp P Q a w := by
  subst hk
  exact h a w g (rel_start (slots_upd U _ (slots_any nt) slots) mem born hd) (nb_start born) hs
def gh0 (fr : Nat → Nat) : Gh := ⟨fr, fun _ => 0, fun _ => 0, fun _ => False⟩
theorem gh0_born (fr : Nat → Nat) : ∀ r, (gh0 fr).born r ↔ r < 0 := fun r => ⟨fun h => h.elim, fun h => absurd h (Nat.not_lt_zero r)⟩
/-- What a function comes to that returns one slot. -/
def retW (d : Tmp) (R : Ending → World → Prop) : Exit → Act → World → Prop := fun e a w => (e = .normal ∨ e = .ret) ∧ a.defers = [] ∧ R (.returned (a.tmps.getD d Go.undef)) w
theorem calls_start {P : Program} {f : FuncId} {fn : Func} {body : Code} {args : Array Value} {w : World} {d : Tmp} {R : Ending → World → Prop} (hf : P.funcs[f]? = some fn) (hb : fn.body = some body) (hres : fn.results = #[.tmp d])
    (h : ∀ a : Act, a.tmps = args ++ Array.replicate (fn.ntmps - args.size) Go.undef → a.defers = [] → body.wp P (retW d R) a w) : Calls P f args w R := by
  refine calls_of_wp hf hb (wp_mono (h _ rfl rfl) ?_)
  rintro e a w' ⟨he, hd, hp⟩
  have hrun : (results fn a.tmps).run P w' = .ok (a.tmps.getD d Go.undef) w' := by
    unfold results
    rw [hres]
    simp [Sem.run_bind]
  rcases he with rfl | rfl
  · exact ⟨hd, _, hrun, hp⟩
  · exact ⟨hd, _, hrun, hp⟩
theorem args_at {args : List Value} {n : Nat} {a : Act} (h : a.tmps = args.toArray ++ Array.replicate (n - args.toArray.size) Go.undef) (hn : args.length ≤ n) : a.tmps.size = n ∧ ∀ d, d < args.length → a.tmps.getD d Go.undef = args.getD d Go.undef := by
  rw [h]
  refine ⟨by simp; omega, fun d hd => ?_⟩
  simp only [Array.getD_eq_getD_getElem?, List.getD_eq_getElem?_getD]
  rw [Array.getElem?_append_left (by simpa using hd)]
  simp

theorem slot1 {w : World} {g : Gh} {base : Nat} {c : C} {v : Value} (h : RelA w g base (.v false [c]) v) : RelC w g base c v := by
  obtain ⟨c', e, h⟩ := (show ∃ c', [c] = [c'] ∧ RelC w g base c' v from h)
  cases e; exact h
theorem slot_own {w : World} {g : Gh} {base r n : Nat} {v : Value} (h : RelA w g base (.v false [.own true r n]) v) : v = .slice (some ⟨g.gb r, 0, none⟩) n (g.gc r) := by
  have h : g.born r ∧ (if true = true then v = .slice (some ⟨g.gb r, 0, none⟩) n (g.gc r) else n = 0 ∧ v = .slice none 0 0) := slot1 h
  simpa using h.2
theorem slot_ownF {w : World} {g : Gh} {base r n : Nat} {v : Value} (h : RelA w g base (.v false [.own false r n]) v) : n = 0 ∧ v = .slice none 0 0 := by
  have h : g.born r ∧ (if false = true then v = .slice (some ⟨g.gb r, 0, none⟩) n (g.gc r) else n = 0 ∧ v = .slice none 0 0) := slot1 h
  simpa using h.2
theorem slot_i {w : World} {g : Gh} {base : Nat} {k : IntKind} {n : Int} {v : Value} (h : RelA w g base (.v false [.i k n]) v) : v = .int k n := slot1 h
theorem slot_b {w : World} {g : Gh} {base : Nat} {b : Bool} {v : Value} (h : RelA w g base (.v false [.b b]) v) : v = .bool b := slot1 h
theorem slot_raw {w : World} {g : Gh} {base : Nat} {u v : Value} (h : RelA w g base (.v false [.raw u]) v) : v = u := (show u.oneCell' = true ∧ v = u from slot1 h).2
theorem slot_sl {w : World} {g : Gh} {base n : Nat} {nn : Bool} {ds : List D} {v : Value} (h : RelA w g base (.v false [.sl false nn n ds]) v) : RelD w g.fr (.sl nn n ds) v := slot1 h
theorem slot_slT {w : World} {g : Gh} {base n : Nat} {nn : Bool} {ds : List D} {v : Value} (h : RelA w g base (.v false [.sl true nn n ds]) v) : RelD w (frOf true base g.fr) (.sl nn n ds) v := slot1 h
theorem slot_vw {w : World} {g : Gh} {base n : Nat} {nn : Bool} {ds : List D} {u v : Value} (h : RelA w g base (.v false [.vw u nn n ds]) v) : v = u ∧ RelD w g.fr (.sl nn n ds) v := slot1 h

theorem then_exit {next : Act → World → Prop} {Q : Exit → Act → World → Prop} {id : Nat} {a : Act} {w : World} (h : Q (.exit id) a w) : Exit.then next Q (.exit id) a w := h
theorem then_ret {next : Act → World → Prop} {Q : Exit → Act → World → Prop} {a : Act} {w : World} (h : Q .ret a w) : Exit.then next Q .ret a w := h
theorem then_normal {next : Act → World → Prop} {Q : Exit → Act → World → Prop} {a : Act} {w : World} (h : next a w) : Exit.then next Q .normal a w := h
theorem block_exit {Q : Exit → Act → World → Prop} {id : Nat} {a : Act} {w : World} (h : Q .normal a w) : Exit.inBlock id Q (.exit id) a w := by
  simp only [Exit.inBlock]
  split
  · exact h
  · rename_i hne; exact absurd trivial hne

theorem WC.block {c : Cx} {nt id : Nat} {x : Code} {Q : Exit → Act → World → Prop} {s : St} {n : Nat} (h : WC c nt x (Exit.inBlock id Q) s n) : WC c nt (.block id x) Q s n := fun a w g hr hn hs => wp_block (h a w g hr hn hs)
theorem WC.next {P : Program} {G : Nat → Option (List D)} {w0 : World} {g0 : Gh} {k : Nat} {ins : Nat → R} {nt : Nat} {x y : Code} {Q Q2 : Exit → Act → World → Prop} {s : St} {n : Nat} (hQ : ∀ a w, y.wp P Q2 a w → Q .normal a w)
    (h : AW P G w0.heap.size k nt x (thenA (fun s n => WC ⟨P, G, w0, g0, k, ins⟩ nt y Q2 s n) fun _ _ _ => False) s n) : WC ⟨P, G, w0, g0, k, ins⟩ nt x Q s n := by
  intro a w g hr hn hs
  refine h ⟨P, G, w0, g0, k, ins⟩ a w g rfl rfl rfl rfl hr hn hs _ fun e s' n' a' w' g' hq hr' hn' hs' => ?_
  cases e with
  | normal => exact hQ _ _ (hq a' w' g' hr' hn' hs')
  | _ => exact hq.elim
/-- The operations of a region from the j-th on. -/
def WT (c : Cx) (nt : Nat) (ops : Array Oper) (j : Nat) (Q : Exit → Act → World → Prop) (s : St) (n : Nat) : Prop :=
  ∀ (a : Act) (w : World) (g : Gh), RelS c s a w g → NB g n → a.tmps.size = nt → wpOps c.P ops Q (List.range' j (ops.size - j)) a w
theorem WC.regionS {c : Cx} {nt id : Nat} {ops : Array Oper} {Q : Exit → Act → World → Prop} {s : St} {n : Nat} (h : WT c nt ops 0 Q s n) : WC c nt (.region id ops false) Q s n := by
  intro a w g hr hn hs
  refine wp_region ?_
  have := h a w g hr hn hs
  rwa [Nat.sub_zero, ← List.range_eq_range'] at this
theorem WT.part {P : Program} {G : Nat → Option (List D)} {w0 : World} {g0 : Gh} {k : Nat} {ins : Nat → R} {nt j : Nat} {ops : Array Oper} {Q : Exit → Act → World → Prop} {s : St} {n : Nat} (i : Nat) (hi : j + i ≤ ops.size)
    (h : aops P G w0.heap.size k nt ops.toList ((ops.toList.drop j).take i) s n [] (fun s' n' _ => WT ⟨P, G, w0, g0, k, ins⟩ nt ops (j + i) Q s' n')) : WT ⟨P, G, w0, g0, k, ins⟩ nt ops j Q s n := by
  intro a w g hr hn hs
  have hlen : ((ops.toList.drop j).take i).length = i := by simp; omega
  have := seq_opsP (c := ⟨P, G, w0, g0, k, ins⟩) (ops := ops) (Q := Q) (ops.size - j - i) ((ops.toList.drop j).take i) j s n [] a w g (by rw [hlen]) hr hn hs h (fun s' n' _ a' w' g' k1 k2 k3 k4 => by
    have := k1 a' w' g' k2 k3 k4
    rwa [hlen, show ops.size - j - i = ops.size - (j + i) by omega])
  rwa [hlen, show i + (ops.size - j - i) = ops.size - j by omega] at this
theorem WT.last {P : Program} {G : Nat → Option (List D)} {w0 : World} {g0 : Gh} {k : Nat} {ins : Nat → R} {nt j : Nat} {ops : Array Oper} {Q : Exit → Act → World → Prop} {s : St} {n : Nat}
    (h : aops P G w0.heap.size k nt ops.toList (ops.toList.drop j) s n [] (fun s' n' _ => ∀ (a : Act) (w : World) (g : Gh), RelS ⟨P, G, w0, g0, k, ins⟩ s' a w g → NB g n' → a.tmps.size = nt → Q .normal a w)) : WT ⟨P, G, w0, g0, k, ins⟩ nt ops j Q s n := by
  intro a w g hr hn hs
  have := seq_ops (c := ⟨P, G, w0, g0, k, ins⟩) (ops := ops) (Q := Q) (ops.toList.drop j) j s n [] a w g rfl hr hn hs h (fun s' n' _ a' w' g' k1 k2 k3 k4 => k1 a' w' g' k2 k3 k4)
  rwa [List.length_drop, Array.length_toList] at this
theorem rebaseT {P : Program} {w : World} {a : Act} {nt j : Nat} {ops : Array Oper} {Q : Exit → Act → World → Prop} (g : Gh) (U : List (Nat × A)) (m : List R) (k : Nat) (hk : m.length = k) (h : WT ⟨P, noG, w, g, k, lsR m⟩ nt ops j Q (sL (updL (List.replicate nt .any) U) m) k)
    (slots : ∀ p ∈ U, RelA w g w.heap.size p.2 (a.tmps.getD p.1 Go.undef)) (mem : Mem P w g w.heap.size k (lsR m)) (born : ∀ r, g.born r ↔ r < k) (hd : a.defers = []) (hs : a.tmps.size = nt) : wpOps P ops Q (List.range' j (ops.size - j)) a w := by
  subst hk
  exact h a w g (rel_start (slots_upd U _ (slots_any nt) slots) mem born hd) (nb_start born) hs
def gh1 (fr : Nat → Nat) (b c : Nat) : Gh := ⟨fr, fun _ => b, fun _ => c, fun r => r < 1⟩
theorem gh1_born (fr : Nat → Nat) (b c : Nat) : ∀ r, (gh1 fr b c).born r ↔ r < 1 := fun r => Iff.rfl
theorem mem_one {P : Program} {w : World} {g : Gh} {base : Nat} {x : R} (h : ResOk P w g base 0 x) : Mem P w g base 1 (lsR [x]) := by
  refine ⟨fun r => ?_, fun r r' hne hl hl' => ?_, fun r hr hl => ?_⟩
  · cases r with
    | zero => exact h
    | succ r => trivial
  · cases r with
    | zero => cases r' with
      | zero => exact absurd rfl hne
      | succ r' => cases hl'
    | succ r => cases hl
  · cases r with
    | zero => omega
    | succ r => cases hl

/-! ### Operations by hand -/
theorem wp_opMove {P : Program} {o : Oper} {x : Operand} {a : Act} {w : World} {next : Act → World → Prop} {Q : Exit → Act → World → Prop} (ho : o.op = .move x ∨ o.op = .assign x) (h : next (a.put o.dst (a.eval x)) w) : o.wp P a w next Q := by
  have hrun : (execOp a.eval o).run P w = .ok (.value (a.eval x)) w := by
    unfold execOp
    rcases ho with h | h <;> simp [h]
  unfold Oper.wp
  rw [hrun, Oper.upon_value]; exact h
theorem wp_opCall {P : Program} {o : Oper} {f : FuncId} {fn : Func} {ops0 : Array Operand} {ts : Array TypeId} {a : Act} {w : World} {next : Act → World → Prop} {Q : Exit → Act → World → Prop} (ho : o.op = .call { callee := .value (.func f), args := ops0, argTypes := ts })
    (hf : P.funcs[f]? = some fn) (hname : (fn.name == "runtime.NumGoroutine") = false) (hbody : fn.body.isNone = false) (h : Calls P f (ops0.toList.map a.eval).toArray w fun e w' => ∃ V, e = .returned V ∧ next (a.put o.dst V) w') : o.wp P a w next Q := by
  have hfv : a.eval (.func f) = .func (.func f) #[] #[] := rfl
  have hrun : (execOp a.eval o).run P w = .ok (.enter f (ops0.toList.map a.eval).toArray) w := by
    unfold execOp
    simp only [ho, resolve, hfv, Deferred.ofValue, Sem.run_bind, Sem.run_pure, Result.andThen_ok, invoke, callFunc, run_program, hf, hname, hbody, Bool.false_eq_true, if_false]
    congr 2
    apply Array.ext'
    simp
  unfold Oper.wp
  rw [hrun, Oper.upon_enter]
  refine h.mono ?_
  rintro e w' ⟨V, rfl, hn⟩
  exact hn
theorem put_ne (a : Act) (d e : Nat) (v : Value) (h : e ≠ d) : (a.put (some d) v).tmps.getD e Go.undef = a.tmps.getD e Go.undef := by
  show (a.tmps.setIfInBounds d v).getD e Go.undef = _
  simp only [Array.getD_eq_getD_getElem?, Array.getElem?_setIfInBounds_ne (Ne.symm h)]
theorem put_same (a : Act) (d : Nat) (v : Value) (h : d < a.tmps.size) : (a.put (some d) v).tmps.getD d Go.undef = v := by
  show (a.tmps.setIfInBounds d v).getD d Go.undef = _
  simp [Array.getD, h]
/-- One argument: move, call, assign. -/
theorem region_c1 {P : Program} {id : Nat} {ops : Array Oper} {o1 o2 o3 : Oper} {t x r d : Tmp} {f : FuncId} {fn : Func} {ts : Array TypeId} {a : Act} {w : World} {Q : Exit → Act → World → Prop} (hops : ops = #[o1, o2, o3])
    (g1 : o1.guard = none) (g2 : o2.guard = none) (g3 : o3.guard = none) (h1 : o1.op = .move (.tmp x)) (d1 : o1.dst = some t) (h2 : o2.op = .call { callee := .value (.func f), args := #[.tmp t], argTypes := ts }) (d2 : o2.dst = some r) (h3 : o3.op = .assign (.tmp r)) (d3 : o3.dst = some d)
    (hf : P.funcs[f]? = some fn) (hname : (fn.name == "runtime.NumGoroutine") = false) (hbody : fn.body.isNone = false) (ht : t < a.tmps.size) (hr : r < a.tmps.size) (hd : d < a.tmps.size)
    (h : Calls P f #[a.tmps.getD x Go.undef] w fun e w' => ∃ V, e = .returned V ∧ ∀ a' : Act, a'.tmps.size = a.tmps.size → a'.defers = a.defers → (∀ y, y ≠ t → y ≠ r → y ≠ d → a'.tmps.getD y Go.undef = a.tmps.getD y Go.undef) → a'.tmps.getD d Go.undef = V → Q .normal a' w') : (Code.region id ops false).wp P Q a w := by
  subst hops
  refine wp_region ?_
  show wpOps P #[o1, o2, o3] Q [0, 1, 2] a w
  unfold wpOps
  simp only [List.getElem?_toArray, List.getElem?_cons_zero, Region.wanted, g1, if_true]
  refine .inl (wp_opMove (.inl h1) ?_)
  unfold wpOps
  simp only [List.getElem?_toArray, List.getElem?_cons_succ, List.getElem?_cons_zero, Region.wanted, g2, if_true]
  refine .inl (wp_opCall h2 hf hname hbody ?_)
  have e1 : (a.put o1.dst (a.eval (.tmp x))).eval (.tmp t) = a.tmps.getD x Go.undef := by
    rw [d1]; exact put_same _ _ _ ht
  simp only [List.map_cons, List.map_nil, e1]
  refine h.mono ?_
  rintro e w' ⟨V, rfl, hq⟩
  refine ⟨V, rfl, ?_⟩
  unfold wpOps
  simp only [List.getElem?_toArray, List.getElem?_cons_succ, List.getElem?_cons_zero, Region.wanted, g3, if_true]
  refine .inl (wp_opMove (.inr h3) ?_)
  unfold wpOps
  rw [d1, d2, d3]
  have e2 : ((a.put (some t) (a.eval (.tmp x))).put (some r) V).eval (.tmp r) = V := put_same _ _ _ (by rw [put_size]; exact hr)
  rw [e2]
  refine hq _ (by rw [put_size, put_size, put_size]) rfl (fun y y1 y2 y3 => ?_) (put_same _ _ _ (by rw [put_size, put_size]; exact hd))
  rw [put_ne _ _ _ _ y3, put_ne _ _ _ _ y2, put_ne _ _ _ _ y1]
/-- Two arguments. -/
theorem region_c2 {P : Program} {id : Nat} {ops : Array Oper} {o0 o1 o2 o3 : Oper} {t0 x0 t x r d : Tmp} {f : FuncId} {fn : Func} {ts : Array TypeId} {a : Act} {w : World} {Q : Exit → Act → World → Prop} (hops : ops = #[o0, o1, o2, o3])
    (g0 : o0.guard = none) (g1 : o1.guard = none) (g2 : o2.guard = none) (g3 : o3.guard = none) (h0 : o0.op = .move (.tmp x0)) (d0 : o0.dst = some t0) (h1 : o1.op = .move (.tmp x)) (d1 : o1.dst = some t) (h2 : o2.op = .call { callee := .value (.func f), args := #[.tmp t0, .tmp t], argTypes := ts }) (d2 : o2.dst = some r) (h3 : o3.op = .assign (.tmp r)) (d3 : o3.dst = some d)
    (hf : P.funcs[f]? = some fn) (hname : (fn.name == "runtime.NumGoroutine") = false) (hbody : fn.body.isNone = false) (hne : x ≠ t0) (hne2 : t0 ≠ t) (ht0 : t0 < a.tmps.size) (ht : t < a.tmps.size) (hr : r < a.tmps.size) (hd : d < a.tmps.size)
    (h : Calls P f #[a.tmps.getD x0 Go.undef, a.tmps.getD x Go.undef] w fun e w' => ∃ V, e = .returned V ∧ ∀ a' : Act, a'.tmps.size = a.tmps.size → a'.defers = a.defers → (∀ y, y ≠ t0 → y ≠ t → y ≠ r → y ≠ d → a'.tmps.getD y Go.undef = a.tmps.getD y Go.undef) → a'.tmps.getD d Go.undef = V → Q .normal a' w') : (Code.region id ops false).wp P Q a w := by
  subst hops
  refine wp_region ?_
  show wpOps P #[o0, o1, o2, o3] Q [0, 1, 2, 3] a w
  unfold wpOps
  simp only [List.getElem?_toArray, List.getElem?_cons_zero, Region.wanted, g0, if_true]
  refine .inl (wp_opMove (.inl h0) ?_)
  unfold wpOps
  simp only [List.getElem?_toArray, List.getElem?_cons_succ, List.getElem?_cons_zero, Region.wanted, g1, if_true]
  refine .inl (wp_opMove (.inl h1) ?_)
  unfold wpOps
  simp only [List.getElem?_toArray, List.getElem?_cons_succ, List.getElem?_cons_zero, Region.wanted, g2, if_true]
  refine .inl (wp_opCall h2 hf hname hbody ?_)
  rw [d0, d1]
  have e0 : (a.put (some t0) (a.eval (.tmp x0))).eval (.tmp x) = a.tmps.getD x Go.undef := put_ne _ _ _ _ hne
  rw [e0]
  have e1 : ((a.put (some t0) (a.eval (.tmp x0))).put (some t) (a.tmps.getD x Go.undef)).eval (.tmp t0) = a.tmps.getD x0 Go.undef := (put_ne _ _ _ _ hne2).trans (put_same _ _ _ ht0)
  have e2 : ((a.put (some t0) (a.eval (.tmp x0))).put (some t) (a.tmps.getD x Go.undef)).eval (.tmp t) = a.tmps.getD x Go.undef := put_same _ _ _ (by rw [put_size]; exact ht)
  simp only [List.map_cons, List.map_nil, e1, e2]
  refine h.mono ?_
  rintro e w' ⟨V, rfl, hq⟩
  refine ⟨V, rfl, ?_⟩
  unfold wpOps
  simp only [List.getElem?_toArray, List.getElem?_cons_succ, List.getElem?_cons_zero, Region.wanted, g3, if_true]
  refine .inl (wp_opMove (.inr h3) ?_)
  unfold wpOps
  rw [d2, d3]
  have e3 : (((a.put (some t0) (a.eval (.tmp x0))).put (some t) (a.tmps.getD x Go.undef)).put (some r) V).eval (.tmp r) = V := put_same _ _ _ (by rw [put_size, put_size]; exact hr)
  rw [e3]
  refine hq _ (by rw [put_size, put_size, put_size, put_size]) rfl (fun y y0 y1 y2 y3 => ?_) (put_same _ _ _ (by rw [put_size, put_size, put_size]; exact hd))
  rw [put_ne _ _ _ _ y3, put_ne _ _ _ _ y2, put_ne _ _ _ _ y1, put_ne _ _ _ _ y0]
end Go.Proofs.Ytpobimdcphjljaa
