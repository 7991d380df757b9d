/-
  Code: the evaluator's rules for statements, loops, functions and calls.
-/
import Derived.Test.YtpobimdcphjljaaEr
import Derived.Scope
import Derived.Deep.LoopGhost
import Derived.LoopN
namespace Go.Proofs.Ytpobimdcphjljaa
open Go
set_option linter.unusedVariables false
set_option linter.unusedSimpArgs false
set_option linter.unnecessarySimpa false
set_option maxRecDepth 4000

/-! ### Statements -/
abbrev PostA := Exit → St → Nat → Prop
/-- From the state s on, whatever the memory: the code comes to Q. -/
def AW (P : Program) (G : Nat → Option (List D)) (base k nt : Nat) (code : Code) (Q : PostA) (s : St) (n : Nat) : Prop :=
  ∀ (c : Cx) (a : Act) (w : World) (g : Gh), c.P = P → c.G = G → c.base = base → c.k = k → RelS c s a w g → NB g n → a.tmps.size = nt →
    ∀ Q' : Exit → Act → World → Prop, (∀ e s' n' a' w' g', Q e s' n' → RelS c s' a' w' g' → NB g' n' → a'.tmps.size = nt → Q' e a' w') → code.wp P Q' a w

section
variable {P : Program} {G : Nat → Option (List D)} {base k nt : Nat} {Q : PostA} {s : St} {n : Nat}
theorem AW.skip (h : Q .normal s n) : AW P G base k nt .skip Q s n := fun _ a w g _ _ _ _ hr hn hs _ hQ => wp_skip (hQ _ _ _ a w g h hr hn hs)
theorem AW.label {l : Nat} (h : Q .normal s n) : AW P G base k nt (.label l) Q s n := fun _ a w g _ _ _ _ hr hn hs _ hQ => wp_label (hQ _ _ _ a w g h hr hn hs)
theorem AW.exit {id : Nat} (h : Q (.exit id) s n) : AW P G base k nt (.exit id) Q s n := fun _ a w g _ _ _ _ hr hn hs _ hQ => wp_exit (hQ _ _ _ a w g h hr hn hs)
theorem AW.ret (h : Q .ret s n) : AW P G base k nt .ret Q s n := fun _ a w g _ _ _ _ hr hn hs _ hQ => wp_ret (hQ _ _ _ a w g h hr hn hs)
def thenA (next : St → Nat → Prop) (Q : PostA) : PostA
  | .normal, s, n => next s n
  | e, s, n => Q e s n
theorem AW.seq {x y : Code} (h : AW P G base k nt x (thenA (fun s n => AW P G base k nt y Q s n) Q) s n) : AW P G base k nt (.seq x y) Q s n := by
  intro c a w g h1 h2 h3 h4 hr hn hs Q' hQ
  refine wp_seq (h c a w g h1 h2 h3 h4 hr hn hs _ fun e s' n' a' w' g' hq hr' hn' hs' => ?_)
  cases e with
  | normal => exact hq c a' w' g' h1 h2 h3 h4 hr' hn' hs' Q' hQ
  | _ => exact hQ _ _ _ _ _ _ hq hr' hn' hs'
theorem AW.cond {x y : Code} {o : Operand} {t : Bool} (ho : slot (evO G s.t o) = some (.b t)) (h1 : t = true → AW P G base k nt x Q s n) (h2 : t = false → AW P G base k nt y Q s n) : AW P G base k nt (.cond o x y) Q s n := by
  intro c a w g e1 e2 e3 e4 hr hn hs Q' hQ
  have hv := slot_rel (evO_rel hr o) (by rw [e2]; exact ho)
  refine wp_cond (t := t) hv ?_
  cases t with
  | true => exact h1 rfl c a w g e1 e2 e3 e4 hr hn hs Q' hQ
  | false => exact h2 rfl c a w g e1 e2 e3 e4 hr hn hs Q' hQ
def blockA (id : Nat) (Q : PostA) : PostA
  | .exit j, s, n => if j = id then Q .normal s n else Q (.exit j) s n
  | e, s, n => Q e s n
theorem AW.block {id : Nat} {x : Code} (h : AW P G base k nt x (blockA id Q) s n) : AW P G base k nt (.block id x) Q s n := by
  intro c a w g h1 h2 h3 h4 hr hn hs Q' hQ
  refine wp_block (h c a w g h1 h2 h3 h4 hr hn hs _ fun e s' n' a' w' g' hq hr' hn' hs' => ?_)
  cases e with
  | exit j =>
    simp only [blockA] at hq
    simp only [Exit.inBlock]
    split
    · rw [if_pos ‹_›] at hq; exact hQ _ _ _ _ _ _ hq hr' hn' hs'
    · rw [if_neg ‹_›] at hq; exact hQ _ _ _ _ _ _ hq hr' hn' hs'
  | _ => exact hQ _ _ _ _ _ _ hq hr' hn' hs'
def scopeA (Q : PostA) : PostA
  | .goto _, _, _ => False
  | e, s, n => Q e s n
theorem AW.scope {x : Code} (h : AW P G base k nt x (scopeA Q) s n) : AW P G base k nt (.scope x) Q s n := by
  intro c a w g h1 h2 h3 h4 hr hn hs Q' hQ
  refine wp_scope_straight (h c a w g h1 h2 h3 h4 hr hn hs _ fun e s' n' a' w' g' hq hr' hn' hs' => ?_)
  cases e with
  | goto j => exact hq.elim
  | _ => exact hQ _ _ _ _ _ _ hq hr' hn' hs'
theorem AW.region {id : Nat} {ops : Array Oper} (h : aops P G base k nt ops.toList ops.toList s n [] (fun s' n' _ => Q .normal s' n')) : AW P G base k nt (.region id ops false) Q s n := by
  intro c a w g h1 h2 h3 h4 hr hn hs Q' hQ
  subst h1 h2 h3 h4
  exact region_text hr hn hs h fun s' n' _ a' w' g' hq hr' hn' hs' => hQ _ _ _ _ _ _ hq hr' hn' hs'
theorem AW.draw {id : Nat} {ops : Array Oper} (hm : P.follows .mixedOrders = true) (hst : statB ops.toList = true) (h : aops P G base k nt ops.toList ops.toList s n [] (fun s' n' recs => confB (clo ops.toList []) recs = true ∧ Q .normal s' n')) : AW P G base k nt (.region id ops true) Q s n := by
  intro c a w g h1 h2 h3 h4 hr hn hs Q' hQ
  subst h1 h2 h3 h4
  exact region_draw hm hst hr hn hs (K := fun s' n' _ => Q .normal s' n') h fun s' n' _ a' w' g' hq hr' hn' hs' => hQ _ _ _ _ _ _ hq hr' hn' hs'

/-! ### Forgetting and renaming -/
/-- The old view s, seen as s': slots may be forgotten; resources may be dropped or renamed (σ tells the old names); an own slice without elements may come out of nothing. -/
def renC (σ : Nat → Nat) : C → C
  | .own nn r n => .own nn (σ r) n
  | .ref r off => .ref (σ r) off
  | .fn f caps => .fn f (caps.map σ)
  | c => c
def renA (σ : Nat → Nat) : A → A
  | .v ag cs => .v ag (cs.map (renC σ))
  | .tup xs => .tup (xs.map fun x => (x.1, x.2.map (renC σ)))
  | .opt b x => .opt b (renA σ x)
  | .any => .any
  | .undef => .undef
def renR (σ : Nat → Nat) : R → R
  | .box cs => .box (cs.map (renC σ))
  | x => x
def idsC : C → List Nat
  | .own _ r _ => [r]
  | .ref r _ => [r]
  | .fn _ caps => caps
  | _ => []
def gren (g : Gh) (σ : Nat → Nat) (n : Nat) : Gh := ⟨g.fr, fun r => g.gb (σ r), fun r => g.gc (σ r), fun r => r < n⟩
theorem RelC.ren {w : World} {g : Gh} {base : Nat} {σ : Nat → Nat} {m : Nat} {c : C} {v : Value} (h : RelC w g base (renC σ c) v) (hi : ∀ r ∈ idsC c, r < m) : RelC w (gren g σ m) base c v := by
  cases c with
  | own nn r n => obtain ⟨h1, h2⟩ := h; exact ⟨hi r (by simp [idsC]), h2⟩
  | ref r off => obtain ⟨h1, h2⟩ := h; exact ⟨hi r (by simp [idsC]), h2⟩
  | fn f caps =>
    obtain ⟨h1, h2⟩ := h
    refine ⟨fun r hr => hi r hr, h2.trans ?_⟩
    rw [List.map_map]; rfl
  | _ => exact h
theorem RelL.ren {w : World} {g : Gh} {base : Nat} {σ : Nat → Nat} {m : Nat} : ∀ {cs : List C} {vs : List Value}, RelL w g base (cs.map (renC σ)) vs → (∀ c ∈ cs, ∀ r ∈ idsC c, r < m) → RelL w (gren g σ m) base cs vs
  | [], [], _, _ => trivial
  | [], _ :: _, h, _ => h.elim
  | _ :: _, [], h, _ => h.elim
  | c :: _, _ :: _, h, hi => ⟨RelC.ren h.1 (hi c (List.mem_cons_self ..)), RelL.ren h.2 fun c hc => hi c (List.mem_cons_of_mem _ hc)⟩
def idsA : A → List Nat
  | .v _ cs => cs.flatMap idsC
  | .tup xs => xs.flatMap fun x => x.2.flatMap idsC
  | .opt _ x => idsA x
  | _ => []
def idsR : R → List Nat
  | .box cs => cs.flatMap idsC
  | _ => []
theorem RelA.ren {w : World} {g : Gh} {base : Nat} {σ : Nat → Nat} {m : Nat} {x : A} {v : Value} (h : RelA w g base (renA σ x) v) (hi : ∀ r ∈ idsA x, r < m) : RelA w (gren g σ m) base x v := by
  have hV : ∀ (ag : Bool) (cs : List C) (v : Value), (∀ r ∈ cs.flatMap idsC, r < m) → RelV w g base ag (cs.map (renC σ)) v → RelV w (gren g σ m) base ag cs v := by
    intro ag cs v hi h
    have hi' : ∀ c ∈ cs, ∀ r ∈ idsC c, r < m := fun c hc r hr => hi r (List.mem_flatMap.2 ⟨c, hc, hr⟩)
    cases ag with
    | true =>
      obtain ⟨xs, h1, h2⟩ := (show ∃ xs : List Value, v = .agg xs.toArray ∧ RelL w g base (cs.map (renC σ)) xs from h)
      exact ⟨xs, h1, h2.ren hi'⟩
    | false =>
      obtain ⟨c, h1, h2⟩ := (show ∃ c, cs.map (renC σ) = [c] ∧ RelC w g base c v from h)
      match cs, h1 with
      | [c'], h1 =>
        simp at h1; subst h1
        exact ⟨c', rfl, h2.ren (hi' c' (by simp))⟩
  induction x with
  | any => trivial
  | undef => exact h
  | opt b x ih => exact ⟨fun hb => ih (h.1 hb) hi, h.2⟩
  | v ag cs => exact hV ag cs v hi h
  | tup xs =>
    obtain ⟨ys, h1, h2⟩ := h
    refine ⟨ys, h1, ?_⟩
    have : ∀ (xs : List (Bool × List C)) (ys : List Value), (∀ r ∈ xs.flatMap (fun x => x.2.flatMap idsC), r < m) → RelT w g base (xs.map fun x => (x.1, x.2.map (renC σ))) ys → RelT w (gren g σ m) base xs ys := by
      intro xs
      induction xs with
      | nil => intro ys _ h; cases ys with
        | nil => trivial
        | cons _ _ => exact h.elim
      | cons x xs ih =>
        intro ys hi h
        cases ys with
        | nil => exact h.elim
        | cons y ys =>
          rw [List.flatMap_cons] at hi
          exact ⟨hV _ _ _ (fun r hr => hi r (List.mem_append_left _ hr)) h.1, ih ys (fun r hr => hi r (List.mem_append_right _ hr)) h.2⟩
    exact this xs ys hi h2
/-- What the new view says of one slot. -/
def leA (σ : Nat → Nat) (old new : A) : Prop :=
  new = .any ∨ old = renA σ new ∨ (∃ r f, new = .v false [.own false r 0] ∧ old = .v false [.sl f false 0 []]) ∨ ∃ f nn l ds, old = .v false [.sl f nn l ds] ∧ new = .v false [.sl false nn l ds]
/-- ... and of one resource: gone; the old one renamed; or one that comes out of nothing. -/
def leR (σ : Nat → Nat) (m : Nat → R) (r : Nat) (new : R) : Prop :=
  new = .gone ∨ m (σ r) = renR σ new ∨ ∃ e f, new = .arr e f false 0 []
structure LeM (k : Nat) (σ : Nat → Nat) (m m' : Nat → R) (n' : Nat) : Prop where
  m : ∀ r, leR σ m r (m' r)
  idm : ∀ r, ∀ q ∈ idsR (m' r), q < n'
  top : ∀ r, n' ≤ r → m' r = .gone
  inj : ∀ r r', (m' r).live = true → (m' r').live = true → σ r = σ r' → r = r'
  old : ∀ r, r < k → σ r = r
  new : ∀ r, k ≤ r → (m' r).live = true → k ≤ σ r
  kn : k ≤ n'
theorem leA_rel {w : World} {g : Gh} {base m : Nat} {σ : Nat → Nat} {old new : A} {V : Value} (h : RelA w g base old V) (hl : leA σ old new) (hi : ∀ r ∈ idsA new, r < m) : RelA w (gren g σ m) base new V := by
  rcases hl with rfl | rfl | ⟨r, f, rfl, rfl⟩ | ⟨f, nn, l, ds, rfl, rfl⟩
  · trivial
  · exact h.ren hi
  · obtain ⟨c, h1, h2⟩ := h
    cases h1
    have h2 : RelD w (frOf f base g.fr) (.sl false 0 []) V := h2
    refine ⟨_, rfl, hi r (by simp [idsA, idsC]), ?_⟩
    cases h2; exact ⟨rfl, rfl⟩
  · obtain ⟨c, h1, h2⟩ := h
    cases h1
    have h2 : RelD w (frOf f base g.fr) (.sl nn l ds) V := h2
    exact ⟨_, rfl, h2.weaken (frOf_ge _ _ _)⟩
theorem LeM.live {k : Nat} {σ : Nat → Nat} {m m' : Nat → R} {n' : Nat} (h : LeM k σ m m' n') {r : Nat} (hl : (m' r).live = true) : (m (σ r)).live = true ∧ m (σ r) = renR σ (m' r) := by
  rcases h.m r with h1 | h1 | ⟨e, f, h1⟩
  · rw [h1] at hl; cases hl
  · refine ⟨?_, h1⟩
    rw [h1]
    cases hm : m' r with
    | gone => rw [hm] at hl; cases hl
    | box cs => rfl
    | arr e f nn n cs => rw [hm] at hl; exact hl
  · rw [h1] at hl; cases hl
theorem LeM.res {P : Program} {w : World} {g : Gh} {base k : Nat} {σ : Nat → Nat} {m m' : Nat → R} {n' : Nat} (h : LeM k σ m m' n') (hm : Mem P w g base k m) : Mem P w (gren g σ n') base k m' := by
  have lt : ∀ r, m' r ≠ .gone → r < n' := fun r hr => by
    rcases Nat.lt_or_ge r n' with h1 | h1
    · exact h1
    · exact absurd (h.top r h1) hr
  refine ⟨fun r => ?_, fun r r' hne hl hl' => ?_, fun r hk hl => ?_⟩
  · rcases h.m r with h1 | h1 | ⟨e, f, h1⟩
    · rw [h1]; trivial
    · have hr := hm.ok (σ r)
      rw [h1] at hr
      have hlt := lt r
      have hid := h.idm r
      cases hx : m' r with
      | gone => trivial
      | box cs =>
        rw [hx] at hr hid hlt
        obtain ⟨_, h2, vs, T, h3, h4⟩ := hr
        exact ⟨hlt (by simp), h2, vs, T, h3, h4.ren fun c hc q hq => hid q (List.mem_flatMap.2 ⟨c, hc, hq⟩)⟩
      | arr e f nn n cs =>
        rw [hx] at hr hlt
        obtain ⟨_, h2, h3⟩ := hr
        refine ⟨hlt (by simp), h2, ?_⟩
        cases nn with
        | false => exact h3
        | true =>
          simp only [if_true] at h3 ⊢
          obtain ⟨q1, cur, q2, q3, q4, q5, q6⟩ := h3
          refine ⟨q1, cur, q2, q3, q4, q5, RelL.ren ?_ ?_⟩
          · have e : (cs.map (D.toC f)).map (renC σ) = cs.map (D.toC f) := by
              rw [List.map_map]
              exact List.map_congr_left fun d _ => by cases d <;> rfl
            rw [e]; exact q6
          · intro c hc q hq
            obtain ⟨d, _, rfl⟩ := List.mem_map.1 hc
            cases d <;> cases hq
    · rw [h1]; exact ⟨lt r (by rw [h1]; simp), by simp, by simp⟩
  · exact hm.inj (σ r) (σ r') (fun e => hne (h.inj r r' hl hl' e)) (h.live hl).1 (h.live hl').1
  · exact hm.own (σ r) (h.new r hk hl) (h.live hl).1
theorem RelS.le {c : Cx} {s : St} {t' : Nat → A} {m' : Nat → R} {n' : Nat} {σ : Nat → Nat} {a : Act} {w : World} {g : Gh} (hr : RelS c s a w g) (hm : LeM c.k σ s.m m' n') (ht : ∀ d, leA σ (s.t d) (t' d)) (hi : ∀ d, ∀ r ∈ idsA (t' d), r < n') : RelS c ⟨t', m'⟩ a w (gren g σ n') ∧ NB (gren g σ n') n' := by
  refine ⟨⟨fun d => leA_rel (hr.slots d) (ht d) (hi d), hm.res hr.mem, ⟨hr.fr.os, hr.fr.tape, hr.fr.output, hr.fr.evo, hr.fr.keep, hr.fr.frk, fun r hb => ?_⟩, hr.glob, fun r hk hl => ?_, hr.bk, hr.bk2, hr.defers⟩, fun r h1 h2 => ?_⟩
  · have hk := hr.bk2 r hb
    obtain ⟨_, h2, h3⟩ := hr.fr.gk r hb
    exact ⟨Nat.lt_of_lt_of_le hk hm.kn, by show g.gb (σ r) = _; rw [hm.old r hk]; exact h2, by show g.gc (σ r) = _; rw [hm.old r hk]; exact h3⟩
  · have := (hm.live hl).1
    rw [hm.old r hk] at this
    exact hr.lvk r hk this
  · have : r < n' := h2
    omega
/-- Surrounded by a narrower view. -/
theorem AW.le {code : Code} {t' : Nat → A} {m' : Nat → R} {n' : Nat} (σ : Nat → Nat) (hm : LeM k σ s.m m' n') (ht : ∀ d, leA σ (s.t d) (t' d)) (hi : ∀ d, ∀ r ∈ idsA (t' d), r < n') (h : AW P G base k nt code Q ⟨t', m'⟩ n') : AW P G base k nt code Q s n := by
  intro c a w g h1 h2 h3 h4 hr _ hs Q' hQ
  subst h4
  obtain ⟨q1, q2⟩ := hr.le hm ht hi
  exact h c a w _ h1 h2 h3 rfl q1 q2 hs Q' hQ
/-- A loop: I x is what the state is seen as at each round's head. -/
def Into (k : Nat) (t : Nat → A) (m : Nat → R) (n : Nat) (s : St) : Prop := ∃ σ : Nat → Nat, LeM k σ s.m m n ∧ (∀ d, leA σ (s.t d) (t d)) ∧ ∀ d, ∀ r ∈ idsA (t d), r < n
theorem AW.loop {X : Type} {body : Code} (I : X → (Nat → A) × (Nat → R) × Nat) (μ : X → Nat) (x0 : X) (h0 : Into k (I x0).1 (I x0).2.1 (I x0).2.2 s)
    (h : ∀ x, AW P G base k nt body (thenA (fun s' _ => ∃ x', μ x' < μ x ∧ Into k (I x').1 (I x').2.1 (I x').2.2 s') Q) ⟨(I x).1, (I x).2.1⟩ (I x).2.2) : AW P G base k nt (.loop body) Q s n := by
  intro c a w g h1 h2 h3 h4 hr _ hs Q' hQ
  subst h4
  obtain ⟨σ, e1, e2, e3⟩ := h0
  obtain ⟨q1, q2⟩ := hr.le e1 e2 e3
  refine wp_loop_ghost (fun m a w => ∃ x g, μ x = m ∧ RelS c ⟨(I x).1, (I x).2.1⟩ a w g ∧ NB g (I x).2.2 ∧ a.tmps.size = nt) (μ x0) ⟨x0, _, rfl, q1, q2, hs⟩ ?_
  rintro m a w ⟨x, g, rfl, hr, hn, hs⟩
  refine h x c a w g h1 h2 h3 rfl hr hn hs _ fun e s' n' a' w' g' hq hr' hn' hs' => ?_
  cases e with
  | normal =>
    obtain ⟨x', hlt, σ', k1, k2, k3⟩ := hq
    obtain ⟨p1, p2⟩ := hr'.le k1 k2 k3
    exact ⟨μ x', hlt, x', _, rfl, p1, p2, hs'⟩
  | _ => exact hQ _ _ _ _ _ _ hq hr' hn' hs'
end

/-- A loop, written out: at most r rounds. -/
def AWr (P : Program) (G : Nat → Option (List D)) (base k nt : Nat) (body : Code) (Q : PostA) : Nat → St → Nat → Prop
  | 0, _, _ => False
  | r + 1, s, n => AW P G base k nt body (thenA (AWr P G base k nt body Q r) Q) s n
theorem AWr_step {P : Program} {G : Nat → Option (List D)} {base k nt : Nat} {body : Code} {Q : PostA} {r : Nat} {s : St} {n : Nat} (h : AW P G base k nt body (thenA (AWr P G base k nt body Q r) Q) s n) : AWr P G base k nt body Q (r + 1) s n := h
theorem AW.unroll {P : Program} {G : Nat → Option (List D)} {base k nt : Nat} {body : Code} {Q : PostA} (r : Nat) {s : St} {n : Nat} (h : AWr P G base k nt body Q r s n) : AW P G base k nt (.loop body) Q s n := by
  intro c a w g h1 h2 h3 h4 hr hn hs Q' hQ
  refine wp_loop_rounds r ?_
  revert s n a w g
  induction r with
  | zero => intro s n h; exact h.elim
  | succ r ih =>
    intro s n h a w g hr hn hs
    refine h c a w g h1 h2 h3 h4 hr hn hs _ fun e s' n' a' w' g' hq hr' hn' hs' => ?_
    cases e with
    | normal => exact ih hq a' w' g' hr' hn' hs'
    | _ => exact hQ _ _ _ _ _ _ hq hr' hn' hs'

/-! ### Functions -/
def lsA (l : List A) : Nat → A := fun d => l.getD d .any
def lsR (l : List R) : Nat → R := fun r => l.getD r .gone
def RelAs (w : World) (g : Gh) (base : Nat) : List A → List Value → Prop
  | [], [] => True
  | x :: xs, v :: vs => RelA w g base x v ∧ RelAs w g base xs vs
  | _, _ => False
structure FnPost (P : Program) (k : Nat) (ins : List R) (res : A) (outs : List R) (w : World) (g : Gh) (V : Value) (w' : World) (g' : Gh) : Prop where
  val : RelA w' g' w.heap.size res V
  mem : Mem P w' g' w.heap.size k (lsR outs)
  fr : Fr w g k (lsR ins) w' g'
  nb : NB g' outs.length
  lv : ∀ r, r < k → (lsR outs r).live = true → (lsR ins r).live = true
/-- A function, called with these arguments and these resources behind them, returns this, and leaves those. -/
def FnOk (P : Program) (G : Nat → Option (List D)) (f : FuncId) (args : List A) (ins : List R) (res : A) (outs : List R) : Prop :=
  (∃ fn, P.funcs[f]? = some fn ∧ (fn.name == "runtime.NumGoroutine") = false ∧ fn.body.isNone = false) ∧
  ∀ (w : World) (g : Gh) (vs : List Value), Glob G w g.fr → RelAs w g w.heap.size args vs → Mem P w g w.heap.size ins.length (lsR ins) → (∀ r, g.born r ↔ r < ins.length) →
    Calls P f vs.toArray w fun e w' => ∃ V g', e = .returned V ∧ FnPost P ins.length ins res outs w g V w' g'
def resV (T : TypeId → Option TI) (s : St) : ResultVar → Option (Bool × List C)
  | .tmp d => match s.t d with | .v ag cs => some (ag, cs) | _ => none
  | .cell d t =>
    match slot (s.t d), T t with
    | some p, some ti =>
      match contOf s.m p with
      | some L => if ti.k.agg then (if ti.size ≤ L.length then some (true, L.take ti.size) else none) else match L with | c :: _ => some (false, [c]) | [] => none
      | none => none
    | _, _ => none
def resVs (T : TypeId → Option TI) (s : St) : List ResultVar → Option (List (Bool × List C))
  | [] => some []
  | x :: xs =>
    match resV T s x, resVs T s xs with
    | some y, some ys => some (y :: ys)
    | _, _ => none
def packA : List (Bool × List C) → A
  | [x] => .v x.1 x.2
  | xs => .tup xs
theorem contOf_ft {c : Cx} {s : St} {a : Act} {w : World} {g : Gh} (h : RelS c s a w g) (p : C) : ∀ r x, (r, x) ∈ ftOf s.m p → ResOk c.P w g c.base r x := by
  intro r x hx
  cases p <;> simp [ftOf] at hx
  obtain ⟨rfl, rfl⟩ := hx
  exact h.mem.ok _
theorem resV_run {T : TypeId → Option TI} {c : Cx} (hT : TOk c.P T) {s : St} {a : Act} {w : World} {g : Gh} (h : RelS c s a w g) {x : ResultVar} {y : Bool × List C} (hy : resV T s x = some y) :
    ∃ v, (match x with | .tmp t => pure (a.tmps.getD t Go.undef) | .cell d t => do loadVar t (← asAddr (a.tmps.getD d Go.undef)) : Sem Value).run c.P w = .ok v w ∧ RelV w g c.base y.1 y.2 v := by
  cases x with
  | tmp d =>
    unfold resV at hy
    simp only at hy
    split at hy
    · rename_i ag cs ht
      cases hy
      have := h.slots d
      rw [ht] at this
      exact ⟨_, rfl, this⟩
    · cases hy
  | cell d t =>
    unfold resV at hy
    simp only at hy
    split at hy
    · rename_i p ti hp ht
      split at hy
      · rename_i L hL
        have hv := slot_rel (h.slots d) hp
        obtain ⟨ad, vs, hV, hrel, hcell⟩ := cont_cells hv hL (contOf_ft h p)
        have hf := hT.get ht
        have hrun : (do loadVar t (← asAddr (a.tmps.getD d Go.undef)) : Sem Value).run c.P w = (loadVar t ad).run c.P w := by
          rw [hV]; simp [asAddr]
        split at hy
        · rename_i hag
          split at hy
          · rename_i hsz
            cases hy
            refine ⟨.agg (vs.take ti.size).toArray, ?_, vs.take ti.size, rfl, hrel.take _⟩
            have hlen : (vs.take ti.size).length = ti.size := by rw [List.length_take, ← hrel.length]; omega
            have hl := run_loadCells_list (P := c.P) w ad (vs.take ti.size) (fun j v hv => hcell j v (by rw [List.getElem?_take] at hv; split at hv <;> simp_all))
            rw [hlen] at hl
            show (do loadVar t (← asAddr (a.tmps.getD d Go.undef)) : Sem Value).run c.P w = _
            rw [hrun]
            simp [loadVar, Sem.run_bind, hf.agg, hag, hf.size, hl]
          · cases hy
        · rename_i hag
          split at hy
          · rename_i cc rest
            cases hy
            cases vs with
            | nil => exact hrel.elim
            | cons v vs =>
              refine ⟨v, ?_, cc, rfl, hrel.1⟩
              have := hcell 0 v rfl
              rw [show ad.add 0 = ad from by unfold Addr.add; simp] at this
              show (do loadVar t (← asAddr (a.tmps.getD d Go.undef)) : Sem Value).run c.P w = _
              rw [hrun]
              simp [loadVar, Sem.run_bind, hf.agg, hag, this]
          · cases hy
      · cases hy
    · cases hy
theorem resVs_run {T : TypeId → Option TI} {c : Cx} (hT : TOk c.P T) {s : St} {a : Act} {w : World} {g : Gh} (h : RelS c s a w g) (F : ResultVar → Sem Value) (hF1 : ∀ t, F (.tmp t) = pure (a.tmps.getD t Go.undef)) (hF2 : ∀ d t, F (.cell d t) = do loadVar t (← asAddr (a.tmps.getD d Go.undef))) : ∀ {xs : List ResultVar} {ys : List (Bool × List C)}, resVs T s xs = some ys →
    ∃ vs, (xs.mapM F).run c.P w = .ok vs w ∧ RelT w g c.base ys vs
  | [], ys, hy => by cases hy; exact ⟨[], rfl, trivial⟩
  | x :: xs, ys, hy => by
    unfold resVs at hy
    split at hy
    · rename_i y ys' h1 h2
      cases hy
      obtain ⟨v, e1, e2⟩ := resV_run hT h h1
      obtain ⟨vs, e3, e4⟩ := resVs_run hT h F hF1 hF2 h2
      refine ⟨v :: vs, ?_, e2, e4⟩
      have e1' : (F x).run c.P w = .ok v w := by
        cases x
        · rw [hF1]; exact e1
        · rw [hF2]; exact e1
      rw [List.mapM_cons, Sem.run_bind, e1', Result.andThen_ok, Sem.run_bind, e3, Result.andThen_ok]
      rfl
    · cases hy
theorem relT_len {w : World} {g : Gh} {base : Nat} : ∀ {xs : List (Bool × List C)} {vs : List Value}, RelT w g base xs vs → xs.length = vs.length
  | [], [], _ => rfl
  | [], _ :: _, h => h.elim
  | _ :: _, [], h => h.elim
  | _ :: xs, _ :: vs, h => by simp [relT_len h.2]
theorem results_run {T : TypeId → Option TI} {c : Cx} (hT : TOk c.P T) {s : St} {a : Act} {w : World} {g : Gh} (h : RelS c s a w g) {fn : Func} {ys : List (Bool × List C)} (hy : resVs T s fn.results.toList = some ys) :
    ∃ V, (results fn a.tmps).run c.P w = .ok V w ∧ RelA w g c.base (packA ys) V := by
  unfold results
  rw [Sem.run_bind, Array.mapM_eq_mapM_toList]
  obtain ⟨vs, e1, e2⟩ := resVs_run hT h (fun
    | .tmp t => pure (a.tmps.getD t Go.undef)
    | .cell d t => do loadVar t (← asAddr (a.tmps.getD d Go.undef))) (fun _ => rfl) (fun _ _ => rfl) hy
  have hl := relT_len e2
  refine ⟨if h : vs.toArray.size = 1 then vs.toArray[0] else .tuple vs.toArray, ?_, ?_⟩
  · have e3 := congrArg (fun r : Result (List Value) => r.andThen fun l w => Result.ok l.toArray w) e1
    refine (congrArg (fun r : Result (Array Value) => r.andThen fun vs w => (pure (if h : vs.size = 1 then vs[0] else .tuple vs) : Sem Value).run c.P w) (?_ : _ = Result.ok vs.toArray w)).trans rfl
    refine Eq.trans ?_ e3
    exact Sem.run_bind _ _ _ _
  · match ys, vs, hl, e2 with
    | [y], [v], _, e2 => exact e2.1
    | [], [], _, _ => exact ⟨[], rfl, trivial⟩
    | y :: y' :: ys, v :: v' :: vs, _, e2 =>
      rw [dif_neg (by simp)]
      exact ⟨_, rfl, e2⟩
/-- What a body must come to. -/
def retA (T : TypeId → Option TI) (rs : List ResultVar) (k : Nat) (res : A) (outs : List R) : PostA
  | .normal, s, _ | .ret, s, _ => ∃ ys, resVs T s rs = some ys ∧ ∃ σ : Nat → Nat, LeM k σ s.m (lsR outs) outs.length ∧ leA σ (packA ys) res ∧ ∀ r ∈ idsA res, r < outs.length
  | _, _, _ => False
theorem relAs_get {w : World} {g : Gh} {base : Nat} : ∀ {xs : List A} {vs : List Value}, RelAs w g base xs vs → xs.length = vs.length ∧ ∀ d : Nat, RelA w g base (xs.getD d .any) (vs.getD d Go.undef)
  | [], [], _ => ⟨rfl, fun d => by simp; trivial⟩
  | [], _ :: _, h => h.elim
  | _ :: _, [], h => h.elim
  | x :: xs, v :: vs, h => by
    obtain ⟨h1, h2⟩ := relAs_get h.2
    refine ⟨by simp [h1], fun d => ?_⟩
    cases d with
    | zero => exact h.1
    | succ d => simpa using h2 d
theorem fnOk_of {P : Program} {T : TypeId → Option TI} (hT : TOk P T) {G : Nat → Option (List D)} {f : FuncId} {fn : Func} {body : Code} {args : List A} {ins : List R} {res : A} {outs : List R} (hf : P.funcs[f]? = some fn) (hb : fn.body = some body) (hn : (fn.name == "runtime.NumGoroutine") = false) (hk : args.length ≤ fn.ntmps) (ho : ins.length ≤ outs.length)
    (hlv : ∀ r, r < ins.length → (lsR outs r).live = true → (lsR ins r).live = true)
    (h : ∀ base, AW P G base ins.length fn.ntmps body (retA T fn.results.toList ins.length res outs) ⟨lsA (args ++ List.replicate (fn.ntmps - args.length) .undef), lsR ins⟩ ins.length) : FnOk P G f args ins res outs := by
  refine ⟨⟨fn, hf, hn, by rw [hb]; rfl⟩, fun w g vs hG hargs hmem hborn => ?_⟩
  obtain ⟨hlen, hrel⟩ := relAs_get hargs
  refine calls_of_wp hf hb ?_
  have hsz : (vs.toArray ++ Array.replicate (fn.ntmps - vs.toArray.size) Go.undef).size = fn.ntmps := by
    simp [← hlen]; omega
  refine h w.heap.size ⟨P, G, w, g, ins.length, lsR ins⟩ _ w g rfl rfl rfl rfl ⟨fun d => ?_, hmem, ⟨rfl, rfl, rfl, Evo.refl _ _, fun _ _ _ => rfl, fun _ _ => rfl, fun r hr => ⟨hr, rfl, rfl⟩⟩, hG, fun _ _ h => h, fun r hr => (hborn r).2 hr, fun r hr => (hborn r).1 hr, rfl⟩ (fun r hr hb' => by have := (hborn r).1 hb'; omega) hsz _ ?_
  · show RelA w g w.heap.size ((args ++ List.replicate (fn.ntmps - args.length) A.undef).getD d .any) ((vs.toArray ++ Array.replicate (fn.ntmps - vs.toArray.size) Go.undef).getD d Go.undef)
    have e : ((vs.toArray ++ Array.replicate (fn.ntmps - vs.toArray.size) Go.undef).getD d Go.undef) = (vs ++ List.replicate (fn.ntmps - vs.length) Go.undef).getD d Go.undef := by
      have e0 : vs.toArray ++ Array.replicate (fn.ntmps - vs.toArray.size) Go.undef = (vs ++ List.replicate (fn.ntmps - vs.length) Go.undef).toArray := by
        apply Array.ext'
        simp
      rw [e0, Array.getD_eq_getD_getElem?, List.getD_eq_getElem?_getD, List.getElem?_toArray]
    rw [e]
    have h1 := hrel d
    simp only [List.getD_eq_getElem?_getD, List.getElem?_append] at h1 ⊢
    by_cases hd : d < args.length
    · rw [if_pos hd, if_pos (by omega)]; exact h1
    · rw [if_neg hd, if_neg (by omega)]
      simp only [List.getElem?_replicate, hlen]
      split
      · rfl
      · trivial
  · intro e s' n' a' w' g' hq hr' hn' hs'
    have fin : (∃ ys, resVs T s' fn.results.toList = some ys ∧ ∃ σ : Nat → Nat, LeM ins.length σ s'.m (lsR outs) outs.length ∧ leA σ (packA ys) res ∧ ∀ r ∈ idsA res, r < outs.length) → a'.defers = [] ∧ ∃ v, (results fn a'.tmps).run P w' = .ok v w' ∧ ∃ V g', Ending.returned v = .returned V ∧ FnPost P ins.length ins res outs w g V w' g' := by
      rintro ⟨ys, hy, σ, k1, k2, k3⟩
      obtain ⟨V, e1, e2⟩ := results_run hT hr' hy
      have q := hr'.le k1 (t' := fun _ => .any) (fun _ => .inl rfl) (fun _ r hr => by cases hr)
      exact ⟨hr'.defers, V, e1, V, _, rfl, leA_rel e2 k2 k3, q.1.mem, q.1.fr, q.2, hlv⟩
    cases e with
    | normal => exact fin hq
    | ret => exact fin hq
    | _ => exact hq.elim
end Go.Proofs.Ytpobimdcphjljaa
