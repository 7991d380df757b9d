/-
  The evaluator's rule for calls.
-/
import Derived.Test.YtpobimdcphjljaaEc
namespace Go.Proofs.Ytpobimdcphjljaa
open Go
set_option linter.unusedVariables false
set_option linter.unusedSimpArgs false
set_option linter.unnecessarySimpa false
set_option maxRecDepth 4000

/-! ### What is handed over -/
def notFresh : C → Bool
  | .sl true _ _ _ => false
  | .wh true _ _ _ _ _ _ => false
  | _ => true
def viewC : C → Option (Bool × Bool × Nat × List D)
  | .sl f nn n ds => some (f, nn, n, ds)
  | .vw _ nn n ds => some (false, nn, n, ds)
  | _ => none
theorem viewC_rel {w : World} {g : Gh} {base : Nat} {c : C} {v : Value} {f nn : Bool} {n : Nat} {ds : List D} (h : RelC w g base c v) (hc : viewC c = some (f, nn, n, ds)) : RelD w g.fr (.sl nn n ds) v := by
  cases c <;> simp only [viewC, Option.some.injEq, Prod.mk.injEq, reduceCtorEq] at hc
  · obtain ⟨rfl, rfl, rfl, rfl⟩ := hc; exact RelD.weaken h (frOf_ge _ _ _)
  · obtain ⟨rfl, rfl, rfl, rfl⟩ := hc; exact h.2
def inC (σ : Nat → Nat) (m : Nat → R) (vw : List Nat) (c c' : C) : Prop :=
  (c = renC σ c' ∧ notFresh c' = true) ∨ (∃ f nn n ds, viewC c = some (f, nn, n, ds) ∧ c' = .sl false nn n ds) ∨ ∃ nn r n e f ds, c = .own nn r n ∧ c' = .sl false nn n ds ∧ m r = .arr e f nn n ds ∧ r ∈ vw
def inL (σ : Nat → Nat) (m : Nat → R) (vw : List Nat) : List C → List C → Prop
  | [], [] => True
  | c :: cs, c' :: cs' => inC σ m vw c c' ∧ inL σ m vw cs cs'
  | _, _ => False
def inA (σ : Nat → Nat) (m : Nat → R) (vw : List Nat) : A → A → Prop
  | .v ag cs, .v ag' cs' => ag = ag' ∧ inL σ m vw cs cs'
  | .opt true x, y => inA σ m vw x y
  | _, _ => False
def inAs (σ : Nat → Nat) (m : Nat → R) (vw : List Nat) : List A → List A → Prop
  | [], [] => True
  | x :: xs, y :: ys => inA σ m vw x y ∧ inAs σ m vw xs ys
  | _, _ => False
def D.scalar : D → Bool
  | .sl .. => false
  | .wh .. => false
  | _ => true
def inR (σ : Nat → Nat) (m : Nat → R) (vw : List Nat) : R → R → Prop
  | .box cs, .box cs' => inL σ m vw cs cs'
  | .arr e f nn n ds, .arr e' f' nn' n' ds' => e = e' ∧ nn = nn' ∧ n = n' ∧ ds = ds' ∧ (f' = false ∨ (f = true ∧ ∀ d ∈ ds, d.scalar = true))
  | _, _ => False
theorem inR_live {σ : Nat → Nat} {m : Nat → R} {vw : List Nat} {x y : R} (h : inR σ m vw x y) : x.live = y.live := by
  cases x <;> cases y <;> first | exact h.elim | rfl | (obtain ⟨_, rfl, _⟩ := h; rfl)

noncomputable def frV (w : World) (g : Gh) (m : Nat → R) (vw : List Nat) : Nat → Nat := fun b =>
  open Classical in if ∃ r, r ∈ vw ∧ (m r).live = true ∧ b = g.gb r then (match w.heap[b]? with | some (.cells c _ _) => c.size | _ => 0) else g.fr b
noncomputable def gCall (w : World) (g : Gh) (m : Nat → R) (vw : List Nat) (σ : Nat → Nat) (k' : Nat) : Gh := ⟨frV w g m vw, fun r => g.gb (σ r), fun r => g.gc (σ r), fun r => r < k'⟩
theorem frV_le {P : Program} {w : World} {g : Gh} {base : Nat} {m : Nat → R} {vw : List Nat} (h : ∀ r ∈ vw, ResOk P w g base r (m r)) (b : Nat) : g.fr b ≤ frV w g m vw b := by
  unfold frV
  split
  · rename_i hx
    obtain ⟨r, hr, hl, rfl⟩ := hx
    have := h r hr
    have h0 : g.fr (g.gb r) = 0 := by
      cases hm : m r with
      | gone => rw [hm] at hl; cases hl
      | box cs => rw [hm] at this; exact this.2.1
      | arr e f nn n cs => rw [hm] at this hl; cases hl; have := this.2.2; simp only [if_true] at this; exact this.1
    omega
  · exact Nat.le_refl _
theorem frV_ge {P : Program} {w : World} {g : Gh} {base : Nat} {m : Nat → R} {vw : List Nat} (h : ∀ r ∈ vw, ResOk P w g base r (m r)) : Fge g.fr (frV w g m vw) := fun b => by
  unfold frV
  split
  · rename_i hx
    obtain ⟨r, hr, hl, rfl⟩ := hx
    have := h r hr
    refine .inl ?_
    cases hm : m r with
    | gone => rw [hm] at hl; cases hl
    | box cs => rw [hm] at this; exact this.2.1
    | arr e f nn n cs => rw [hm] at this hl; cases hl; have := this.2.2; simp only [if_true] at this; exact this.1
  · exact .inr rfl
theorem frV_nil (w : World) (g : Gh) (m : Nat → R) : frV w g m [] = g.fr := by
  funext b; unfold frV; simp
theorem RelC.give {P : Program} {w : World} {g : Gh} {base base' k' : Nat} {σ : Nat → Nat} {m : Nat → R} {vw : List Nat} {c c' : C} {v : Value} (h : RelC w g base c v) (hi : inC σ m vw c c') (hv : ∀ r ∈ vw, ResOk P w g base r (m r)) (hid : ∀ r ∈ idsC c', r < k') :
    RelC w (gCall w g m vw σ k') base' c' v := by
  have hle := frV_le hv
  have hge := frV_ge hv
  rcases hi with ⟨rfl, hf⟩ | ⟨f, nn, n, ds, hvc, rfl⟩ | ⟨nn, r, n, e, f, ds, rfl, rfl, hm, hr⟩
  · cases c' with
    | sl f nn n ds =>
      cases f with
      | true => cases hf
      | false => exact RelD.weaken (f' := frV w g m vw) h hge
    | wh f nn n sz T xs tag =>
      cases f with
      | true => cases hf
      | false => exact RelD.weaken (f' := frV w g m vw) h hge
    | vw v0 nn n cs => exact ⟨h.1, RelD.weaken (f' := frV w g m vw) h.2 hge⟩
    | own nn r n => obtain ⟨h1, h2⟩ := h; exact ⟨hid r (by simp [idsC]), h2⟩
    | ref r off => obtain ⟨h1, h2⟩ := h; exact ⟨hid r (by simp [idsC]), h2⟩
    | ro ds =>
      obtain ⟨a, vs, h1, h2⟩ := h
      exact ⟨a, vs, h1, fun j x hx => ⟨(h2 j x hx).1, Nat.lt_of_lt_of_le (h2 j x hx).2.1 (hle _), (h2 j x hx).2.2.weaken hge⟩⟩
    | fn f caps =>
      obtain ⟨h1, h2⟩ := h
      refine ⟨fun r hr => hid r hr, h2.trans ?_⟩
      rw [List.map_map]; rfl
    | _ => exact h
  · exact RelD.weaken (f' := frV w g m vw) (viewC_rel h hvc) hge
  · show RelD w (frV w g m vw) (.sl nn n ds) v
    have hres := hv r hr
    rw [hm] at hres
    obtain ⟨_, hlen, hres⟩ := hres
    obtain ⟨_, h⟩ := h
    cases nn with
    | false =>
      simp at hres h
      subst hres
      have : ds = [] := List.eq_nil_of_length_eq_zero (by simpa using hlen)
      subst this
      rw [h.2]
      exact .nil
    | true =>
      simp only [if_true] at hres h
      obtain ⟨_, cur, h1, h2, h3, h4, h5⟩ := hres
      subst h
      have hfr : frV w g m vw (g.gb r) = cur.size := by
        unfold frV
        rw [if_pos ⟨r, hr, by rw [hm]; rfl, rfl⟩, h1]
      have get : ∀ j x, ds[j]? = some x → ∃ u, cur[j]? = some u ∧ RelD w (frOf f base g.fr) x u := fun j x hx => by
        obtain ⟨u, e1, e2⟩ := h5.get (j := j) (c := x.toC f) (by rw [List.getElem?_map, hx]; rfl)
        rw [List.getElem?_take] at e1
        split at e1
        · exact ⟨u, by simpa using e1, RelC.ofC e2⟩
        · cases e1
      refine .sl n ds _ _ (fun j => cur.getD j Go.undef) h2 h3 (fun j x hx => ?_) (fun j x hx => ?_) (fun j x hx => ?_)
      · obtain ⟨u, e1, _⟩ := get j x hx
        rw [add_none]
        simp [World.cell?, h1, e1]
      · obtain ⟨u, e1, _⟩ := get j x hx
        rw [add_none]
        show 0 + j < frV w g m vw (g.gb r)
        rw [hfr]
        have := (Array.getElem?_eq_some_iff.1 e1).1
        omega
      · obtain ⟨u, e1, e2⟩ := get j x hx
        have : cur.getD j Go.undef = u := by rw [Array.getD_eq_getD_getElem?, e1]; rfl
        rw [this]
        exact e2.weaken ((frOf_ge f base g.fr).trans hge)
theorem RelL.give {P : Program} {w : World} {g : Gh} {base base' k' : Nat} {σ : Nat → Nat} {m : Nat → R} {vw : List Nat} (hv : ∀ r ∈ vw, ResOk P w g base r (m r)) : ∀ {cs cs' : List C} {vs : List Value}, RelL w g base cs vs → inL σ m vw cs cs' → (∀ r ∈ cs'.flatMap idsC, r < k') → RelL w (gCall w g m vw σ k') base' cs' vs
  | [], [], [], _, _, _ => trivial
  | c :: cs, c' :: cs', v :: vs, h, hi, hid => by
    rw [List.flatMap_cons] at hid
    exact ⟨RelC.give h.1 hi.1 hv fun r hr => hid r (List.mem_append_left _ hr), RelL.give hv h.2 hi.2 fun r hr => hid r (List.mem_append_right _ hr)⟩
  | [], [], _ :: _, h, _, _ => h.elim
  | _ :: _, _, [], h, _, _ => h.elim
  | [], _ :: _, _, _, h, _ => h.elim
  | _ :: _, [], _, _, h, _ => h.elim
theorem RelA.give {P : Program} {w : World} {g : Gh} {base base' k' : Nat} {σ : Nat → Nat} {m : Nat → R} {vw : List Nat} (hv : ∀ r ∈ vw, ResOk P w g base r (m r)) : ∀ {x y : A} {v : Value}, RelA w g base x v → inA σ m vw x y → (∀ r ∈ idsA y, r < k') → RelA w (gCall w g m vw σ k') base' y v := by
  intro x
  induction x with
  | opt b x ih =>
    intro y v h hi hid
    cases b with
    | true => exact ih (h.1 rfl) (by cases y <;> exact hi) hid
    | false => cases y <;> exact hi.elim
  | v ag cs =>
    intro y v h hi hid
    cases y with
    | v ag' cs' =>
      obtain ⟨rfl, hi1⟩ := hi
      cases ag with
      | true =>
        obtain ⟨us, e1, e2⟩ := (show ∃ us : List Value, v = .agg us.toArray ∧ RelL w g base cs us from h)
        exact ⟨us, e1, RelL.give hv e2 hi1 hid⟩
      | false =>
        obtain ⟨c, e1, e2⟩ := (show ∃ c, cs = [c] ∧ RelC w g base c v from h)
        subst e1
        match cs', hi1 with
        | [c'], hi1 => exact ⟨c', rfl, RelC.give e2 hi1.1 hv fun r hr => hid r (by simpa [idsA] using hr)⟩
        | _ :: _ :: _, hi1 => exact hi1.2.elim
    | _ => exact hi.elim
  | any => intro y v _ hi _; cases y <;> exact hi.elim
  | undef => intro y v _ hi _; cases y <;> exact hi.elim
  | tup xs => intro y v _ hi _; cases y <;> exact hi.elim
theorem RelAs.give {P : Program} {w : World} {g : Gh} {base base' k' : Nat} {σ : Nat → Nat} {m : Nat → R} {vw : List Nat} (hv : ∀ r ∈ vw, ResOk P w g base r (m r)) : ∀ {xs ys : List A} {vs : List Value}, RelAs w g base xs vs → inAs σ m vw xs ys → (∀ r ∈ ys.flatMap idsA, r < k') → RelAs w (gCall w g m vw σ k') base' ys vs
  | [], [], [], _, _, _ => trivial
  | x :: xs, y :: ys, v :: vs, h, hi, hid => by
    rw [List.flatMap_cons] at hid
    exact ⟨RelA.give hv h.1 hi.1 fun r hr => hid r (List.mem_append_left _ hr), RelAs.give hv h.2 hi.2 fun r hr => hid r (List.mem_append_right _ hr)⟩
  | [], [], _ :: _, h, _, _ => h.elim
  | _ :: _, _, [], h, _, _ => h.elim
  | [], _ :: _, _, _, h, _ => h.elim
  | _ :: _, [], _, _, h, _ => h.elim
theorem ResOk.give {P : Program} {w : World} {g : Gh} {base base' k' r : Nat} {σ : Nat → Nat} {m : Nat → R} {vw : List Nat} {y : R} (h : ResOk P w g base (σ r) (m (σ r))) (hi : inR σ m vw (m (σ r)) y) (hv : ∀ r ∈ vw, ResOk P w g base r (m r)) (hrk : r < k') (hid : ∀ q ∈ idsR y, q < k')
    (hd : (m (σ r)).live = true → ∀ q ∈ vw, (m q).live = true → g.gb (σ r) ≠ g.gb q) : ResOk P w (gCall w g m vw σ k') base' r y := by
  have hfr : (m (σ r)).live = true → frV w g m vw (g.gb (σ r)) = g.fr (g.gb (σ r)) := fun hl => by
    unfold frV
    rw [if_neg]
    rintro ⟨q, h1, h2, h3⟩
    exact hd hl q h1 h2 h3
  generalize m (σ r) = x at h hi hd hfr
  cases x with
  | gone => cases y <;> exact hi.elim
  | box cs =>
    cases y with
    | box cs' =>
      obtain ⟨_, h2, vs, T, h3, h4⟩ := h
      exact ⟨hrk, (hfr rfl).trans h2, vs, T, h3, RelL.give hv h4 hi hid⟩
    | _ => exact hi.elim
  | arr e f nn n ds =>
    cases y with
    | arr e' f' nn' n' ds' =>
      obtain ⟨rfl, rfl, rfl, rfl, hf⟩ := hi
      obtain ⟨_, h2, h3⟩ := h
      refine ⟨hrk, h2, ?_⟩
      cases nn with
      | false => exact h3
      | true =>
        simp only [if_true] at h3 ⊢
        obtain ⟨q1, cur, q2, q3, q4, q5, q6⟩ := h3
        refine ⟨(hfr rfl).trans q1, cur, q2, q3, q4, q5, RelL.intro (by have := q6.length; simp at this ⊢; exact this) fun j c v hc hvv => ?_⟩
        rw [List.getElem?_map] at hc
        obtain ⟨d, hdj, rfl⟩ := Option.map_eq_some_iff.1 hc
        obtain ⟨u, e1, e2⟩ := q6.get (j := j) (c := d.toC f) (by rw [List.getElem?_map, hdj]; rfl)
        rw [hvv] at e1; cases e1
        rcases hf with rfl | ⟨rfl, hsc⟩
        · exact RelC.toC (RelD.weaken (RelC.ofC e2) ((frOf_ge f base g.fr).trans (frV_ge hv)))
        · have := hsc d (List.mem_of_getElem? hdj)
          cases d with
          | sl nn n cs => cases this
          | wh nn n sz T xs tag => cases this
          | _ => exact e2
    | _ => exact hi.elim

/-! ### What comes back -/
def backC (vw : List Nat) : C → Bool
  | .sl f _ _ _ => f || vw.isEmpty
  | .wh f _ _ _ _ _ _ => f || vw.isEmpty
  | .vw _ _ _ _ => vw.isEmpty
  | .ro _ => vw.isEmpty
  | _ => true
def backA (vw : List Nat) : A → Bool
  | .v _ cs => cs.all (backC vw)
  | .tup xs => xs.all fun x => x.2.all (backC vw)
  | .opt _ x => backA vw x
  | _ => true
def backR (vw : List Nat) : R → Bool
  | .box cs => cs.all (backC vw)
  | .arr _ f _ _ _ => f || vw.isEmpty
  | _ => true
noncomputable def gBack (w : World) (g g2 : Gh) (k' nid cnt : Nat) : Gh :=
  ⟨fun b => if b < w.heap.size then g.fr b else g2.fr b, fun r => if nid ≤ r ∧ r < nid + cnt then g2.gb (k' + (r - nid)) else g.gb r, fun r => if nid ≤ r ∧ r < nid + cnt then g2.gc (k' + (r - nid)) else g.gc r, fun r => g.born r ∨ nwOf nid cnt r⟩
def tau (σ : Nat → Nat) (k' nid : Nat) : Nat → Nat := fun r => if r < k' then σ r else nid + (r - k')
structure Back (w : World) (g g2 : Gh) (base k' nid cnt : Nat) (σ : Nat → Nat) (vw : List Nat) : Prop where
  base : base ≤ w.heap.size
  born : ∀ r, g2.born r → r < k' + cnt
  gb : ∀ r, r < k' → g2.gb r = g.gb (σ r) ∧ g2.gc r = g.gc (σ r)
  old : ∀ r, r < k' → g.born (σ r)
  new : ∀ r, nwOf nid cnt r → ¬ g.born r
  fr : vw = [] → ∀ b, b < w.heap.size → g2.fr b = g.fr b
theorem Back.id {w : World} {g g2 : Gh} {base k' nid cnt : Nat} {σ : Nat → Nat} {vw : List Nat} (h : Back w g g2 base k' nid cnt σ vw) {r : Nat} (hr : r < k' + cnt) : (gBack w g g2 k' nid cnt).born (tau σ k' nid r) ∧ (gBack w g g2 k' nid cnt).gb (tau σ k' nid r) = g2.gb r ∧ (gBack w g g2 k' nid cnt).gc (tau σ k' nid r) = g2.gc r := by
  unfold tau
  by_cases hk : r < k'
  · rw [if_pos hk]
    have hb := h.old r hk
    have hn : ¬ (nid ≤ σ r ∧ σ r < nid + cnt) := fun e => h.new _ e hb
    refine ⟨.inl hb, ?_, ?_⟩
    · show (if nid ≤ σ r ∧ σ r < nid + cnt then _ else g.gb (σ r)) = _
      rw [if_neg hn, (h.gb r hk).1]
    · show (if nid ≤ σ r ∧ σ r < nid + cnt then _ else g.gc (σ r)) = _
      rw [if_neg hn, (h.gb r hk).2]
  · rw [if_neg hk]
    have hn : nid ≤ nid + (r - k') ∧ nid + (r - k') < nid + cnt := by omega
    have e : k' + (nid + (r - k') - nid) = r := by omega
    refine ⟨.inr hn, ?_, ?_⟩
    · show (if nid ≤ nid + (r - k') ∧ nid + (r - k') < nid + cnt then g2.gb (k' + (nid + (r - k') - nid)) else _) = _
      rw [if_pos hn, e]
    · show (if nid ≤ nid + (r - k') ∧ nid + (r - k') < nid + cnt then g2.gc (k' + (nid + (r - k') - nid)) else _) = _
      rw [if_pos hn, e]
theorem Back.le {w : World} {g g2 : Gh} {base k' nid cnt : Nat} {σ : Nat → Nat} {vw : List Nat} (h : Back w g g2 base k' nid cnt σ vw) {f : Bool} (hf : (f || vw.isEmpty) = true) (b : Nat) : frOf f w.heap.size g2.fr b ≤ frOf f base (gBack w g g2 k' nid cnt).fr b := by
  have hb := h.base
  cases f with
  | true =>
    show (if b < w.heap.size then 0 else g2.fr b) ≤ (if b < base then 0 else (if b < w.heap.size then g.fr b else g2.fr b))
    split
    · omega
    · rw [if_neg (by omega)]; exact Nat.le_refl _
  | false =>
    simp only [Bool.false_or, List.isEmpty_iff] at hf
    show g2.fr b ≤ (if b < w.heap.size then g.fr b else g2.fr b)
    split
    · rw [h.fr hf b ‹_›]; exact Nat.le_refl _
    · exact Nat.le_refl _
theorem Back.ge {w : World} {g g2 : Gh} {base k' nid cnt : Nat} {σ : Nat → Nat} {vw : List Nat} (h : Back w g g2 base k' nid cnt σ vw) {f : Bool} (hf : (f || vw.isEmpty) = true) : Fge (frOf f w.heap.size g2.fr) (frOf f base (gBack w g g2 k' nid cnt).fr) := fun b => by
  have hb := h.base
  cases f with
  | true =>
    show (if b < w.heap.size then 0 else g2.fr b) = 0 ∨ (if b < base then 0 else (if b < w.heap.size then g.fr b else g2.fr b)) = (if b < w.heap.size then 0 else g2.fr b)
    split
    · exact .inl rfl
    · rw [if_neg (by omega)]; exact .inr rfl
  | false =>
    simp only [Bool.false_or, List.isEmpty_iff] at hf
    show g2.fr b = 0 ∨ (if b < w.heap.size then g.fr b else g2.fr b) = g2.fr b
    split
    · rw [h.fr hf b ‹_›]; exact .inr rfl
    · exact .inr rfl
theorem RelC.back {w w' : World} {g g2 : Gh} {base k' nid cnt : Nat} {σ : Nat → Nat} {vw : List Nat} (h : Back w g g2 base k' nid cnt σ vw) {c : C} {v : Value} (hc : RelC w' g2 w.heap.size c v) (hb : backC vw c = true) : RelC w' (gBack w g g2 k' nid cnt) base (renC (tau σ k' nid) c) v := by
  cases c with
  | sl f nn n ds => exact RelD.weaken hc (h.ge hb)
  | wh f nn n sz T xs tag => exact RelD.weaken hc (h.ge hb)
  | vw v0 nn n cs => exact ⟨hc.1, RelD.weaken hc.2 (h.ge (f := false) (by simpa [backC] using hb))⟩
  | own nn r n =>
    obtain ⟨h1, h2⟩ := hc
    obtain ⟨e1, e2, e3⟩ := h.id (h.born r h1)
    exact ⟨e1, by rw [e2, e3]; exact h2⟩
  | ref r off =>
    obtain ⟨h1, h2⟩ := hc
    obtain ⟨e1, e2, e3⟩ := h.id (h.born r h1)
    exact ⟨e1, by rw [e2]; exact h2⟩
  | ro ds =>
    obtain ⟨a, vs, h1, h2⟩ := hc
    have hle := h.le (f := false) (by simpa [backC] using hb)
    exact ⟨a, vs, h1, fun j x hx => ⟨(h2 j x hx).1, Nat.lt_of_lt_of_le (h2 j x hx).2.1 (hle _), (h2 j x hx).2.2.weaken (h.ge (f := false) (by simpa [backC] using hb))⟩⟩
  | fn f caps =>
    obtain ⟨h1, h2⟩ := hc
    refine ⟨fun r hr => ?_, h2.trans ?_⟩
    · obtain ⟨q, hq, rfl⟩ := List.mem_map.1 hr
      exact (h.id (h.born q (h1 q hq))).1
    · rw [List.map_map]
      congr 2
      exact List.map_congr_left fun q hq => by
        show _ = Value.pointer (some ⟨(gBack w g g2 k' nid cnt).gb (tau σ k' nid q), 0, none⟩)
        rw [(h.id (h.born q (h1 q hq))).2.1]
  | _ => exact hc
theorem RelL.back {w w' : World} {g g2 : Gh} {base k' nid cnt : Nat} {σ : Nat → Nat} {vw : List Nat} (h : Back w g g2 base k' nid cnt σ vw) : ∀ {cs : List C} {vs : List Value}, RelL w' g2 w.heap.size cs vs → cs.all (backC vw) = true → RelL w' (gBack w g g2 k' nid cnt) base (cs.map (renC (tau σ k' nid))) vs
  | [], [], _, _ => trivial
  | [], _ :: _, h, _ => h.elim
  | _ :: _, [], h, _ => h.elim
  | _ :: _, _ :: _, hc, hb => by
    rw [List.all_cons, Bool.and_eq_true] at hb
    exact ⟨RelC.back h hc.1 hb.1, RelL.back h hc.2 hb.2⟩
theorem RelV.back {w w' : World} {g g2 : Gh} {base k' nid cnt : Nat} {σ : Nat → Nat} {vw : List Nat} (h : Back w g g2 base k' nid cnt σ vw) {ag : Bool} {cs : List C} {V : Value} (hc : RelV w' g2 w.heap.size ag cs V) (hb : cs.all (backC vw) = true) : RelV w' (gBack w g g2 k' nid cnt) base ag (cs.map (renC (tau σ k' nid))) V := by
  cases ag with
  | true =>
    obtain ⟨us, e1, e2⟩ := (show ∃ us : List Value, V = .agg us.toArray ∧ RelL w' g2 w.heap.size cs us from hc)
    exact ⟨us, e1, RelL.back h e2 hb⟩
  | false =>
    obtain ⟨c, e1, e2⟩ := (show ∃ c, cs = [c] ∧ RelC w' g2 w.heap.size c V from hc)
    subst e1
    exact ⟨_, rfl, RelC.back h e2 (by simpa using hb)⟩
theorem RelT.back {w w' : World} {g g2 : Gh} {base k' nid cnt : Nat} {σ : Nat → Nat} {vw : List Nat} (h : Back w g g2 base k' nid cnt σ vw) : ∀ {xs : List (Bool × List C)} {vs : List Value}, RelT w' g2 w.heap.size xs vs → (xs.all fun x => x.2.all (backC vw)) = true → RelT w' (gBack w g g2 k' nid cnt) base (xs.map fun x => (x.1, x.2.map (renC (tau σ k' nid)))) vs
  | [], [], _, _ => trivial
  | [], _ :: _, h, _ => h.elim
  | _ :: _, [], h, _ => h.elim
  | _ :: _, _ :: _, hc, hb => by
    rw [List.all_cons, Bool.and_eq_true] at hb
    exact ⟨RelV.back h hc.1 hb.1, RelT.back h hc.2 hb.2⟩
theorem RelA.back {w w' : World} {g g2 : Gh} {base k' nid cnt : Nat} {σ : Nat → Nat} {vw : List Nat} (h : Back w g g2 base k' nid cnt σ vw) {x : A} {V : Value} (hc : RelA w' g2 w.heap.size x V) (hb : backA vw x = true) : RelA w' (gBack w g g2 k' nid cnt) base (renA (tau σ k' nid) x) V := by
  induction x with
  | any => trivial
  | undef => exact hc
  | opt b x ih => exact ⟨fun hb' => ih (hc.1 hb') hb, hc.2⟩
  | v ag cs => exact RelV.back h hc hb
  | tup xs =>
    obtain ⟨ys, h1, h2⟩ := hc
    exact ⟨ys, h1, RelT.back h h2 hb⟩
theorem ResOk.back {P : Program} {w w' : World} {g g2 : Gh} {base k' nid cnt r : Nat} {σ : Nat → Nat} {vw : List Nat} (h : Back w g g2 base k' nid cnt σ vw) {x : R} (hc : ResOk P w' g2 w.heap.size r x) (hb : backR vw x = true) (hr : r < k' + cnt) (hf : x.live = true → (gBack w g g2 k' nid cnt).fr (g2.gb r) = 0) : ResOk P w' (gBack w g g2 k' nid cnt) base (tau σ k' nid r) (renR (tau σ k' nid) x) := by
  obtain ⟨e1, e2, e3⟩ := h.id hr
  cases x with
  | gone => trivial
  | box cs =>
    obtain ⟨_, h2, vs, T, h3, h4⟩ := hc
    exact ⟨e1, by rw [e2]; exact hf rfl, vs, T, by rw [e2]; exact h3, RelL.back h h4 hb⟩
  | arr e f nn n ds =>
    obtain ⟨_, h2, h3⟩ := hc
    refine ⟨e1, h2, ?_⟩
    cases nn with
    | false => exact h3
    | true =>
      simp only [if_true] at h3 ⊢
      obtain ⟨q1, cur, q2, q3, q4, q5, q6⟩ := h3
      rw [e2, e3]
      refine ⟨hf rfl, cur, q2, q3, q4, q5, RelL.intro (by have := q6.length; simp at this ⊢; exact this) fun j c v hcc hvv => ?_⟩
      obtain ⟨u, k1, k2⟩ := q6.get hcc
      rw [hvv] at k1; cases k1
      rw [List.getElem?_map] at hcc
      obtain ⟨d, _, rfl⟩ := Option.map_eq_some_iff.1 hcc
      exact RelC.toC (RelD.weaken (RelC.ofC k2) (h.ge hb))

/-! ### The call -/
def capsA (caps : List Nat) : List A := caps.map fun r => .v false [.ref r 0]
theorem capsA_rel {w : World} {g : Gh} {base : Nat} : ∀ {caps : List Nat}, (∀ r ∈ caps, g.born r) → RelAs w g base (capsA caps) (caps.map fun r => Value.pointer (some ⟨g.gb r, 0, none⟩))
  | [], _ => trivial
  | r :: rs, h => ⟨⟨_, rfl, h r (by simp), rfl⟩, capsA_rel fun q hq => h q (List.mem_cons_of_mem _ hq)⟩
theorem RelAs.append {w : World} {g : Gh} {base : Nat} : ∀ {xs : List A} {vs : List Value} {xs' : List A} {vs' : List Value}, RelAs w g base xs vs → RelAs w g base xs' vs' → RelAs w g base (xs ++ xs') (vs ++ vs')
  | [], [], _, _, _, k => k
  | [], _ :: _, _, _, h, _ => h.elim
  | _ :: _, [], _, _, h, _ => h.elim
  | _ :: _, _ :: _, _, _, h, k => ⟨h.1, RelAs.append h.2 k⟩
theorem RelAs.ofMap {w : World} {g : Gh} {base : Nat} {ov : Operand → A} {a : Act} : ∀ {xs : List Operand}, (∀ x ∈ xs, RelA w g base (ov x) (a.eval x)) → RelAs w g base (xs.map ov) (xs.map a.eval)
  | [], _ => trivial
  | x :: xs, h => ⟨h x (List.mem_cons_self ..), RelAs.ofMap fun y hy => h y (List.mem_cons_of_mem _ hy)⟩
def upsCall (σ : Nat → Nat) (k' nid : Nat) (outs : List R) : List (Nat × R) :=
  (List.range k').map (fun r => (σ r, renR (tau σ k' nid) (lsR outs r))) ++ (List.range (outs.length - k')).map (fun j => (nid + j, renR (tau σ k' nid) (lsR outs (k' + j))))
def ftCall (σ : Nat → Nat) (k' : Nat) (m : Nat → R) (vw : List Nat) : List (Nat × R) := (List.range k').map (fun r => (σ r, m (σ r))) ++ vw.map fun r => (r, m r)
theorem renR_live (σ : Nat → Nat) (x : R) : (renR σ x).live = x.live := by cases x <;> rfl
theorem mem_ups {σ : Nat → Nat} {k' nid : Nat} {outs : List R} {q : Nat} {x : R} (h : (q, x) ∈ upsCall σ k' nid outs) (hle : k' ≤ outs.length) : ∃ r, r < outs.length ∧ q = tau σ k' nid r ∧ x = renR (tau σ k' nid) (lsR outs r) := by
  unfold upsCall at h
  rcases List.mem_append.1 h with h | h
  · obtain ⟨r, hr, e⟩ := List.mem_map.1 h
    have hr := List.mem_range.1 hr
    cases e
    exact ⟨r, by omega, by unfold tau; rw [if_pos hr], rfl⟩
  · obtain ⟨j, hj, e⟩ := List.mem_map.1 h
    have hj := List.mem_range.1 hj
    cases e
    exact ⟨k' + j, by omega, by unfold tau; rw [if_neg (by omega)]; omega, rfl⟩
theorem astep_call {P : Program} {G : Nat → Option (List D)} {base k : Nat} {o : Oper} {s : St} {fo : Operand} {ops0 : Array Operand} {ts : Array TypeId} {f : FuncId} {caps : List Nat} {args' : List A} {ins : List R} {res : A} {outs : List R} {nid : Nat} (ids vw : List Nat)
    (ho : o.op = .call { callee := .value fo, args := ops0, argTypes := ts }) (hf : slot (evO G s.t fo) = some (.fn f caps)) (hok : FnOk P G f args' ins res outs)
    (hin : inAs (fun r => ids.getD r 0) s.m vw (ops0.toList.map (evO G s.t) ++ capsA caps) args') (hres : ∀ r, r < ins.length → inR (fun r => ids.getD r 0) s.m vw (s.m (ids.getD r 0)) (lsR ins r))
    (hia : ∀ r ∈ args'.flatMap idsA, r < ins.length) (hir : ∀ r, r < ins.length → ∀ q ∈ idsR (lsR ins r), q < ins.length) (hlen : ids.length = ins.length) (hnd : ids.Nodup) (hlt : ∀ r ∈ ids, r < nid) (hvw : ∀ r ∈ vw, r ∉ ids) (hle : ins.length ≤ outs.length) (hkn : k ≤ nid)
    (hgone : ∀ r, r < ins.length → lsR outs r ≠ .gone) (hlv : ∀ r, r < ins.length → (lsR outs r).live = true → (lsR ins r).live = true) (hba : backA vw res = true) (hbr : outs.all (backR vw) = true) :
    AStep P G base k o s (renA (tau (fun r => ids.getD r 0) ins.length nid) res) (upsCall (fun r => ids.getD r 0) ins.length nid outs) (ftCall (fun r => ids.getD r 0) ins.length s.m vw) nid (outs.length - ins.length) := by
  obtain ⟨σ, hσ⟩ : ∃ σ : Nat → Nat, σ = fun r => ids.getD r 0 := ⟨_, rfl⟩
  have hσr : ∀ r, ids.getD r 0 = σ r := fun r => by rw [hσ]
  rw [← hσ] at hin hres ⊢
  have hmem : ∀ r, r < ins.length → σ r ∈ ids := fun r hr => by
    rw [hσ]
    simp only [List.getD_eq_getElem?_getD, List.getElem?_eq_getElem (show r < ids.length by omega), Option.getD_some]
    exact List.getElem_mem _
  have hinj : ∀ r r', r < ins.length → r' < ins.length → σ r = σ r' → r = r' := fun r r' hr hr' e => by
    rw [hσ] at e
    simp only [List.getD_eq_getElem?_getD, List.getElem?_eq_getElem (show r < ids.length by omega), List.getElem?_eq_getElem (show r' < ids.length by omega), Option.getD_some] at e
    have hp := List.pairwise_iff_getElem.1 hnd
    rcases Nat.lt_trichotomy r r' with h | h | h
    · exact absurd e (hp r r' (by omega) (by omega) h)
    · exact h
    · exact absurd e.symm (hp r' r (by omega) (by omega) h)
  have hres : ∀ r, r < ins.length → inR σ s.m vw (s.m (σ r)) (lsR ins r) := fun r hr => by have := hres r hr; rwa [hσr] at this
  have htau : ∀ r r', r < outs.length → r' < outs.length → tau σ ins.length nid r = tau σ ins.length nid r' → r = r' := fun r r' hr hr' e => by
    unfold tau at e
    split at e <;> split at e
    · exact hinj r r' ‹_› ‹_› e
    · have := hlt _ (hmem r ‹_›); omega
    · have := hlt _ (hmem r' ‹_›); omega
    · omega
  have htn : ∀ r, r < outs.length → (nwOf nid (outs.length - ins.length) (tau σ ins.length nid r) ↔ ins.length ≤ r) := fun r hr => by
    unfold tau nwOf
    split
    · have := hlt _ (hmem r ‹_›); omega
    · omega
  have hft : ∀ r, r < ins.length → (σ r, s.m (σ r)) ∈ ftCall σ ins.length s.m vw := fun r hr => List.mem_append_left _ (List.mem_map.2 ⟨r, List.mem_range.2 hr, rfl⟩)
  refine ⟨?_, fun r x hx => ?_, ⟨?_, fun q x hx hn => ?_, fun q hq => ?_, fun q x hx hn hl => ?_⟩, fun q x hx hn => ?_⟩
  · intro w g a h1 h2 h3 h4 h5 h6 h7 next Q hnext
    have hv : ∀ r ∈ vw, ResOk P w g base r (s.m r) := fun r hr => h4 r _ (List.mem_append_right _ (List.mem_map.2 ⟨r, hr, rfl⟩))
    have hfv := slot_rel (h3 fo (by simp [ho, Op.operands, Call.operands])) hf
    obtain ⟨hcap, hfv⟩ := hfv
    have hargs : RelAs w g base (ops0.toList.map (evO G s.t) ++ capsA caps) (ops0.toList.map a.eval ++ caps.map fun r => Value.pointer (some ⟨g.gb r, 0, none⟩)) :=
      RelAs.append (RelAs.ofMap fun x hx => h3 x (by simp [ho, Op.operands, Call.operands]; exact .inr (by simpa using hx))) (capsA_rel hcap)
    have hargs' := RelAs.give (base' := w.heap.size) (k' := ins.length) hv hargs hin hia
    have bornσ : ∀ r, r < ins.length → g.born (σ r) := fun r hr => by
      have := h4 _ _ (hft r hr)
      have hi := hres r hr
      cases hx : s.m (σ r) with
      | gone => rw [hx] at hi; cases hy : lsR ins r <;> rw [hy] at hi <;> exact hi.elim
      | box cs => rw [hx] at this; exact this.1
      | arr e f nn n cs => rw [hx] at this; exact this.1
    have hdist : ∀ r, r < ins.length → (s.m (σ r)).live = true → ∀ q ∈ vw, (s.m q).live = true → g.gb (σ r) ≠ g.gb q := fun r hr hl q hq hlq =>
      h5 _ _ _ _ (hft r hr) (List.mem_append_right _ (List.mem_map.2 ⟨q, hq, rfl⟩)) (fun e => hvw q hq (e ▸ hmem r hr)) hl hlq
    have hmemC : Mem P w (gCall w g s.m vw σ ins.length) w.heap.size ins.length (lsR ins) := by
      refine ⟨fun r => ?_, fun r r' hne hl hl' => ?_, fun r hr hl => ?_⟩
      · by_cases hr : r < ins.length
        · exact ResOk.give (h4 _ _ (hft r hr)) (hres r hr) hv hr (hir r hr) (hdist r hr)
        · have : lsR ins r = .gone := by unfold lsR; rw [List.getD_eq_getElem?_getD, List.getElem?_eq_none (by omega)]; rfl
          rw [this]; trivial
      · have hr : r < ins.length := by
          rcases Nat.lt_or_ge r ins.length with h | h
          · exact h
          · unfold lsR at hl; rw [List.getD_eq_getElem?_getD, List.getElem?_eq_none h] at hl; cases hl
        have hr' : r' < ins.length := by
          rcases Nat.lt_or_ge r' ins.length with h | h
          · exact h
          · unfold lsR at hl'; rw [List.getD_eq_getElem?_getD, List.getElem?_eq_none h] at hl'; cases hl'
        exact h5 _ _ _ _ (hft r hr) (hft r' hr') (fun e => hne (hinj r r' hr hr' e)) (by rw [inR_live (hres r hr)]; exact hl) (by rw [inR_live (hres r' hr')]; exact hl')
      · unfold lsR at hl; rw [List.getD_eq_getElem?_getD, List.getElem?_eq_none hr] at hl; cases hl
    have hG : Glob G w (gCall w g s.m vw σ ins.length).fr := h2.evo ⟨Nat.le_refl _, fun b _ => frV_le hv b, fun _ _ _ h => h, fun _ _ _ => rfl, fun b _ h => (frV_ge hv b).resolve_left (by omega)⟩
    obtain ⟨⟨fn, hfn, hname, hbody⟩, hcall⟩ := hok
    have hc := hcall w (gCall w g s.m vw σ ins.length) _ hG hargs' hmemC (fun r => Iff.rfl)
    have hrun : (execOp a.eval o).run P w = .ok (.enter f (ops0.toList.map a.eval ++ caps.map fun r => Value.pointer (some ⟨g.gb r, 0, none⟩)).toArray) w := by
      unfold execOp
      simp only [ho, resolve, hfv, Deferred.ofValue, Sem.run_bind, Sem.run_pure, Result.andThen_ok, invoke, callFunc, run_program, hfn, hname, hbody, Bool.false_eq_true, if_false]
      congr 2
      apply Array.ext'
      simp
    unfold Oper.wp
    rw [hrun, Oper.upon_enter]
    refine hc.mono ?_
    rintro e w' ⟨V, g2, rfl, hp⟩
    refine hnext w' (gBack w g g2 ins.length nid (outs.length - ins.length)) V ?_
    have hfr := hp.fr
    have hback : Back w g g2 base ins.length nid (outs.length - ins.length) σ vw := by
      refine ⟨h1, fun r hr => ?_, fun r hr => ?_, bornσ, fun r hr => h7 r hr.1 hr.2, fun hvn b hb => ?_⟩
      · rcases Nat.lt_or_ge r outs.length with h | h
        · omega
        · exact absurd hr (hp.nb r h)
      · obtain ⟨_, q1, q2⟩ := hfr.gk r hr
        exact ⟨q1, q2⟩
      · rw [hfr.frk b hb]
        show frV w g s.m vw b = _
        rw [hvn, frV_nil]
    have hsz : w.heap.size ≤ w'.heap.size := hfr.evo.size
    have hout : ∀ r, r < outs.length → ResOk P w' (gBack w g g2 ins.length nid (outs.length - ins.length)) base (tau σ ins.length nid r) (renR (tau σ ins.length nid) (lsR outs r)) := fun r hr => by
      refine ResOk.back hback (hp.mem.ok r) ?_ (by omega) fun hl => ?_
      · refine List.all_eq_true.1 hbr _ ?_
        unfold lsR
        rw [List.getD_eq_getElem?_getD, List.getElem?_eq_getElem hr, Option.getD_some]
        exact List.getElem_mem _
      · by_cases hk : r < ins.length
        · have hl0 := hp.lv r hk hl
          have hl1 : (s.m (σ r)).live = true := by rw [inR_live (hres r hk)]; exact hl0
          have hr0 := h4 _ _ (hft r hk)
          rw [(hback.gb r hk).1]
          show (if g.gb (σ r) < w.heap.size then g.fr (g.gb (σ r)) else _) = 0
          rw [if_pos (hr0.lt hl1)]
          cases hx : s.m (σ r) with
          | gone => rw [hx] at hl1; cases hl1
          | box cs => rw [hx] at hr0; exact hr0.2.1
          | arr e f nn n cs => rw [hx] at hr0 hl1; cases hl1; have := hr0.2.2; simp only [if_true] at this; exact this.1
        · have hge := hp.mem.own r (by omega) hl
          show (if g2.gb r < w.heap.size then _ else g2.fr (g2.gb r)) = 0
          rw [if_neg (by omega)]
          have hr0 := hp.mem.ok r
          cases hx : lsR outs r with
          | gone => rw [hx] at hl; cases hl
          | box cs => rw [hx] at hr0; exact hr0.2.1
          | arr e f nn n cs => rw [hx] at hr0 hl; cases hl; have := hr0.2.2; simp only [if_true] at this; exact this.1
    refine ⟨⟨hfr.os, hfr.tape, hfr.output, ⟨hsz, fun b hb => ?_, fun ad v hlt' hcell => ?_, fun b hb hbs => hfr.evo.blk b (Nat.lt_of_lt_of_le hb (frV_le hv b)) hbs, fun b hb _ => if_pos hb⟩, fun b hb hk => ?_, fun b hb => ?_, fun r hr => ?_, fun r hr => hr⟩, RelA.back hback hp.val hba, fun q x hx => ?_, fun q x hx hn hl => .inl ?_, fun q x q' x' hx hx' hn hn' hne hl hl' => ?_⟩
    · show g.fr b ≤ (if b < w.heap.size then g.fr b else _)
      rw [if_pos hb]; exact Nat.le_refl _
    · exact hfr.evo.cell ad v (Nat.lt_of_lt_of_le hlt' (frV_le hv _)) hcell
    · refine hfr.keep b hb fun r hr hl => ?_
      have hl1 : (s.m (σ r)).live = true := by rw [inR_live (hres r hr)]; exact hl
      refine hk (σ r) ⟨⟨_, List.mem_append_left _ (List.mem_map.2 ⟨r, List.mem_range.2 hr, rfl⟩)⟩, fun hn => ?_, _, hft r hr, hl1⟩
      have := hlt _ (hmem r hr)
      have := hn.1
      omega
    · show (if b < w.heap.size then g.fr b else _) = g.fr b
      rw [if_pos hb]
    · have hn : ¬ (nid ≤ r ∧ r < nid + (outs.length - ins.length)) := fun e => h7 r e.1 e.2 hr
      refine ⟨.inl hr, ?_, ?_⟩
      · show (if _ then _ else g.gb r) = _
        rw [if_neg hn]
      · show (if _ then _ else g.gc r) = _
        rw [if_neg hn]
    · obtain ⟨r, hr, rfl, rfl⟩ := mem_ups hx hle
      exact hout r hr
    · obtain ⟨r, hr, rfl, rfl⟩ := mem_ups hx hle
      rw [renR_live] at hl
      rw [(hback.id (r := r) (by omega)).2.1]
      exact hp.mem.own r ((htn r hr).1 hn) hl
    · obtain ⟨r, hr, rfl, rfl⟩ := mem_ups hx hle
      obtain ⟨r', hr', rfl, rfl⟩ := mem_ups hx' hle
      rw [renR_live] at hl hl'
      rw [(hback.id (r := r) (by omega)).2.1, (hback.id (r := r') (by omega)).2.1]
      exact hp.mem.inj r r' (fun e => hne (by rw [e])) hl hl'
  · rcases List.mem_append.1 hx with h | h
    · obtain ⟨q, _, e⟩ := List.mem_map.1 h; cases e; rfl
    · obtain ⟨q, _, e⟩ := List.mem_map.1 h; cases e; rfl
  · unfold upsCall
    rw [List.map_append, List.map_map, List.map_map, List.nodup_append]
    refine ⟨?_, ?_, ?_⟩
    · rw [List.nodup_iff_pairwise_ne, List.pairwise_map]
      refine (List.pairwise_lt_range).imp_of_mem fun {x y} hx hy hxy e => ?_
      exact absurd (hinj x y (List.mem_range.1 hx) (List.mem_range.1 hy) e) (by omega)
    · rw [List.nodup_iff_pairwise_ne, List.pairwise_map]
      refine (List.pairwise_lt_range).imp fun {x y} hxy e => ?_
      simp only [Function.comp] at e
      omega
    · intro x hx y hy e
      obtain ⟨r, hr, rfl⟩ := List.mem_map.1 hx
      obtain ⟨j, hj, rfl⟩ := List.mem_map.1 hy
      have := hlt _ (hmem r (List.mem_range.1 hr))
      simp only [Function.comp] at e
      omega
  · have := hn.1; omega
  · obtain ⟨r, hr, rfl, e⟩ := mem_ups hq hle
    by_cases hk : r < ins.length
    · have : lsR outs r = .gone := by
        cases hx : lsR outs r with
        | gone => rfl
        | box cs => rw [hx] at e; cases e
        | arr e' f' nn' n' ds' => rw [hx] at e; cases e
      exact absurd this (hgone r hk)
    · unfold tau; rw [if_neg hk]; omega
  · obtain ⟨r, hr, rfl, rfl⟩ := mem_ups hx hle
    have hk : r < ins.length := by
      rcases Nat.lt_or_ge r ins.length with h | h
      · exact h
      · exact absurd ((htn r hr).2 h) hn
    rw [renR_live] at hl
    have e : tau σ ins.length nid r = σ r := by unfold tau; rw [if_pos hk]
    rw [e]
    exact ⟨_, hft r hk, by rw [inR_live (hres r hk)]; exact hlv r hk hl⟩
  · obtain ⟨r, hr, rfl, rfl⟩ := mem_ups hx hle
    have hk : r < ins.length := by
      rcases Nat.lt_or_ge r ins.length with h | h
      · exact h
      · exact absurd ((htn r hr).2 h) hn
    have e : tau σ ins.length nid r = σ r := by unfold tau; rw [if_pos hk]
    rw [e]
    exact ⟨_, hft r hk⟩
end Go.Proofs.Ytpobimdcphjljaa
