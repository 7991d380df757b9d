/-
  Regions: their operations in the order of the text; and that every order that the model may draw comes to the same.
-/
import Derived.Test.YtpobimdcphjljaaEy
namespace Go.Proofs.Ytpobimdcphjljaa
open Go

/-! ### Operands -/
def litC : Value → Option C
  | .bool b => some (.b b)
  | .int k n => some (.i k n)
  | .string s => some (.s s)
  | .slice none 0 0 => some (.sl true false 0 [])
  | .pointer none => some .nilp
  | _ => none
def litsC : List Value → Option (List C)
  | [] => some []
  | v :: vs =>
    match litC v, litsC vs with
    | some c, some cs => some (c :: cs)
    | _, _ => none
def oneA (v : Value) : A := match litC v with | some c => .v false [c] | none => .any
def constA : Value → A
  | .agg xs => match litsC xs.toList with | some cs => .v true cs | none => .any
  | v => oneA v
def evO (G : Nat → Option (List D)) (t : Nat → A) : Operand → A
  | .tmp d => t d
  | .const v => constA v
  | .global g => match G g with | some ds => .v false [.ro ds] | none => .any
  | .func f => .v false [.fn f []]
theorem litC_rel {w : World} {g : Gh} {base : Nat} {v : Value} {c : C} (h : litC v = some c) : RelC w g base c v := by
  unfold litC at h
  split at h <;> cases h
  · rfl
  · rfl
  · rfl
  · exact RelD.nil
  · rfl
theorem litsC_rel {w : World} {g : Gh} {base : Nat} : ∀ {vs : List Value} {cs : List C}, litsC vs = some cs → RelL w g base cs vs
  | [], cs, h => by cases h; trivial
  | v :: vs, cs, h => by
    unfold litsC at h
    split at h
    · rename_i c cs' h1 h2
      cases h
      exact ⟨litC_rel h1, litsC_rel h2⟩
    · cases h
theorem constA_rel {w : World} {g : Gh} {base : Nat} (v : Value) : RelA w g base (constA v) v := by
  have one : ∀ v : Value, RelA w g base (oneA v) v := fun v => by
    unfold oneA
    cases h : litC v with
    | none => trivial
    | some c => exact ⟨c, rfl, litC_rel h⟩
  unfold constA
  split
  · rename_i xs
    cases h : litsC xs.toList with
    | none => trivial
    | some cs => exact ⟨xs.toList, by simp, litsC_rel h⟩
  · exact one _
theorem evO_rel {c : Cx} {s : St} {a : Act} {w : World} {g : Gh} (h : RelS c s a w g) (x : Operand) : RelA w g c.base (evO c.G s.t x) (a.eval x) := by
  cases x with
  | tmp d => exact h.slots d
  | const v => exact constA_rel v
  | global i =>
    show RelA w g c.base (match c.G i with | some ds => .v false [.ro ds] | none => .any) (.pointer (some ⟨i, 0, none⟩))
    cases hg : c.G i with
    | none => trivial
    | some ds =>
      have := h.glob i ds hg
      refine ⟨_, rfl, ⟨i, 0, none⟩, fun j => (w.cell? ⟨i, j, none⟩).getD Go.undef, rfl, fun j x hx => ?_⟩
      obtain ⟨v, h1, h2, h3⟩ := this j x hx
      rw [add_none]
      simp only [Nat.zero_add]
      rw [h1]
      exact ⟨rfl, h2, h3⟩
  | func f => exact ⟨_, rfl, (fun r hr => by cases hr), rfl⟩

/-! ### Is an operation wanted? -/
def guardT (ops : List Oper) (o : Oper) : Option (Option Tmp × Bool) :=
  match o.guard with
  | none => none
  | some (j, want) => some ((ops[j]?).bind (·.dst), want)
def wexp (x : Bool) : Bool → Bool
  | true => x
  | false => !x
def wantA (ops : List Oper) (t : Nat → A) (o : Oper) : Option Bool :=
  match guardT ops o with
  | none => some true
  | some (none, _) => some false
  | some (some d, want) =>
    match t d with
    | .v false [.b x] => some (wexp x want)
    | .opt e (.v false [.b x]) => some (e && wexp x want)
    | .undef => some false
    | _ => none
theorem wantA_ok {c : Cx} {s : St} {a : Act} {w : World} {g : Gh} (h : RelS c s a w g) {ops : Array Oper} {o : Oper} {b : Bool} (hw : wantA ops.toList s.t o = some b) : Region.wanted o (yielded ops a.tmps) = b := by
  unfold wantA guardT at hw
  unfold Region.wanted
  cases hg : o.guard with
  | none => rw [hg] at hw; simpa using hw
  | some p =>
    obtain ⟨j, want⟩ := p
    rw [hg] at hw
    simp only [Array.getElem?_toList] at hw
    simp only [yielded]
    cases hd : (ops[j]?).bind (·.dst) with
    | none => rw [hd] at hw; simp only [Option.some.injEq] at hw; subst hw; rfl
    | some d =>
      rw [hd] at hw
      simp only [Option.bind_some] at hw ⊢
      have hs := h.slots d
      split at hw
      · rename_i x ht
        rw [ht] at hs
        obtain ⟨c', h1, h2⟩ := hs
        cases h1
        have h2 : a.tmps.getD d Go.undef = .bool x := h2
        have : a.tmps[d]? = some (.bool x) := by
          rw [Array.getD_eq_getD_getElem?] at h2
          cases hh : a.tmps[d]? with
          | none => rw [hh] at h2; cases h2
          | some v => rw [hh] at h2; simp at h2; rw [h2]
        rw [this]
        simp only [Option.some.injEq] at hw
        subst hw
        cases x <;> cases want <;> rfl
      · rename_i e x ht
        rw [ht] at hs
        simp only [Option.some.injEq] at hw
        subst hw
        cases e with
        | false =>
          have hs : a.tmps.getD d Go.undef = Go.undef := hs.2 rfl
          cases hh : a.tmps[d]? with
          | none => rfl
          | some v =>
            rw [Array.getD_eq_getD_getElem?, hh] at hs
            simp at hs
            subst hs; rfl
        | true =>
          obtain ⟨c', h1, h2⟩ := hs.1 rfl
          cases h1
          have h2 : a.tmps.getD d Go.undef = .bool x := h2
          have : a.tmps[d]? = some (.bool x) := by
            rw [Array.getD_eq_getD_getElem?] at h2
            cases hh : a.tmps[d]? with
            | none => rw [hh] at h2; cases h2
            | some v => rw [hh] at h2; simp at h2; rw [h2]
          rw [this]
          cases x <;> cases want <;> rfl
      · rename_i ht
        rw [ht] at hs
        have hs : a.tmps.getD d Go.undef = Go.undef := hs
        cases hw
        cases hh : a.tmps[d]? with
        | none => rfl
        | some v =>
          rw [Array.getD_eq_getD_getElem?, hh] at hs
          simp at hs
          subst hs; rfl
      · cases hw

/-! ### One operation -/
structure Rec where
  on : Bool
  v : A
  ups : List (Nat × R)
  ft : List (Nat × R)
  nid : Nat
  cnt : Nat
def nwOf (nid cnt : Nat) : Nat → Prop := fun r => nid ≤ r ∧ r < nid + cnt
def lvOf (ft : List (Nat × R)) : Nat → Prop := fun r => ∃ x, (r, x) ∈ ft ∧ x.live = true
structure AStep (P : Program) (G : Nat → Option (List D)) (base k : Nat) (o : Oper) (s : St) (v : A) (ups ft : List (Nat × R)) (nid cnt : Nat) : Prop where
  sem : ASem P G base k o (evO G s.t) ft v ups nid cnt
  held : ∀ r x, (r, x) ∈ ft → s.m r = x
  wf : WfUps k (nwOf nid cnt) (lvOf ft) ups
  up : ∀ r x, (r, x) ∈ ups → ¬ nwOf nid cnt r → ∃ y, (r, y) ∈ ft
def NB (g : Gh) (n : Nat) : Prop := ∀ r, n ≤ r → ¬ g.born r
def St.app (s : St) (o : Oper) (v : A) (ups : List (Nat × R)) : St := ⟨updO s.t o.dst v, upds s.m ups⟩

theorem step_sound {c : Cx} {o : Oper} {s : St} {v : A} {ups ft : List (Nat × R)} {nid cnt : Nat} {a : Act} {w : World} {g : Gh} (h : AStep c.P c.G c.base c.k o s v ups ft nid cnt) (hr : RelS c s a w g) (hn : ∀ r, nwOf nid cnt r → ¬ g.born r) (hd : ∀ d, o.dst = some d → d < a.tmps.size)
    {next : Act → World → Prop} {Q : Exit → Act → World → Prop} (hk : ∀ w' g' V, RelS c (s.app o v ups) (a.put o.dst V) w' g' → (∀ r, g'.born r → g.born r ∨ nwOf nid cnt r) → next (a.put o.dst V) w') : o.wp c.P a w next Q := by
  refine h.sem w g a hr.fr.evo.size hr.glob (fun x _ => evO_rel hr x) (fun r x hx => by rw [← h.held r x hx]; exact hr.mem.ok r) (fun r x r' x' hx hx' hne hl hl' => hr.mem.inj r r' hne (by rw [h.held r x hx]; exact hl) (by rw [h.held r' x' hx']; exact hl'))
    (fun r x hx hkr hl => hr.mem.own r hkr (by rw [h.held r x hx]; exact hl)) (fun r h1 h2 => hn r ⟨h1, h2⟩) next Q fun w' g' V he => ?_
  exact hk w' g' V (hr.exec he h.wf (fun r x _ _ ⟨y, h1, h2⟩ => by rw [h.held r y h1]; exact h2) hd) (fun r hb => he.step.bk r hb)

/-! ### The text's order -/
def aops (P : Program) (G : Nat → Option (List D)) (base k nt : Nat) (ops : List Oper) : List Oper → St → Nat → List Rec → (St → Nat → List Rec → Prop) → Prop
  | [], s, n, acc, K => K s n acc
  | o :: rest, s, n, acc, K =>
    (∀ d, o.dst = some d → d < nt) ∧ ∃ e v ups ft cnt, wantA ops s.t o = some e ∧ (e = true → AStep P G base k o s v ups ft n cnt) ∧ (e = false → ups = [] ∧ ∀ w g, RelA w g base v Go.undef) ∧
      aops P G base k nt ops rest (s.app o v ups) (n + cnt) (acc ++ [⟨e, v, ups, ft, n, cnt⟩]) K

theorem put_undef {c : Cx} {s : St} {a : Act} {w : World} {g : Gh} {o : Oper} {v : A} (h : RelS c s a w g) (hv : RelA w g c.base v Go.undef) (hd : ∀ d, o.dst = some d → d < a.tmps.size) : RelS c (s.app o v []) (a.put o.dst Go.undef) w g :=
  h.exec (v := v) (ups := []) (nw := fun _ => False) (lv := fun _ => False) (eff_pure hv) ⟨List.nodup_nil, (fun _ _ h => by cases h), (fun _ h => by cases h), (fun _ _ h => by cases h)⟩ (fun _ _ h => by cases h) hd
theorem put_size (a : Act) (d : Option Tmp) (v : Value) : (a.put d v).tmps.size = a.tmps.size := by cases d <;> simp [Act.put]

theorem seq_ops {c : Cx} {nt : Nat} {ops : Array Oper} {Q : Exit → Act → World → Prop} {K : St → Nat → List Rec → Prop} : ∀ (rest : List Oper) (i : Nat) (s : St) (n : Nat) (acc : List Rec) (a : Act) (w : World) (g : Gh), ops.toList.drop i = rest → RelS c s a w g → NB g n → a.tmps.size = nt →
    aops c.P c.G c.base c.k nt ops.toList rest s n acc K → (∀ s' n' acc' a' w' g', K s' n' acc' → RelS c s' a' w' g' → NB g' n' → a'.tmps.size = nt → Q .normal a' w') → wpOps c.P ops Q (List.range' i rest.length) a w
  | [], i, s, n, acc, a, w, g, _, hr, hn, hs, h, hK => hK s n acc a w g h hr hn hs
  | o :: rest, i, s, n, acc, a, w, g, hdrop, hr, hn, hs, h, hK => by
    have ho : ops[i]? = some o := by
      have := congrArg (fun l => l[0]?) hdrop
      simpa using this
    have hrest : ops.toList.drop (i + 1) = rest := by
      rw [← List.drop_drop, hdrop]; rfl
    rw [List.length_cons, List.range'_succ]
    unfold wpOps
    simp only [ho]
    unfold aops at h
    obtain ⟨hd, e, v, ups, ft, cnt, hw, h1, h0, h2⟩ := h
    have hd' : ∀ d, o.dst = some d → d < a.tmps.size := by rw [hs]; exact hd
    rw [wantA_ok hr hw]
    cases e with
    | true =>
      simp only [if_true]
      refine .inl (step_sound (h1 rfl) hr (fun r hr' => hn r hr'.1) hd' fun w' g' V hr' hb => ?_)
      exact seq_ops rest (i + 1) _ _ _ _ w' g' hrest hr' (fun r h3 h4 => by
        rcases hb r h4 with h5 | h5
        · exact hn r (by omega) h5
        · have := h5.2; omega) (by rw [put_size]; exact hs) h2 hK
    | false =>
      simp only [Bool.false_eq_true, if_false]
      obtain ⟨e1, e2⟩ := h0 rfl
      have := put_undef (o := o) hr (e2 w g) hd'
      rw [← e1] at this
      exact seq_ops rest (i + 1) _ _ _ _ w g hrest this (fun r hr' => hn r (by omega)) (by rw [put_size]; exact hs) h2 hK
theorem region_text {c : Cx} {nt id : Nat} {ops : Array Oper} {Q : Exit → Act → World → Prop} {K : St → Nat → List Rec → Prop} {s : St} {n : Nat} {a : Act} {w : World} {g : Gh} (hr : RelS c s a w g) (hn : NB g n) (hs : a.tmps.size = nt)
    (h : aops c.P c.G c.base c.k nt ops.toList ops.toList s n [] K) (hK : ∀ s' n' acc' a' w' g', K s' n' acc' → RelS c s' a' w' g' → NB g' n' → a'.tmps.size = nt → Q .normal a' w') : (Code.region id ops false).wp c.P Q a w := by
  refine wp_region ?_
  have := seq_ops ops.toList 0 s n [] a w g rfl hr hn hs h hK
  rwa [Array.length_toList, ← List.range_eq_range'] at this
end Go.Proofs.Ytpobimdcphjljaa
