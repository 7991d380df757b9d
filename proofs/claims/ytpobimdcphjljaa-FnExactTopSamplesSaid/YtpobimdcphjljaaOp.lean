/-
  Arguments of any type of numbers, strings, structs and slices, opened: what is read of them as plain data.
-/
import Derived.Test.YtpobimdcphjljaaBr
import Derived.ChangeArms
import Derived.Deep.Slices
namespace Go.Proofs.Ytpobimdcphjljaa
open Go
set_option linter.unusedVariables false
set_option linter.unusedSimpArgs false
set_option linter.unnecessarySimpa false
set_option maxRecDepth 4000

inductive Fl where
  | b
  | s
  | i (k : IntKind)
  | row (e : List Fl)
def flatF (P : Program) (g : TypeId → Option (List Fl)) : Nat → List Field → Option (List Fl)
  | _, [] => some []
  | off, f :: fs => if f.offset = off then (g f.type).bind fun es => if es.length = P.cellsOf f.type then (flatF P g (off + es.length) fs).map (es ++ ·) else none else none
def flat (P : Program) : Nat → TypeId → Option (List Fl)
  | 0, _ => none
  | n + 1, t => match P.underlying t with
    | some .bool => some [.b]
    | some .string => some [.s]
    | some (.int k) => some [.i k]
    | some (.slice e) => (flat P n e).bind fun es => if es.length = P.cellsOf e then some [.row es] else none
    | some (.struct fs) => (flatF P (flat P n) 0 fs.toList).bind fun es => if es.length = P.cellsOf t then some es else none
    | _ => none
mutual
inductive FlD : Fl → D → Prop
  | b (x : Bool) : FlD .b (.b x)
  | s (x : ByteArray) : x.size ≤ maxLen → FlD .s (.s x)
  | i {k : IntKind} {n : Int} : (Lit.int k n).wf = true → FlD (.i k) (.i k n)
  | row {es : List Fl} (nn : Bool) (xss : List (List D)) : (nn = false → xss = []) → (∀ xs ∈ xss, FlL es xs) → FlD (.row es) (.sl nn xss.length xss.flatten)
inductive FlL : List Fl → List D → Prop
  | nil : FlL [] []
  | cons {e : Fl} {d : D} {es : List Fl} {ds : List D} : FlD e d → FlL es ds → FlL (e :: es) (d :: ds)
end
theorem FlL.append : ∀ {es : List Fl} {ds : List D} {fs : List Fl} {us : List D}, FlL es ds → FlL fs us → FlL (es ++ fs) (ds ++ us)
  | [], [], _, _, _, h => h
  | _ :: _, _ :: _, _, _, .cons a b, h => .cons a (FlL.append b h)
theorem FlL.length : ∀ {es : List Fl} {ds : List D}, FlL es ds → ds.length = es.length
  | [], [], _ => rfl
  | _ :: _, _ :: _, .cons a b => by simp [FlL.length b]
def RelDL (w : World) (fr : Nat → Nat) : List D → List Value → Prop
  | [], [] => True
  | d :: ds, v :: vs => RelD w fr d v ∧ RelDL w fr ds vs
  | _, _ => False
theorem RelDL.append {w : World} {fr : Nat → Nat} : ∀ {ds us : List D} {vs ws : List Value}, RelDL w fr ds vs → RelDL w fr us ws → RelDL w fr (ds ++ us) (vs ++ ws)
  | [], _, [], _, _, k => k
  | [], _, _ :: _, _, h, _ => h.elim
  | _ :: _, _, [], _, h, _ => h.elim
  | _ :: _, _, _ :: _, _, h, k => ⟨h.1, RelDL.append h.2 k⟩
theorem RelDL.length {w : World} {fr : Nat → Nat} : ∀ {ds : List D} {vs : List Value}, RelDL w fr ds vs → ds.length = vs.length
  | [], [], _ => rfl
  | [], _ :: _, h => h.elim
  | _ :: _, [], h => h.elim
  | _ :: _, _ :: _, h => by simp [RelDL.length h.2]
theorem RelDL.get {w : World} {fr : Nat → Nat} : ∀ {ds : List D} {vs : List Value} {j : Nat} {x : D}, RelDL w fr ds vs → ds[j]? = some x → ∃ v, vs[j]? = some v ∧ RelD w fr x v
  | [], [], _, _, _, hx => by simp at hx
  | [], _ :: _, _, _, h, _ => h.elim
  | _ :: _, [], _, _, h, _ => h.elim
  | d :: ds, v :: vs, 0, x, h, hx => by simp at hx; subst hx; exact ⟨v, rfl, h.1⟩
  | d :: ds, v :: vs, j + 1, x, h, hx => by
    obtain ⟨u, h1, h2⟩ := RelDL.get (j := j) h.2 (by simpa using hx)
    exact ⟨u, by simpa using h1, h2⟩
theorem RelDL.relL {w : World} {g : Gh} {base : Nat} : ∀ {ds : List D} {vs : List Value}, RelDL w g.fr ds vs → RelL w g base (ds.map (D.toC false)) vs
  | [], [], _ => trivial
  | [], _ :: _, h => h.elim
  | _ :: _, [], h => h.elim
  | _ :: _, _ :: _, h => ⟨RelC.toC (fresh := false) h.1, RelDL.relL h.2⟩
section
variable {H : Type} {enc : TypeId × Value → H} {P : Program} {w : World} {base : Nat} {sp : Nat → Bool} {hd : Bool}
theorem flat_fields {n k : Nat} (ih : ∀ t fs, flat P n t = some fs → ∀ cs x, DataW.trod enc P w base sp hd k t cs = some x → ∃ ds, FlL fs ds ∧ RelDL w (frW w) ds cs) {cs : List Value} {all : List Field} {xs : List (DataW H × List MemPlace)} (hl : xs.length = all.length)
    (hx : ∀ (i : Nat) (f : Field), all[i]? = some f → DataW.trod enc P w base sp hd k f.type ((cs.drop f.offset).take (P.cellsOf f.type)) = xs[i]?) :
    ∀ (fs : List Field) (i off : Nat) (es : List Fl), all.drop i = fs → flatF P (flat P n) off fs = some es → ∃ ds, FlL es ds ∧ RelDL w (frW w) ds ((cs.drop off).take es.length)
  | [], i, off, es, _, hf => by
    simp [flatF] at hf; subst hf
    exact ⟨[], .nil, by simp [RelDL]⟩
  | f :: fs, i, off, es, ha, hf => by
    unfold flatF at hf
    split at hf
    · rename_i ho
      obtain ⟨e1, h1, hf⟩ := Option.bind_eq_some_iff.1 hf
      split at hf
      · rename_i hc
        obtain ⟨e2, h2, rfl⟩ := Option.map_eq_some_iff.1 hf
        have hi : all[i]? = some f := by
          have := congrArg (fun l => l[0]?) ha
          simpa using this
        have ht := hx i f hi
        have hlt : i < xs.length := by rw [hl]; exact (List.getElem?_eq_some_iff.1 hi).1
        rw [List.getElem?_eq_getElem hlt, ho, ← hc] at ht
        obtain ⟨d1, g1, r1⟩ := ih _ _ h1 _ _ ht
        have ha2 : all.drop (i + 1) = fs := by
          have := congrArg List.tail ha
          simpa [List.tail_drop] using this
        obtain ⟨d2, g2, r2⟩ := flat_fields ih hl hx fs (i + 1) (off + e1.length) e2 ha2 h2
        refine ⟨d1 ++ d2, g1.append g2, ?_⟩
        rw [List.length_append, List.take_add, List.drop_drop]
        exact r1.append r2
      · cases hf
    · cases hf
theorem flat_trod : ∀ (n : Nat) (t : TypeId) (fs : List Fl), flat P n t = some fs → ∀ (fuel : Nat) (cs : List Value) (x : DataW H × List MemPlace), DataW.trod enc P w base sp hd fuel t cs = some x → ∃ ds, FlL fs ds ∧ RelDL w (frW w) ds cs
  | 0, t, fs, h, _, _, _, _ => by simp [flat] at h
  | n + 1, t, fs, h, fuel, cs, x, hx => by
    unfold flat at h
    split at h
    · rename_i ht
      simp at h; subst h
      obtain ⟨b, rfl, _⟩ := DataW.trod_bool ht hx
      exact ⟨[.b b], .cons (.b b) .nil, .b b, trivial⟩
    · rename_i ht
      simp at h; subst h
      obtain ⟨s, rfl, _, hs⟩ := DataW.trod_string ht hx
      exact ⟨[.s s], .cons (.s s hs) .nil, .s s, trivial⟩
    · rename_i k ht
      simp at h; subst h
      obtain ⟨z, rfl, _, hz⟩ := DataW.trod_int ht hx
      exact ⟨[.i k z], .cons (.i hz) .nil, .i k z, trivial⟩
    · rename_i e ht
      obtain ⟨es, h1, h⟩ := Option.bind_eq_some_iff.1 h
      split at h
      · rename_i hc
        simp at h; subst h
        rcases DataW.trod_slice ht hx with ⟨rfl, _⟩ | ⟨a, len, cap, elems, rest, k, rfl, rfl, _, _, hlc, hcm, hel, hg, _, _⟩
        · exact ⟨[.sl false 0 []], .cons (.row false [] (fun _ => rfl) (fun xs h => by cases h)) .nil, .nil, trivial⟩
        · have each : ∀ i, i < len → ∃ ds : List D, FlL es ds ∧ ∃ cs', w.cells? base (a.add (i * P.cellsOf e)) (P.cellsOf e) = some cs' ∧ RelDL w (frW w) ds cs' := fun i hi => by
            have := hg i hi
            rw [List.getElem?_eq_getElem (by omega)] at this
            obtain ⟨cs', e1, e2⟩ := Option.bind_eq_some_iff.1 this
            obtain ⟨ds, g1, g2⟩ := flat_trod n e es h1 _ _ _ e2
            exact ⟨ds, g1, cs', e1, g2⟩
          obtain ⟨f, hf⟩ := Go.Deep.choose_lt each
          have row : ∀ m, m ≤ len → (((List.range m).map f).flatten).length = m * P.cellsOf e ∧ ∀ j x, (((List.range m).map f).flatten)[j]? = some x → ∃ v, w.cell? (a.add j) = some v ∧ RelD w (frW w) x v := by
            intro m
            induction m with
            | zero => intro _; exact ⟨by simp, fun j x h => by simp at h⟩
            | succ m ih =>
              intro hm
              obtain ⟨hl, hr⟩ := ih (by omega)
              obtain ⟨g1, cs', g2, g3⟩ := hf m (by omega)
              obtain ⟨_, q1, q2⟩ := World.cells?_some g2
              have hlm : (f m).length = P.cellsOf e := by rw [g3.length, q1]
              rw [List.range_succ, List.map_append, List.flatten_append]
              refine ⟨by simp [hl, hlm, Nat.succ_mul], fun j x hj => ?_⟩
              by_cases hjm : j < m * P.cellsOf e
              · rw [List.getElem?_append_left (by rw [hl]; exact hjm)] at hj
                exact hr j x hj
              · rw [List.getElem?_append_right (by rw [hl]; omega), hl] at hj
                simp only [List.map_cons, List.map_nil, List.flatten_cons, List.flatten_nil, List.append_nil] at hj
                obtain ⟨v, e1, e2⟩ := g3.get hj
                have hjl := (List.getElem?_eq_some_iff.1 e1).1
                have := q2 (j - m * P.cellsOf e) (by omega)
                rw [Go.Deep.add_add, e1, show m * P.cellsOf e + (j - m * P.cellsOf e) = j by omega] at this
                exact ⟨v, this, e2⟩
          obtain ⟨_, hr⟩ := row len (Nat.le_refl _)
          refine ⟨[.sl true ((List.range len).map f).length ((List.range len).map f).flatten], .cons (.row true _ (fun h => by cases h) (fun xs h => ?_)) .nil, ?_, trivial⟩
          · obtain ⟨i, hi, rfl⟩ := List.mem_map.1 h
            exact (hf i (by simpa using hi)).1
          · have hlen : ((List.range len).map f).length = len := by simp
            rw [hlen]
            refine .sl len _ a cap (fun j => (w.cell? (a.add j)).getD Go.undef) hlc hcm (fun j y hy => ?_) (fun j y hy => ?_) (fun j y hy => ?_)
            · obtain ⟨v, e1, _⟩ := hr j y hy
              rw [e1]; rfl
            · obtain ⟨v, e1, _⟩ := hr j y hy
              have := frW_lt e1
              rwa [addr_block] at this
            · obtain ⟨v, e1, e2⟩ := hr j y hy
              rw [e1]; exact e2
      · cases h
    · rename_i fields ht
      obtain ⟨es, h1, h⟩ := Option.bind_eq_some_iff.1 h
      split at h
      · rename_i hc
        simp at h; subst h
        obtain ⟨xs, k, rfl, _, hcl, hxl, hg⟩ := DataW.trod_struct ht hx
        obtain ⟨ds, g1, g2⟩ := flat_fields (fun t fs h cs x hx => flat_trod n t fs h k cs x hx) (all := fields.toList) (xs := xs) (by simpa using hxl) (fun i f hf => hg i f (by simpa using hf)) fields.toList 0 0 es rfl h1
        refine ⟨ds, g1, ?_⟩
        rw [hc, ← hcl, List.drop_zero, List.take_length] at g2
        exact g2
      · cases h
    · cases h
end
/-- An argument opened: a value of one cell, or of a struct. -/
theorem open_flat {H : Type} {enc : TypeId × Value → H} {P : Program} {w : World} {base : Nat} {sp : Nat → Bool} {hd : Bool} {n : Nat} {t : TypeId} {fs : List Fl} {v : Value} {d : DataW H} {p : List MemPlace} (h : flat P n t = some fs) (hT : DataW.Trod enc P w base sp hd t v d p) : ∃ ds, FlL fs ds ∧ RelDL w (frW w) ds v.cells.toList := by
  obtain ⟨fuel, hf⟩ := hT
  exact flat_trod n t fs h fuel _ _ hf
theorem fl_rows {α : Type} {f : α → List D} {p : α → Prop} : ∀ {xss : List (List D)}, (∀ xs ∈ xss, ∃ x, xs = f x ∧ p x) → ∃ ys : List α, xss = ys.map f ∧ ∀ y ∈ ys, p y
  | [], _ => ⟨[], rfl, fun y h => by cases h⟩
  | xs :: xss, h => by
    obtain ⟨x, hx, hp⟩ := h xs (List.mem_cons_self ..)
    obtain ⟨ys, hy, hq⟩ := fl_rows (fun z hz => h z (List.mem_cons_of_mem _ hz))
    exact ⟨x :: ys, by rw [hx, hy]; rfl, fun y hy => by rcases List.mem_cons.1 hy with rfl | hy; exact hp; exact hq y hy⟩
/-- The row of an argument: its elements as 'f' says. -/
theorem fl_row {es : List Fl} {d : D} {α : Type} {f : α → List D} {p : α → Prop} (h : FlD (.row es) d) (hf : ∀ xs, FlL es xs → ∃ x, xs = f x ∧ p x) : ∃ (nn : Bool) (ys : List α), (nn = false → ys = []) ∧ (∀ y ∈ ys, p y) ∧ d = .sl nn ys.length (ys.flatMap f) := by
  cases h with
  | row nn xss h1 h2 =>
    obtain ⟨ys, rfl, hp⟩ := fl_rows (fun xs hx => hf xs (h2 xs hx))
    refine ⟨nn, ys, fun h => by simpa using h1 h, hp, ?_⟩
    rw [List.length_map, ← List.flatMap_def]
def wfI (z : Int) : Prop := -9223372036854775808 ≤ z ∧ z ≤ 9223372036854775807
theorem fl_i {d : D} (h : FlD (.i .i64) d) : ∃ z : Int, d = .i .i64 z ∧ wfI z := by
  cases h with
  | i h => exact ⟨_, rfl, bounds_i64 h⟩
theorem fl_s {d : D} (h : FlD .s d) : ∃ x : ByteArray, d = .s x ∧ x.size ≤ maxLen := by
  cases h with
  | s x h => exact ⟨_, rfl, h⟩
theorem fl_cons {e : Fl} {es : List Fl} {ds : List D} (h : FlL (e :: es) ds) : ∃ d us, ds = d :: us ∧ FlD e d ∧ FlL es us := by
  cases h with
  | cons a b => exact ⟨_, _, rfl, a, b⟩
theorem fl_nil {ds : List D} (h : FlL [] ds) : ds = [] := by cases h; rfl
theorem fl_i1 {xs : List D} (h : FlL [.i .i64] xs) : ∃ x : Int, xs = [.i .i64 x] ∧ wfI x := by
  obtain ⟨d0, _, rfl, h0, h⟩ := fl_cons h
  obtain rfl := fl_nil h
  obtain ⟨z0, rfl, w0⟩ := fl_i h0
  exact ⟨z0, rfl, w0⟩
theorem fl_i2 {xs : List D} (h : FlL [.i .i64, .i .i64] xs) : ∃ x : Int × Int, xs = [.i .i64 x.1, .i .i64 x.2] ∧ wfI x.1 ∧ wfI x.2 := by
  obtain ⟨d0, _, rfl, h0, h⟩ := fl_cons h
  obtain ⟨z1, rfl, w1⟩ := fl_i1 h
  obtain ⟨z0, rfl, w0⟩ := fl_i h0
  exact ⟨(z0, z1), rfl, w0, w1⟩
theorem fl_i3 {xs : List D} (h : FlL [.i .i64, .i .i64, .i .i64] xs) : ∃ x : Int × Int × Int, xs = [.i .i64 x.1, .i .i64 x.2.1, .i .i64 x.2.2] ∧ wfI x.1 ∧ wfI x.2.1 ∧ wfI x.2.2 := by
  obtain ⟨d0, _, rfl, h0, h⟩ := fl_cons h
  obtain ⟨z1, rfl, w1⟩ := fl_i2 h
  obtain ⟨z0, rfl, w0⟩ := fl_i h0
  exact ⟨(z0, z1), rfl, w0, w1⟩
theorem fl_i5 {xs : List D} (h : FlL [.i .i64, .i .i64, .i .i64, .i .i64, .i .i64] xs) : ∃ x : Int × Int × Int × Int × Int, xs = [.i .i64 x.1, .i .i64 x.2.1, .i .i64 x.2.2.1, .i .i64 x.2.2.2.1, .i .i64 x.2.2.2.2] ∧ wfI x.1 ∧ wfI x.2.1 ∧ wfI x.2.2.1 ∧ wfI x.2.2.2.1 ∧ wfI x.2.2.2.2 := by
  obtain ⟨d0, _, rfl, h0, h⟩ := fl_cons h
  obtain ⟨d1, _, rfl, h1, h⟩ := fl_cons h
  obtain ⟨z2, rfl, w2⟩ := fl_i3 h
  obtain ⟨z0, rfl, w0⟩ := fl_i h0
  obtain ⟨z1, rfl, w1⟩ := fl_i h1
  exact ⟨(z0, z1, z2), rfl, w0, w1, w2⟩
/-- The relation of an opened argument of one cell. -/
theorem rel_one {w : World} {d : D} {v : Value} (h : RelD w (frW w) d v) : RelA w (ghW w) w.heap.size (.v false [d.toC false]) v := ⟨_, rfl, RelC.toC (fresh := false) h⟩
theorem reld_len {w : World} {fr : Nat → Nat} {nn : Bool} {n : Nat} {cs : List D} {v : Value} (h : RelD w fr (.sl nn n cs) v) : n ≤ 9223372036854775807 := by
  have hm : maxLen ≤ 9223372036854775807 := by decide
  cases h with
  | nil => omega
  | sl _ _ a cap vs hn hc h1 h2 h3 => omega
end Go.Proofs.Ytpobimdcphjljaa
