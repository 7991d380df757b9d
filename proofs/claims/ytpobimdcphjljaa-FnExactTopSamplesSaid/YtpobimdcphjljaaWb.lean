/-
  Samples whose rows of labels are blocks of their own.
-/
import Derived.Test.YtpobimdcphjljaaWa
import Derived.Test.YtpobimdcphjljaaGa
import Derived.Test.YtpobimdcphjljaaGb
namespace Go.Proofs.Ytpobimdcphjljaa
open Go
set_option linter.unusedVariables false
set_option linter.unusedSimpArgs false
set_option linter.unnecessarySimpa false
set_option maxRecDepth 4000

/-- A sample, the block of its labels, and how many that has room for. -/
abbrev E := samT × Nat × Nat
def slV (nn : Bool) (b n c : Nat) : Value := if nn = true then .slice (some ⟨b, 0, none⟩) n c else .slice none 0 0
def eV (e : E) : List Value := [slV e.1.1 e.2.1 e.1.2.1.length e.2.2, .int .i64 e.1.2.2]
def labV (ls : List labT) : List Value := ls.flatMap fun l => [.string l.1, .string l.2]
theorem eV_len (e : E) : (eV e).length = 2 := rfl
structure RowAt (w : World) (b c : Nat) (T : TypeId) (n : Nat) (vs : List Value) : Prop where
  row : ∃ cur : Array Value, w.heap[b]? = some (.cells cur T (0, 0)) ∧ n ≤ c ∧ c ≤ maxLen ∧ cur.size = c * 2 ∧ cur.toList.take (n * 2) = vs
theorem RowAt.lt {w : World} {b c n : Nat} {T : TypeId} {vs : List Value} (h : RowAt w b c T n vs) : b < w.heap.size := by
  obtain ⟨cur, h1, _⟩ := h.row
  exact (Array.getElem?_eq_some_iff.1 h1).1
theorem RowAt.kp {w w' : World} {b c n : Nat} {T : TypeId} {vs : List Value} {X : Nat → Prop} (h : RowAt w b c T n vs) (k : Kp w w' X) (hx : ¬ X b) : RowAt w' b c T n vs := by
  have hlt := h.lt
  obtain ⟨cur, h1, h2⟩ := h.row
  exact ⟨cur, (k.keep b hlt hx).trans h1, h2⟩
theorem RowAt.ne {w : World} {b c n b' c' n' : Nat} {T T' : TypeId} {vs vs' : List Value} (h : RowAt w b c T n vs) (k : RowAt w b' c' T' n' vs') (hT : T ≠ T') : b ≠ b' := by
  rintro rfl
  obtain ⟨cur, h1, _⟩ := h.row
  obtain ⟨cur', h2, _⟩ := k.row
  rw [h1] at h2
  injection h2 with h2
  injection h2 with _ h2
  exact hT h2
def InOk (w : World) (e : E) : Prop := (e.1.1 = false → e.1.2.1 = []) ∧ (e.1.1 = true → RowAt w e.2.1 e.2.2 61 e.1.2.1.length (labV e.1.2.1))
structure DeepB (w : World) (lo b c : Nat) (es : List E) : Prop where
  row : RowAt w b c 31 es.length (es.flatMap eV)
  inn : ∀ e ∈ es, InOk w e
  lob : lo ≤ b
  los : ∀ e ∈ es, e.1.1 = true → lo ≤ e.2.1
  dist : es.Pairwise fun e e' => e.1.1 = true → e'.1.1 = true → e.2.1 ≠ e'.2.1
/-- The blocks of such a row. -/
def DeepX (b : Nat) (es : List E) : Nat → Prop := fun q => q = b ∨ ∃ e ∈ es, e.1.1 = true ∧ q = e.2.1
theorem DeepB.kp {w w' : World} {lo b c : Nat} {es : List E} {X : Nat → Prop} (h : DeepB w lo b c es) (k : Kp w w' X) (hx : ∀ q, DeepX b es q → ¬ X q) : DeepB w' lo b c es :=
  ⟨h.row.kp k (hx b (.inl rfl)), fun e he => ⟨(h.inn e he).1, fun ht => ((h.inn e he).2 ht).kp k (hx _ (.inr ⟨e, he, ht, rfl⟩))⟩, h.lob, h.los, h.dist⟩
theorem DeepB.x_lo {w : World} {lo b c : Nat} {es : List E} (h : DeepB w lo b c es) {q : Nat} (hq : DeepX b es q) : lo ≤ q ∧ q < w.heap.size := by
  rcases hq with rfl | ⟨e, he, ht, rfl⟩
  · exact ⟨h.lob, h.row.lt⟩
  · exact ⟨h.los e he ht, ((h.inn e he).2 ht).lt⟩
theorem DeepB.outer {w : World} {lo b c : Nat} {es : List E} (h : DeepB w lo b c es) {e : E} (he : e ∈ es) (ht : e.1.1 = true) : e.2.1 ≠ b :=
  fun hb => (h.row.ne ((h.inn e he).2 ht) (by decide)) hb.symm
def DeepV (w : World) (lo : Nat) (V : Value) (nn : Bool) (es : List E) : Prop :=
  (nn = false ∧ V = .slice none 0 0 ∧ es = []) ∨ (nn = true ∧ ∃ b c, V = .slice (some ⟨b, 0, none⟩) es.length c ∧ DeepB w lo b c es)
/-! ### Seen as data that are only read -/
theorem frW_cell {w : World} {b : Nat} {cur : Array Value} {T : TypeId} (h : w.heap[b]? = some (.cells cur T (0, 0))) : frW w b = cur.size := by unfold frW; rw [h]
theorem rowView {w : World} {lo b c n : Nat} {T : TypeId} {vs : List Value} {ds : List D} (h : RowAt w b c T n vs) (hb : lo ≤ b) (hd : ∀ (j : Nat) (d : D), ds[j]? = some d → ∃ v, vs[j]? = some v ∧ RelD w (frI (frW w) lo w.heap.size) d v) : RelD w (frI (frW w) lo w.heap.size) (.sl true n ds) (.slice (some ⟨b, 0, none⟩) n c) := by
  have hlt := h.lt
  obtain ⟨cur, h1, h2, h3, h4, h5⟩ := h.row
  have get : ∀ j d, ds[j]? = some d → ∃ v, cur[j]? = some v ∧ RelD w (frI (frW w) lo w.heap.size) d v := fun j d hj => by
    obtain ⟨v, e1, e2⟩ := hd j d hj
    rw [← h5, List.getElem?_take] at e1
    split at e1
    · exact ⟨v, by simpa using e1, e2⟩
    · cases e1
  refine .sl n ds _ c (fun j => cur.getD j Go.undef) h2 h3 (fun j d hj => ?_) (fun j d hj => ?_) (fun j d hj => ?_)
  · obtain ⟨v, e1, _⟩ := get j d hj
    rw [add_none]
    simp [World.cell?, h1, e1]
  · obtain ⟨v, e1, _⟩ := get j d hj
    rw [add_none]
    show 0 + j < frI (frW w) lo w.heap.size b
    unfold frI
    rw [if_pos ⟨hb, hlt⟩, frW_cell h1]
    have := (Array.getElem?_eq_some_iff.1 e1).1
    omega
  · obtain ⟨v, e1, e2⟩ := get j d hj
    have : cur.getD j Go.undef = v := by rw [Array.getD_eq_getD_getElem?, e1]; rfl
    rw [this]; exact e2
theorem labView {w : World} {f : Nat → Nat} : ∀ {ls : List labT} (j : Nat) (d : D), (ls.flatMap labD)[j]? = some d → ∃ v, (labV ls)[j]? = some v ∧ RelD w f d v
  | [], j, d, h => by simp at h
  | l :: ls, 0, d, h => by
    simp [labD] at h; subst h
    exact ⟨_, rfl, .s _⟩
  | l :: ls, 1, d, h => by
    simp [labD] at h; subst h
    exact ⟨_, rfl, .s _⟩
  | l :: ls, j + 2, d, h => by
    obtain ⟨v, h1, h2⟩ := labView (ls := ls) j d (by simpa [labD] using h)
    exact ⟨v, by simpa [labV] using h1, h2⟩
theorem inView {w : World} {lo : Nat} {e : E} (h : InOk w e) (hl : e.1.1 = true → lo ≤ e.2.1) : RelD w (frI (frW w) lo w.heap.size) (.sl e.1.1 e.1.2.1.length (e.1.2.1.flatMap labD)) (slV e.1.1 e.2.1 e.1.2.1.length e.2.2) := by
  unfold slV
  cases hn : e.1.1 with
  | false =>
    rw [h.1 hn]; exact .nil
  | true => exact rowView (h.2 hn) (hl hn) fun j d hj => labView j d hj
theorem eView {w : World} {lo : Nat} : ∀ {es : List E}, (∀ e ∈ es, InOk w e) → (∀ e ∈ es, e.1.1 = true → lo ≤ e.2.1) → ∀ (j : Nat) (d : D), ((es.map (·.1)).flatMap samD)[j]? = some d → ∃ v, (es.flatMap eV)[j]? = some v ∧ RelD w (frI (frW w) lo w.heap.size) d v
  | [], _, _, j, d, h => by simp at h
  | e :: es, h1, h2, 0, d, h => by
    simp [samD] at h; subst h
    exact ⟨_, rfl, inView (h1 e (List.mem_cons_self ..)) (h2 e (List.mem_cons_self ..))⟩
  | e :: es, h1, h2, 1, d, h => by
    simp [samD] at h; subst h
    exact ⟨_, rfl, .i _ _⟩
  | e :: es, h1, h2, j + 2, d, h => by
    obtain ⟨v, k1, k2⟩ := eView (es := es) (fun x hx => h1 x (List.mem_cons_of_mem _ hx)) (fun x hx => h2 x (List.mem_cons_of_mem _ hx)) j d (by simpa [samD] using h)
    exact ⟨v, by simpa [eV] using k1, k2⟩
theorem DeepB.view {w : World} {lo b c : Nat} {es : List E} (h : DeepB w lo b c es) : RelD w (frI (frW w) lo w.heap.size) (.sl true es.length ((es.map (·.1)).flatMap samD)) (.slice (some ⟨b, 0, none⟩) es.length c) :=
  rowView h.row h.lob fun j d hj => eView h.inn h.los j d hj
theorem DeepV.view {w : World} {lo : Nat} {V : Value} {nn : Bool} {es : List E} (h : DeepV w lo V nn es) : RelD w (frI (frW w) lo w.heap.size) (.sl nn es.length ((es.map (·.1)).flatMap samD)) V := by
  rcases h with ⟨rfl, rfl, rfl⟩ | ⟨rfl, b, c, rfl, h⟩
  · exact .nil
  · exact h.view
/-! ### As a row of one's own whose cells are known -/
def rawD (vs : List Value) : List D := vs.map D.raw
theorem rawL {w : World} {g : Gh} {base : Nat} {f : Bool} : ∀ {vs : List Value}, (∀ v ∈ vs, v.oneCell' = true) → RelL w g base ((rawD vs).map (D.toC f)) vs
  | [], _ => trivial
  | v :: vs, h => ⟨⟨h v (List.mem_cons_self ..), rfl⟩, rawL fun x hx => h x (List.mem_cons_of_mem _ hx)⟩
theorem rawL_eq {w : World} {g : Gh} {base : Nat} {f : Bool} : ∀ {vs us : List Value}, RelL w g base ((rawD vs).map (D.toC f)) us → us = vs
  | [], [], _ => rfl
  | [], _ :: _, h => h.elim
  | _ :: _, [], h => h.elim
  | v :: vs, u :: us, h => by rw [h.1.2, rawL_eq h.2]
theorem relL_split {w : World} {g : Gh} {base : Nat} : ∀ {cs cs' : List C} {us : List Value}, RelL w g base (cs ++ cs') us → ∃ u1 u2, us = u1 ++ u2 ∧ RelL w g base cs u1 ∧ RelL w g base cs' u2
  | [], cs', us, h => ⟨[], us, rfl, trivial, h⟩
  | c :: cs, cs', [], h => h.elim
  | c :: cs, cs', u :: us, h => by
    obtain ⟨u1, u2, e, h1, h2⟩ := relL_split (cs := cs) h.2
    exact ⟨u :: u1, u2, by rw [e]; rfl, ⟨h.1, h1⟩, h2⟩
theorem slV_one (nn : Bool) (b n c : Nat) : (slV nn b n c).oneCell' = true := by unfold slV; split <;> rfl
theorem eV_one (es : List E) : ∀ v ∈ es.flatMap eV, v.oneCell' = true := by
  intro v hv
  obtain ⟨e, _, hv⟩ := List.mem_flatMap.1 hv
  simp [eV] at hv
  rcases hv with rfl | rfl
  · exact slV_one _ _ _ _
  · rfl
/-- A new element: its labels in a block that was not there before. -/
theorem new_el {w : World} {f : Nat → Nat} {base tag : Nat} {nn : Bool} {ls : List labT} {x : Int} {v : Value} (h : RelD w (frOf true base f) (.wh nn ls.length 2 61 (labV ls) tag) v) : ∃ e : E, e.1 = (nn, ls, x) ∧ v = slV nn e.2.1 ls.length e.2.2 ∧ InOk w e ∧ (nn = true → base ≤ e.2.1 ∧ f e.2.1 = tag) := by
  generalize hn : ls.length = n at h
  generalize hv : labV ls = vs at h
  cases h with
  | whn sz T tag =>
    have : ls = [] := List.eq_nil_of_length_eq_zero hn
    subst this
    exact ⟨((false, [], x), 0, 0), rfl, rfl, ⟨fun _ => rfl, fun e => by cases e⟩, fun e => by cases e⟩
  | wh n sz T xs tag b cap cur hh ht hf hc1 hc2 hs hx =>
    refine ⟨((true, ls, x), b, cap), rfl, ?_, ⟨(fun e => by cases e), fun _ => ⟨cur, hh, by rw [hn]; exact hc1, hc2, hs, ?_⟩⟩, fun _ => ?_⟩
    · unfold slV; rw [if_pos rfl]
    · show cur.toList.take (ls.length * 2) = labV ls
      rw [hn, hv]; exact hx
    · unfold frOf restr at hf
      simp only [if_true] at hf
      split at hf
      · omega
      · exact ⟨by show base ≤ b; omega, hf⟩
/-- A row whose elements are samples with tags, or as they were made. -/
def wT : Option (samT × Nat) → List D
  | none => [.sl false 0 [], .i .i64 0]
  | some p => [.wh p.1.1 p.1.2.1.length 2 61 (labV p.1.2.1) p.2, .i .i64 p.1.2.2]
theorem wT_len (p : Option (samT × Nat)) : (wT p).length = 2 := by cases p <;> rfl
def tagR (ys : List samT) : List (Option (samT × Nat)) := (ys.zipIdx 1).map some
theorem tagR_len (ys : List samT) : (tagR ys).length = ys.length := by simp [tagR]
theorem tagR_at (ys : List samT) (i : Nat) (h : i < (tagR ys).length) : (tagR ys)[i] = some (ys[i]'(by rw [tagR_len] at h; exact h), 1 + i) := by simp [tagR]
theorem tagR_snoc (ys : List samT) (y : samT) : tagR (ys ++ [y]) = tagR ys ++ [some (y, 1 + ys.length)] := by simp [tagR, List.zipIdx_append]
theorem deep_of {w : World} {g : Gh} {base : Nat} : ∀ {ps : List (samT × Nat)} {us : List Value}, RelL w g base (((ps.map some).flatMap wT).map (D.toC true)) us → ∃ es : List E, es.map (·.1) = ps.map (·.1) ∧ us = es.flatMap eV ∧ (∀ e ∈ es, InOk w e ∧ (e.1.1 = true → base ≤ e.2.1)) ∧ ∀ (j : Nat) (e : E) (p : samT × Nat), es[j]? = some e → ps[j]? = some p → e.1.1 = true → g.fr e.2.1 = p.2
  | [], [], _ => ⟨[], rfl, rfl, (fun e h => by cases h), fun j e p h => by simp at h⟩
  | [], _ :: _, h => h.elim
  | p :: ps, [], h => h.elim
  | p :: ps, [_], h => h.2.elim
  | p :: ps, v1 :: v2 :: us, h => by
    obtain ⟨es, e1, e2, e3, e4⟩ := deep_of (ps := ps) h.2.2
    have h1 : RelD w (frOf true base g.fr) (.wh p.1.1 p.1.2.1.length 2 61 (labV p.1.2.1) p.2) v1 := h.1
    have h2 : v2 = .int .i64 p.1.2.2 := h.2.1
    obtain ⟨e, ee, ev, ei, en⟩ := new_el (x := p.1.2.2) h1
    refine ⟨e :: es, by rw [List.map_cons, List.map_cons, e1, ee], ?_, fun x hx => ?_, fun j x q hj hq ht => ?_⟩
    · rw [List.flatMap_cons, ← e2, h2, ev]; unfold eV; rw [ee]; rfl
    · rcases List.mem_cons.1 hx with rfl | hx
      · exact ⟨ei, fun ht => (en (by rw [ee] at ht; exact ht)).1⟩
      · exact e3 x hx
    · cases j with
      | zero =>
        simp at hj hq
        subst hj hq
        exact (en (by rw [ee] at ht; exact ht)).2
      | succ j => exact e4 j x q (by simpa using hj) (by simpa using hq) ht
theorem cells_sam : Try.prog.cellsOf 31 = 2 := by kernel_rfl
theorem cells_lab : Try.prog.cellsOf 61 = 2 := by kernel_rfl
/-- An own row as the evaluator has it. -/
theorem res_row {w : World} {g : Gh} {base r n : Nat} {f : Bool} {ds : List D} (h : ResOk Try.prog w g base r (.arr 31 f true n ds)) : g.born r ∧ g.fr (g.gb r) = 0 ∧ ∃ us, RelL w g base (ds.map (D.toC f)) us ∧ RowAt w (g.gb r) (g.gc r) 31 n us := by
  obtain ⟨h1, _, h2⟩ := h
  simp only [if_true] at h2
  obtain ⟨q1, cur, q2, q3, q4, q5, q6⟩ := h2
  rw [cells_sam] at q5 q6
  exact ⟨h1, q1, _, q6, cur, q2, q3, q4, q5, rfl⟩
/-- A function's result: samples with tags. -/
theorem deepB_of {w : World} {g : Gh} {base r : Nat} {ys : List samT} (h : ResOk Try.prog w g base r (.arr 31 true true ys.length ((tagR ys).flatMap wT))) (hb : base ≤ g.gb r) : ∃ es, es.map (·.1) = ys ∧ DeepB w base (g.gb r) (g.gc r) es := by
  obtain ⟨_, _, us, hus, hrow⟩ := res_row h
  obtain ⟨es, e1, e2, e3, e4⟩ := deep_of hus
  have hm : es.map (·.1) = ys := by rw [e1]; simp
  have hl : es.length = ys.length := by rw [← hm, List.length_map]
  refine ⟨es, hm, ⟨by rw [hl, ← e2]; exact hrow, fun e he => (e3 e he).1, hb, fun e he => (e3 e he).2, ?_⟩⟩
  rw [List.pairwise_iff_getElem]
  intro p q hp hq hpq t1 t2 he
  have k1 := e4 p es[p] (ys[p]'(by omega), 1 + p) (List.getElem?_eq_getElem hp) (by simp [hl ▸ hp]) t1
  have k2 := e4 q es[q] (ys[q]'(by omega), 1 + q) (List.getElem?_eq_getElem hq) (by simp [hl ▸ hq]) t2
  rw [he] at k1
  rw [k1] at k2
  dsimp only at k2
  omega
/-! ### New rows of labels, frozen whole -/
theorem labV_lit : ∀ ls : List labT, (ls.flatMap labD).map litD = (labV ls).map some
  | [] => rfl
  | l :: ls => by
    have := labV_lit ls
    simp only [List.flatMap_cons, List.map_append, labV] at this ⊢
    rw [this]; rfl
theorem icopyLabels_wh (nn : Bool) (ls : List labT) (t : Nat) (hl : ls.length ≤ 1048576) (hnn : nn = false → ls = []) (ht : 0 < t) : FnOk Try.prog noG 37 [.v false [.sl false nn ls.length (ls.flatMap labD)]] [] (.v false [.wh true (dec0 ls) ls.length 2 61 (labV ls) t]) [] := by
  have hfl := flat_len labD 2 labD_len ls
  refine FnOk.frzT (tg := fun _ => t) (res := .v false [.own (dec0 ls) 0 ls.length]) (outs := [labR (dec0 ls) ls]) ?_ (.v (.cons (.ownW rfl cells_lab (labV_lit ls) rfl ht) .nil))
  refine FnOk.fre (outs := [.arr 61 false (dec0 ls) ls.length (ls.flatMap labD)]) ?_ (.cons (.arr (scalL ls)) .nil)
  refine fnOk_of' (k := 0) tyOk Try.func37 rfl (by kernel_rfl) Try.ntmps37 (by rw [Try.results37]) rfl (by simp only [List.length_cons, List.length_nil, Nat.reduceAdd, Nat.reduceSub, List.replicate_succ, List.replicate_zero, List.cons_append, List.nil_append]; rfl) (by simp) (by simp) (fun r hr => by simp at hr) fun base => ?_
  refine AW.seq ?_
  refine AW.region ?_
  first
    | refine ao0 (em_assign (by rfl) (by rfl)) (by rfl) (by rfl) ?_
    | refine ao0 (em_assignG (by rfl) (by rfl)) (by rfl) (by rfl) ?_
    | refine ao0 (sem_move (.inr (by rfl))) (by rfl) (by rfl) ?_
  refine ao_nil (by first | dsimp only [setO, setE] | rfl) (by first | dsimp only [setM, setE, setR] | rfl) (by rfl) ?_
  refine AW.seq ?_
  refine AW.region ?_
  first
    | refine ao0 (em_move (by rfl) (by rfl)) (by rfl) (by rfl) ?_
    | refine ao0 (em_moveG (by rfl) (by rfl)) (by rfl) (by rfl) ?_
    | refine ao0 (sem_move (.inl (by rfl))) (by rfl) (by rfl) ?_
  first
    | refine ao_append_nil tyOk (by rfl) (by rfl) (by rfl) (by rfl) (by rfl) (by rfl) (by rfl) (.inl ⟨_, _, rfl⟩) (fun r hr => by cases hr) (by rfl) (by first | rfl | exact sliceOf_own (by rfl)) (by first | rfl | decide | (simp; done) | omega) (by first | decide | omega | (unfold maxLen; omega)) (by first | decide | omega | (dsimp only; omega)) (by first | omega | exact Nat.le_of_ble_eq_true rfl) ?_
    | refine ao_append_own tyOk (by rfl) (by rfl) (by rfl) (by rfl) (by rfl) (by rfl) (by rfl) (by rfl) (by rfl) (by rfl) (by first | rfl | exact sliceOf_own (by rfl)) (by first | rfl | decide | (simp; done) | omega) (by first | decide | omega | (unfold maxLen; omega)) (by first | decide | omega | (dsimp only; omega)) (by first | omega | exact Nat.le_of_ble_eq_true rfl) (by first | omega | exact Nat.le_of_ble_eq_true rfl) ?_
    | refine ao_append_any tyOk (by rfl) (by rfl) (by rfl) (by rfl) (by rfl) (by rfl) (by rfl) (by rfl) (by rfl) (by rfl) (by first | rfl | exact sliceOf_own (by rfl)) (by first | rfl | decide | (simp; done) | omega) (by first | decide | omega | (unfold maxLen; omega)) (by first | decide | omega | (dsimp only; omega)) (by first | omega | exact Nat.le_of_ble_eq_true rfl) (by first | omega | exact Nat.le_of_ble_eq_true rfl) (by first | (simp only [Nat.zero_lt_one, decide_true, Bool.or_true]; rfl) | rfl) ?_
  first
    | refine ao0 (em_assign (by rfl) (by rfl)) (by rfl) (by rfl) ?_
    | refine ao0 (em_assignG (by rfl) (by rfl)) (by rfl) (by rfl) ?_
    | refine ao0 (sem_move (.inr (by rfl))) (by rfl) (by rfl) ?_
  refine ao_nil (by first | dsimp only [setO, setE] | rfl) (by first | dsimp only [setM, setE, setR] | rfl) (by rfl) ?_
  refine AW.ret ?_
  refine retA_own (n := 0) [0] (by rfl) ?_ ?_ rfl (by simp) (by rfl) (by rfl) (by rfl) (by rfl) (by simp) _ (.inr rfl)
  · exact ⟨le_arr (by rfl) (by rfl) (by rfl) (by rfl), trivial⟩
  · exact le_own (by rfl) (by rfl) (by rfl)
theorem toSample_wh (x : samT) (t : Nat) (hl : x.2.1.length ≤ 1048576) (hnn : x.1 = false → x.2.1 = []) (ht : 0 < t) : FnOk Try.prog noG 44 [.v true (samC false x)] [] (.v true [.wh true true x.2.1.length 2 61 (labV x.2.1) t, .i .i64 x.2.2]) [] :=
  (toSample_own x hl hnn).frzT (tg := fun _ => t) (.v (.cons (.ownW rfl cells_lab (labV_lit _) rfl ht) (.cons (.same rfl) .nil)))
end Go.Proofs.Ytpobimdcphjljaa
