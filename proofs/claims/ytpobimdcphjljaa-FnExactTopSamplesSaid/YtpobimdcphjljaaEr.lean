/-
  Regions that draw their order: every order comes to what the text's order comes to, where operations that touch the same memory wait for each other.
-/
import Derived.Test.YtpobimdcphjljaaEz
import Derived.StillTail
namespace Go.Proofs.Ytpobimdcphjljaa
open Go

/-! ### What waits for what -/
def mask (acc : List Nat) (o : Oper) : Nat := o.after.toList.foldl (fun s e => if Region.binds .any e then s ||| 2 ^ e.on ||| acc.getD e.on 0 else s) 0
def clo : List Oper → List Nat → List Nat
  | [], acc => acc
  | o :: os, acc => clo os (acc ++ [mask acc o])
def Closed (ops : List Oper) (L : Nat → Prop) : Prop := ∀ j o, ops[j]? = some o → L j → ∀ e ∈ o.after, Region.binds .any e = true → L e.on
/-- Whoever may run j has run i. -/
def Must (ops : List Oper) (j i : Nat) : Prop := ∀ L, Closed ops L → (∀ o, ops[j]? = some o → ∀ e ∈ o.after, Region.binds .any e = true → L e.on) → L i
theorem mask_bits (acc : List Nat) (i : Nat) : ∀ (es : List Edge) (s : Nat), (es.foldl (fun s e => if Region.binds .any e then s ||| 2 ^ e.on ||| acc.getD e.on 0 else s) s).testBit i = true → s.testBit i = true ∨ ∃ e ∈ es, Region.binds .any e = true ∧ (e.on = i ∨ (acc.getD e.on 0).testBit i = true)
  | [], s, h => .inl h
  | e :: es, s, h => by
    rw [List.foldl_cons] at h
    rcases mask_bits acc i es _ h with h1 | ⟨e', h1, h2⟩
    · split at h1
      · rename_i hb
        rw [Nat.testBit_or, Nat.testBit_or, Nat.testBit_two_pow] at h1
        simp only [Bool.or_eq_true, decide_eq_true_eq] at h1
        rcases h1 with (h1 | h1) | h1
        · exact .inl h1
        · exact .inr ⟨e, List.mem_cons_self .., hb, .inl h1⟩
        · exact .inr ⟨e, List.mem_cons_self .., hb, .inr h1⟩
      · exact .inl h1
    · exact .inr ⟨e', List.mem_cons_of_mem _ h1, h2⟩
theorem clo_must (all : List Oper) : ∀ (os pre : List Oper) (acc : List Nat), all = pre ++ os → acc.length = pre.length → (∀ j i, (acc.getD j 0).testBit i = true → Must all j i) → ∀ j i, ((clo os acc).getD j 0).testBit i = true → Must all j i
  | [], pre, acc, _, _, h => h
  | o :: os, pre, acc, hall, hlen, h => by
    refine clo_must all os (pre ++ [o]) (acc ++ [mask acc o]) (by simp [hall]) (by simp [hlen]) fun j i hb => ?_
    by_cases hj : j < acc.length
    · refine h j i ?_
      rwa [List.getD_eq_getElem?_getD, List.getElem?_append_left hj, ← List.getD_eq_getElem?_getD] at hb
    · by_cases hj2 : j = acc.length
      · subst hj2
        rw [List.getD_eq_getElem?_getD, List.getElem?_append_right (Nat.le_refl _)] at hb
        simp at hb
        intro L hc hw
        have ho : all[acc.length]? = some o := by rw [hall, hlen]; simp
        rcases mask_bits acc i _ _ hb with h1 | ⟨e, he, hbe, h2⟩
        · simp at h1
        · have hL := hw o ho e (by simpa using he) hbe
          rcases h2 with rfl | h2
          · exact hL
          · exact h e.on i h2 L hc fun o' ho' e' he' hb' => hc e.on o' ho' hL e' he' hb'
      · rw [List.getD_eq_getElem?_getD, List.getElem?_eq_none (by simp; omega)] at hb
        simp at hb
theorem reach_must {ops : List Oper} {j i : Nat} (h : ((clo ops []).getD j 0).testBit i = true) : Must ops j i :=
  clo_must ops ops [] [] rfl rfl (fun j i h => by simp at h) j i h

/-! ### The checks -/
def looks (ops : List Oper) (o : Oper) : List Nat := (o.op.operands.toList.filterMap fun | .tmp t => some t | _ => none) ++ (match guardT ops o with | some (some d, _) => [d] | _ => [])
def statB (ops : List Oper) : Bool :=
  let tb := clo ops []
  (List.range ops.length).all fun j => match ops[j]? with
    | none => true
    | some o => (o.after.toList.all fun e => !Region.binds .any e || decide (e.on < j)) && (List.range ops.length).all fun i => match ops[i]? with
      | none => true
      | some o' => match o'.dst with
        | none => true
        | some d => (i == j || o.dst != some d) && (!(looks ops o).contains d || ((decide (i < j) && (tb.getD j 0).testBit i) || (decide (j < i) && (tb.getD i 0).testBit j)))
structure StatOk (ops : List Oper) : Prop where
  back : ∀ (j : Nat) (o : Oper), ops[j]? = some o → ∀ e ∈ o.after, Region.binds .any e = true → e.on < j
  dst : ∀ (j : Nat) (o : Oper) (i : Nat) (o' : Oper) (d : Nat), ops[j]? = some o → ops[i]? = some o' → i ≠ j → o'.dst = some d → o.dst ≠ some d
  looks : ∀ (j : Nat) (o : Oper) (i : Nat) (o' : Oper) (d : Nat), ops[j]? = some o → ops[i]? = some o' → o'.dst = some d → d ∈ looks ops o → (i < j ∧ Must ops j i) ∨ (j < i ∧ Must ops i j)
theorem statOk {ops : List Oper} (h : statB ops = true) : StatOk ops := by
  unfold statB at h
  have hlt : ∀ {j o}, ops[j]? = some o → j < ops.length := fun h => (List.getElem?_eq_some_iff.1 h).1
  have row := fun j o (ho : ops[j]? = some o) => by
    have := List.all_eq_true.1 h j (List.mem_range.2 (hlt ho))
    rw [ho] at this
    simp only [Bool.and_eq_true] at this
    exact this
  have cell := fun (j : Nat) (o : Oper) (i : Nat) (o' : Oper) (d : Nat) (ho : ops[j]? = some o) (ho' : ops[i]? = some o') (hd : o'.dst = some d) => by
    have := List.all_eq_true.1 (row j o ho).2 i (List.mem_range.2 (hlt ho'))
    rw [ho'] at this
    simp only [hd, Bool.and_eq_true, Bool.or_eq_true, Bool.not_eq_true', beq_iff_eq, bne_iff_ne, decide_eq_true_eq] at this
    exact this
  refine ⟨fun j o ho e he hb => ?_, fun j o i o' d ho ho' hne hd => ?_, fun j o i o' d ho ho' hd hm => ?_⟩
  · have := List.all_eq_true.1 (row j o ho).1 e (by simpa using he)
    simpa [hb] using this
  · rcases (cell j o i o' d ho ho' hd).1 with h1 | h1
    · exact absurd h1 hne
    · exact h1
  · rcases (cell j o i o' d ho ho' hd).2 with h1 | h1
    · rw [List.contains_eq_mem] at h1
      simp [hm] at h1
    · rcases h1 with h1 | h1
      · exact .inl ⟨h1.1, reach_must h1.2⟩
      · exact .inr ⟨h1.1, reach_must h1.2⟩
def wrI (r : Rec) : List Nat := r.ups.map (·.1)
def tcI (r : Rec) : List Nat := r.ft.map (·.1) ++ List.range' r.nid r.cnt
def confl (r r' : Rec) : Bool := (wrI r).any (fun q => (tcI r').contains q) || (wrI r').any (fun q => (tcI r).contains q)
def confB (tb : List Nat) (recs : List Rec) : Bool :=
  (List.range recs.length).all fun j => match recs[j]? with
    | none => true
    | some r => (List.range j).all fun i => match recs[i]? with
      | none => true
      | some r' => !(confl r r') || (tb.getD j 0).testBit i
theorem confOk {ops : List Oper} {recs : List Rec} (h : confB (clo ops []) recs = true) {i j : Nat} {r r' : Rec} (hj : recs[j]? = some r) (hi : recs[i]? = some r') (hij : i < j) {q : Nat} (hq : (q ∈ wrI r ∧ q ∈ tcI r') ∨ (q ∈ wrI r' ∧ q ∈ tcI r)) : Must ops j i := by
  unfold confB at h
  have h1 := List.all_eq_true.1 h j (List.mem_range.2 (List.getElem?_eq_some_iff.1 hj).1)
  rw [hj] at h1
  have h2 := List.all_eq_true.1 h1 i (List.mem_range.2 hij)
  rw [hi] at h2
  simp only [Bool.or_eq_true, Bool.not_eq_true'] at h2
  rcases h2 with h2 | h2
  · exfalso
    have : confl r r' = true := by
      unfold confl
      rw [Bool.or_eq_true]
      rcases hq with ⟨a, b⟩ | ⟨a, b⟩
      · exact .inl (List.any_eq_true.2 ⟨q, a, by simpa using b⟩)
      · exact .inr (List.any_eq_true.2 ⟨q, a, by simpa using b⟩)
    rw [this] at h2; cases h2
  · exact reach_must h2

/-! ### The trace of the text's order -/
def stAt : List Oper → List Rec → St → Nat → St
  | o :: os, r :: rs, s, j + 1 => stAt os rs (s.app o r.v r.ups) j
  | _, _, s, _ => s
def nAt : List Rec → Nat → Nat → Nat
  | r :: rs, n, j + 1 => nAt rs (n + r.cnt) j
  | _, n, _ => n
structure StepOk (P : Program) (G : Nat → Option (List D)) (base k nt : Nat) (ops : List Oper) (o : Oper) (s : St) (n : Nat) (r : Rec) : Prop where
  dst : ∀ d, o.dst = some d → d < nt
  nid : r.nid = n
  on : wantA ops s.t o = some r.on
  step : r.on = true → AStep P G base k o s r.v r.ups r.ft r.nid r.cnt
  off : r.on = false → r.ups = [] ∧ ∀ w g, RelA w g base r.v Go.undef
theorem aops_trace {P : Program} {G : Nat → Option (List D)} {base k nt : Nat} {ops : List Oper} {K : St → Nat → List Rec → Prop} : ∀ (rest : List Oper) (s : St) (n : Nat) (acc : List Rec), aops P G base k nt ops rest s n acc K →
    ∃ recs, recs.length = rest.length ∧ (∀ j o r, rest[j]? = some o → recs[j]? = some r → StepOk P G base k nt ops o (stAt rest recs s j) (nAt recs n j) r) ∧ K (stAt rest recs s rest.length) (nAt recs n rest.length) (acc ++ recs)
  | [], s, n, acc, h => ⟨[], rfl, (fun j o r ho => by simp at ho), by rw [List.append_nil]; exact h⟩
  | o :: rest, s, n, acc, h => by
    unfold aops at h
    obtain ⟨hd, e, v, ups, ft, cnt, hw, h1, h0, h2⟩ := h
    have key : ∀ r : Rec, StepOk P G base k nt ops o s n r → aops P G base k nt ops rest (s.app o r.v r.ups) (n + r.cnt) (acc ++ [r]) K → ∃ recs, recs.length = (o :: rest).length ∧ (∀ j o' r, (o :: rest)[j]? = some o' → recs[j]? = some r → StepOk P G base k nt ops o' (stAt (o :: rest) recs s j) (nAt recs n j) r) ∧ K (stAt (o :: rest) recs s (o :: rest).length) (nAt recs n (o :: rest).length) (acc ++ recs) := by
      intro r hr h2
      obtain ⟨recs, e1, e2, e3⟩ := aops_trace rest _ _ _ h2
      refine ⟨r :: recs, by simp [e1], fun j o' r' ho hr' => ?_, ?_⟩
      · cases j with
        | zero => simp at ho hr'; subst ho hr'; exact hr
        | succ j => exact e2 j o' r' (by simpa using ho) (by simpa using hr')
      · simpa [stAt, nAt] using e3
    exact key ⟨e, v, ups, ft, n, cnt⟩ ⟨hd, rfl, hw, h1, h0⟩ h2
theorem stAt_succ : ∀ (ops : List Oper) (recs : List Rec) (s : St) (j : Nat) (o : Oper) (r : Rec), ops[j]? = some o → recs[j]? = some r → stAt ops recs s (j + 1) = (stAt ops recs s j).app o r.v r.ups
  | o' :: os, r' :: rs, s, 0, o, r, h, h' => by simp at h h'; subst h h'; cases os <;> cases rs <;> rfl
  | o' :: os, r' :: rs, s, j + 1, o, r, h, h' => by
    show stAt os rs _ (j + 1) = (stAt os rs _ j).app o r.v r.ups
    exact stAt_succ os rs _ j o r (by simpa using h) (by simpa using h')
  | [], _, _, _, _, _, h, _ => by simp at h
  | _ :: _, [], _, _, _, _, _, h => by simp at h
theorem nAt_succ : ∀ (recs : List Rec) (n j : Nat) (r : Rec), recs[j]? = some r → nAt recs n (j + 1) = nAt recs n j + r.cnt
  | r' :: rs, n, 0, r, h => by simp at h; subst h; cases rs <;> rfl
  | r' :: rs, n, j + 1, r, h => by
    show nAt rs _ (j + 1) = nAt rs _ j + r.cnt
    exact nAt_succ rs _ j r (by simpa using h)
  | [], _, _, _, h => by simp at h
theorem nAt_le (recs : List Rec) (n : Nat) : ∀ (d j : Nat), j + d ≤ recs.length → nAt recs n j ≤ nAt recs n (j + d)
  | 0, j, _ => Nat.le_refl _
  | d + 1, j, h => by
    have hj : j + d < recs.length := by omega
    have := nAt_le recs n d j (by omega)
    rw [← Nat.add_assoc, nAt_succ recs n (j + d) _ (List.getElem?_eq_getElem hj)]
    omega

/-! ### Stages: some operations have run -/
structure Stage (ops : List Oper) (recs : List Rec) (s0 : St) (L : Nat → Prop) (s : St) : Prop where
  t0 : ∀ d, (∀ i o, ops[i]? = some o → L i → o.dst ≠ some d) → s.t d = s0.t d
  t1 : ∀ i o r d, ops[i]? = some o → recs[i]? = some r → L i → o.dst = some d → s.t d = r.v
  m0 : ∀ q, (∀ i r, recs[i]? = some r → L i → ∀ x, (q, x) ∉ r.ups) → s.m q = s0.m q
  m1 : ∀ i r q x, recs[i]? = some r → L i → (q, x) ∈ r.ups → (∀ j r', recs[j]? = some r' → L j → i < j → ∀ x, (q, x) ∉ r'.ups) → s.m q = x
theorem Stage.step {ops : List Oper} {recs : List Rec} {s0 s : St} {L L' : Nat → Prop} (h : Stage ops recs s0 L s) {j : Nat} {o : Oper} {r : Rec} (ho : ops[j]? = some o) (hr : recs[j]? = some r) (hL : ∀ i, L' i ↔ L i ∨ i = j) (hj : ¬ L j)
    (hdst : ∀ i o' d, ops[i]? = some o' → i ≠ j → o'.dst = some d → o.dst ≠ some d) (hlater : ∀ i r' q x x', recs[i]? = some r' → L i → (q, x) ∈ r.ups → (q, x') ∈ r'.ups → i < j) (nd : (r.ups.map (·.1)).Nodup) : Stage ops recs s0 L' (s.app o r.v r.ups) := by
  refine ⟨fun d hd => ?_, fun i o' r' d ho' hr' hi hd => ?_, fun q hq => ?_, fun i r' q x hr' hi hx hl => ?_⟩
  · have h1 := hd j o ho ((hL j).2 (.inr rfl))
    have h2 := h.t0 d (fun i o' ho' hi => hd i o' ho' ((hL i).2 (.inl hi)))
    show updO s.t o.dst r.v d = _
    cases hdo : o.dst with
    | none => exact h2
    | some d' =>
      show upd s.t d' r.v d = _
      unfold upd
      rw [if_neg (fun e => h1 (by rw [hdo, e]))]
      exact h2
  · show updO s.t o.dst r.v d = _
    by_cases hij : i = j
    · subst hij
      rw [ho] at ho'; cases ho'
      rw [hr] at hr'; cases hr'
      rw [hd]
      show upd s.t d r.v d = _
      simp [upd]
    · have h2 := h.t1 i o' r' d ho' hr' (((hL i).1 hi).resolve_right hij) hd
      have h3 := hdst i o' d ho' hij hd
      cases hdo : o.dst with
      | none => exact h2
      | some d' =>
        show upd s.t d' r.v d = _
        unfold upd
        rw [if_neg (fun e => h3 (by rw [hdo, e]))]
        exact h2
  · show upds s.m r.ups q = _
    rw [upds_not r.ups s.m q (hq j r hr ((hL j).2 (.inr rfl)))]
    exact h.m0 q fun i r' hr' hi => hq i r' hr' ((hL i).2 (.inl hi))
  · show upds s.m r.ups q = x
    by_cases hij : i = j
    · subst hij
      rw [hr] at hr'; cases hr'
      exact upds_mem _ _ _ _ nd hx
    · have hLi := ((hL i).1 hi).resolve_right hij
      have hq : ∀ x, (q, x) ∉ r.ups := fun x' hx' => by
        have := hlater i r' q x' x hr' hLi hx' hx
        exact hl j r hr ((hL j).2 (.inr rfl)) this x' hx'
      rw [upds_not r.ups s.m q hq]
      exact h.m1 i r' q x hr' hLi hx fun j' r'' hj' hLj' hlt => hl j' r'' hj' ((hL j').2 (.inl hLj')) hlt
theorem last_writer (W : Nat → Prop) : ∀ j, (∀ i, i < j → ¬ W i) ∨ ∃ i, i < j ∧ W i ∧ ∀ i', i < i' → i' < j → ¬ W i'
  | 0 => .inl fun i h => by omega
  | j + 1 => by
    by_cases h : W j
    · exact .inr ⟨j, by omega, h, fun i' h1 h2 => by omega⟩
    · rcases last_writer W j with h1 | ⟨i, h1, h2, h3⟩
      · refine .inl fun i hi => ?_
        by_cases e : i = j
        · subst e; exact h
        · exact h1 i (by omega)
      · refine .inr ⟨i, by omega, h2, fun i' h4 h5 => ?_⟩
        by_cases e : i' = j
        · subst e; exact h
        · exact h3 i' h4 (by omega)
/-- Two stages that agree on who has written a slot, agree on the slot. -/
theorem Stage.agree_t {ops : List Oper} {recs : List Rec} {s0 s s' : St} {L L' : Nat → Prop} (h : Stage ops recs s0 L s) (h' : Stage ops recs s0 L' s') (hlen : recs.length = ops.length) {d : Nat} (hd : ∀ i o, ops[i]? = some o → o.dst = some d → (L i ↔ L' i)) : s.t d = s'.t d := by
  by_cases hx : ∃ i o, ops[i]? = some o ∧ L i ∧ o.dst = some d
  · obtain ⟨i, o, ho, hi, hdo⟩ := hx
    have hlt : i < recs.length := by rw [hlen]; exact (List.getElem?_eq_some_iff.1 ho).1
    rw [h.t1 i o _ d ho (List.getElem?_eq_getElem hlt) hi hdo, h'.t1 i o _ d ho (List.getElem?_eq_getElem hlt) ((hd i o ho hdo).1 hi) hdo]
  · rw [h.t0 d fun i o ho hi e => hx ⟨i, o, ho, hi, e⟩, h'.t0 d fun i o ho hi e => hx ⟨i, o, ho, (hd i o ho e).2 hi, e⟩]
theorem Stage.agree_m {ops : List Oper} {recs : List Rec} {s0 s s' : St} {L L' : Nat → Prop} (h : Stage ops recs s0 L s) (h' : Stage ops recs s0 L' s') {q : Nat} (hd : ∀ i r x, recs[i]? = some r → (q, x) ∈ r.ups → (L i ↔ L' i)) : s.m q = s'.m q := by
  have hlt : ∀ {i : Nat} {r : Rec}, recs[i]? = some r → i < recs.length := fun h => (List.getElem?_eq_some_iff.1 h).1
  rcases last_writer (fun i => ∃ r x, recs[i]? = some r ∧ (q, x) ∈ r.ups ∧ L i) recs.length with hn | ⟨i, hi, ⟨r, x, hr, hx, hLi⟩, hmax⟩
  · rw [h.m0 q fun i r hr hi x hx => hn i (hlt hr) ⟨r, x, hr, hx, hi⟩, h'.m0 q fun i r hr hi x hx => hn i (hlt hr) ⟨r, x, hr, hx, (hd i r x hr hx).2 hi⟩]
  · rw [h.m1 i r q x hr hLi hx fun j r' hr' hj hij x' hx' => hmax j hij (hlt hr') ⟨r', x', hr', hx', hj⟩,
      h'.m1 i r q x hr ((hd i r x hr hx).1 hLi) hx fun j r' hr' hj hij x' hx' => hmax j hij (hlt hr') ⟨r', x', hr', hx', (hd j r' x' hr' hx').2 hj⟩]

/-! ### Every order -/
def LeftOf (n : Nat) (listed : Array Bool) (js : List Nat) : Prop := js.Pairwise (· < ·) ∧ ∀ i, i ∈ js ↔ (i < n ∧ listed.getD i false = false)
def Lst (listed : Array Bool) : Nat → Prop := fun i => listed.getD i false = true
structure Tr (c : Cx) (nt : Nat) (ops : Array Oper) (recs : List Rec) (s0 : St) (n0 : Nat) : Prop where
  len : recs.length = ops.toList.length
  ok : ∀ j o r, ops.toList[j]? = some o → recs[j]? = some r → StepOk c.P c.G c.base c.k nt ops.toList o (stAt ops.toList recs s0 j) (nAt recs n0 j) r
  stat : StatOk ops.toList
  conf : confB (clo ops.toList []) recs = true
theorem Tr.nid {c : Cx} {nt : Nat} {ops : Array Oper} {recs : List Rec} {s0 : St} {n0 : Nat} (h : Tr c nt ops recs s0 n0) {j : Nat} {r : Rec} (hj : recs[j]? = some r) : r.nid = nAt recs n0 j := by
  have hlt : j < ops.toList.length := by rw [← h.len]; exact (List.getElem?_eq_some_iff.1 hj).1
  exact (h.ok j _ r (List.getElem?_eq_getElem hlt) hj).nid
theorem Tr.up {c : Cx} {nt : Nat} {ops : Array Oper} {recs : List Rec} {s0 : St} {n0 : Nat} (h : Tr c nt ops recs s0 n0) {j : Nat} {r : Rec} (hj : recs[j]? = some r) {q : Nat} {x : R} (hx : (q, x) ∈ r.ups) : q ∈ wrI r ∧ q ∈ tcI r := by
  have hlt : j < ops.toList.length := by rw [← h.len]; exact (List.getElem?_eq_some_iff.1 hj).1
  have hs := h.ok j _ r (List.getElem?_eq_getElem hlt) hj
  refine ⟨List.mem_map.2 ⟨_, hx, rfl⟩, ?_⟩
  cases hon : r.on with
  | false => rw [(hs.off hon).1] at hx; cases hx
  | true =>
    have ha := hs.step hon
    unfold tcI
    rw [List.mem_append]
    by_cases hn : nwOf r.nid r.cnt q
    · exact .inr (List.mem_range'_1.2 hn)
    · obtain ⟨y, hy⟩ := ha.up q x hx hn
      exact .inl (List.mem_map.2 ⟨_, hy, rfl⟩)
theorem Tr.nd {c : Cx} {nt : Nat} {ops : Array Oper} {recs : List Rec} {s0 : St} {n0 : Nat} (h : Tr c nt ops recs s0 n0) {j : Nat} {r : Rec} (hj : recs[j]? = some r) : (r.ups.map (·.1)).Nodup := by
  have hlt : j < ops.toList.length := by rw [← h.len]; exact (List.getElem?_eq_some_iff.1 hj).1
  have hs := h.ok j _ r (List.getElem?_eq_getElem hlt) hj
  cases hon : r.on with
  | false => rw [(hs.off hon).1]; exact List.nodup_nil
  | true => exact (hs.step hon).wf.nd
theorem Tr.stage {c : Cx} {nt : Nat} {ops : Array Oper} {recs : List Rec} {s0 : St} {n0 : Nat} (h : Tr c nt ops recs s0 n0) : ∀ j, j ≤ ops.toList.length → Stage ops.toList recs s0 (fun i => i < j) (stAt ops.toList recs s0 j)
  | 0, _ => by
    have e : stAt ops.toList recs s0 0 = s0 := by cases ops.toList <;> cases recs <;> rfl
    rw [e]
    exact ⟨fun _ _ => rfl, (fun i o r d _ _ hi => by omega), fun _ _ => rfl, (fun i r q x _ hi => by omega)⟩
  | j + 1, hj => by
    have hlt : j < recs.length := by rw [h.len]; omega
    have ho := List.getElem?_eq_getElem (l := ops.toList) (i := j) (by omega)
    have hr := List.getElem?_eq_getElem hlt
    rw [stAt_succ _ _ _ _ _ _ ho hr]
    exact (h.stage j (by omega)).step ho hr (fun i => by omega) (by omega) (fun i o' d ho' hne hd => h.stat.dst j _ i o' d ho ho' hne hd) (fun i r' q x x' _ hi _ _ => hi) (h.nd hr)

theorem any_sound {c : Cx} {nt : Nat} {ops : Array Oper} {recs : List Rec} {s0 : St} {n0 : Nat} {Q : Exit → Act → World → Prop} (tr : Tr c nt ops recs s0 n0)
    (hK : ∀ a' w' g', RelS c (stAt ops.toList recs s0 ops.toList.length) a' w' g' → NB g' (nAt recs n0 ops.toList.length) → a'.tmps.size = nt → Q .normal a' w') :
    ∀ (f : Nat) (js : List Nat) (listed : Array Bool) (s : St) (a : Act) (w : World) (g : Gh), js.length = f → LeftOf ops.size listed js → listed.size = ops.size → Closed ops.toList (Lst listed) → Stage ops.toList recs s0 (Lst listed) s → RelS c s a w g →
      (∀ q, g.born q → q < n0 ∨ ∃ i r, recs[i]? = some r ∧ Lst listed i ∧ nwOf r.nid r.cnt q) → a.tmps.size = nt → wpAny c.P .any ops Q f listed a w
  | 0, js, listed, s, a, w, g, hlen, hleft, hsz, hcl, hst, hr, hb, hs => by
    have hjs : js = [] := List.eq_nil_of_length_eq_zero hlen
    subst hjs
    have hall : ∀ i, i < ops.size → Lst listed i := fun i hi => by
      have := (not_congr (hleft.2 i)).1 (by simp)
      unfold Lst
      cases hx : listed.getD i false with
      | true => rfl
      | false => exact absurd ⟨hi, hx⟩ this
    refine ⟨?_, ?_⟩
    · rw [List.eq_nil_iff_forall_not_mem]
      intro j hj
      obtain ⟨h1, o, ho, _⟩ := mem_ready.1 hj
      have := hall j (Array.getElem?_eq_some_iff.1 ho).1
      unfold Lst at this
      rw [getD_both h1] at this; cases this
    · have hfin := tr.stage ops.toList.length (Nat.le_refl _)
      have hLi : ∀ i, i < ops.toList.length → (Lst listed i ↔ i < ops.toList.length) := fun i hi => ⟨fun _ => hi, fun _ => hall i (by simpa using hi)⟩
      have e1 : s = stAt ops.toList recs s0 ops.toList.length := by
        have ht : s.t = (stAt ops.toList recs s0 ops.toList.length).t := funext fun d => hst.agree_t hfin tr.len fun i o ho _ => hLi i (List.getElem?_eq_some_iff.1 ho).1
        have hm : s.m = (stAt ops.toList recs s0 ops.toList.length).m := funext fun q => hst.agree_m hfin fun i r x hr' _ => hLi i (by rw [← tr.len]; exact (List.getElem?_eq_some_iff.1 hr').1)
        cases s; cases hh : stAt ops.toList recs s0 ops.toList.length
        rw [hh] at ht hm
        simp only at ht hm
        rw [ht, hm]
      refine hK a w g (e1 ▸ hr) (fun q hq hbq => ?_) hs
      have hle0 : n0 ≤ nAt recs n0 ops.toList.length := by
        have := nAt_le recs n0 ops.toList.length 0 (by rw [tr.len]; omega)
        have e : nAt recs n0 0 = n0 := by cases recs <;> rfl
        rw [e, Nat.zero_add] at this; exact this
      rcases hb q hbq with h1 | ⟨i, r, hi, _, h2⟩
      · omega
      · have hil : i < recs.length := (List.getElem?_eq_some_iff.1 hi).1
        have h3 := nAt_succ recs n0 i r hi
        have h4 := nAt_le recs n0 (ops.toList.length - (i + 1)) (i + 1) (by rw [← tr.len]; omega)
        rw [show i + 1 + (ops.toList.length - (i + 1)) = ops.toList.length by rw [← tr.len]; omega] at h4
        have h5 := h2.2
        rw [tr.nid hi] at h5
        omega
  | f + 1, js, listed, s, a, w, g, hlen, hleft, hsz, hcl, hst, hr, hb, hs => by
    have hin : ∀ {i}, i ∈ js → i < ops.size := fun hi => ((hleft.2 _).1 hi).1
    have hunl : ∀ i, i ∈ js → listed.getD i true = false := fun i hi => getD_in (by rw [hsz]; exact hin hi) ((hleft.2 i).1 hi).2
    cases hjs : js with
    | nil => rw [hjs] at hlen; simp at hlen
    | cons k ks =>
    have hk : k ∈ js := by rw [hjs]; simp
    have hkn := (hleft.2 k).1 hk
    have hready : k ∈ Region.ready .any ops listed := by
      refine mem_ready.2 ⟨hunl k hk, ops[k]'(hin hk), Array.getElem?_eq_getElem (hin hk), fun e he hbd => ?_⟩
      have hlt := tr.stat.back k _ (by rw [Array.getElem?_toList]; exact Array.getElem?_eq_getElem (hin hk)) e he hbd
      cases hx : listed.getD e.on false with
      | true => rfl
      | false =>
        have hm := (hleft.2 e.on).2 ⟨by omega, hx⟩
        rw [hjs] at hm
        have hp := hleft.1
        rw [hjs] at hp
        rcases List.mem_cons.1 hm with h1 | h1
        · omega
        · have := (List.pairwise_cons.1 hp).1 _ h1
          omega
    refine ⟨fun e => absurd e (fun e => by rw [e] at hready; cases hready), fun j hj => ?_⟩
    obtain ⟨hjun, o, ho, hall⟩ := mem_ready.1 hj
    have hjn : j < ops.size := (Array.getElem?_eq_some_iff.1 ho).1
    have ho' : ops.toList[j]? = some o := by rw [Array.getElem?_toList]; exact ho
    have hjf := getD_both hjun
    have hjmem : j ∈ js := (hleft.2 j).2 ⟨hjn, hjf⟩
    have hjr : j < recs.length := by rw [tr.len]; simpa using hjn
    obtain ⟨r, hrj⟩ : ∃ r, recs[j]? = some r := ⟨_, List.getElem?_eq_getElem hjr⟩
    have hok := tr.ok j o r ho' hrj
    have hnL : ¬ Lst listed j := fun h => by unfold Lst at h; rw [hjf] at h; cases h
    have hwaits : ∀ o', ops.toList[j]? = some o' → ∀ e ∈ o'.after, Region.binds .any e = true → Lst listed e.on := fun o' ho2 e he hbd => by
      rw [ho'] at ho2; cases ho2
      exact hall e he hbd
    have must : ∀ i, Must ops.toList j i → Lst listed i := fun i hm => hm _ hcl hwaits
    have mustNot : ∀ i, Must ops.toList i j → ¬ Lst listed i := fun i hm hi => hnL (hm _ hcl fun o' ho2 e he hbd => hcl i o' ho2 hi e he hbd)
    have hj0 := tr.stage j (by simp; omega)
    -- slots that j looks at
    have slots : ∀ d, d ∈ looks ops.toList o → s.t d = (stAt ops.toList recs s0 j).t d := fun d hd => hst.agree_t hj0 tr.len fun i o2 ho2 hd2 => by
      rcases tr.stat.looks j o i o2 d ho' ho2 hd2 hd with ⟨h1, h2⟩ | ⟨h1, h2⟩
      · exact ⟨fun _ => h1, fun _ => must i h2⟩
      · exact ⟨fun h => absurd h (mustNot i h2), fun h => by omega⟩
    have cells : ∀ q, q ∈ tcI r → s.m q = (stAt ops.toList recs s0 j).m q := fun q hq => hst.agree_m hj0 fun i r' x hr' hx => by
      obtain ⟨hw1, hw2⟩ := tr.up hr' hx
      rcases Nat.lt_trichotomy i j with h1 | h1 | h1
      · exact ⟨fun _ => h1, fun _ => must i (confOk tr.conf hrj hr' h1 (.inr ⟨hw1, hq⟩))⟩
      · subst h1; exact ⟨fun h => absurd h hnL, fun h => by omega⟩
      · exact ⟨fun h => absurd h (mustNot i (confOk tr.conf hr' hrj h1 (.inl ⟨hw1, hq⟩))), fun h => by omega⟩
    have hev : ∀ x ∈ o.op.operands.toList, evO c.G s.t x = evO c.G (stAt ops.toList recs s0 j).t x := fun x hx => by
      cases x with
      | tmp d => exact slots d (List.mem_append_left _ (List.mem_filterMap.2 ⟨.tmp d, hx, rfl⟩))
      | _ => rfl
    have hwant : wantA ops.toList s.t o = some r.on := by
      rw [← hok.on]
      unfold wantA
      cases hg : guardT ops.toList o with
      | none => rfl
      | some p =>
        obtain ⟨d, want⟩ := p
        cases d with
        | none => rfl
        | some d => simp only [slots d (List.mem_append_right _ (by rw [hg]; simp))]
    have hdst : ∀ d, o.dst = some d → d < a.tmps.size := by rw [hs]; exact hok.dst
    -- what stands behind j
    obtain ⟨pre, post, hsplit⟩ := List.append_of_mem hjmem
    have hpw := hleft.1
    rw [hsplit] at hpw
    have hlen' : (pre ++ post).length = f := by
      rw [hsplit] at hlen
      simp at hlen ⊢
      omega
    have hsz' : (listed.setIfInBounds j true).size = ops.size := by simp [hsz]
    have hgj : (listed.setIfInBounds j true).getD j false = true := by simp [show j < listed.size by rw [hsz]; exact hjn]
    have hL' : ∀ i, Lst (listed.setIfInBounds j true) i ↔ Lst listed i ∨ i = j := fun i => by
      unfold Lst
      by_cases hij : i = j
      · subst hij; rw [hgj]; simp
      · rw [getD_set_ne false (fun e => hij e.symm)]; simp [hij]
    have hleft' : LeftOf ops.size (listed.setIfInBounds j true) (pre ++ post) := by
      have hprelt : ∀ i ∈ pre, i < j := fun i hi => (List.pairwise_append.1 hpw).2.2 i hi j (by simp)
      refine ⟨?_, fun i => ?_⟩
      · have := List.pairwise_append.1 hpw
        exact List.pairwise_append.2 ⟨this.1, (List.pairwise_cons.1 this.2.1).2, fun x hx y hy => this.2.2 x hx y (List.mem_cons_of_mem _ hy)⟩
      · by_cases hij : i = j
        · subst hij
          have h1 : i ∉ pre := fun hi => by have := hprelt i hi; omega
          have h2 : i ∉ post := fun hi => by have := (List.pairwise_cons.1 (List.pairwise_append.1 hpw).2.1).1 i hi; omega
          rw [hgj]
          simp [h1, h2]
        · rw [getD_set_ne false (fun e => hij e.symm)]
          have := hleft.2 i
          rw [hsplit] at this
          simp only [List.mem_append, List.mem_cons, hij, false_or] at this ⊢
          exact this
    have hcl' : Closed ops.toList (Lst (listed.setIfInBounds j true)) := fun i o2 ho2 hi e he hbd => by
      rcases (hL' i).1 hi with h1 | h1
      · exact (hL' _).2 (.inl (hcl i o2 ho2 h1 e he hbd))
      · subst h1
        exact (hL' _).2 (.inl (hwaits o2 ho2 e he hbd))
    have hst' : Stage ops.toList recs s0 (Lst (listed.setIfInBounds j true)) (s.app o r.v r.ups) := by
      refine hst.step ho' hrj hL' hnL (fun i o2 d ho2 hne hd => tr.stat.dst j o i o2 d ho' ho2 hne hd) (fun i r' q x x' hr' hi hx hx' => ?_) (tr.nd hrj)
      rcases Nat.lt_trichotomy i j with h1 | h1 | h1
      · exact h1
      · subst h1; exact absurd hi hnL
      · exact absurd hi (mustNot i (confOk tr.conf hr' hrj h1 (.inr ⟨(tr.up hrj hx).1, (tr.up hr' hx').2⟩)))
    have next : ∀ (a' : Act) (w' : World) (g' : Gh), RelS c (s.app o r.v r.ups) a' w' g' → (∀ q, g'.born q → g.born q ∨ nwOf r.nid r.cnt q) → a'.tmps.size = nt → wpAny c.P .any ops Q f (listed.setIfInBounds j true) a' w' := fun a' w' g' hr' hb' hs' =>
      any_sound tr hK f (pre ++ post) _ _ a' w' g' hlen' hleft' hsz' hcl' hst' hr' (fun q hq => by
        rcases hb' q hq with h1 | h1
        · rcases hb q h1 with h2 | ⟨i, r', h2, h3, h4⟩
          · exact .inl h2
          · exact .inr ⟨i, r', h2, (hL' i).2 (.inl h3), h4⟩
        · exact .inr ⟨j, r, hrj, (hL' j).2 (.inr rfl), h1⟩) hs'
    unfold wpOp
    simp only [ho]
    rw [wantA_ok hr hwant]
    cases hon : r.on with
    | false =>
      simp only [Bool.false_eq_true, if_false]
      obtain ⟨h1, h2⟩ := hok.off hon
      have := put_undef (o := o) hr (h2 w g) hdst
      rw [← h1] at this
      exact next _ _ g this (fun q hq => .inl hq) (by rw [put_size]; exact hs)
    | true =>
      simp only [if_true]
      have ha := hok.step hon
      have ha' : AStep c.P c.G c.base c.k o s r.v r.ups r.ft r.nid r.cnt := by
        refine ⟨fun w g a q1 q2 q3 q4 q5 q6 q7 => ha.sem w g a q1 q2 (fun x hx => by rw [← hev x hx]; exact q3 x hx) q4 q5 q6 q7, fun q x hx => ?_, ha.wf, ha.up⟩
        rw [cells q (List.mem_append_left _ (List.mem_map.2 ⟨_, hx, rfl⟩))]
        exact ha.held q x hx
      have hnb : ∀ q, nwOf r.nid r.cnt q → ¬ g.born q := fun q hq hbq => by
        have hnj := tr.nid hrj
        rcases hb q hbq with h1 | ⟨i, r', h2, h3, h4⟩
        · have e : nAt recs n0 0 = n0 := by cases recs <;> rfl
          have := nAt_le recs n0 j 0 (by omega)
          rw [e, Nat.zero_add, ← hnj] at this
          have := hq.1
          omega
        · have hni := tr.nid h2
          have hil : i < recs.length := (List.getElem?_eq_some_iff.1 h2).1
          rcases Nat.lt_trichotomy i j with h5 | h5 | h5
          · have h6 := nAt_succ recs n0 i r' h2
            have h7 := nAt_le recs n0 (j - (i + 1)) (i + 1) (by omega)
            rw [show i + 1 + (j - (i + 1)) = j by omega] at h7
            have := hq.1
            have := h4.2
            omega
          · subst h5; exact hnL h3
          · have h6 := nAt_succ recs n0 j r hrj
            have h7 := nAt_le recs n0 (i - (j + 1)) (j + 1) (by omega)
            rw [show j + 1 + (i - (j + 1)) = i by omega] at h7
            have := hq.2
            have := h4.1
            omega
      exact .inl (step_sound ha' hr hnb hdst fun w' g' V hr' hb' => next _ w' g' hr' hb' (by rw [put_size]; exact hs))

theorem region_draw {c : Cx} {nt id : Nat} {ops : Array Oper} {Q : Exit → Act → World → Prop} {K : St → Nat → List Rec → Prop} {s : St} {n : Nat} {a : Act} {w : World} {g : Gh} (hm : c.P.follows .mixedOrders = true) (hst : statB ops.toList = true) (hr : RelS c s a w g) (hn : NB g n) (hs : a.tmps.size = nt)
    (h : aops c.P c.G c.base c.k nt ops.toList ops.toList s n [] (fun s' n' recs => confB (clo ops.toList []) recs = true ∧ K s' n' recs)) (hK : ∀ s' n' acc' a' w' g', K s' n' acc' → RelS c s' a' w' g' → NB g' n' → a'.tmps.size = nt → Q .normal a' w') : (Code.region id ops true).wp c.P Q a w := by
  refine wp_region_any hm ?_
  obtain ⟨recs, e1, e2, e3, e4⟩ := aops_trace _ _ _ _ h
  have hdr : RelS c s a { w with drawn := w.drawn + 1 } g := by
    have hS : Step w g { w with drawn := w.drawn + 1 } g (fun _ => False) (fun _ => False) := ⟨rfl, rfl, rfl, ⟨Nat.le_refl _, fun _ _ => Nat.le_refl _, fun _ _ _ h => h, fun _ _ _ => rfl, fun _ _ _ => rfl⟩, fun _ _ _ => rfl, fun _ _ => rfl, fun _ h => ⟨h, rfl, rfl⟩, fun _ h => .inl h⟩
    exact hr.exec (dst := none) (v := .undef) (ups := []) (nw := fun _ => False) (lv := fun _ => False) (V := Go.undef) ⟨⟨hS.os, hS.tape, hS.output, hS.evo, fun b hb _ => rfl, hS.frk, hS.gk, hS.bk⟩, rfl, (fun _ _ h => by cases h), (fun _ _ h => by cases h), (fun _ _ _ _ h => by cases h)⟩ ⟨List.nodup_nil, (fun _ _ h => by cases h), (fun _ h => by cases h), (fun _ _ h => by cases h)⟩ (fun _ _ h => by cases h) (fun d hd => by cases hd)
  simp only [List.nil_append] at e3 e4
  have tr : Tr c nt ops recs s n := ⟨e1, e2, statOk hst, e3⟩
  have hlen : (List.range ops.size).length = ops.size := List.length_range
  refine any_sound tr (fun a' w' g' h1 h2 h3 => hK _ _ _ a' w' g' e4 h1 h2 h3) ops.size (List.range ops.size) _ s a _ g hlen
    ⟨List.pairwise_lt_range, fun i => by rw [List.mem_range, getD_replicate_false]; simp⟩ (by simp) (fun j o _ hl => by unfold Lst at hl; rw [getD_replicate_false] at hl; cases hl)
    ⟨fun _ _ => rfl, (fun i o r d _ _ hl => by unfold Lst at hl; rw [getD_replicate_false] at hl; cases hl), fun _ _ => rfl, (fun i r q x _ hl => by unfold Lst at hl; rw [getD_replicate_false] at hl; cases hl)⟩ hdr (fun q hq => .inl ?_) hs
  rcases Nat.lt_or_ge q n with h' | h'
  · exact h'
  · exact absurd hq (hn q h')
end Go.Proofs.Ytpobimdcphjljaa
