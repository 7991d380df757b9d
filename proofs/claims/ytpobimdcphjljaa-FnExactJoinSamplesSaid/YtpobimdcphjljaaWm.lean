/-
  markSampleS: the marks go into the rows of labels, each a block of its own.
-/
import Derived.Test.YtpobimdcphjljaaWb
import Derived.Test.YtpobimdcphjljaaWc
namespace Go.Proofs.Ytpobimdcphjljaa
open Go
set_option linter.unusedVariables false
set_option linter.unusedSimpArgs false
set_option linter.unnecessarySimpa false
set_option maxRecDepth 4000

theorem keptM {e e' : TypeId} {f f' nn : Bool} {n n' : Nat} {ds ds' : List D} : keptB [R.arr e f nn n ds] [R.arr e' f' nn n' ds'] = true := by cases nn <;> rfl
theorem setR_flat : ∀ (es : List E) (i : Nat) (h : i < es.length) (e : E), setR (es.flatMap eV) (i * 2) (eV e) = (es.set i e).flatMap eV
  | [], _, h, _ => by simp at h
  | x :: es, 0, _, e => by simp only [List.flatMap_cons, List.set_cons_zero, Nat.zero_mul, eV, List.cons_append, List.nil_append, setR]
  | x :: es, i + 1, h, e => by
    have := setR_flat es i (by simpa using h) e
    simp only [List.flatMap_cons, List.set_cons_succ, eV, List.cons_append, List.nil_append] at this ⊢
    rw [show (i + 1) * 2 = i * 2 + 1 + 1 by omega]
    simp only [setR]
    rw [this]
theorem setR_same : ∀ (es : List E) (i : Nat) (h : i < es.length), setR (es.flatMap eV) (i * 2) [slV es[i].1.1 es[i].2.1 es[i].1.2.1.length es[i].2.2] = es.flatMap eV
  | [], _, h => by simp at h
  | x :: es, 0, _ => by simp only [List.flatMap_cons, Nat.zero_mul, eV, List.cons_append, List.nil_append, setR, List.getElem_cons_zero]
  | x :: es, i + 1, h => by
    have := setR_same es i (by simpa using h)
    simp only [List.flatMap_cons, eV, List.cons_append, List.nil_append, List.getElem_cons_succ] at this ⊢
    rw [show (i + 1) * 2 = i * 2 + 1 + 1 by omega]
    simp only [setR]
    rw [this]
theorem drop_eV : ∀ (es : List E) (i : Nat) (h : i < es.length), (es.flatMap eV).drop (i * 2) = eV es[i] ++ (es.drop (i + 1)).flatMap eV
  | [], _, h => by simp at h
  | x :: es, 0, _ => by simp
  | x :: es, i + 1, h => by
    have := drop_eV es i (by simpa using h)
    simp only [List.flatMap_cons, List.getElem_cons_succ, List.drop_succ_cons]
    rw [← this, List.drop_append, eV_len, show (i + 1) * 2 - 2 = i * 2 by omega, List.drop_eq_nil_of_le (by rw [eV_len]; omega), List.nil_append]
theorem flatE_len (es : List E) : (es.flatMap eV).length = es.length * 2 := by
  induction es with
  | nil => rfl
  | cons e es ih => rw [List.flatMap_cons, List.length_append, ih, eV_len, List.length_cons]; omega
theorem setL_one {w : World} {g : Gh} {base : Nat} {f : Bool} {vs us : List Value} {k : Nat} {d : D} (hk : k + 1 ≤ vs.length) (h : RelL w g base ((setR (rawD vs) k [d]).map (D.toC f)) us) : ∃ v, us = setR vs k [v] ∧ RelC w g base (d.toC f) v := by
  rw [setR_eq _ _ _ (by unfold rawD; simpa using hk), List.append_assoc, List.map_append] at h
  obtain ⟨u1, u2, rfl, h1, h2⟩ := relL_split h
  rw [List.map_append] at h2
  obtain ⟨u3, u4, rfl, h3, h4⟩ := relL_split h2
  have e1 : u1 = vs.take k := rawL_eq (f := f) (by rw [show (rawD vs).take k = rawD (vs.take k) by unfold rawD; rw [List.map_take]] at h1; exact h1)
  have e4 : u4 = vs.drop (k + 1) := rawL_eq (f := f) (by rw [show (rawD vs).drop (k + [d].length) = rawD (vs.drop (k + 1)) by unfold rawD; rw [List.map_drop]; rfl] at h4; exact h4)
  match u3, h3 with
  | [v], h3 =>
    refine ⟨v, ?_, h3.1⟩
    rw [setR_eq _ _ _ hk, e1, e4]; simp
theorem row_res {w : World} {g : Gh} {base r n : Nat} {f : Bool} {vs : List Value} (h : RowAt w (g.gb r) (g.gc r) 31 n vs) (hb : g.born r) (hf : g.fr (g.gb r) = 0) (hl : vs.length = n * 2) (h1 : ∀ v ∈ vs, v.oneCell' = true) : ResOk Try.prog w g base r (.arr 31 f true n (rawD vs)) := by
  obtain ⟨cur, q2, q3, q4, q5, q6⟩ := h.row
  refine ⟨hb, by unfold rawD; rw [List.length_map, hl, cells_sam], ?_⟩
  simp only [if_true]
  refine ⟨hf, cur, q2, q3, q4, by rw [cells_sam]; exact q5, ?_⟩
  rw [cells_sam, q6]
  exact rawL h1
theorem labL {w : World} {g : Gh} {base : Nat} {f : Bool} : ∀ ls : List labT, RelL w g base ((ls.flatMap labD).map (D.toC f)) (labV ls)
  | [] => trivial
  | l :: ls => ⟨rfl, rfl, labL ls⟩
theorem labL_eq {w : World} {g : Gh} {base : Nat} {f : Bool} {ls : List labT} {us : List Value} (h : RelL w g base ((ls.flatMap labD).map (D.toC f)) us) : us = labV ls := litD_rels h (labV_lit ls)
theorem in_res {w : World} {g : Gh} {base : Nat} {e : E} (h : InOk w e) (hb : g.born 0) (hf : g.fr (g.gb 0) = 0) (hgb : g.gb 0 = e.2.1) (hgc : g.gc 0 = e.2.2) : ResOk Try.prog w g base 0 (.arr 61 true e.1.1 e.1.2.1.length (e.1.2.1.flatMap labD)) := by
  refine ⟨hb, by rw [flat_len labD 2 labD_len, cells_lab], ?_⟩
  cases hn : e.1.1 with
  | false => rw [h.1 hn]; rfl
  | true =>
    obtain ⟨cur, q2, q3, q4, q5, q6⟩ := (h.2 hn).row
    simp only [if_true]
    refine ⟨hf, cur, by rw [hgb]; exact q2, by rw [hgc]; exact q3, by rw [hgc]; exact q4, by rw [cells_lab, hgc]; exact q5, ?_⟩
    rw [cells_lab, q6]
    exact labL _
theorem res_in {w : World} {g : Gh} {base b c n : Nat} {nn : Bool} {ls : List labT} {x : Int} (h : ResOk Try.prog w g base 0 (.arr 61 true nn n (ls.flatMap labD))) (hn : ls.length = n) (hgb : g.gb 0 = b) (hgc : g.gc 0 = c) : InOk w ((nn, ls, x), b, c) := by
  obtain ⟨_, _, h⟩ := h
  subst hgb hgc hn
  refine ⟨fun hf => ?_, fun ht => ?_⟩
  · have hf : nn = false := hf
    subst hf
    exact List.eq_nil_of_length_eq_zero (by simpa using h)
  · have ht : nn = true := ht
    subst ht
    simp only [if_true] at h
    obtain ⟨_, cur, q2, q3, q4, q5, q6⟩ := h
    rw [cells_lab] at q5 q6
    exact ⟨cur, q2, q3, q4, q5, labL_eq q6⟩
theorem DeepB.upd {w w' : World} {lo b c i : Nat} {es : List E} {e : E} (h : DeepB w lo b c es) (hi : i < es.length) (k : Kp w w' fun q => q = b ∨ (es[i].1.1 = true ∧ q = es[i].2.1)) (hrow : RowAt w' b c 31 (es.set i e).length ((es.set i e).flatMap eV)) (he : InOk w' e) (h1 : e.1.1 = es[i].1.1) (h2 : e.2.1 = es[i].2.1) : DeepB w' lo b c (es.set i e) := by
  have hd := List.pairwise_iff_getElem.1 h.dist
  have hsame : ∀ p (hp : p < es.length), ((es.set i e)[p]'(by rw [List.length_set]; exact hp)).1.1 = es[p].1.1 ∧ ((es.set i e)[p]'(by rw [List.length_set]; exact hp)).2.1 = es[p].2.1 := fun p hp => by
    rw [List.getElem_set]
    split
    · subst i; exact ⟨h1, h2⟩
    · exact ⟨rfl, rfl⟩
  refine ⟨hrow, fun x hx => ?_, h.lob, fun x hx ht => ?_, ?_⟩
  · obtain ⟨p, hp, rfl⟩ := List.getElem_of_mem hx
    rw [List.length_set] at hp
    rw [List.getElem_set]
    split
    · exact he
    · rename_i hne
      have hm := List.getElem_mem hp
      refine ⟨(h.inn _ hm).1, fun ht => ((h.inn _ hm).2 ht).kp k ?_⟩
      rintro (q | ⟨q1, q2⟩)
      · exact h.outer hm ht q
      · rcases Nat.lt_or_gt_of_ne hne with q | q
        · exact hd i p hi hp q q1 ht q2.symm
        · exact hd p i hp hi q ht q1 q2
  · rcases List.mem_or_eq_of_mem_set hx with hx | rfl
    · exact h.los x hx ht
    · rw [h2]; exact h.los _ (List.getElem_mem hi) (by rw [← h1]; exact ht)
  · rw [List.pairwise_iff_getElem]
    intro p q hp hq hpq
    rw [List.length_set] at hp hq
    rw [(hsame p hp).1, (hsame p hp).2, (hsame q hq).1, (hsame q hq).2]
    exact hd p q hp hq hpq
/-- The blocks behind a value. -/
def DeepXV (V : Value) (es : List E) (q : Nat) : Prop := ∃ b n c, V = .slice (some ⟨b, 0, none⟩) n c ∧ DeepX b es q
theorem DeepV.x_lo {w : World} {lo : Nat} {V : Value} {nn : Bool} {es : List E} (h : DeepV w lo V nn es) {q : Nat} (hq : DeepXV V es q) : lo ≤ q ∧ q < w.heap.size := by
  obtain ⟨b, n, c, hV, hq⟩ := hq
  rcases h with ⟨_, h, _⟩ | ⟨_, b', c', h, hD⟩
  · rw [h] at hV; cases hV
  · rw [h] at hV
    cases hV
    exact hD.x_lo hq
theorem DeepV.kp {w w' : World} {lo : Nat} {V : Value} {nn : Bool} {es : List E} {X : Nat → Prop} (h : DeepV w lo V nn es) (k : Kp w w' X) (hx : ∀ q, DeepXV V es q → ¬ X q) : DeepV w' lo V nn es := by
  rcases h with h | ⟨hn, b, c, hV, hD⟩
  · exact .inl h
  · exact .inr ⟨hn, b, c, hV, hD.kp k fun q hq => hx q ⟨b, _, c, hV, hq⟩⟩
def mixS (xs : List samT) (k : Int) (i : Nat) : List samT := (markS xs k).take i ++ xs.drop i
theorem mixS_at (xs : List samT) (k : Int) (i : Nat) (h : i < xs.length) : ∃ hq, (mixS xs k i)[i]'hq = xs[i] := by
  have hl : ((markS xs k).take i).length = i := by rw [List.length_take, markS_len]; omega
  refine ⟨by unfold mixS; rw [List.length_append, hl, List.length_drop]; omega, ?_⟩
  unfold mixS
  rw [List.getElem_append_right (by omega)]
  simp [hl]
theorem mixS_set (xs : List samT) (k : Int) (i : Nat) (h : i < xs.length) : (mixS xs k i).set i (markX xs[i] (k + (totS (xs.take i) : Int))) = mixS xs k (i + 1) := by
  have hl : ((markS xs k).take i).length = i := by rw [List.length_take, markS_len]; omega
  unfold mixS
  rw [List.set_append_right _ _ (by omega), hl, Nat.sub_self, List.drop_eq_getElem_cons h, List.set_cons_zero, List.take_succ_eq_append_getElem (by rw [markS_len]; exact h), markS_at xs k i h, List.append_assoc]
  rfl
theorem mixS_all (xs : List samT) (k : Int) : mixS xs k xs.length = markS xs k := by
  unfold mixS
  rw [List.drop_length, List.append_nil, List.take_of_length_le (by rw [markS_len]; exact Nat.le_refl _)]
set_option maxHeartbeats 4000000 in
theorem markSampleS_deepB (w : World) (lo b c : Nat) (es : List E) (xs : List samT) (k : Int) (X : Nat → Prop) (hD : DeepB w lo b c es) (hxs : es.map (·.1) = xs) (h0 : 0 < k) (h1 : k + (totS xs : Int) ≤ 100000000) (hl : es.length ≤ 1048576) (hs : ∀ x ∈ xs, x.2.1.length ≤ 1048576) (hX : ∀ q, DeepX b es q → X q) :
    Calls Try.prog 22 #[.slice (some ⟨b, 0, none⟩) es.length c, .int .i64 k] w fun e w' => ∃ es', e = .returned (.int .i64 (k + (totS xs : Int))) ∧ DeepB w' lo b c es' ∧ es'.map (·.1) = markS xs k ∧ es'.map (·.2) = es.map (·.2) ∧ Kp w w' X := by
  have hxl : xs.length = es.length := by rw [← hxs, List.length_map]
  obtain ⟨V, hV⟩ : ∃ V, V = Value.slice (some ⟨b, 0, none⟩) es.length c := ⟨_, rfl⟩
  rw [← hV]
  refine calls_start Try.func22 rfl (by rw [Try.results22]) fun a ha hd => ?_
  obtain ⟨hsz, hat⟩ := args_at (args := [V, .int .i64 k]) (n := 27) ha (by simp)
  have hV1 : V.oneCell' = true := by rw [hV]; rfl
  refine rebase (gh0 fun _ => 0) [(0, .v false [.raw V]), (1, .v false [.i .i64 k])] [] 0 rfl ?_ (fun p hp => ?_) (mem_nil _ _ _ _) (gh0_born _) hd hsz
  rotate_left
  · simp only [List.mem_cons, List.not_mem_nil, or_false] at hp
    rcases hp with rfl | rfl
    · exact ⟨_, rfl, hV1, hat 0 (by simp)⟩
    · exact ⟨_, rfl, hat 1 (by simp)⟩
  clear ha hd hsz hat a
  dsimp only [updL, setE, List.replicate, List.length_cons, List.length_nil]
  refine WC.seq (Qf := fun _ _ _ => False) (fun _ _ _ _ _ _ _ h => h.elim) ?_
  refine AW.region ?_
  refine ao0 (em_assign (by rfl) (by rfl)) (by rfl) (by rfl) ?_
  refine ao_nil (by first | dsimp only [setO, setE] | rfl) (by first | dsimp only [setM, setE, setR] | rfl) (by rfl) ?_
  refine WC.seqW ?_
  refine WC.seq (Qf := fun _ _ _ => False) (fun _ _ _ _ _ _ _ h => h.elim) ?_
  refine AW.region ?_
  refine ao0 (em_assign (by rfl) (by rfl)) (by rfl) (by rfl) ?_
  refine ao_nil (by first | dsimp only [setO, setE] | rfl) (by first | dsimp only [setM, setE, setR] | rfl) (by rfl) ?_
  intro a w1 g hr hn hs1
  have hk1 : Kp w w1 X := Kp.ofFr hr.fr (fun r h => absurd h (Nat.not_lt_zero r))
  have q0 := slot_raw (hr.slots 0)
  have q1 := slot_i (hr.slots 1)
  have q5 := slot_i (hr.slots 5)
  have hD1 : DeepB w1 lo b c es := hD.kp (X := nowh) (Kp.ofFr hr.fr (fun r h => absurd h (Nat.not_lt_zero r))) (fun _ _ h => h)
  refine wp_block ?_
  refine wp_loop_ghost (fun m a w2 => ∃ (i : Nat) (es2 : List E), m = xs.length - i ∧ i ≤ xs.length ∧ es2.map (·.1) = mixS xs k i ∧ es2.map (·.2) = es.map (·.2) ∧ a.defers = [] ∧ a.tmps.size = 27 ∧ a.tmps.getD 0 Go.undef = V ∧ a.tmps.getD 1 Go.undef = .int .i64 (k + (totS (xs.take i) : Int)) ∧ a.tmps.getD 5 Go.undef = .int .i64 (i : Int) ∧ DeepB w2 lo b c es2 ∧ (∀ q, DeepX b es2 q → X q) ∧ Kp w w2 X) xs.length
    ⟨0, es, rfl, Nat.zero_le _, by rw [hxs]; rfl, rfl, hr.defers, hs1, q0, by rw [q1]; simp [totS], q5, hD1, hX, hk1⟩ ?_
  clear hr hn hs1 hk1 q0 q1 q5 hD1 hD hX a g w1
  rintro m a w2 ⟨i, es2, rfl, hi, hem, heb, hd2, hs2, q0, q1, q5, hD, hX, hk2⟩
  have hel : es2.length = es.length := by have := congrArg List.length heb; simpa using this
  have hvl := flatE_len es2
  have hrow := hD.row
  have htl := totS_le xs i
  have hmi := fun e : es2.length = xs.length => e
  rw [hel] at hvl
  obtain ⟨vs, hvs⟩ : ∃ vs, vs = es2.flatMap eV := ⟨_, rfl⟩
  rw [← hvs] at hvl hrow
  rw [hel] at hrow
  have hv1 : ∀ v ∈ vs, v.oneCell' = true := by rw [hvs]; exact eV_one es2
  have hrl : (rawD vs).length = es.length * 2 := by unfold rawD; rw [List.length_map]; exact hvl
  refine rebase (gh1 (fun _ => 0) b c) [(0, .v false [.own true 0 es.length]), (1, .v false [.i .i64 (k + (totS (xs.take i) : Int))]), (5, .v false [.i .i64 (i : Int)])] [.arr 31 true true es.length (rawD vs)] 1 rfl ?_ (fun p hp => ?_) (mem_one (row_res hrow Nat.zero_lt_one rfl hvl hv1)) (gh1_born _ _ _) hd2 hs2
  rotate_left
  · simp only [List.mem_cons, List.not_mem_nil, or_false] at hp
    rcases hp with rfl | rfl | rfl
    · refine ⟨_, rfl, Nat.zero_lt_one, ?_⟩
      simp only [if_true]; rw [q0, hV]; rfl
    · exact ⟨_, rfl, q1⟩
    · exact ⟨_, rfl, q5⟩
  clear q0 q1 q5 hd2 hs2 a
  dsimp only [updL, setE, List.replicate, List.length_cons, List.length_nil]
  refine WC.seq (Qf := fun ex s _ => ex = .exit 0 ∧ i = xs.length ∧ s.t 1 = .v false [.i .i64 (k + (totS (xs.take i) : Int))] ∧ s.m 0 = .arr 31 true true es.length (rawD vs)) ?_ ?_
  · rintro ex s n' a w3 g _ ⟨rfl, hge, s1, sm⟩ hr hn hs3
    subst hge
    have q1 := hr.slots 1
    rw [s1] at q1
    have q1 := slot_i q1
    rw [List.take_length] at q1
    have hk3 : Kp w2 w3 fun q => q = b := Kp.ofFr hr.fr fun r _ _ => rfl
    have hg := hr.fr.gk 0 Nat.zero_lt_one
    have gb0 : g.gb 0 = b := hg.2.1
    have gc0 : g.gc 0 = c := hg.2.2
    have hres := hr.mem.ok 0
    rw [show (s.m 0) = _ from sm] at hres
    obtain ⟨_, _, us, hus, hrow3⟩ := res_row hres
    have hus := rawL_eq hus
    rw [hus, gb0, gc0] at hrow3
    have hD3 : DeepB w3 lo b c es2 := ⟨by rw [hel, ← hvs]; exact hrow3, fun x hx => ⟨(hD.inn x hx).1, fun ht => ((hD.inn x hx).2 ht).kp hk3 (fun q => hD.outer hx ht q)⟩, hD.lob, hD.los, hD.dist⟩
    have hk4 : Kp w w3 X := hk2.trans2 hk3 fun q _ e => hX q (.inl e)
    refine then_exit (block_exit (then_normal ?_))
    refine rebase (gh0 fun _ => 0) [(1, .v false [.i .i64 (k + (totS xs : Int))])] [] 0 rfl ?_ (fun p hp => ?_) (mem_nil _ _ _ _) (gh0_born _) hr.defers hs3
    rotate_left
    · obtain rfl := List.mem_singleton.1 hp
      exact ⟨_, rfl, q1⟩
    dsimp only [updL, setE, List.replicate, List.length_cons, List.length_nil]
    refine WC.all (Qf := fun ex s _ => ex = .ret ∧ s.t 4 = .v false [.i .i64 (k + (totS xs : Int))]) ?_ ?_
    · rintro ex s n' a4 w4 g4 ⟨rfl, s4⟩ hr4 _ _
      have q4 := hr4.slots 4
      rw [s4] at q4
      have q4 := slot_i q4
      have hk5 : Kp w3 w4 nowh := Kp.ofFr hr4.fr (fun r h => absurd h (Nat.not_lt_zero r))
      exact ⟨.inr rfl, hr4.defers, es2, congrArg _ q4, hD3.kp hk5 (fun _ _ h => h), by rw [hem, mixS_all], heb, hk4.trans hk5.none⟩
    · refine AW.seq ?_
      refine AW.region ?_
      refine ao0 (em_move (by rfl) (by rfl)) (by rfl) (by rfl) ?_
      refine ao0 (em_assign (by rfl) (by rfl)) (by rfl) (by rfl) ?_
      refine ao_nil (by first | dsimp only [setO, setE] | rfl) (by first | dsimp only [setM, setE, setR] | rfl) (by rfl) ?_
      refine AW.ret ?_
      exact ⟨rfl, rfl⟩
  refine AW.seq ?_
  refine AW.region ?_
  refine ao0 (em_move (by rfl) (by rfl)) (by rfl) (by rfl) ?_
  refine ao0 (em_move (by rfl) (by rfl)) (by rfl) (by rfl) ?_
  refine ao0 (sem_len tyOk (by rfl) (by rfl) (by rfl) (by rfl) (by first | exact .inl ⟨_, _, _, rfl⟩ | exact .inr ⟨_, _, rfl⟩)) (by rfl) (by rfl) ?_
  refine ao0 (em_binI (by rfl) (by rfl) (by rfl) (by rfl) (by first | rfl | trivial | exact ⟨rfl, by decide⟩ | exact ⟨rfl, by omega⟩ | decide | omega)) (by rfl) (by rfl) ?_
  refine ao_nil (by first | dsimp only [setO, setE] | rfl) (by first | dsimp only [setM, setE, setR] | rfl) (by rfl) ?_
  refine AW.cond (by rfl) (fun hc1 => ?_) (fun hc1 => ?_)
  rotate_left
  · have hge : i = xs.length := by simp at hc1; omega
    refine AW.exit ?_
    exact ⟨rfl, hge, rfl, rfl⟩
  have hlt : i < xs.length := by simp at hc1; omega
  have hli : i < es2.length := by omega
  refine AW.skip ?_
  -- the element
  obtain ⟨e, he⟩ : ∃ e, e = es2[i] := ⟨_, rfl⟩
  have hex : e.1 = xs[i] := by
    obtain ⟨hq, q⟩ := mixS_at xs k i hlt
    rw [← q]
    have : (es2.map (·.1))[i]'(by rw [List.length_map]; exact hli) = (mixS xs k i)[i]'hq := by simp only [hem]
    rw [← this, List.getElem_map, he]
  have hmem : e ∈ es2 := by rw [he]; exact List.getElem_mem hli
  have hst := totS_take xs i hlt
  have htl2 := totS_le xs (i + 1)
  have hll : e.1.2.1.length ≤ 1048576 := by rw [hex]; exact hs _ (List.getElem_mem hlt)
  obtain ⟨kk, hkk⟩ : ∃ kk, kk = k + (totS (xs.take i) : Int) := ⟨_, rfl⟩
  rw [← hkk]
  have hk0 : 0 < kk := by omega
  have hkl : kk + 2 * (e.1.2.1.length : Int) + 1 ≤ 100000000 := by rw [hex]; omega
  have HD0 : (rawD vs).drop (((i : Nat) : Int).toNat * 2 + 0) = [D.raw (slV e.1.1 e.2.1 e.1.2.1.length e.2.2), D.raw (.int .i64 e.1.2.2)] ++ rawD ((es2.drop (i + 1)).flatMap eV) := by
    rw [Int.toNat_natCast, Nat.add_zero]
    unfold rawD
    rw [← List.map_drop, hvs, drop_eV es2 i hli, List.map_append, ← he]
    rfl
  refine WC.seqW ?_
  refine WC.block ?_
  refine WC.seqW ?_
  refine WC.regionS ?_
  refine WT.part 6 (by first | exact Nat.le_of_ble_eq_true rfl | decide) ?_
  refine ao0 (em_move (by rfl) (by rfl)) (by rfl) (by rfl) ?_
  refine ao0 (em_move (by rfl) (by rfl)) (by rfl) (by rfl) ?_
  refine ao0 (sem_indexAddr tyOk (by rfl) (by rfl) (by rfl) (by rfl) (by rfl) (by rfl) (by omega) (by omega)) (by rfl) (by rfl) ?_
  refine ao0 (sem_fieldAddr tyOk (by rfl) (by rfl) (by rfl) (by rfl) (by rfl) (by rfl)) (by rfl) (by rfl) ?_
  refine ao_load tyOk (by rfl) (by rfl) (by rfl) (by rfl) (by rfl) (cont_arr (by rfl) HD0) (by rfl) (by first | trivial | exact Nat.le_of_ble_eq_true rfl | decide | (simp; done) | omega) ?_
  refine ao0 (em_move (by rfl) (by rfl)) (by rfl) (by rfl) ?_
  refine ao_nil (by first | dsimp only [setO, setE] | rfl) (by first | dsimp only [setM, setE, setR] | rfl) (by rfl) ?_
  intro a w3 g hr hn hs3
  have q16 := slot_raw (hr.slots 16)
  have q17 := slot_i (hr.slots 17)
  have q0 := slot_own (hr.slots 0)
  have q5 := slot_i (hr.slots 5)
  have hk3 : Kp w2 w3 fun q => q = b := Kp.ofFr hr.fr fun r _ _ => rfl
  have hg := hr.fr.gk 0 Nat.zero_lt_one
  have gb0 : g.gb 0 = b := hg.2.1
  have gc0 : g.gc 0 = c := hg.2.2
  obtain ⟨_, _, us, hus, hrow3⟩ := res_row (hr.mem.ok 0)
  have hus := rawL_eq hus
  rw [hus, gb0, gc0] at hrow3
  rw [gb0, gc0, ← hV] at q0
  have hD3 : DeepB w3 lo b c es2 := ⟨by rw [hel, ← hvs]; exact hrow3, fun x hx => ⟨(hD.inn x hx).1, fun ht => ((hD.inn x hx).2 ht).kp hk3 (fun q => hD.outer hx ht q)⟩, hD.lob, hD.los, hD.dist⟩
  have hk4 : Kp w w3 X := hk2.trans2 hk3 fun q _ e => hX q (.inl e)
  have hd3 := hr.defers
  clear hr hn hus hrow3 gb0 gc0 hg hk3 hD hk2 hrow
  -- the labels, a row of one's own
  have hMK := markLabelS_ok e.1.1 e.1.2.1 kk hk0 (by omega) hll (hD3.inn e hmem).1
  refine rebaseT (gh1 (fun _ => 0) e.2.1 e.2.2) [(0, .v false [.raw V]), (5, .v false [.i .i64 (i : Int)]), (16, .v false [.own e.1.1 0 e.1.2.1.length]), (17, .v false [.i .i64 kk])] [.arr 61 true e.1.1 e.1.2.1.length (e.1.2.1.flatMap labD)] 1 rfl ?_ (fun p hp => ?_) (mem_one (in_res (hD3.inn e hmem) Nat.zero_lt_one rfl rfl rfl)) (gh1_born _ _ _) hd3 hs3
  rotate_left
  · simp only [List.mem_cons, List.not_mem_nil, or_false] at hp
    rcases hp with rfl | rfl | rfl | rfl
    · exact ⟨_, rfl, hV1, q0⟩
    · exact ⟨_, rfl, q5⟩
    · refine ⟨_, rfl, Nat.zero_lt_one, ?_⟩
      show if e.1.1 = true then a.tmps.getD 16 Go.undef = .slice (some ⟨e.2.1, 0, none⟩) e.1.2.1.length e.2.2 else e.1.2.1.length = 0 ∧ a.tmps.getD 16 Go.undef = .slice none 0 0
      rw [q16]
      unfold slV
      cases hn : e.1.1 with
      | false => simp [(hD3.inn e hmem).1 hn]
      | true => simp
    · exact ⟨_, rfl, q17⟩
  clear q0 q5 q16 q17 hd3 hs3 a
  dsimp only [updL, setE, List.replicate, List.length_cons, List.length_nil]
  refine WT.last ?_
  refine ao_callL [0] [] (hMK) (by rfl) (by rfl) (by rfl) (by rfl) (by rfl) (by repeat' (first | exact True.intro | exact .inl ⟨by rfl, by rfl⟩ | exact rfl | exact .inr (.inl ⟨_, _, _, _, by rfl, by rfl⟩) | exact .inr (.inr ⟨_, _, _, _, _, _, by rfl, by rfl, by rfl, by first | exact .head _ | exact .tail _ (.head _) | exact .tail _ (.tail _ (.head _)) | exact .tail _ (.tail _ (.tail _ (.head _)))⟩) | refine And.intro ?_ ?_)) (by repeat' (first | exact True.intro | exact .inl ⟨by rfl, by rfl⟩ | exact rfl | exact .inl rfl | exact .inr (.inl ⟨_, _, _, _, by rfl, by rfl⟩) | exact .inr ⟨rfl, scalL _⟩ | refine And.intro ?_ ?_)) (by rfl) (by rfl) (by rfl) (by decide) (by rfl) (by rfl) (by omega) keptM (by rfl) (by rfl) (by rfl) (by rfl) (by rfl) (by rfl) (by rfl) ?_
  refine ao0 (em_assign (by rfl) (by rfl)) (by rfl) (by rfl) ?_
  refine ao_nil (by first | dsimp only [setO, setE] | rfl) (by first | dsimp only [setM, setE, setR] | rfl) (by rfl) ?_
  intro a w4 g hr hn hs4
  have q0 := slot_raw (hr.slots 0)
  have q5 := slot_i (hr.slots 5)
  have q1 := slot_i (hr.slots 1)
  have hg := hr.fr.gk 0 Nat.zero_lt_one
  have hin := res_in (b := e.2.1) (c := e.2.2) (x := kk + 2 * (e.1.2.1.length : Int)) (hr.mem.ok 0) (by rw [heldG_len]) hg.2.1 hg.2.2
  have hk5 : Kp w3 w4 fun q => e.1.1 = true ∧ q = e.2.1 := Kp.ofFr hr.fr fun r hr hlv => by
    have : r = 0 := Nat.lt_one_iff.1 hr
    subst this
    exact ⟨hlv, rfl⟩
  have hd4 := hr.defers
  clear hr hn hg
  have hrow4 : RowAt w4 b c 31 es.length vs := by
    have := hD3.row.kp hk5 (fun ⟨q1, q2⟩ => hD3.outer hmem q1 q2.symm)
    rw [hel, ← hvs] at this; exact this
  refine then_normal ?_
  refine rebase (gh1 (fun _ => 0) b c) [(0, .v false [.own true 0 es.length]), (1, .v false [.i .i64 (kk + 2 * (e.1.2.1.length : Int))]), (5, .v false [.i .i64 (i : Int)])] [.arr 31 true true es.length (rawD vs)] 1 rfl ?_ (fun p hp => ?_) (mem_one (row_res hrow4 Nat.zero_lt_one rfl hvl hv1)) (gh1_born _ _ _) hd4 hs4
  rotate_left
  · simp only [List.mem_cons, List.not_mem_nil, or_false] at hp
    rcases hp with rfl | rfl | rfl
    · refine ⟨_, rfl, Nat.zero_lt_one, ?_⟩
      simp only [if_true]; rw [q0, hV]; rfl
    · exact ⟨_, rfl, q1⟩
    · exact ⟨_, rfl, q5⟩
  clear q0 q1 q5 hd4 hs4 a
  dsimp only [updL, setE, List.replicate, List.length_cons, List.length_nil]
  refine WC.seq (Qf := fun _ _ _ => False) (fun _ _ _ _ _ _ _ h => h.elim) ?_
  refine AW.region ?_
  refine ao0 (em_move (by rfl) (by rfl)) (by rfl) (by rfl) ?_
  refine ao0 (em_move (by rfl) (by rfl)) (by rfl) (by rfl) ?_
  refine ao0 (em_move (by rfl) (by rfl)) (by rfl) (by rfl) ?_
  refine ao0 (sem_indexAddr tyOk (by rfl) (by rfl) (by rfl) (by rfl) (by rfl) (by rfl) (by omega) (by omega)) (by rfl) (by rfl) ?_
  refine ao0 (sem_fieldAddr tyOk (by rfl) (by rfl) (by rfl) (by rfl) (by rfl) (by rfl)) (by rfl) (by rfl) ?_
  refine ao_store_arr tyOk (by rfl) (by rfl) (by rfl) (by rfl) (by rfl) (by rfl) (by rfl) (by rfl) (by rfl) (by first | decide | (simp; done) | omega | (simp only [List.length_cons, List.length_nil, List.length_map]; omega) | (simp only [setR_len, List.length_cons, List.length_nil, List.length_map]; omega)) ?_
  refine ao_nil (by first | dsimp only [setO, setE] | rfl) (by first | dsimp only [setM, setE, setR] | rfl) (by rfl) ?_
  refine WC.next (fun a w h => h) ?_
  refine AW.region ?_
  refine ao0 (em_move (by rfl) (by rfl)) (by rfl) (by rfl) ?_
  refine ao0 (em_add (by rfl) (by rfl) (by rfl) (by omega) (by omega)) (by rfl) (by rfl) ?_
  refine ao0 (em_assign (by rfl) (by rfl)) (by rfl) (by rfl) ?_
  refine ao_nil (by first | dsimp only [setO, setE] | rfl) (by first | dsimp only [setM, setE, setR] | rfl) (by rfl) ?_
  refine WC.all (Qf := fun ex s _ => ex = .normal ∧ s.t 0 = .v false [.own true 0 es.length] ∧ s.t 1 = .v false [.i .i64 (kk + 2 * (e.1.2.1.length : Int) + 1)] ∧ s.t 5 = .v false [.i .i64 ((i : Int) + 1)] ∧ s.m 0 = .arr 31 true true es.length (setR (rawD vs) (((i : Nat) : Int).toNat * 2 + 1) [.i .i64 (kk + 2 * (e.1.2.1.length : Int))])) ?_ ?_
  rotate_left
  · refine AW.region ?_
    refine ao0 (em_move (by rfl) (by rfl)) (by rfl) (by rfl) ?_
    refine ao0 (em_add (by rfl) (by rfl) (by rfl) (by omega) (by omega)) (by rfl) (by rfl) ?_
    refine ao0 (em_assign (by rfl) (by rfl)) (by rfl) (by rfl) ?_
    refine ao_nil (by first | dsimp only [setO, setE] | rfl) (by first | dsimp only [setM, setE, setR] | rfl) (by rfl) ?_
    exact ⟨rfl, rfl, rfl, rfl, rfl⟩
  rintro ex s n' a w5 g ⟨rfl, s0, s1, s5, sm⟩ hr hn hs5
  have q0 := hr.slots 0
  have q1 := hr.slots 1
  have q5 := hr.slots 5
  rw [s0] at q0
  rw [s1] at q1
  rw [s5] at q5
  have q0 := slot_own q0
  have q1 := slot_i q1
  have q5 := slot_i q5
  have hg := hr.fr.gk 0 Nat.zero_lt_one
  have gb0 : g.gb 0 = b := hg.2.1
  have gc0 : g.gc 0 = c := hg.2.2
  have hk6 : Kp w4 w5 fun q => q = b := Kp.ofFr hr.fr fun r _ _ => rfl
  have hres := hr.mem.ok 0
  rw [show (s.m 0) = _ from sm] at hres
  obtain ⟨_, _, us, hus, hrow5⟩ := res_row hres
  obtain ⟨v, hus, hv⟩ := setL_one (by rw [hvl, Int.toNat_natCast]; omega) hus
  have hv : v = .int .i64 (kk + 2 * (e.1.2.1.length : Int)) := hv
  rw [gb0, gc0] at hrow5 q0
  rw [← hV] at q0
  obtain ⟨e', he'⟩ : ∃ e' : E, e' = ((e.1.1, heldG labG 2 kk e.1.2.1.length, kk + 2 * (e.1.2.1.length : Int)), e.2.1, e.2.2) := ⟨_, rfl⟩
  have hin' : InOk w5 e' := by
    rw [he']
    refine ⟨hin.1, fun ht => (hin.2 ht).kp hk6 fun q => ?_⟩
    exact hD3.outer hmem ht q
  have hee : eV e' = [slV e.1.1 e.2.1 e.1.2.1.length e.2.2, v] := by rw [he', hv]; unfold eV; dsimp only; rw [heldG_len]
  have husE : us = (es2.set i e').flatMap eV := by
    rw [← setR_flat es2 i hli e', hee, hus, hvs, Int.toNat_natCast]
    have := setR_same es2 i hli
    rw [← he] at this
    conv => lhs; rw [← this]
    exact setR_cons _ _ _ _ _ rfl
  rw [husE] at hrow5
  have hkk' : Kp w3 w5 fun q => q = b ∨ (es2[i].1.1 = true ∧ q = es2[i].2.1) := (hk5.mono fun q _ h => .inr (by rw [← he]; exact h)).trans2 hk6 fun q _ h => .inl h
  have hD5 : DeepB w5 lo b c (es2.set i e') := hD3.upd hli hkk' (by rw [List.length_set, hel]; exact hrow5) hin' (by rw [he', ← he]) (by rw [he', ← he])
  have heb' : (es2.set i e').map (·.2) = es2.map (·.2) := by
    rw [List.map_set, he']
    refine List.ext_getElem (by simp) fun p h1 h2 => ?_
    rw [List.getElem_set]
    split
    · subst p; rw [List.getElem_map, ← he]
    · rfl
  have hXe : ∀ q, DeepX b (es2.set i e') q → X q := by
    rintro q (rfl | ⟨y, hy, ht, rfl⟩)
    · exact hX _ (.inl rfl)
    · rcases List.mem_or_eq_of_mem_set hy with hy | rfl
      · exact hX _ (.inr ⟨y, hy, ht, rfl⟩)
      · rw [he'] at ht ⊢
        exact hX _ (.inr ⟨e, hmem, ht, rfl⟩)
  refine ⟨xs.length - (i + 1), by omega, i + 1, es2.set i e', rfl, hlt, ?_, by rw [heb', heb], hr.defers, hs5, q0, ?_, q5, hD5, hXe, ?_⟩
  · rw [List.map_set, hem, ← mixS_set xs k i hlt, he']
    congr 1
    unfold markX
    rw [← hkk, ← hex]
  · rw [q1, hst, hkk, hex]
    congr 1
    omega
  · refine hk4.trans2 hkk' fun q _ h => ?_
    rcases h with h | ⟨h1, h2⟩
    · exact hX q (.inl h)
    · exact hX q (.inr ⟨es2[i], List.getElem_mem hli, h1, h2⟩)
theorem markSampleS_deep (w : World) (lo : Nat) (V : Value) (nn : Bool) (es : List E) (xs : List samT) (k : Int) (X : Nat → Prop) (hD : DeepV w lo V nn es) (hxs : es.map (·.1) = xs) (h0 : 0 < k) (h1 : k + (totS xs : Int) ≤ 100000000) (hl : xs.length ≤ 1048576) (hs : ∀ x ∈ xs, x.2.1.length ≤ 1048576) (hX : ∀ q, DeepXV V es q → X q) :
    Calls Try.prog 22 #[V, .int .i64 k] w fun e w' => ∃ es', e = .returned (.int .i64 (k + (totS xs : Int))) ∧ DeepV w' lo V nn es' ∧ es'.map (·.1) = markS xs k ∧ Kp w w' X := by
  rcases hD with ⟨hn, hV, he⟩ | ⟨hn, b, c, hV, hD⟩
  · subst he
    have : xs = [] := hxs.symm
    subst this
    have hr : RelAs w (gh1 (fun _ => 0) 0 0) w.heap.size [.v false [.own false 0 0], .v false [.i .i64 k]] [V, .int .i64 k] := ⟨⟨_, rfl, Nat.zero_lt_one, by rw [hV]; exact ⟨rfl, rfl⟩⟩, ⟨_, rfl, rfl⟩, trivial⟩
    refine calls_start Try.func22 rfl (by rw [Try.results22]) fun a ha hd => ?_
    obtain ⟨hsz, hat⟩ := args_at (args := [V, .int .i64 k]) (n := 27) ha (by simp)
    refine rebase (gh0 fun _ => 0) [(0, .v false [.sl false false 0 []]), (1, .v false [.i .i64 k])] [] 0 rfl ?_ (fun p hp => ?_) (mem_nil _ _ _ _) (gh0_born _) hd hsz
    rotate_left
    · simp only [List.mem_cons, List.not_mem_nil, or_false] at hp
      rcases hp with rfl | rfl
      · refine ⟨_, rfl, ?_⟩
        rw [hat 0 (by simp)]
        show RelD w (fun _ => 0) (.sl false 0 []) V
        rw [hV]; exact .nil
      · exact ⟨_, rfl, hat 1 (by simp)⟩
    dsimp only [updL, setE, List.replicate, List.length_cons, List.length_nil]
    refine WC.all (Qf := fun ex s _ => ex = .ret ∧ s.t 4 = .v false [.i .i64 k]) ?_ ?_
    · rintro ex s n' a4 w4 g4 ⟨rfl, s4⟩ hr4 _ _
      have q4 := hr4.slots 4
      rw [s4] at q4
      have q4 := slot_i q4
      have hk5 : Kp w w4 nowh := Kp.ofFr hr4.fr (fun r h => absurd h (Nat.not_lt_zero r))
      exact ⟨.inr rfl, hr4.defers, [], by rw [q4]; simp [totS], .inl ⟨hn, hV, rfl⟩, rfl, hk5.none⟩
    · refine AW.seq ?_
      refine AW.region ?_
      refine ao0 (em_assign (by rfl) (by rfl)) (by rfl) (by rfl) ?_
      refine ao_nil (by first | dsimp only [setO, setE] | rfl) (by first | dsimp only [setM, setE, setR] | rfl) (by rfl) ?_
      refine AW.seq ?_
      refine AW.seq ?_
      refine AW.region ?_
      refine ao0 (em_assign (by rfl) (by rfl)) (by rfl) (by rfl) ?_
      refine ao_nil (by first | dsimp only [setO, setE] | rfl) (by first | dsimp only [setM, setE, setR] | rfl) (by rfl) ?_
      refine AW.block ?_
      refine AW.unroll 1 ?_
      refine AWr_step ?_
      refine AW.seq ?_
      refine AW.seq ?_
      refine AW.region ?_
      refine ao0 (em_move (by rfl) (by rfl)) (by rfl) (by rfl) ?_
      refine ao0 (em_move (by rfl) (by rfl)) (by rfl) (by rfl) ?_
      refine ao0 (sem_len tyOk (by rfl) (by rfl) (by rfl) (by rfl) (by first | exact .inl ⟨_, _, _, rfl⟩ | exact .inr ⟨_, _, rfl⟩)) (by rfl) (by rfl) ?_
      refine ao0 (em_binI (by rfl) (by rfl) (by rfl) (by rfl) (by first | rfl | trivial | exact ⟨rfl, by decide⟩ | exact ⟨rfl, by omega⟩ | decide | omega)) (by rfl) (by rfl) ?_
      refine ao_nil (by first | dsimp only [setO, setE] | rfl) (by first | dsimp only [setM, setE, setR] | rfl) (by rfl) ?_
      refine AW.cond (by rfl) (fun hc1 => ?_) (fun hc1 => ?_)
      · exfalso; simp at hc1
      · refine AW.exit ?_
        refine AW.seq ?_
        refine AW.region ?_
        refine ao0 (em_move (by rfl) (by rfl)) (by rfl) (by rfl) ?_
        refine ao0 (em_assign (by rfl) (by rfl)) (by rfl) (by rfl) ?_
        refine ao_nil (by first | dsimp only [setO, setE] | rfl) (by first | dsimp only [setM, setE, setR] | rfl) (by rfl) ?_
        refine AW.ret ?_
        exact ⟨rfl, rfl⟩
  · have hel : es.length = xs.length := by rw [← hxs, List.length_map]
    have h := markSampleS_deepB w lo b c es xs k X hD hxs h0 h1 (by omega) hs (fun q hq => hX q ⟨b, _, c, hV, hq⟩)
    rw [← hV] at h
    refine h.mono ?_
    rintro e w' ⟨es', rfl, h1, h2, h3, h4⟩
    refine ⟨es', rfl, .inr ⟨hn, b, c, ?_, h1⟩, h2, h4⟩
    have : es'.length = es.length := by have := congrArg List.length h3; simpa using this
    rw [this]; exact hV
end Go.Proofs.Ytpobimdcphjljaa
