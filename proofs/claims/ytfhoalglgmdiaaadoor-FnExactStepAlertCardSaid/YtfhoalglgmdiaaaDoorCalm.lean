/-
  A region that draws its order and whose operations call, or make memory: one walk in the order of the text serves every order.
  Conditions: each operation that is no pure reading is given what it yields ('S'); what is said of the memory stays true whatever the other operations do ('R'); operations that change what the others read stand in a chain.
-/
import Derived.StillTail
import Derived.Tactics
import Derived.Tactics2
import Derived.KernelRfl
import Derived.Below
import Derived.Test.YtfhoalglgmdiaaaDoorRows
namespace Go.Proofs.YtfhoalglgmdiaaaDoor
open Go

section
variable {P : Program} {ops : Array Oper} {md : Region.Mode}
variable (C0 : World → Prop) (R : Nat → World → World → Prop) (I : Nat → World → Prop) (chain : Nat → Bool) (S : Nat → Option (List Value → Value → World → Prop))

/-- What the relations and the facts must be to each other: what is said of an operation stays true whatever those do that it does not wait for. -/
structure Setting (md : Region.Mode) (ops : Array Oper) : Prop where
  c : ∀ j w w', C0 w → R j w w' → C0 w'
  i : ∀ j m w w', chain j = false → I m w → R j w w' → I m w'
  s : ∀ i s, S i = some s → ∀ j, j ≠ i → Region.waitsFor md ops i j = false → S j ≠ none → ∀ vs x w w', s vs x w → R j w w' → s vs x w'

def upd (G : Nat → World → Prop) (j : Nat) (F : World → Prop) : Nat → World → Prop := fun k w => G k w ∧ (k = j → F w)
/-- A world in which all that is known holds. -/
def Some' (G : Nat → World → Prop) : Prop := ∃ w, C0 w ∧ ∀ k, G k w
def Full (G : Nat → World → Prop) (m : Nat) (w : World) : Prop := C0 w ∧ (∀ k, G k w) ∧ I m w
def Cls (md : Region.Mode) (ops : Array Oper) (G : Nat → World → Prop) (j : Nat) (w : World) : Prop := C0 w ∧ ∀ k, Region.waitsFor md ops j k = true → G k w
def opVals (o : Oper) (a : Act) : List Value := o.op.operands.toList.map a.eval

/-- What an operation that is no pure reading must come to. -/
def annUpon (P : Program) (T : Value → World → Prop) : Result Next → Prop
  | .ok (.value u) w' => T u w'
  | .ok .skip w' => T undef w'
  | .ok (.enter f args) w' => Calls P f args w' (fun e w'' => ∃ v, e = .returned v ∧ T v w'')
  | _ => False

theorem annUpon_some {T : Value → World → Prop} {r : Result Next} (h : annUpon P T r) : ∃ u w', T u w' := by
  unfold annUpon at h
  split at h
  · exact ⟨_, _, h⟩
  · exact ⟨_, _, h⟩
  · obtain ⟨e, w', fr, ⟨v, _, ht⟩, _⟩ := h []
    exact ⟨v, w', ht⟩
  · exact h.elim
theorem annUpon_mono {T T' : Value → World → Prop} {r : Result Next} (h : ∀ u w, T u w → T' u w) (hh : annUpon P T r) : annUpon P T' r := by
  unfold annUpon at *
  split <;> rename_i x <;> simp only at hh
  · exact h _ _ hh
  · exact h _ _ hh
  · exact hh.mono fun e w'' ⟨v, he, ht⟩ => ⟨v, he, h _ _ ht⟩

/-- What operation j leaves of the memory: it keeps to its relation; a chain's operation moves the chain on. -/
def Eff (j m : Nat) (w w' : World) : Prop := R j w w' ∧ (chain j = true → I (m + 1) w')
def step (j m : Nat) : Nat := if chain j then m + 1 else m

/-- Operation number j, wanted: a pure reading yields one value; any other what is said of it. -/
def Obl (P : Program) (md : Region.Mode) (ops : Array Oper) (j : Nat) (o : Oper) (G : Nat → World → Prop) (m : Nat) (a : Act) (s : List Value → Value → World → Prop) : Prop :=
  ∀ w, Cls C0 md ops G j w → (chain j = true → I m w) → annUpon P (fun u w' => Eff R I chain j m w w' ∧ s (opVals o a) u w') ((execOp a.eval o).run P w)
def Pure (P : Program) (md : Region.Mode) (ops : Array Oper) (j : Nat) (o : Oper) (G : Nat → World → Prop) (a : Act) (v : Value) : Prop :=
  ∀ w, Cls C0 md ops G j w → (execOp a.eval o).run P w = .ok (.value v) w

def cOp (P : Program) (md : Region.Mode) (ops : Array Oper) (j : Nat) (K : (Nat → World → Prop) → Nat → Act → Prop) (G : Nat → World → Prop) (m : Nat) (a : Act) : Prop :=
  match ops[j]? with
  | none => False
  | some o => if Region.wanted o (yielded ops a.tmps) then
      match S j with
      | none => ∃ v, Pure C0 P md ops j o G a v ∧ K G m (a.put o.dst v)
      | some s => Obl C0 R I chain P md ops j o G m a s ∧ ∀ u, Some' C0 (upd G j (s (opVals o a) u)) → K (upd G j (s (opVals o a) u)) (step chain j m) (a.put o.dst u)
    else K G m (a.put o.dst undef)

/-- The operations of a list, one behind the other. -/
def wpSeq (P : Program) (md : Region.Mode) (ops : Array Oper) (Q : (Nat → World → Prop) → Nat → Act → Prop) : List Nat → (Nat → World → Prop) → Nat → Act → Prop
  | [], G, m, a => Q G m a
  | i :: is, G, m, a => cOp C0 R I chain S P md ops i (wpSeq P md ops Q is) G m a

variable {C0 R I chain S}

theorem upd_comm {G : Nat → World → Prop} (i j : Nat) (F F' : World → Prop) : upd (upd G i F) j F' = upd (upd G j F') i F := by
  funext k w
  unfold upd
  exact propext ⟨fun h => ⟨⟨h.1.1, h.2⟩, h.1.2⟩, fun h => ⟨⟨h.1.1, h.2⟩, h.1.2⟩⟩
theorem some_of_upd {G : Nat → World → Prop} {j : Nat} {F : World → Prop} (h : Some' C0 (upd G j F)) : Some' C0 G := h.imp fun _ h => ⟨h.1, fun k => (h.2 k).1⟩
theorem some_of_upd2 {G : Nat → World → Prop} {i j : Nat} {F F' : World → Prop} (h : Some' C0 (upd (upd G j F') i F)) : Some' C0 (upd G i F) := h.imp fun _ h => ⟨h.1, fun k => ⟨(h.2 k).1.1, (h.2 k).2⟩⟩

theorem cls_upd {G : Nat → World → Prop} {i j : Nat} {F : World → Prop} {w : World} (h : Region.waitsFor md ops j i = false) : Cls C0 md ops (upd G i F) j w ↔ Cls C0 md ops G j w := by
  unfold Cls upd
  constructor
  · rintro ⟨h1, h2⟩
    exact ⟨h1, fun k hk => (h2 k hk).1⟩
  · rintro ⟨h1, h2⟩
    exact ⟨h1, fun k hk => ⟨h2 k hk, fun e => by subst e; rw [h] at hk; cases hk⟩⟩

theorem opVals_put {o : Oper} {a : Act} {dst : Option Tmp} {u : Value} (h : ∀ d, dst = some d → d ∉ o.looksAt ops) : opVals o (a.put dst u) = opVals o a := by
  unfold opVals
  refine List.map_congr_left fun x hx => Act.eval_put fun d hd hxd => h d hd ?_
  subst hxd
  exact List.mem_append_left _ (List.mem_filterMap.2 ⟨.tmp d, hx, rfl⟩)

/-- Two operations that neither look at each other nor wait for each other; not both of the chain. -/
structure Free2 (md : Region.Mode) (ops : Array Oper) (chain : Nat → Bool) (i j : Nat) (oi oj : Oper) : Prop where
  ati : ops[i]? = some oi
  atj : ops[j]? = some oj
  apart : oi.apart ops oj = true
  ij : Region.waitsFor md ops i j = false
  ji : Region.waitsFor md ops j i = false
  both : ¬ (chain i = true ∧ chain j = true)
  seli : ∀ cs b, oi.op ≠ .select cs b
  selj : ∀ cs b, oj.op ≠ .select cs b

/-- What is asked of j is the same behind i. -/
theorem obl_of_put {i j : Nat} {oi oj : Oper} (hf : Free2 md ops chain i j oi oj) {G : Nat → World → Prop} {F : World → Prop} {m : Nat} {a : Act} {u : Value} {s : List Value → Value → World → Prop} :
    Obl C0 R I chain P md ops j oj (upd G i F) (step chain i m) (a.put oi.dst u) s ↔ Obl C0 R I chain P md ops j oj G m a s := by
  obtain ⟨h1, h2, h3⟩ := Oper.apart_spec hf.apart
  have hm : chain j = true → step chain i m = m := fun hc => by
    unfold step
    rw [if_neg (fun e => hf.both ⟨e, hc⟩)]
  have hE : ∀ w w', Eff R I chain j (step chain i m) w w' ↔ Eff R I chain j m w w' := fun w w' => by
    unfold Eff
    constructor
    · rintro ⟨h1, h2⟩; exact ⟨h1, fun hc => by have := h2 hc; rwa [hm hc] at this⟩
    · rintro ⟨h1, h2⟩; exact ⟨h1, fun hc => by rw [hm hc]; exact h2 hc⟩
  unfold Obl
  rw [execOp_put oj hf.selj a oi.dst u h1, opVals_put h1]
  constructor
  · intro h w hw hi
    exact annUpon_mono (fun u' w' hh => ⟨(hE _ _).1 hh.1, hh.2⟩) (h w ((cls_upd hf.ji).2 hw) (fun hc => by rw [hm hc]; exact hi hc))
  · intro h w hw hi
    exact annUpon_mono (fun u' w' hh => ⟨(hE _ _).2 hh.1, hh.2⟩) (h w ((cls_upd hf.ji).1 hw) (fun hc => by have := hi hc; rwa [hm hc] at this))
theorem obl_of_put0 {i j : Nat} {oi oj : Oper} (hf : Free2 md ops chain i j oi oj) {G : Nat → World → Prop} {m : Nat} {a : Act} {u : Value} {s : List Value → Value → World → Prop} :
    Obl C0 R I chain P md ops j oj G m (a.put oi.dst u) s ↔ Obl C0 R I chain P md ops j oj G m a s := by
  obtain ⟨h1, h2, h3⟩ := Oper.apart_spec hf.apart
  unfold Obl
  rw [execOp_put oj hf.selj a oi.dst u h1, opVals_put h1]
theorem pure_of_put {i j : Nat} {oi oj : Oper} (hf : Free2 md ops chain i j oi oj) {G : Nat → World → Prop} {F : World → Prop} {a : Act} {u v : Value} :
    Pure C0 P md ops j oj (upd G i F) (a.put oi.dst u) v ↔ Pure C0 P md ops j oj G a v := by
  obtain ⟨h1, h2, h3⟩ := Oper.apart_spec hf.apart
  unfold Pure
  rw [execOp_put oj hf.selj a oi.dst u h1]
  exact ⟨fun h w hw => h w ((cls_upd hf.ji).2 hw), fun h w hw => h w ((cls_upd hf.ji).1 hw)⟩
theorem pure_of_put0 {i j : Nat} {oi oj : Oper} (hf : Free2 md ops chain i j oi oj) {G : Nat → World → Prop} {a : Act} {u v : Value} :
    Pure C0 P md ops j oj G (a.put oi.dst u) v ↔ Pure C0 P md ops j oj G a v := by
  obtain ⟨h1, h2, h3⟩ := Oper.apart_spec hf.apart
  unfold Pure
  rw [execOp_put oj hf.selj a oi.dst u h1]
theorem Free2.symm {i j : Nat} {oi oj : Oper} (hf : Free2 md ops chain i j oi oj) : Free2 md ops chain j i oj oi := by
  obtain ⟨h1, h2, h3⟩ := Oper.apart_spec hf.apart
  refine ⟨hf.atj, hf.ati, ?_, hf.ji, hf.ij, fun h => hf.both ⟨h.2, h.1⟩, hf.selj, hf.seli⟩
  unfold Oper.apart
  cases hj : oj.dst with
  | none =>
    cases hi : oi.dst with
    | none => rfl
    | some d => simp [h1 d hi]
  | some d' =>
    cases hi : oi.dst with
    | none => simp [h3 d' hj]
    | some d =>
      have := h2 d hi
      rw [hj] at this
      simp [h3 d' hj, h1 d hi]
      exact fun e => this (by rw [e])

theorem some_full {G : Nat → World → Prop} {m : Nat} {w : World} (h : Full C0 I G m w) : Some' C0 G := ⟨w, h.1, h.2.1⟩

/-- What remains to be shown of j stands in the proof for the whole list, whatever comes before it: a reading. -/
theorem find_obl (hset : Setting C0 R I chain S md ops) {j : Nat} {oj : Oper} {Q : (Nat → World → Prop) → Nat → Act → Prop} {post : List Nat} : ∀ (pre : List Nat) (G : Nat → World → Prop) (m : Nat) (a : Act) (w : World),
    (∀ i ∈ pre, ∀ oi, ops[i]? = some oi → Free2 md ops chain i j oi oj) → pre.Pairwise (fun i i' => i' ≠ i ∧ Region.waitsFor md ops i i' = false) → (∀ i ∈ pre, S i ≠ none → ∀ k w w', G k w → R i w w' → G k w') → Full C0 I G m w → ops[j]? = some oj → Region.wanted oj (yielded ops a.tmps) = true →
    wpSeq C0 R I chain S P md ops Q (pre ++ j :: post) G m a →
    match S j with
    | none => ∃ v, Pure C0 P md ops j oj G a v
    | some s => Obl C0 R I chain P md ops j oj G m a s
  | [], G, m, a, w, _, _, _, hw, hj, hwd, h => by
    simp only [List.nil_append, wpSeq, cOp, hj, hwd, if_true] at h
    cases hs : S j with
    | none => simp only [hs] at h ⊢; exact h.imp fun _ h => h.1
    | some s => simp only [hs] at h ⊢; exact h.1
  | i :: pre, G, m, a, w, hf, hpw, hG, hw, hj, hwd, h => by
    have hpw' := List.pairwise_cons.1 hpw
    have hGp : ∀ i' ∈ pre, S i' ≠ none → ∀ k w w', G k w → R i' w w' → G k w' := fun i' hi' => hG i' (List.mem_cons_of_mem _ hi')
    simp only [List.cons_append, wpSeq, cOp] at h
    cases hoi : ops[i]? with
    | none => rw [hoi] at h; exact h.elim
    | some oi =>
      have hfi := hf i (List.mem_cons_self ..) oi hoi
      have hf' : ∀ k ∈ pre, ∀ ok, ops[k]? = some ok → Free2 md ops chain k j ok oj := fun k hk => hf k (List.mem_cons_of_mem _ hk)
      obtain ⟨h1, h2, h3⟩ := Oper.apart_spec hfi.apart
      have hwd' : ∀ u, Region.wanted oj (yielded ops (a.put oi.dst u).tmps) = true := fun u => by rw [wanted_put oj a oi.dst u h1]; exact hwd
      simp only [hoi] at h
      split at h
      · cases hs : S i with
        | none =>
          simp only [hs] at h
          obtain ⟨v, _, h5⟩ := h
          have := find_obl hset pre G m (a.put oi.dst v) w hf' hpw'.2 hGp hw hj (hwd' v) h5
          cases hsj : S j with
          | none => simp only [hsj] at this ⊢; exact this.imp fun _ h => (pure_of_put0 hfi).1 h
          | some s => simp only [hsj] at this ⊢; exact (obl_of_put0 hfi).1 this
        | some si =>
          simp only [hs] at h
          obtain ⟨h4, h5⟩ := h
          obtain ⟨u, w', hE, hu⟩ := annUpon_some (h4 w ⟨hw.1, fun k _ => hw.2.1 k⟩ (fun _ => hw.2.2))
          have hR : R i w w' := hE.1
          have hG' : ∀ i' ∈ pre, S i' ≠ none → ∀ k w w', upd G i (si (opVals oi a) u) k w → R i' w w' → upd G i (si (opVals oi a) u) k w' := fun i' hi' hn' k x y hx hxy =>
            ⟨hGp i' hi' hn' k _ _ hx.1 hxy, fun e => hset.s i si hs i' (hpw'.1 i' hi').1 (hpw'.1 i' hi').2 hn' _ _ _ _ (hx.2 e) hxy⟩
          have hw' : Full C0 I (upd G i (si (opVals oi a) u)) (step chain i m) w' := by
            refine ⟨hset.c _ _ _ hw.1 hR, fun k => ⟨hG i (List.mem_cons_self ..) (by rw [hs]; simp) k _ _ (hw.2.1 k) hR, fun _ => hu⟩, ?_⟩
            unfold step
            split
            · rename_i hc; exact hE.2 hc
            · rename_i hc; exact hset.i _ _ _ _ (by simpa using hc) hw.2.2 hR
          have := find_obl hset pre _ _ (a.put oi.dst u) w' hf' hpw'.2 hG' hw' hj (hwd' u) (h5 u (some_full hw'))
          cases hsj : S j with
          | none => simp only [hsj] at this ⊢; exact this.imp fun _ h => (pure_of_put hfi).1 h
          | some s => simp only [hsj] at this ⊢; exact (obl_of_put hfi).1 this
      · have := find_obl hset pre G m (a.put oi.dst undef) w hf' hpw'.2 hGp hw hj (hwd' undef) h
        cases hsj : S j with
        | none => simp only [hsj] at this ⊢; exact this.imp fun _ h => (pure_of_put0 hfi).1 h
        | some s => simp only [hsj] at this ⊢; exact (obl_of_put0 hfi).1 this

/-- The proof for the list without j, behind j: j was not wanted. -/
theorem take_skip {j : Nat} {oj : Oper} {Q : (Nat → World → Prop) → Nat → Act → Prop} {post : List Nat} : ∀ (pre : List Nat) (G : Nat → World → Prop) (m : Nat) (a : Act),
    (∀ i ∈ pre, ∀ oi, ops[i]? = some oi → Free2 md ops chain i j oi oj) → ops[j]? = some oj → Region.wanted oj (yielded ops a.tmps) = false →
    wpSeq C0 R I chain S P md ops Q (pre ++ j :: post) G m a → wpSeq C0 R I chain S P md ops Q (pre ++ post) G m (a.put oj.dst undef)
  | [], G, m, a, _, hj, hwd, h => by
    simp only [List.nil_append, wpSeq, cOp, hj, hwd, Bool.false_eq_true, if_false] at h
    exact h
  | i :: pre, G, m, a, hf, hj, hwd, h => by
    simp only [List.cons_append, wpSeq, cOp] at h ⊢
    cases hoi : ops[i]? with
    | none => rw [hoi] at h; exact h.elim
    | some oi =>
      have hfi := hf i (List.mem_cons_self ..) oi hoi
      have hf' : ∀ k ∈ pre, ∀ ok, ops[k]? = some ok → Free2 md ops chain k j ok oj := fun k hk => hf k (List.mem_cons_of_mem _ hk)
      obtain ⟨h1, h2, h3⟩ := Oper.apart_spec hfi.apart
      have hwd' : ∀ u, Region.wanted oj (yielded ops (a.put oi.dst u).tmps) = false := fun u => by rw [wanted_put oj a oi.dst u h1]; exact hwd
      simp only [hoi] at h ⊢
      rw [wanted_put oi a oj.dst undef h3]
      split at h
      · rename_i hwi
        rw [if_pos hwi]
        cases hs : S i with
        | none =>
          simp only [hs] at h ⊢
          obtain ⟨v, h4, h5⟩ := h
          refine ⟨v, (pure_of_put0 hfi.symm).2 h4, ?_⟩
          rw [← Act.put_comm a v undef h2]
          exact take_skip pre G m (a.put oi.dst v) hf' hj (hwd' v) h5
        | some si =>
          simp only [hs] at h ⊢
          obtain ⟨h4, h5⟩ := h
          refine ⟨(obl_of_put0 hfi.symm).2 h4, fun u hu => ?_⟩
          rw [opVals_put h3] at hu ⊢
          rw [← Act.put_comm a u undef h2]
          exact take_skip pre _ _ (a.put oi.dst u) hf' hj (hwd' u) (h5 u hu)
      · rename_i hwi
        rw [if_neg hwi]
        rw [← Act.put_comm a undef undef h2]
        exact take_skip pre G m (a.put oi.dst undef) hf' hj (hwd' undef) h

/-- j is a reading, of this value. -/
theorem take_pure {j : Nat} {oj : Oper} {v : Value} {Q : (Nat → World → Prop) → Nat → Act → Prop} {post : List Nat} (hsj : S j = none) : ∀ (pre : List Nat) (G : Nat → World → Prop) (m : Nat) (a : Act),
    (∀ i ∈ pre, ∀ oi, ops[i]? = some oi → Free2 md ops chain i j oi oj) → ops[j]? = some oj → Region.wanted oj (yielded ops a.tmps) = true → Some' C0 G → Pure C0 P md ops j oj G a v →
    wpSeq C0 R I chain S P md ops Q (pre ++ j :: post) G m a → wpSeq C0 R I chain S P md ops Q (pre ++ post) G m (a.put oj.dst v)
  | [], G, m, a, _, hj, hwd, hE, hv, h => by
    simp only [List.nil_append, wpSeq, cOp, hj, hwd, if_true, hsj] at h
    obtain ⟨v', h1, h2⟩ := h
    obtain ⟨w, hw1, hw2⟩ := hE
    have e1 := h1 w ⟨hw1, fun k _ => hw2 k⟩
    rw [hv w ⟨hw1, fun k _ => hw2 k⟩] at e1
    have e2 : v = v' := by injection e1 with e1 _; injection e1
    rw [e2]
    exact h2
  | i :: pre, G, m, a, hf, hj, hwd, hE, hv, h => by
    simp only [List.cons_append, wpSeq, cOp] at h ⊢
    cases hoi : ops[i]? with
    | none => rw [hoi] at h; exact h.elim
    | some oi =>
      have hfi := hf i (List.mem_cons_self ..) oi hoi
      have hf' : ∀ k ∈ pre, ∀ ok, ops[k]? = some ok → Free2 md ops chain k j ok oj := fun k hk => hf k (List.mem_cons_of_mem _ hk)
      obtain ⟨h1, h2, h3⟩ := Oper.apart_spec hfi.apart
      have hwd' : ∀ u, Region.wanted oj (yielded ops (a.put oi.dst u).tmps) = true := fun u => by rw [wanted_put oj a oi.dst u h1]; exact hwd
      simp only [hoi] at h ⊢
      rw [wanted_put oi a oj.dst v h3]
      split at h
      · rename_i hwi
        rw [if_pos hwi]
        cases hs : S i with
        | none =>
          simp only [hs] at h ⊢
          obtain ⟨v', h4, h5⟩ := h
          refine ⟨v', (pure_of_put0 hfi.symm).2 h4, ?_⟩
          rw [← Act.put_comm a v' v h2]
          exact take_pure hsj pre G m (a.put oi.dst v') hf' hj (hwd' v') hE ((pure_of_put0 hfi).2 hv) h5
        | some si =>
          simp only [hs] at h ⊢
          obtain ⟨h4, h5⟩ := h
          refine ⟨(obl_of_put0 hfi.symm).2 h4, fun u hu => ?_⟩
          rw [opVals_put h3] at hu ⊢
          rw [← Act.put_comm a u v h2]
          exact take_pure hsj pre _ _ (a.put oi.dst u) hf' hj (hwd' u) hu ((pure_of_put hfi).2 hv) (h5 u hu)
      · rename_i hwi
        rw [if_neg hwi]
        rw [← Act.put_comm a undef v h2]
        exact take_pure hsj pre G m (a.put oi.dst undef) hf' hj (hwd' undef) hE ((pure_of_put0 hfi).2 hv) h

/-- j is said of: what it yields. -/
theorem take_ann {j : Nat} {oj : Oper} {x : Value} {sj : List Value → Value → World → Prop} {Q : (Nat → World → Prop) → Nat → Act → Prop} {post : List Nat} (hsj : S j = some sj) : ∀ (pre : List Nat) (G : Nat → World → Prop) (m : Nat) (a : Act),
    (∀ i ∈ pre, ∀ oi, ops[i]? = some oi → Free2 md ops chain i j oi oj) → ops[j]? = some oj → Region.wanted oj (yielded ops a.tmps) = true → Some' C0 (upd G j (sj (opVals oj a) x)) →
    wpSeq C0 R I chain S P md ops Q (pre ++ j :: post) G m a → wpSeq C0 R I chain S P md ops Q (pre ++ post) (upd G j (sj (opVals oj a) x)) (step chain j m) (a.put oj.dst x)
  | [], G, m, a, _, hj, hwd, hE, h => by
    simp only [List.nil_append, wpSeq, cOp, hj, hwd, if_true, hsj] at h
    exact h.2 x hE
  | i :: pre, G, m, a, hf, hj, hwd, hE, h => by
    simp only [List.cons_append, wpSeq, cOp] at h ⊢
    cases hoi : ops[i]? with
    | none => rw [hoi] at h; exact h.elim
    | some oi =>
      have hfi := hf i (List.mem_cons_self ..) oi hoi
      have hf' : ∀ k ∈ pre, ∀ ok, ops[k]? = some ok → Free2 md ops chain k j ok oj := fun k hk => hf k (List.mem_cons_of_mem _ hk)
      obtain ⟨h1, h2, h3⟩ := Oper.apart_spec hfi.apart
      have hwd' : ∀ u, Region.wanted oj (yielded ops (a.put oi.dst u).tmps) = true := fun u => by rw [wanted_put oj a oi.dst u h1]; exact hwd
      have hov : ∀ u, opVals oj (a.put oi.dst u) = opVals oj a := fun u => opVals_put h1
      simp only [hoi] at h ⊢
      rw [wanted_put oi a oj.dst x h3]
      split at h
      · rename_i hwi
        rw [if_pos hwi]
        cases hs : S i with
        | none =>
          simp only [hs] at h ⊢
          obtain ⟨v', h4, h5⟩ := h
          refine ⟨v', (pure_of_put hfi.symm).2 h4, ?_⟩
          rw [← Act.put_comm a v' x h2]
          have := take_ann (x := x) hsj pre G m (a.put oi.dst v') hf' hj (hwd' v') (by rw [hov]; exact hE) h5
          rwa [hov] at this
        | some si =>
          simp only [hs] at h ⊢
          obtain ⟨h4, h5⟩ := h
          refine ⟨(obl_of_put hfi.symm).2 h4, fun u hu => ?_⟩
          rw [opVals_put h3] at hu ⊢
          rw [← Act.put_comm a u x h2, upd_comm, show step chain i (step chain j m) = step chain j (step chain i m) from by unfold step; split <;> split <;> rfl]
          have := take_ann (x := x) hsj pre (upd G i (si (opVals oi a) u)) (step chain i m) (a.put oi.dst u) hf' hj (hwd' u) (by rw [hov, upd_comm]; exact hu) (h5 u (some_of_upd2 hu))
          rwa [hov] at this
      · rename_i hwi
        rw [if_neg hwi]
        rw [← Act.put_comm a undef x h2]
        have := take_ann (x := x) hsj pre G m (a.put oi.dst undef) hf' hj (hwd' undef) (by rw [hov]; exact hE) h
        rwa [hov] at this

/-- The chain's operations come up in their order. -/
def chainOk (md : Region.Mode) (ops : Array Oper) (chain : Nat → Bool) : Bool :=
  (List.range ops.size).all fun j => (List.range j).all fun i => !(chain i && chain j) || Region.waitsFor md ops j i || (List.range j).any fun k => decide (i < k) && chain k && Region.waitsFor md ops j k

theorem chain_listed {n : Nat} {listed : Array Bool} (hc : chainOk md ops chain = true) (inv : HeadInv md ops n listed) :
    ∀ (d j i : Nat), j - i = d → i < j → chain i = true → chain j = true → (∀ k, Region.waitsFor md ops j k = true → listed.getD k false = true) → j < ops.size → listed.getD i false = true := by
  intro d
  induction d using Nat.strongRecOn with
  | _ d ih =>
    intro j i hd hij hi hj hw hjs
    have h1 := List.all_eq_true.1 (List.all_eq_true.1 hc j (List.mem_range.2 hjs)) i (List.mem_range.2 hij)
    simp only [hi, hj, Bool.and_self, Bool.not_true, Bool.false_or, Bool.or_eq_true] at h1
    rcases h1 with h1 | h1
    · exact hw i h1
    · obtain ⟨k, hk, h2⟩ := List.any_eq_true.1 h1
      simp only [Bool.and_eq_true, decide_eq_true_eq] at h2
      have hkj := List.mem_range.1 hk
      have hkl := hw k h2.2
      refine ih (k - i) (by omega) k i rfl h2.1.1 hi h2.1.2 (fun q hq => ?_) (by omega)
      obtain ⟨ok, hok, e, he, hb, hon⟩ := Region.waitsFor_spec hq
      have := inv.closed k ok hok hkl e he hb
      rwa [hon] at this


/-- What the kernel is asked of the region: edges lead back; operations that do not wait for each other are apart; the chain is one; the tail comes last, in its order. -/
def calmB (md : Region.Mode) (ops : Array Oper) (chain : Nat → Bool) (n : Nat) : Bool :=
  Region.noSelect ops && decide (n < ops.size) && Region.sinkB md ops n && Region.chainB md ops n && chainOk md ops chain &&
  Region.seqB md ops (ops.size - n) n (Array.ofFn fun i : Fin ops.size => decide (i.1 < n)) &&
  (List.range n).all fun j => (match ops[j]? with
    | some oj => (oj.after.all fun e => !Region.binds md e || decide (e.on < j)) && (List.range j).all fun i => Region.waitsFor md ops j i || (match ops[i]? with | some oi => oi.apart ops oj | none => false)
    | none => false)

structure CalmOk (md : Region.Mode) (ops : Array Oper) (chain : Nat → Bool) (n : Nat) : Prop where
  sel : ∀ (j : Nat) (o : Oper) cs b, ops[j]? = some o → o.op ≠ .select cs b
  lt : n < ops.size
  sink : Region.sinkB md ops n = true
  chn : Region.chainB md ops n = true
  ok : chainOk md ops chain = true
  seq : Region.seqB md ops (ops.size - n) n (Array.ofFn fun i : Fin ops.size => decide (i.1 < n)) = true
  back : ∀ j oj, j < n → ops[j]? = some oj → ∀ e ∈ oj.after, Region.binds md e = true → e.on < j
  apart : ∀ i j oi oj, i < j → j < n → ops[i]? = some oi → ops[j]? = some oj → Region.waitsFor md ops j i = false → oi.apart ops oj = true

theorem calmOk {n : Nat} (h : calmB md ops chain n = true) : CalmOk md ops chain n := by
  unfold calmB at h
  simp only [Bool.and_eq_true, decide_eq_true_eq] at h
  obtain ⟨⟨⟨⟨⟨⟨h1, h2⟩, h3⟩, h4⟩, h5⟩, h6⟩, h7⟩ := h
  refine ⟨Region.noSelect_spec h1, h2, h3, h4, h5, h6, fun j oj hj hoj e he hb => ?_, fun i j oi oj hij hj hoi hoj hw => ?_⟩
  · have := List.all_eq_true.1 h7 j (List.mem_range.2 hj)
    simp only [hoj, Bool.and_eq_true] at this
    have := Array.all_eq_true'.1 this.1 e he
    simpa [hb] using this
  · have := List.all_eq_true.1 h7 j (List.mem_range.2 hj)
    simp only [hoj, Bool.and_eq_true] at this
    have := List.all_eq_true.1 this.2 i (List.mem_range.2 hij)
    simpa [hw, hoi] using this

theorem not_back {n i j : Nat} (hok : CalmOk md ops chain n) (hi : i < n) (hij : i < j) : Region.waitsFor md ops i j = false := by
  cases hw : Region.waitsFor md ops i j with
  | false => rfl
  | true =>
    obtain ⟨o, ho, e, he, hb, hon⟩ := Region.waitsFor_spec hw
    have := hok.back i o hi ho e he hb
    omega

/-- The indices of the head that have not come up. -/
def Left (n : Nat) (listed : Array Bool) (js : List Nat) : Prop := js.Pairwise (· < ·) ∧ ∀ i, i ∈ js ↔ (i < n ∧ listed.getD i false = false)

theorem wpAny_of_wpSeq {n : Nat} {Q : (Nat → World → Prop) → Nat → Act → Prop} {Q' : Exit → Act → World → Prop} (hset : Setting C0 R I chain S md ops) (hok : CalmOk md ops chain n)
    (hQ : ∀ G m a w, Full C0 I G m w → Q G m a → wpList P ops Q' (ops.toList.drop n) a w) :
    ∀ (f : Nat) (js : List Nat) (listed : Array Bool) (G : Nat → World → Prop) (m : Nat) (a : Act) (w : World), js.length = f → Left n listed js → HeadInv md ops n listed →
      (∀ k j, j ≠ k → Region.waitsFor md ops k j = false → S j ≠ none → ∀ w w', G k w → R j w w' → G k w') → (∀ k, listed.getD k false = false → ∀ w, G k w) → Full C0 I G m w → wpSeq C0 R I chain S P md ops Q js G m a → wpAny P md ops Q' (f + (ops.size - n)) listed a w
  | 0, js, listed, G, m, a, w, hlen, hleft, inv, hG, hT, hw, h => by
    have hjs : js = [] := List.eq_nil_of_length_eq_zero hlen
    subst hjs
    have hl : listed = Array.ofFn fun i : Fin ops.size => decide (i.1 < n) := by
      apply Array.ext
      · simp [inv.size]
      · intro i h1 h2
        simp only [Array.getElem_ofFn]
        by_cases hin : i < n
        · have := (not_congr (hleft.2 i)).1 (by simp)
          have h3 : listed.getD i false = true := by
            cases hx : listed.getD i false with
            | true => rfl
            | false => exact absurd ⟨hin, hx⟩ this
          simpa [hin, h1] using h3
        · have := inv.tail i (by omega) (by rw [← inv.size]; exact h1)
          simpa [hin, h1] using this
    rw [Nat.zero_add, hl]
    have hd : (ops.toList.drop n).length = ops.size - n := by simp
    have := wpAny_of_seq (md := md) (Q' := Q') (ops.toList.drop n) n (Array.ofFn fun i : Fin ops.size => decide (i.1 < n)) a w (fun j => by simp [List.getElem?_drop]) (by rw [hd]; exact hok.seq) (hQ G m a w hw h)
    rwa [hd] at this
  | f + 1, js, listed, G, m, a, w, hlen, hleft, inv, hG, hT, hw, h => by
    rw [show f + 1 + (ops.size - n) = (f + (ops.size - n)) + 1 by omega]
    have hin : ∀ {i}, i ∈ js → i < ops.size := fun hi => Nat.lt_trans ((hleft.2 _).1 hi).1 hok.lt
    cases hjs : js with
    | nil => rw [hjs] at hlen; simp at hlen
    | cons k ks =>
    have hk : k ∈ js := by rw [hjs]; simp
    have hkn := (hleft.2 k).1 hk
    have hks : k < listed.size := by rw [inv.size]; exact hin hk
    have hunl : ∀ i, i ∈ js → listed.getD i true = false := fun i hi => getD_in (by rw [inv.size]; exact hin hi) ((hleft.2 i).1 hi).2
    -- the least one is ready
    have hready : k ∈ Region.ready md ops listed := by
      refine mem_ready.2 ⟨hunl k hk, ops[k]'(hin hk), Array.getElem?_eq_getElem (hin hk), fun e he hb => ?_⟩
      have hlt := hok.back k _ hkn.1 (Array.getElem?_eq_getElem (hin hk)) e he hb
      cases hx : listed.getD e.on false with
      | true => rfl
      | false =>
        have hm := (hleft.2 e.on).2 ⟨by omega, hx⟩
        rw [hjs] at hm
        have hp := hleft.1
        rw [hjs] at hp
        rcases List.mem_cons.1 hm with h1 | h1
        · omega
        · have := (List.pairwise_cons.1 hp).1 _ h1
          omega
    refine ⟨fun e => absurd e (fun e => by rw [e] at hready; cases hready), fun j hj => ?_⟩
    obtain ⟨hjun, oj, hoj, hall⟩ := mem_ready.1 hj
    have hjn : j < n := by
      rcases Nat.lt_or_ge j n with h' | h'
      · exact h'
      · exact absurd hj (tail_waits hok.sink hok.chn hok.lt inv _ k rfl hkn.1 (hunl k hk) j h')
    have hjmem : j ∈ js := (hleft.2 j).2 ⟨hjn, getD_both hjun⟩
    obtain ⟨pre, post, hsplit⟩ := List.append_of_mem hjmem
    have hpw := hleft.1
    rw [hsplit] at hpw
    have hprelt : ∀ i ∈ pre, i < j := fun i hi => (List.pairwise_append.1 hpw).2.2 i hi j (by simp)
    have hwl : ∀ q, Region.waitsFor md ops j q = true → listed.getD q false = true := fun q hq => by
      obtain ⟨o', ho', e, he, hb, hon⟩ := Region.waitsFor_spec hq
      have : o' = oj := Option.some.inj (ho'.symm.trans hoj)
      subst this
      rw [← hon]; exact hall e he hb
    have hfree : ∀ i ∈ pre, ∀ oi, ops[i]? = some oi → Free2 md ops chain i j oi oj := fun i hi oi hoi => by
      have hij := hprelt i hi
      have him : i ∈ js := by rw [hsplit]; simp [hi]
      have hiun := ((hleft.2 i).1 him).2
      have hji : Region.waitsFor md ops j i = false := by
        cases hx : Region.waitsFor md ops j i with
        | false => rfl
        | true => have := hwl i hx; rw [hiun] at this; cases this
      refine ⟨hoi, hoj, hok.apart i j oi oj hij hjn hoi hoj hji, not_back hok (by omega) hij, hji, fun hc => ?_, fun cs b => hok.sel i oi cs b hoi, fun cs b => hok.sel j oj cs b hoj⟩
      have := chain_listed hok.ok inv _ j i rfl hij hc.1 hc.2 hwl (hin hjmem)
      rw [hiun] at this; cases this
    have hlen' : (pre ++ post).length = f := by
      rw [hsplit] at hlen
      simp at hlen ⊢
      omega
    have hleft' : Left n (listed.setIfInBounds j true) (pre ++ post) := by
      refine ⟨?_, fun i => ?_⟩
      · have := List.pairwise_append.1 hpw
        exact List.pairwise_append.2 ⟨this.1, (List.pairwise_cons.1 this.2.1).2, fun x hx y hy => this.2.2 x hx y (List.mem_cons_of_mem _ hy)⟩
      · by_cases hij : i = j
        · subst hij
          have h1 : i ∉ pre := fun hi => by have := hprelt i hi; omega
          have h2 : i ∉ post := fun hi => by have := (List.pairwise_cons.1 (List.pairwise_append.1 hpw).2.1).1 i hi; omega
          have h3 : (listed.setIfInBounds i true).getD i false = true := by simp [show i < listed.size by rw [inv.size]; exact hin hjmem]
          rw [h3]
          simp [h1, h2]
        · rw [getD_set_ne false (fun e => hij e.symm)]
          have := hleft.2 i
          rw [hsplit] at this
          simp only [List.mem_append, List.mem_cons, hij, false_or] at this ⊢
          exact this
    have inv' := inv.set hj hjn
    -- what is known is kept by whatever has not come up
    have keep : ∀ i, listed.getD i false = false → S i ≠ none → ∀ k w w', G k w → R i w w' → G k w' := fun i hi hn' k x y hx hxy => by
      cases hk' : listed.getD k false with
      | false => exact hT k hk' y
      | true =>
        have hki : i ≠ k := fun e => by rw [e, hk'] at hi; cases hi
        refine hG k i hki ?_ hn' x y hx hxy
        cases hwk : Region.waitsFor md ops k i with
        | false => rfl
        | true =>
          obtain ⟨ok, hok', e, he, hb, hon⟩ := Region.waitsFor_spec hwk
          have := inv.closed k ok hok' hk' e he hb
          rw [hon, hi] at this
          cases this
    have hT' : ∀ k, (listed.setIfInBounds j true).getD k false = false → ∀ w, G k w := fun k hk' => by
      by_cases hkj : k = j
      · subst hkj; exact hT k (getD_both hjun)
      · rw [getD_set_ne false (fun e => hkj e.symm)] at hk'; exact hT k hk'
    have hprw : pre.Pairwise (fun i i' => i' ≠ i ∧ Region.waitsFor md ops i i' = false) := (List.pairwise_append.1 hpw).1.imp_of_mem fun {x y} hx hy hxy =>
      ⟨by omega, not_back hok ((hleft.2 x).1 (by rw [hsplit]; simp [hx])).1 hxy⟩
    have hprk : ∀ i ∈ pre, S i ≠ none → ∀ k w w', G k w → R i w w' → G k w' := fun i hi => keep i ((hleft.2 i).1 (by rw [hsplit]; simp [hi])).2
    rw [hsplit] at h
    unfold wpOp
    simp only [hoj]
    cases hwd : Region.wanted oj (yielded ops a.tmps) with
    | false =>
      simp only [Bool.false_eq_true, if_false]
      exact wpAny_of_wpSeq hset hok hQ f _ _ G m _ w hlen' hleft' inv' hG hT' hw (take_skip pre G m a hfree hoj hwd h)
    | true =>
      simp only [if_true]
      refine .inl ?_
      have hob := find_obl hset pre G m a w hfree hprw hprk hw hoj hwd h
      cases hsj : S j with
      | none =>
        simp only [hsj] at hob
        obtain ⟨v, hv⟩ := hob
        have hr := hv w ⟨hw.1, fun k _ => hw.2.1 k⟩
        unfold Oper.wp
        rw [hr]
        exact wpAny_of_wpSeq hset hok hQ f _ _ G m _ w hlen' hleft' inv' hG hT' hw (take_pure hsj pre G m a hfree hoj hwd (some_full hw) hv h)
      | some sj =>
        simp only [hsj] at hob
        have h5 := hob w ⟨hw.1, fun k _ => hw.2.1 k⟩ (fun _ => hw.2.2)
        have fin : ∀ u w', (Eff R I chain j m w w' ∧ sj (opVals oj a) u w') → wpAny P md ops Q' (f + (ops.size - n)) (listed.setIfInBounds j true) (a.put oj.dst u) w' := by
          intro u w' ⟨hE, hu⟩
          have hR : R j w w' := hE.1
          have hw' : Full C0 I (upd G j (sj (opVals oj a) u)) (step chain j m) w' := by
            refine ⟨hset.c _ _ _ hw.1 hR, fun k => ⟨keep j (getD_both hjun) (by rw [hsj]; simp) k _ _ (hw.2.1 k) hR, fun _ => hu⟩, ?_⟩
            unfold step
            split
            · rename_i hc; exact hE.2 hc
            · rename_i hc; exact hset.i _ _ _ _ (by simpa using hc) hw.2.2 hR
          exact wpAny_of_wpSeq hset hok hQ f _ _ _ _ _ w' hlen' hleft' inv' (fun k i hik hwk hn' x y hx hxy => ⟨hG k i hik hwk hn' _ _ hx.1 hxy, fun e => by
              subst e; exact hset.s k sj hsj i hik hwk hn' _ _ _ _ (hx.2 rfl) hxy⟩)
            (fun k hk' x => ⟨hT' k hk' x, fun e => by
              subst e
              have : (listed.setIfInBounds k true).getD k false = true := by simp [show k < listed.size by rw [inv.size]; exact hin hjmem]
              rw [this] at hk'; cases hk'⟩) hw'
            (take_ann hsj pre G m a hfree hoj hwd (some_full hw') h)
        unfold Oper.wp
        generalize (execOp a.eval oj).run P w = r at *
        cases r with
        | ok nx w' =>
          cases nx <;> simp only [annUpon] at h5 <;> simp only [Oper.upon]
          case value u => exact fin u w' h5
          case skip => exact fin undef w' h5
          case enter fn args => exact h5.mono fun e w'' ⟨v, he, ht⟩ => by subst he; exact fin v w'' ht
        | halt x w' => simp only [annUpon] at h5

/-- ONE WALK OF THE TEXT'S ORDER SERVES EVERY ORDER. The head has n operations; the tail comes last. -/
theorem wp_region_calm {id : Nat} {Q : Exit → Act → World → Prop} {a : Act} {w : World} {l : List Oper} (n : Nat) (hm : P.follows .mixedOrders = true) (hB : calmB .any l.toArray chain n = true)
    (hset : Setting C0 R I chain S .any l.toArray) (hC : C0 { w with drawn := w.drawn + 1 }) (hI : I 0 { w with drawn := w.drawn + 1 })
    (h : wpSeq C0 R I chain S P .any l.toArray (fun G m a' => ∀ w', C0 w' → (∀ k, G k w') → I m w' → wpList P l.toArray Q (l.drop n) a' w') (List.range n) (fun _ _ => True) 0 a) : (Code.region id l.toArray true).wp P Q a w := by
  have hok := calmOk hB
  refine wp_region_any hm ?_
  have hn : n < l.toArray.size := hok.lt
  have hlen : (List.range n).length = n := List.length_range
  have inv0 : HeadInv .any l.toArray n (Array.replicate l.toArray.size false) :=
    ⟨by simp, fun j oj _ hl => (by rw [getD_replicate_false] at hl; cases hl), fun t _ ht => getD_in (by simpa using ht) (getD_replicate_false _ _)⟩
  have H := wpAny_of_wpSeq (md := .any) (Q' := Q) hset hok (fun G m a' w' hw hq => by simpa using hq w' hw.1 hw.2.1 hw.2.2) n (List.range n) (Array.replicate l.toArray.size false) (fun _ _ => True) 0 a { w with drawn := w.drawn + 1 } hlen
    ⟨List.pairwise_lt_range, fun i => by rw [List.mem_range, getD_replicate_false]; simp⟩ inv0 (fun _ _ _ _ _ _ _ _ _ => trivial) (fun _ _ _ => trivial) ⟨hC, fun _ => trivial, hI⟩ h
  rw [show n + (l.toArray.size - n) = l.toArray.size by omega] at H
  exact H

theorem wpSeq_nil {Q : (Nat → World → Prop) → Nat → Act → Prop} {G : Nat → World → Prop} {m : Nat} {a : Act} (h : Q G m a) : wpSeq C0 R I chain S P md ops Q [] G m a := h
/-- A pure reading. -/
theorem calm_pure {Q : (Nat → World → Prop) → Nat → Act → Prop} {G : Nat → World → Prop} {m i : Nat} {is : List Nat} {a : Act} {o : Oper} (hi : ops[i]? = some o) (hS : S i = none)
    (hw : Region.wanted o (yielded ops a.tmps) = true) (h : ∃ v, (∀ w, Cls C0 md ops G i w → (execOp a.eval o).run P w = .ok (.value v) w) ∧ wpSeq C0 R I chain S P md ops Q is G m (a.put o.dst v)) :
    wpSeq C0 R I chain S P md ops Q (i :: is) G m a := by
  simp only [wpSeq, cOp, hi, hw, if_true, hS]
  exact h
theorem calm_skip {Q : (Nat → World → Prop) → Nat → Act → Prop} {G : Nat → World → Prop} {m i : Nat} {is : List Nat} {a : Act} {o : Oper} (hi : ops[i]? = some o)
    (hw : Region.wanted o (yielded ops a.tmps) = false)
    (h : wpSeq C0 R I chain S P md ops Q is G m (a.put o.dst undef)) : wpSeq C0 R I chain S P md ops Q (i :: is) G m a := by
  simp only [wpSeq, cOp, hi, hw, Bool.false_eq_true, if_false]
  exact h
/-- An operation of which it is said what it yields. -/
theorem calm_ann {Q : (Nat → World → Prop) → Nat → Act → Prop} {G : Nat → World → Prop} {m i : Nat} {is : List Nat} {a : Act} {o : Oper} {s : List Value → Value → World → Prop} (hi : ops[i]? = some o) (hS : S i = some s)
    (hw : Region.wanted o (yielded ops a.tmps) = true)
    (hy : ∀ w, Cls C0 md ops G i w → (chain i = true → I m w) → annUpon P (fun u w' => Eff R I chain i m w w' ∧ s (opVals o a) u w') ((execOp a.eval o).run P w))
    (h : ∀ u w, C0 w → (∀ k, upd G i (s (opVals o a) u) k w) → wpSeq C0 R I chain S P md ops Q is (upd G i (s (opVals o a) u)) (step chain i m) (a.put o.dst u)) : wpSeq C0 R I chain S P md ops Q (i :: is) G m a := by
  simp only [wpSeq, cOp, hi, hw, if_true, hS]
  exact ⟨hy, fun u ⟨w, h1, h2⟩ => h u w h1 h2⟩
/-- The same, what is known under a name. -/
theorem calm_ann' {Q : (Nat → World → Prop) → Nat → Act → Prop} {G : Nat → World → Prop} {m i : Nat} {is : List Nat} {a : Act} {o : Oper} {s : List Value → Value → World → Prop} (hi : ops[i]? = some o) (hS : S i = some s)
    (hw : Region.wanted o (yielded ops a.tmps) = true)
    (hy : ∀ w, Cls C0 md ops G i w → (chain i = true → I m w) → annUpon P (fun u w' => Eff R I chain i m w w' ∧ s (opVals o a) u w') ((execOp a.eval o).run P w))
    (h : ∀ u G' w, (∀ k w, G' k w → G k w) → (∀ w, G' i w → s (opVals o a) u w) → C0 w → (∀ k, G' k w) → wpSeq C0 R I chain S P md ops Q is G' (step chain i m) (a.put o.dst u)) : wpSeq C0 R I chain S P md ops Q (i :: is) G m a :=
  calm_ann hi hS hw hy fun u w h1 h2 => h u _ w (fun _ _ h => h.1) (fun _ h => h.2 rfl) h1 h2
theorem ann_value {P : Program} {T : Value → World → Prop} {u : Value} {w' : World} (h : T u w') : annUpon P T (.ok (.value u) w') := h
theorem ann_skip {P : Program} {T : Value → World → Prop} {w' : World} (h : T undef w') : annUpon P T (.ok .skip w') := h
theorem ann_enter {P : Program} {T : Value → World → Prop} {f : FuncId} {args : Array Value} {w' : World} (h : Calls P f args w' (fun e w'' => ∃ v, e = .returned v ∧ T v w'')) : annUpon P T (.ok (.enter f args) w') := h
theorem eff_calm {i m : Nat} {w w' : World} (hc : chain i = false) (h : R i w w') : Eff R I chain i m w w' := ⟨h, fun e => by rw [hc] at e; cases e⟩
theorem eff_chain {i m : Nat} {w w' : World} (h : R i w w') (hI : I (m + 1) w') : Eff R I chain i m w w' := ⟨h, fun _ => hI⟩
end

/-- What is said of operations, by their numbers. -/
def specOf (l : List (Nat × (List Value → Value → World → Prop))) (j : Nat) : Option (List Value → Value → World → Prop) := (l.find? (·.1 == j)).map (·.2)
theorem specOf_mem {l : List (Nat × (List Value → Value → World → Prop))} {j : Nat} {s : List Value → Value → World → Prop} (h : specOf l j = some s) : ∃ p ∈ l, p.2 = s := by
  obtain ⟨p, h1, h2⟩ := Option.map_eq_some_iff.1 h
  exact ⟨p, List.mem_of_find?_eq_some h1, h2⟩
theorem specOf_some {l : List (Nat × (List Value → Value → World → Prop))} {j : Nat} (h : specOf l j ≠ none) : j ∈ l.map (·.1) := by
  unfold specOf at h
  cases hf : l.find? (·.1 == j) with
  | none => rw [hf] at h; exact absurd rfl h
  | some p =>
    have h1 := List.find?_some hf
    have h2 := List.mem_of_find?_eq_some hf
    exact List.mem_map.2 ⟨p, h2, by simpa using h1⟩
def chainOf (l : List Nat) (j : Nat) : Bool := l.contains j

open Go.RowKit
/-- An operation that makes memory, or calls what does. -/
def Calm (w1 w w' : World) : Prop := w1.heap.size ≤ w.heap.size ∧ Below w.heap.size w w'
/-- An operation of the chain: the block 'row' may be written too. -/
def Chn (w1 : World) (row : Option Nat) (w w' : World) : Prop := w1.heap.size ≤ w.heap.size ∧ w.grownBy w' row
/-- A store into a new block of the type T: what it holds may turn, not its form. -/
def Shp (w1 : World) (T : TypeId) (w w' : World) : Prop :=
  Below w1.heap.size w w' ∧ (∀ (b : Nat) (cs : Array Value) (fz : Nat × Nat), w.heap[b]? = some (Obj.cells cs T fz) → ∃ cs' : Array Value, w'.heap[b]? = some (Obj.cells cs' T fz) ∧ cs'.size = cs.size) ∧
    ∀ (b : Nat) (o : Obj), w.heap[b]? = some o → (∀ (cs : Array Value) (fz : Nat × Nat), o ≠ Obj.cells cs T fz) → w'.heap[b]? = some o
def rel (w1 : World) (row : Option Nat) (T : TypeId) (chain st : List Nat) (j : Nat) (w w' : World) : Prop :=
  if st.contains j then Shp w1 T w w' else if chain.contains j then Chn w1 row w w' else Calm w1 w w'

/-- What stays true whatever the other operations do. -/
def Stab (w1 : World) (row : Option Nat) (T : TypeId) (s : List Value → Value → World → Prop) : Prop :=
  (∀ vs x w w', s vs x w → Shp w1 T w w' → s vs x w') ∧ (∀ vs x w w', s vs x w → Chn w1 row w w' → s vs x w')

def waitAll (md : Region.Mode) (ops : Array Oper) (l st : List Nat) : Bool := st.all fun i => l.all fun j => j == i || Region.waitsFor md ops i j

theorem setting_rel (w1 : World) (row : Option Nat) (T : TypeId) (chain st : List Nat) (I : Nat → World → Prop) (md : Region.Mode) (ops : Array Oper) (l : List (Nat × (List Value → Value → World → Prop)))
    (hI1 : ∀ m w w', I m w → w1.heap.size ≤ w.heap.size → Below w.heap.size w w' → I m w') (hI2 : ∀ m w w', I m w → Below w1.heap.size w w' → I m w')
    (hl : ∀ p ∈ l, st.contains p.1 = false → Stab w1 row T p.2) (hw : waitAll md ops (l.map (·.1)) st = true) :
    Setting (fun w => w1.grownBy w row) (rel w1 row T chain st) I (chainOf chain) (specOf l) md ops := by
  have none_row : ∀ w w', Below w.heap.size w w' → w.grownBy w' row := fun w w' h => ⟨h.os, h.tape, h.output, h.size, fun k hk _ => h.block k hk⟩
  refine ⟨fun j w w' h k => ?_, fun j m w w' hc h k => ?_, fun i s hs j hji hij hsj vs x w w' h k => ?_⟩
  · unfold rel at k
    split at k
    · exact ⟨k.1.os.trans h.os, k.1.tape.trans h.tape, k.1.output.trans h.output, Nat.le_trans h.size k.1.size, fun q hq hne => (k.1.block q hq).trans (h.block q hq hne)⟩
    · have k' : w.grownBy w' row := by
        split at k
        · exact k.2
        · exact none_row _ _ k.2
      exact ⟨k'.os.trans h.os, k'.tape.trans h.tape, k'.output.trans h.output, Nat.le_trans h.size k'.size, fun q hq hne => (k'.block q (Nat.lt_of_lt_of_le hq h.size) hne).trans (h.block q hq hne)⟩
  · unfold rel at k
    split at k
    · exact hI2 m w w' h k.1
    · unfold chainOf at hc
      rw [hc] at k
      simp only [Bool.false_eq_true, if_false] at k
      exact hI1 m w w' h k.1 k.2
  · obtain ⟨p, hp1, hp2⟩ := Option.map_eq_some_iff.1 hs
    have hp := List.mem_of_find?_eq_some hp1
    have hpi : p.1 = i := by simpa using List.find?_some hp1
    subst hp2
    cases hst : st.contains i with
    | true =>
      have h1 := List.all_eq_true.1 (List.all_eq_true.1 hw i (by simpa using hst)) j (specOf_some hsj)
      simp only [Bool.or_eq_true, beq_iff_eq] at h1
      rcases h1 with h1 | h1
      · exact absurd h1 hji
      · rw [hij] at h1; cases h1
    | false =>
      have hstab := hl p hp (by rw [hpi]; exact hst)
      unfold rel at k
      split at k
      · exact hstab.1 vs x w w' h k
      · split at k
        · exact hstab.2 vs x w w' h k
        · exact hstab.2 vs x w w' h ⟨k.1, none_row _ _ k.2⟩

theorem eff_rel {w1 : World} {row : Option Nat} {T : TypeId} {chain st : List Nat} {I : Nat → World → Prop} {i m : Nat} {w w' : World} (hst : st.contains i = false) (hch : chain.contains i = false) (h1 : w1.heap.size ≤ w.heap.size) (h2 : Below w.heap.size w w') :
    Eff (rel w1 row T chain st) I (chainOf chain) i m w w' := by
  refine ⟨?_, fun e => by unfold chainOf at e; rw [hch] at e; cases e⟩
  unfold rel
  rw [hst, hch]
  simp only [Bool.false_eq_true, if_false]
  exact ⟨h1, h2⟩
theorem eff_rel_chain {w1 : World} {row : Option Nat} {T : TypeId} {chain st : List Nat} {I : Nat → World → Prop} {i m : Nat} {w w' : World} (hst : st.contains i = false) (hch : chain.contains i = true) (h1 : w1.heap.size ≤ w.heap.size) (h2 : w.grownBy w' row) (h3 : I (m + 1) w') :
    Eff (rel w1 row T chain st) I (chainOf chain) i m w w' := by
  refine ⟨?_, fun _ => h3⟩
  unfold rel
  rw [hst, hch]
  simp only [Bool.false_eq_true, if_false, if_true]
  exact ⟨h1, h2⟩
theorem eff_rel_st {w1 : World} {row : Option Nat} {T : TypeId} {chain st : List Nat} {I : Nat → World → Prop} {i m : Nat} {w w' : World} (hst : st.contains i = true) (hch : chain.contains i = false) (h1 : Shp w1 T w w') :
    Eff (rel w1 row T chain st) I (chainOf chain) i m w w' := by
  refine ⟨?_, fun e => by unfold chainOf at e; rw [hch] at e; cases e⟩
  unfold rel
  rw [hst]
  simp only [if_true]
  exact h1
/-- A store into a new block is of this kind. -/
theorem shp_set {w1 : World} {T : TypeId} {w : World} {b o : Nat} {cs : Array Value} {fz : Nat × Nat} (hb : w1.heap.size ≤ b) (h : w.heap[b]? = some (.cells cs T fz)) (v : Value) : Shp w1 T w (w.setCell ⟨b, o, none⟩ v) := by
  refine ⟨(Below.refl _ _).setCell (p := ⟨b, o, none⟩) hb v, fun b' cs' fz' h' => ?_, fun b' x h' hx => ?_⟩
  · by_cases e : b' = b
    · subst e
      rw [h] at h'
      injection h' with h'
      injection h' with e1 e2 e3
      subst e1
      exact ⟨cs.setIfInBounds o v, by rw [← e3]; simp [World.setCell, Array.getElem?_modify, h], by simp⟩
    · exact ⟨cs', (Below.heap_setCell w ⟨b, o, none⟩ v b' e).trans h', rfl⟩
  · by_cases e : b' = b
    · subst e
      rw [h] at h'
      exact absurd (Option.some.inj h').symm (hx cs fz)
    · exact (Below.heap_setCell w ⟨b, o, none⟩ v b' e).trans h'
theorem shp_trans {w1 : World} {T : TypeId} {a b c : World} (h : Shp w1 T a b) (k : Shp w1 T b c) : Shp w1 T a c := by
  refine ⟨h.1.trans k.1, fun x cs fz hx => ?_, fun x o hx ho => k.2.2 x o (h.2.2 x o hx ho) ho⟩
  obtain ⟨cs', e1, e2⟩ := h.2.1 x cs fz hx
  obtain ⟨cs'', e3, e4⟩ := k.2.1 x cs' fz e1
  exact ⟨cs'', e3, e4.trans e2⟩

/-! ### What is said of operations. -/
theorem arr2 {cs : Array Value} (h : cs.size = 2) : ∃ x y, cs = #[x, y] := by
  obtain ⟨l⟩ := cs
  match l, h with
  | [x, y], _ => exact ⟨x, y, rfl⟩
theorem arr3 {cs : Array Value} (h : cs.size = 3) : ∃ x y z, cs = #[x, y, z] := by
  obtain ⟨l⟩ := cs
  match l, h with
  | [x, y, z], _ => exact ⟨x, y, z, rfl⟩
def isP (p : Value → Prop) : List Value → Value → World → Prop := fun _ x _ => p x
def isV (v : Value) : List Value → Value → World → Prop := fun _ x _ => x = v
def isBox (w1 : World) (t : TypeId) (n : Nat) : List Value → Value → World → Prop := fun _ x w => ∃ b, x = .pointer (some ⟨b, 0, none⟩) ∧ w1.heap.size ≤ b ∧ ∃ cs : Array Value, w.heap[b]? = some (.cells cs t (0, 0)) ∧ cs.size = n
def isSl (w1 : World) (t : TypeId) (n : Nat) (cs : List Value → List Value) : List Value → Value → World → Prop := fun vs x w => ∃ b, x = .slice (some ⟨b, 0, none⟩) n n ∧ w1.heap.size ≤ b ∧ w.heap[b]? = some (.cells (cs vs).toArray t (0, 0))
def isSt (t : TypeId) (cs : Array Value) : List Value → Value → World → Prop := fun vs _ w => ∀ b, vs.head? = some (.pointer (some ⟨b, 0, none⟩)) → w.heap[b]? = some (.cells cs t (0, 0))
variable {w1 : World} {row : Option Nat} {T : TypeId}
theorem stabP (p : Value → Prop) : Stab w1 row T (isP p) := ⟨fun _ _ _ _ h _ => h, fun _ _ _ _ h _ => h⟩
theorem stabV (v : Value) : Stab w1 row T (isV v) := ⟨fun _ _ _ _ h _ => h, fun _ _ _ _ h _ => h⟩
theorem stabBox (t : TypeId) (n : Nat) (hrow : ∀ k, row = some k → k < w1.heap.size) : Stab w1 row T (isBox w1 t n) := by
  refine ⟨fun vs x w w' h k => ?_, fun vs x w w' h k => ?_⟩
  · obtain ⟨b, h1, h2, cs, h3, h4⟩ := h
    by_cases ht : t = T
    · subst ht
      obtain ⟨cs', e1, e2⟩ := k.2.1 b cs _ h3
      exact ⟨b, h1, h2, cs', e1, e2.trans h4⟩
    · exact ⟨b, h1, h2, cs, k.2.2 b _ h3 (fun c fz e => ht (by injection e)), h4⟩
  · obtain ⟨b, h1, h2, cs, h3, h4⟩ := h
    exact ⟨b, h1, h2, cs, (k.2.block b (Array.getElem?_eq_some_iff.1 h3).1 (fun e => by have := hrow b e.symm; omega)).trans h3, h4⟩
theorem stabSl (t : TypeId) (n : Nat) (cs : List Value → List Value) (ht : t ≠ T) (hrow : ∀ k, row = some k → k < w1.heap.size) : Stab w1 row T (isSl w1 t n cs) := by
  refine ⟨fun vs x w w' h k => ?_, fun vs x w w' h k => ?_⟩
  · obtain ⟨b, h1, h2, h3⟩ := h
    exact ⟨b, h1, h2, k.2.2 b _ h3 (fun c fz e => ht (by injection e))⟩
  · obtain ⟨b, h1, h2, h3⟩ := h
    exact ⟨b, h1, h2, (k.2.block b (Array.getElem?_eq_some_iff.1 h3).1 (fun e => by have := hrow b e.symm; omega)).trans h3⟩
end Go.Proofs.YtfhoalglgmdiaaaDoor
