/-
  From a function's contract over plain data to what the row asks of the call.
-/
import Derived.Test.YtfhoalglgmdiaaaDoorSe
import Derived.Below
import Derived.ProofKit
import Derived.OpenShut
namespace Go.Proofs.YtfhoalglgmdiaaaDoor
open Go Go.RowKit Go.ChangeShapes Go.WideShapes

def frW (W : World) (b : Nat) : Nat := match W.heap[b]? with | some (.cells c _ _) => c.size | _ => 0
theorem frW_lt {W : World} {a : Addr} {v : Value} (h : W.cell? a = some v) : a.off < frW W a.block := by
  unfold World.cell? at h
  unfold frW
  split at h
  · rename_i h1
    rw [h1]
    split at h
    · cases h
    · exact (Array.getElem?_eq_some_iff.1 h).1
  · cases h
def ghW (W : World) : Gh := ⟨frW W, fun _ => 0, fun _ => 0, fun _ => False⟩
theorem glob_none (W : World) : Glob noG W (frW W) := fun i ds h => by cases h
theorem walk_of {P : Program} {G : Nat → Option (List D)} {f : FuncId} {args : List A} {vs : List Value} {W : World} {res : A} (hok : FnOk P G f args [] res []) (hg : Glob G W (frW W)) (hr : RelAs W (ghW W) W.heap.size args vs) (hres : res = .v false [.b true]) :
    Calls P f vs.toArray W fun e w' => e = .returned (.bool true) ∧ Below W.heap.size W w' := by
  subst hres
  refine (hok.2 W (ghW W) vs hg hr ⟨fun r => trivial, (fun r r' _ h => by cases h), (fun r _ h => by cases h)⟩ (fun r => ⟨fun h => h.elim, fun h => absurd h (Nat.not_lt_zero r)⟩)).mono fun e w' ⟨V, g', he, hp⟩ => ?_
  obtain ⟨c, hc, hv⟩ := hp.val
  cases hc
  cases hv
  exact ⟨he, hp.fr.os, hp.fr.tape, hp.fr.output, hp.fr.evo.size, fun b hb => hp.fr.keep b hb (fun r hr => absurd hr (Nat.not_lt_zero r))⟩

/-- A fresh row that is only read from now on. -/
theorem FnOk.freeze {P : Program} {G : Nat → Option (List D)} {f : FuncId} {args : List A} {e : TypeId} {fh : Bool} {n : Nat} {ds : List D} (h : FnOk P G f args [] (.v false [.own true 0 n]) [.arr e fh true n ds]) : FnOk P G f args [] (.v false [.sl fh true n ds]) [] := by
  refine ⟨h.1, fun w g vs h1 h2 h3 h4 => (h.2 w g vs h1 h2 h3 h4).mono fun ex w' ⟨V, g', he, hp⟩ => ?_⟩
  obtain ⟨c, hc, hv⟩ := hp.val
  cases hc
  obtain ⟨hb, hV⟩ := hv
  simp only [if_true] at hV
  have hok : ResOk P w' g' w.heap.size 0 (.arr e fh true n ds) := hp.mem.ok 0
  obtain ⟨_, hlen, hif⟩ := hok
  simp only [if_true] at hif
  obtain ⟨hfr0, cur, hheap, hn, hcap, hsz, hrel⟩ := hif
  have hown : w.heap.size ≤ g'.gb 0 := hp.mem.own 0 (Nat.zero_le _) rfl
  have hevo : Evo w' g'.fr w' (fun b => if b = g'.gb 0 then cur.size else g'.fr b) := ⟨Nat.le_refl _, fun b _ => by
    by_cases hbe : b = g'.gb 0
    · subst hbe; rw [hfr0]; exact Nat.zero_le _
    · rw [if_neg hbe]; exact Nat.le_refl _, fun a v _ h => h⟩
  have hg : ∀ (j : Nat) (d : D), ds[j]? = some d → cur[j]? = some (cur.getD j Go.undef) ∧ RelD w' (frOf fh w.heap.size g'.fr) d (cur.getD j Go.undef) := fun j d hj => by
    obtain ⟨v, e1, e2⟩ := hrel.get (j := j) (c := D.toC fh d) (by rw [List.getElem?_map, hj]; rfl)
    have e3 : cur[j]? = some v := by
      rw [List.getElem?_take] at e1
      split at e1
      · simpa using e1
      · cases e1
    have e4 : cur.getD j Go.undef = v := by simp [Array.getD_eq_getD_getElem?, e3]
    rw [e4]; exact ⟨e3, RelC.ofC e2⟩
  have hoff : ∀ j, ((⟨g'.gb 0, 0, none⟩ : Addr).add j).off = j := fun j => by unfold Addr.add; split <;> simp_all
  have hcell : ∀ j, w'.cell? ((⟨g'.gb 0, 0, none⟩ : Addr).add j) = cur[j]? := fun j => by
    have hsp : ((⟨g'.gb 0, 0, none⟩ : Addr).add j).spot = none := by unfold Addr.add; split <;> rfl
    unfold World.cell?
    rw [addr_block, hsp, hoff]
    dsimp only
    rw [hheap]; rfl
  refine ⟨V, ⟨fun b => if b = g'.gb 0 then cur.size else g'.fr b, g'.gb, g'.gc, fun _ => False⟩, he, ⟨⟨_, rfl, ?_⟩, ⟨fun r => trivial, (fun r r' _ h => by cases h), (fun r _ h => by cases h)⟩, ⟨hp.fr.os, hp.fr.tape, hp.fr.output, hp.fr.evo.trans hevo, hp.fr.keep, fun b hb' => ?_, fun r hr => absurd ((h4 r).1 hr) (Nat.not_lt_zero r)⟩, (fun r _ h => h), (fun r hr => absurd hr (Nat.not_lt_zero r))⟩⟩
  · rw [hV]
    refine .sl n ds _ (g'.gc 0) (fun j => cur.getD j Go.undef) hn hcap (fun j d hj => by rw [hcell]; exact (hg j d hj).1) (fun j d hj => ?_) (fun j d hj => (hg j d hj).2.evo (hevo.frOf fh _))
    rw [hoff]
    have : j < cur.size := (Array.getElem?_eq_some_iff.1 (hg j d hj).1).1
    show j < frOf fh w.heap.size (fun b => if b = g'.gb 0 then cur.size else g'.fr b) (g'.gb 0)
    unfold frOf restr
    split
    · show j < if g'.gb 0 < w.heap.size then 0 else if g'.gb 0 = g'.gb 0 then cur.size else g'.fr (g'.gb 0)
      rw [if_neg (by omega), if_pos rfl]; exact this
    · show j < if g'.gb 0 = g'.gb 0 then cur.size else g'.fr (g'.gb 0)
      rw [if_pos rfl]; exact this
  · show (if b = g'.gb 0 then cur.size else g'.fr b) = g.fr b
    rw [if_neg (by omega)]; exact hp.fr.frk b hb'
/-! ### Rows of one's own that come back: read only from now on -/
inductive FrzC (outs : List R) : C → C → Prop
  | own {nn : Bool} {r n : Nat} {e : TypeId} {fh : Bool} {ds : List D} (h : lsR outs r = .arr e fh nn n ds) : FrzC outs (.own nn r n) (.sl fh nn n ds)
  | same {c : C} (h : idsC c = []) : FrzC outs c c
inductive FrzL (outs : List R) : List C → List C → Prop
  | nil : FrzL outs [] []
  | cons {c c' : C} {cs cs' : List C} (h : FrzC outs c c') (k : FrzL outs cs cs') : FrzL outs (c :: cs) (c' :: cs')
inductive FrzT (outs : List R) : List (Bool × List C) → List (Bool × List C) → Prop
  | nil : FrzT outs [] []
  | cons {ag : Bool} {cs cs' : List C} {xs ys : List (Bool × List C)} (h : FrzL outs cs cs') (k : FrzT outs xs ys) : FrzT outs ((ag, cs) :: xs) ((ag, cs') :: ys)
inductive FrzA (outs : List R) : A → A → Prop
  | v {ag : Bool} {cs cs' : List C} (h : FrzL outs cs cs') : FrzA outs (.v ag cs) (.v ag cs')
  | tup {xs ys : List (Bool × List C)} (h : FrzT outs xs ys) : FrzA outs (.tup xs) (.tup ys)
open Classical in
theorem FnOk.frz {P : Program} {G : Nat → Option (List D)} {f : FuncId} {args : List A} {res res' : A} {outs : List R} (h : FnOk P G f args [] res outs) (hz : FrzA outs res res') : FnOk P G f args [] res' [] := by
  refine ⟨h.1, fun w g vs h1 h2 h3 h4 => (h.2 w g vs h1 h2 h3 h4).mono fun ex w' ⟨V, g', he, hp⟩ => ?_⟩
  let isF : Nat → Prop := fun b => ∃ (r : Nat) (e : TypeId) (fh : Bool) (n : Nat) (ds : List D), lsR outs r = .arr e fh true n ds ∧ g'.gb r = b
  let fr2 : Nat → Nat := fun b => if isF b then frW w' b else g'.fr b
  have row : ∀ (r : Nat) (e : TypeId) (fh : Bool) (n : Nat) (ds : List D), lsR outs r = .arr e fh true n ds → g'.fr (g'.gb r) = 0 ∧ w.heap.size ≤ g'.gb r ∧ ∃ cur : Array Value, w'.heap[g'.gb r]? = some (.cells cur e (0, 0)) ∧ n ≤ g'.gc r ∧ g'.gc r ≤ maxLen ∧ RelL w' g' w.heap.size (ds.map (D.toC fh)) (cur.toList.take (n * P.cellsOf e)) := by
    intro r e fh n ds hr
    have hok := hp.mem.ok r
    have hown := hp.mem.own r (Nat.zero_le _) (by rw [hr]; rfl)
    rw [hr] at hok
    obtain ⟨_, hlen, hif⟩ := hok
    simp only [if_true] at hif
    obtain ⟨hfr0, cur, hheap, hn, hcap, hsz, hrel⟩ := hif
    exact ⟨hfr0, hown, cur, hheap, hn, hcap, hrel⟩
  have hevo : Evo w' g'.fr w' fr2 := ⟨Nat.le_refl _, fun b _ => by
    show g'.fr b ≤ if isF b then frW w' b else g'.fr b
    split
    · rename_i hb
      obtain ⟨r, e, fh, n, ds, hr, rfl⟩ := hb
      rw [(row r e fh n ds hr).1]; exact Nat.zero_le _
    · exact Nat.le_refl _, fun a v _ h => h⟩
  have hold : ∀ b, b < w.heap.size → fr2 b = g'.fr b := fun b hb => by
    show (if isF b then frW w' b else g'.fr b) = _
    rw [if_neg]
    rintro ⟨r, e, fh, n, ds, hr, rfl⟩
    have := (row r e fh n ds hr).2.1
    omega
  let g2 : Gh := ⟨fr2, g'.gb, g'.gc, fun _ => False⟩
  have cC : ∀ {c c' : C} {v : Value}, RelC w' g' w.heap.size c v → FrzC outs c c' → RelC w' g2 w.heap.size c' v := by
    intro c c' v hc hf
    cases hf with
    | same hid =>
      cases c with
      | sl fresh nn n cs => exact RelD.evo hc (hevo.frOf fresh _)
      | own nn r n => cases hid
      | ref r off => cases hid
      | ro cs =>
        obtain ⟨a, vs, h1, h2⟩ := hc
        refine ⟨a, vs, h1, fun j x hx => ?_⟩
        obtain ⟨e1, e2, e3⟩ := h2 j x hx
        exact ⟨e1, Nat.lt_of_lt_of_le e2 (hevo.le _ (by have := cell_lt e1; rwa [addr_block] at this)), e3.evo hevo⟩
      | fn ff caps =>
        obtain ⟨_, hc⟩ := hc
        have hcap : caps = [] := hid
        subst hcap
        exact ⟨(fun r hr => by cases hr), hc⟩
      | _ => exact hc
    | @own nn r n e fh ds hr =>
      obtain ⟨_, hV⟩ := hc
      cases nn with
      | false =>
        have hok := hp.mem.ok r
        rw [hr] at hok
        obtain ⟨_, hlen, hn⟩ := hok
        simp only [Bool.false_eq_true, if_false] at hn hV
        subst hn
        rw [Nat.zero_mul] at hlen
        cases List.eq_nil_of_length_eq_zero hlen
        rw [hV.2]
        exact RelD.nil
      | true =>
        simp only [if_true] at hV
        obtain ⟨hfr0, hown, cur, hheap, hn, hcap, hrel⟩ := row r e fh n ds hr
        have hg : ∀ (j : Nat) (d : D), ds[j]? = some d → cur[j]? = some (cur.getD j Go.undef) ∧ RelD w' (frOf fh w.heap.size g'.fr) d (cur.getD j Go.undef) := fun j d hj => by
          obtain ⟨v, e1, e2⟩ := hrel.get (j := j) (c := D.toC fh d) (by rw [List.getElem?_map, hj]; rfl)
          have e3 : cur[j]? = some v := by
            rw [List.getElem?_take] at e1
            split at e1
            · simpa using e1
            · cases e1
          have e4 : cur.getD j Go.undef = v := by simp [Array.getD_eq_getD_getElem?, e3]
          rw [e4]; exact ⟨e3, RelC.ofC e2⟩
        have hoff : ∀ j, ((⟨g'.gb r, 0, none⟩ : Addr).add j).off = j := fun j => by unfold Addr.add; split <;> simp_all
        have hcell : ∀ j, w'.cell? ((⟨g'.gb r, 0, none⟩ : Addr).add j) = cur[j]? := fun j => by
          have hsp : ((⟨g'.gb r, 0, none⟩ : Addr).add j).spot = none := by unfold Addr.add; split <;> rfl
          unfold World.cell?
          rw [addr_block, hsp, hoff]
          dsimp only
          rw [hheap]; rfl
        rw [hV]
        refine RelD.sl n ds _ (g'.gc r) (fun j => cur.getD j Go.undef) hn hcap (fun j d hj => by rw [hcell]; exact (hg j d hj).1) (fun j d hj => ?_) (fun j d hj => (hg j d hj).2.evo (hevo.frOf fh _))
        rw [hoff]
        have hlt : j < frW w' (g'.gb r) := frW_lt (a := (⟨g'.gb r, 0, none⟩ : Addr).add j) (by rw [hcell]; exact (hg j d hj).1) |> fun h => by rw [hoff, addr_block] at h; exact h
        have hf2 : fr2 (g'.gb r) = frW w' (g'.gb r) := by
          show (if isF (g'.gb r) then _ else _) = _
          rw [if_pos ⟨r, e, fh, n, ds, hr, rfl⟩]
        show j < frOf fh w.heap.size fr2 (g'.gb r)
        unfold frOf restr
        split
        · show j < if g'.gb r < w.heap.size then 0 else fr2 (g'.gb r)
          rw [if_neg (by omega), hf2]; exact hlt
        · rw [hf2]; exact hlt
  have cL : ∀ {cs cs' : List C}, FrzL outs cs cs' → ∀ {vs : List Value}, RelL w' g' w.heap.size cs vs → RelL w' g2 w.heap.size cs' vs := by
    intro cs cs' hf
    induction hf with
    | nil => intro vs hc; cases vs with
      | nil => trivial
      | cons _ _ => exact hc.elim
    | cons hc hk ih =>
      intro vs hv
      cases vs with
      | nil => exact hv.elim
      | cons v vs => exact ⟨cC hv.1 hc, ih hv.2⟩
  have cV : ∀ {ag : Bool} {cs cs' : List C} {V : Value}, FrzL outs cs cs' → RelV w' g' w.heap.size ag cs V → RelV w' g2 w.heap.size ag cs' V := by
    intro ag cs cs' V hf hv
    cases ag with
    | true => obtain ⟨xs, e1, e2⟩ := (show ∃ xs : List Value, V = .agg xs.toArray ∧ RelL w' g' w.heap.size cs xs from hv); exact ⟨xs, e1, cL hf e2⟩
    | false =>
      obtain ⟨c, e1, e2⟩ := (show ∃ c, cs = [c] ∧ RelC w' g' w.heap.size c V from hv)
      subst e1
      cases hf with
      | cons hc hk => cases hk; exact ⟨_, rfl, cC e2 hc⟩
  have cT : ∀ {xs ys : List (Bool × List C)}, FrzT outs xs ys → ∀ {vs : List Value}, RelT w' g' w.heap.size xs vs → RelT w' g2 w.heap.size ys vs := by
    intro xs ys hf
    induction hf with
    | nil => intro vs hc; cases vs with
      | nil => trivial
      | cons _ _ => exact hc.elim
    | cons hc hk ih =>
      intro vs hv
      cases vs with
      | nil => exact hv.elim
      | cons v vs => exact ⟨cV hc hv.1, ih hv.2⟩
  refine ⟨V, g2, he, ⟨?_, ⟨fun r => trivial, (fun r r' _ h => by cases h), (fun r _ h => by cases h)⟩, ⟨hp.fr.os, hp.fr.tape, hp.fr.output, hp.fr.evo.trans hevo, hp.fr.keep, fun b hb' => ?_, fun r hr => absurd ((h4 r).1 hr) (Nat.not_lt_zero r)⟩, (fun r _ h => h), (fun r hr => absurd hr (Nat.not_lt_zero r))⟩⟩
  · cases hz with
    | v hz' => exact cV hz' hp.val
    | tup hz' => obtain ⟨ys, e1, e2⟩ := hp.val; exact ⟨ys, e1, cT hz' e2⟩
  · show fr2 b = g.fr b
    rw [hold b hb']; exact hp.fr.frk b hb'
/-! ### From here on a row of one's own is only read -/
def hasC (r : Nat) : C → Bool
  | .own _ r' _ => Nat.beq r' r
  | .ref r' _ => Nat.beq r' r
  | .fn _ caps => caps.any fun q => Nat.beq q r
  | _ => false
def hasL (r : Nat) (cs : List C) : Bool := cs.any (hasC r)
def hasA (r : Nat) : A → Bool
  | .v _ cs => hasL r cs
  | .tup xs => xs.any fun x => hasL r x.2
  | .opt _ x => hasA r x
  | _ => false
inductive AFrzC (r : Nat) (fh : Bool) (n : Nat) (ds : List D) : C → C → Prop
  | own : AFrzC r fh n ds (.own true r n) (.sl fh true n ds)
  | same {c : C} (h : hasC r c = false) : AFrzC r fh n ds c c
inductive AFrzL (r : Nat) (fh : Bool) (n : Nat) (ds : List D) : List C → List C → Prop
  | nil : AFrzL r fh n ds [] []
  | cons {c c' : C} {cs cs' : List C} (h : AFrzC r fh n ds c c') (k : AFrzL r fh n ds cs cs') : AFrzL r fh n ds (c :: cs) (c' :: cs')
inductive AFrzA (r : Nat) (fh : Bool) (n : Nat) (ds : List D) : A → A → Prop
  | same {x : A} (h : hasA r x = false) : AFrzA r fh n ds x x
  | v {ag : Bool} {cs cs' : List C} (h : AFrzL r fh n ds cs cs') : AFrzA r fh n ds (.v ag cs) (.v ag cs')
  | any {x : A} : AFrzA r fh n ds x .any
inductive AFrzAs (r : Nat) (fh : Bool) (n : Nat) (ds : List D) : List A → List A → Prop
  | nil : AFrzAs r fh n ds [] []
  | cons {x x' : A} {xs xs' : List A} (h : AFrzA r fh n ds x x') (k : AFrzAs r fh n ds xs xs') : AFrzAs r fh n ds (x :: xs) (x' :: xs')
inductive AFrzR (r : Nat) (fh : Bool) (n : Nat) (ds : List D) : R → R → Prop
  | box {cs cs' : List C} (h : AFrzL r fh n ds cs cs') : AFrzR r fh n ds (.box cs) (.box cs')
  | arr {e : TypeId} {f nn : Bool} {q : Nat} {cs : List D} : AFrzR r fh n ds (.arr e f nn q cs) (.arr e f nn q cs)
  | gone {x : R} : AFrzR r fh n ds x .gone
inductive AFrzRs (r : Nat) (fh : Bool) (n : Nat) (ds : List D) : Nat → List R → List R → Prop
  | nil {j : Nat} : AFrzRs r fh n ds j [] []
  | at {j : Nat} {x : R} {xs xs' : List R} (h : j = r) (k : AFrzRs r fh n ds (j + 1) xs xs') : AFrzRs r fh n ds j (x :: xs) (.gone :: xs')
  | cons {j : Nat} {x x' : R} {xs xs' : List R} (hj : Nat.beq j r = false) (h : AFrzR r fh n ds x x') (k : AFrzRs r fh n ds (j + 1) xs xs') : AFrzRs r fh n ds j (x :: xs) (x' :: xs')
theorem beq_ne {a b : Nat} (h : Nat.beq a b = false) : a ≠ b := fun e => by subst e; rw [Nat.beq_refl] at h; cases h
theorem RelC.frz {w : World} {g : Gh} {base r n : Nat} {fh : Bool} {ds : List D} {e : TypeId} {P : Program} (hr : ResOk P w g base r (.arr e fh true n ds)) (hb : base ≤ g.gb r) {c c' : C} {v : Value} (hc : RelC w g base c v) (hf : AFrzC r fh n ds c c') :
    RelC w ⟨upd g.fr (g.gb r) (frW w (g.gb r)), g.gb, g.gc, g.born⟩ base c' v := by
  obtain ⟨_, hlen, hif⟩ := hr
  simp only [if_true] at hif
  obtain ⟨hfr0, cur, hheap, hn, hcap, hsz, hrel⟩ := hif
  have hevo : Evo w g.fr w (upd g.fr (g.gb r) (frW w (g.gb r))) := ⟨Nat.le_refl _, fun b _ => by
    unfold upd; split
    · rename_i h; subst h; rw [hfr0]; exact Nat.zero_le _
    · exact Nat.le_refl _, fun a v _ h => h⟩
  cases hf with
  | same hid =>
    cases c with
    | sl fresh nn n cs => exact RelD.evo hc (hevo.frOf fresh _)
    | ro cs =>
      obtain ⟨a, vs, h1, h2⟩ := hc
      refine ⟨a, vs, h1, fun j x hx => ?_⟩
      obtain ⟨e1, e2, e3⟩ := h2 j x hx
      exact ⟨e1, Nat.lt_of_lt_of_le e2 (hevo.le _ (by have := cell_lt e1; rwa [addr_block] at this)), e3.evo hevo⟩
    | _ => exact hc
  | own =>
    obtain ⟨_, hV⟩ := hc
    simp only [if_true] at hV
    have hg : ∀ (j : Nat) (d : D), ds[j]? = some d → cur[j]? = some (cur.getD j Go.undef) ∧ RelD w (frOf fh base g.fr) d (cur.getD j Go.undef) := fun j d hj => by
      obtain ⟨v, e1, e2⟩ := hrel.get (j := j) (c := D.toC fh d) (by rw [List.getElem?_map, hj]; rfl)
      have e3 : cur[j]? = some v := by
        rw [List.getElem?_take] at e1
        split at e1
        · simpa using e1
        · cases e1
      have e4 : cur.getD j Go.undef = v := by simp [Array.getD_eq_getD_getElem?, e3]
      rw [e4]; exact ⟨e3, RelC.ofC e2⟩
    have hoff : ∀ j, ((⟨g.gb r, 0, none⟩ : Addr).add j).off = j := fun j => by unfold Addr.add; split <;> simp_all
    have hcell : ∀ j, w.cell? ((⟨g.gb r, 0, none⟩ : Addr).add j) = cur[j]? := fun j => by
      have hsp : ((⟨g.gb r, 0, none⟩ : Addr).add j).spot = none := by unfold Addr.add; split <;> rfl
      unfold World.cell?
      rw [addr_block, hsp, hoff]
      dsimp only
      rw [hheap]; rfl
    rw [hV]
    refine RelD.sl n ds _ (g.gc r) (fun j => cur.getD j Go.undef) hn hcap (fun j d hj => by rw [hcell]; exact (hg j d hj).1) (fun j d hj => ?_) (fun j d hj => (hg j d hj).2.evo (hevo.frOf fh _))
    rw [hoff]
    have hlt : j < frW w (g.gb r) := frW_lt (a := (⟨g.gb r, 0, none⟩ : Addr).add j) (by rw [hcell]; exact (hg j d hj).1) |> fun h => by rw [hoff, addr_block] at h; exact h
    have hf2 : upd g.fr (g.gb r) (frW w (g.gb r)) (g.gb r) = frW w (g.gb r) := by unfold upd; rw [if_pos rfl]
    show j < frOf fh base (upd g.fr (g.gb r) (frW w (g.gb r))) (g.gb r)
    unfold frOf restr
    split
    · show j < if g.gb r < base then 0 else upd g.fr (g.gb r) (frW w (g.gb r)) (g.gb r)
      rw [if_neg (by omega), hf2]; exact hlt
    · rw [hf2]; exact hlt
theorem RelL.frz {w : World} {g : Gh} {base r n : Nat} {fh : Bool} {ds : List D} {e : TypeId} {P : Program} (hr : ResOk P w g base r (.arr e fh true n ds)) (hb : base ≤ g.gb r) {cs cs' : List C} (hf : AFrzL r fh n ds cs cs') : ∀ {vs : List Value}, RelL w g base cs vs →
    RelL w ⟨upd g.fr (g.gb r) (frW w (g.gb r)), g.gb, g.gc, g.born⟩ base cs' vs := by
  induction hf with
  | nil => intro vs hc; cases vs with
    | nil => trivial
    | cons _ _ => exact hc.elim
  | cons hc hk ih =>
    intro vs hv
    cases vs with
    | nil => exact hv.elim
    | cons v vs => exact ⟨RelC.frz hr hb hv.1 hc, ih hv.2⟩
theorem frzL_same {r n : Nat} {fh : Bool} {ds : List D} : ∀ {cs : List C}, hasL r cs = false → AFrzL r fh n ds cs cs
  | [], _ => .nil
  | c :: cs, h => by
    unfold hasL at h
    rw [List.any_cons, Bool.or_eq_false_iff] at h
    exact .cons (.same h.1) (frzL_same h.2)
theorem RelV.frz {w : World} {g : Gh} {base r n : Nat} {fh : Bool} {ds : List D} {e : TypeId} {P : Program} (hr : ResOk P w g base r (.arr e fh true n ds)) (hb : base ≤ g.gb r) {ag : Bool} {cs cs' : List C} {V : Value} (hf : AFrzL r fh n ds cs cs') (hv : RelV w g base ag cs V) :
    RelV w ⟨upd g.fr (g.gb r) (frW w (g.gb r)), g.gb, g.gc, g.born⟩ base ag cs' V := by
  cases ag with
  | true => obtain ⟨xs, e1, e2⟩ := (show ∃ xs : List Value, V = .agg xs.toArray ∧ RelL w g base cs xs from hv); exact ⟨xs, e1, RelL.frz hr hb hf e2⟩
  | false =>
    obtain ⟨c, e1, e2⟩ := (show ∃ c, cs = [c] ∧ RelC w g base c V from hv)
    subst e1
    cases hf with
    | cons hc hk => cases hk; exact ⟨_, rfl, RelC.frz hr hb e2 hc⟩
theorem RelA.frz {w : World} {g : Gh} {base r n : Nat} {fh : Bool} {ds : List D} {e : TypeId} {P : Program} (hr : ResOk P w g base r (.arr e fh true n ds)) (hb : base ≤ g.gb r) {x y : A} {V : Value} (hv : RelA w g base x V) (hf : AFrzA r fh n ds x y) :
    RelA w ⟨upd g.fr (g.gb r) (frW w (g.gb r)), g.gb, g.gc, g.born⟩ base y V := by
  cases hf with
  | any => trivial
  | v h => exact RelV.frz hr hb h hv
  | same h =>
    induction x with
    | any => trivial
    | undef => exact hv
    | v ag cs => exact RelV.frz hr hb (frzL_same h) hv
    | opt b x ih => exact ⟨fun hb' => ih (hv.1 hb') h, hv.2⟩
    | tup xs =>
      obtain ⟨ys, e1, e2⟩ := hv
      refine ⟨ys, e1, ?_⟩
      have : ∀ {xs : List (Bool × List C)} {ys : List Value}, (xs.any fun x => hasL r x.2) = false → RelT w g base xs ys → RelT w ⟨upd g.fr (g.gb r) (frW w (g.gb r)), g.gb, g.gc, g.born⟩ base xs ys := by
        intro xs
        induction xs with
        | nil => intro ys _ h; cases ys with
          | nil => trivial
          | cons _ _ => exact h.elim
        | cons x xs ih =>
          intro ys hh h
          cases ys with
          | nil => exact h.elim
          | cons y ys =>
            rw [List.any_cons, Bool.or_eq_false_iff] at hh
            exact ⟨RelV.frz hr hb (frzL_same hh.1) h.1, ih hh.2 h.2⟩
      exact this h e2
theorem frzAs_get {r n : Nat} {fh : Bool} {ds : List D} : ∀ {l l' : List A}, AFrzAs r fh n ds l l' → ∀ d, AFrzA r fh n ds (lsA l d) (lsA l' d) := by
  intro l l' h
  induction h with
  | nil => intro d; exact .any
  | cons h k ih =>
    intro d
    cases d with
    | zero => exact h
    | succ d => exact ih d
theorem frzRs_get {r n : Nat} {fh : Bool} {ds : List D} : ∀ {j : Nat} {m m' : List R}, AFrzRs r fh n ds j m m' → ∀ q, (j + q = r ∧ lsR m' q = .gone) ∨ (j + q ≠ r ∧ AFrzR r fh n ds (lsR m q) (lsR m' q)) ∨ (lsR m q = .gone ∧ lsR m' q = .gone) := by
  intro j m m' h
  induction h with
  | nil => intro q; exact .inr (.inr ⟨rfl, rfl⟩)
  | @cons j x x' xs xs' hj h k ih =>
    intro q
    cases q with
    | zero => exact .inr (.inl ⟨beq_ne hj, h⟩)
    | succ q => have := ih q; rw [show j + 1 + q = j + (q + 1) by omega] at this; exact this
  | _ =>
    rename_i j x xs xs' h k ih
    intro q
    cases q with
    | zero => exact .inl ⟨h, rfl⟩
    | succ q => have := ih q; rw [show j + 1 + q = j + (q + 1) by omega] at this; exact this
theorem AW.frz {P : Program} {G : Nat → Option (List D)} {base k nt q : Nat} {Q : PostA} {code : Code} {l l' : List A} {m m' : List R} (r : Nat) {e : TypeId} {fh : Bool} {n : Nat} {ds : List D} (hm : lsR m r = .arr e fh true n ds) (hk : k ≤ r) (hl : AFrzAs r fh n ds l l') (hmm : AFrzRs r fh n ds 0 m m')
    (h : AW P G base k nt code Q (sL l' m') q) : AW P G base k nt code Q (sL l m) q := by
  intro c a w g h1 h2 h3 h4 hr hn hs Q' hQ
  subst h1 h2 h3 h4
  have hok := hr.mem.ok r
  have hown := hr.mem.own r hk (by show (lsR m r).live = true; rw [hm]; rfl)
  have hok2 : ResOk c.P w g c.base r (.arr e fh true n ds) := by rw [← hm]; exact hok
  have hf0 : g.fr (g.gb r) = 0 := by
    obtain ⟨_, _, hif⟩ := hok2
    simp only [if_true] at hif
    exact hif.1
  have hevo : Evo w g.fr w (upd g.fr (g.gb r) (frW w (g.gb r))) := ⟨Nat.le_refl _, fun b _ => by
    unfold upd; split
    · rename_i h; subst h; rw [hf0]; exact Nat.zero_le _
    · exact Nat.le_refl _, fun a v _ h => h⟩
  have hlive : ∀ r', (lsR m' r').live = true → (lsR m r').live = true := fun r' hl' => by
    rcases frzRs_get hmm r' with ⟨_, h0⟩ | ⟨_, h0⟩ | ⟨_, h0⟩
    · rw [h0] at hl'; cases hl'
    · revert h0 hl'
      generalize lsR m' r' = y'
      generalize lsR m r' = y
      intro hl' h0
      cases h0 with
      | box _ => rfl
      | arr => exact hl'
      | gone => cases hl'
    · rw [h0] at hl'; cases hl'
  refine h c a w ⟨upd g.fr (g.gb r) (frW w (g.gb r)), g.gb, g.gc, g.born⟩ rfl rfl rfl rfl ⟨fun d => RelA.frz hok2 hown (hr.slots d) (frzAs_get hl d), ⟨fun r' => ?_, fun r' r'' hne hl' hl'' => hr.mem.inj r' r'' hne (hlive r' hl') (hlive r'' hl''), fun r' hk' hl' => hr.mem.own r' hk' (hlive r' hl')⟩, ⟨hr.fr.os, hr.fr.tape, hr.fr.output, hr.fr.evo.trans hevo, hr.fr.keep, fun b hb => ?_, hr.fr.gk⟩, hr.glob.evo hevo, fun r' hk' hl' => hr.lvk r' hk' (hlive r' hl'), hr.bk, hr.bk2, hr.defers⟩ hn hs Q' hQ
  · show ResOk c.P w _ c.base r' (lsR m' r')
    have hne : ∀ x, lsR m r' = x → x.live = true → r' ≠ r → upd g.fr (g.gb r) (frW w (g.gb r)) (g.gb r') = g.fr (g.gb r') := fun x hx hl' hne => by
      have := hr.mem.inj r' r hne (by show (lsR m r').live = true; rw [hx]; exact hl') (by show (lsR m r).live = true; rw [hm]; rfl)
      unfold upd; rw [if_neg this]
    have hx := hr.mem.ok r'
    rcases frzRs_get hmm r' with ⟨_, h0⟩ | ⟨hj, h0⟩ | ⟨_, h0⟩
    · rw [h0]; trivial
    · rw [Nat.zero_add] at hj
      have hx : ResOk c.P w g c.base r' (lsR m r') := hx
      revert h0
      generalize hy' : lsR m' r' = y'
      generalize hy : lsR m r' = y
      intro h0
      rw [hy] at hx
      cases h0 with
      | gone => trivial
      | box hL =>
        obtain ⟨q1, q2, vs, T, q3, q4⟩ := hx
        exact ⟨q1, by show upd g.fr (g.gb r) (frW w (g.gb r)) (g.gb r') = 0; rw [hne _ hy rfl hj]; exact q2, vs, T, q3, RelL.frz hok2 hown hL q4⟩
      | @arr e' f' nn' n' cs' =>
        obtain ⟨q1, q2, q3⟩ := hx
        refine ⟨q1, q2, ?_⟩
        cases nn' with
        | false => exact q3
        | true =>
          simp only [if_true] at q3 ⊢
          obtain ⟨p1, cur, p2, p3, p4, p5, p6⟩ := q3
          refine ⟨by show upd g.fr (g.gb r) (frW w (g.gb r)) (g.gb r') = 0; rw [hne _ hy rfl hj]; exact p1, cur, p2, p3, p4, p5, RelL.frz hok2 hown (frzL_same ?_) p6⟩
          unfold hasL
          rw [List.any_eq_false]
          intro c hc
          obtain ⟨d, _, rfl⟩ := List.mem_map.1 hc
          cases d <;> simp [D.toC, hasC]
    · rw [h0]; trivial
  · show upd g.fr (g.gb r) (frW w (g.gb r)) b = c.g0.fr b
    have : b ≠ g.gb r := by
      have : c.base = c.w0.heap.size := rfl
      omega
    unfold upd; rw [if_neg this]; exact hr.fr.frk b hb
/-- Seen more narrowly from here on. -/
theorem AW.cutU {P : Program} {G : Nat → Option (List D)} {base k nt n : Nat} {Q : PostA} {code : Code} {l : List A} {m : List R} (U : List (Nat × A)) (M : List R) (N : Nat) (h0 : Into k (lsA (updL l U)) (lsR M) N (sL l m)) (h : AW P G base k nt code Q (sL (updL l U) M) N) : AW P G base k nt code Q (sL l m) n := AW.leL h0 h
theorem nn_of {α : Type} {nn : Bool} {l : List α} {i : Nat} (h : nn = false → l = []) (hi : i < l.length) : nn = true := by
  cases nn
  · rw [h rfl] at hi; simp at hi
  · rfl
theorem bytes_nil (W : World) : ∃ (nn : Bool) (l : List Nat), (nn = false → l = []) ∧ (∀ b ∈ l, b ≤ 255) ∧ RelA W (ghW W) W.heap.size (.v false [.sl false nn l.length (l.map bD)]) (.slice none 0 0) :=
  ⟨false, [], fun _ => rfl, (fun b h => by cases h), _, rfl, .nil⟩
theorem bytes_row {W : World} {x : Addr} {l c : Nat} {zs : List Int} (hl : l ≤ c) (hm : c ≤ maxLen) (hz : zs.length = c) (hcell : ∀ i, i < zs.length → W.cell? (x.add i) = some (.int .u8 (zs.getD i 0)))
    (hwf : ∀ n ∈ zs, (Lit.int .u8 n).wf = true) : ∃ (nn : Bool) (ks : List Nat), (nn = false → ks = []) ∧ (∀ b ∈ ks, b ≤ 255) ∧ RelA W (ghW W) W.heap.size (.v false [.sl false nn ks.length (ks.map bD)]) (.slice (some x) l c) := by
  have hbd : ∀ n ∈ zs, 0 ≤ n ∧ n ≤ 255 := fun n hn => by simpa [Lit.wf, IntKind.min, IntKind.max, IntKind.signed, IntKind.bits] using hwf n hn
  refine ⟨true, (zs.take l).map Int.toNat, (fun h => by cases h), fun b hb => ?_, ?_⟩
  · obtain ⟨n, hn, rfl⟩ := List.mem_map.1 hb
    have := hbd n (List.mem_of_mem_take hn)
    omega
  · refine ⟨_, rfl, ?_⟩
    have hlen : ((zs.take l).map Int.toNat).length = l := by simp; omega
    have key : ∀ (j : Nat) (y : D), (((zs.take l).map Int.toNat).map bD)[j]? = some y → j < zs.length ∧ y = .i .u8 (zs.getD j 0) := by
      intro j y hy
      simp only [List.getElem?_map, Option.map_map, Option.map_eq_some_iff] at hy
      obtain ⟨n, hn, rfl⟩ := hy
      have hn' : zs[j]? = some n := by
        rw [List.getElem?_take] at hn
        split at hn
        · exact hn
        · cases hn
      have hj := (List.getElem?_eq_some_iff.1 hn').1
      have hb := hbd n (List.mem_of_getElem? hn')
      refine ⟨hj, ?_⟩
      show D.i .u8 ((n.toNat : Nat) : Int) = _
      rw [Int.toNat_of_nonneg hb.1, List.getD_eq_getElem?_getD, hn']; rfl
    rw [hlen]
    refine .sl l _ x c (fun j => .int .u8 (zs.getD j 0)) hl hm (fun j y hy => hcell j (key j y hy).1) (fun j y hy => ?_) (fun j y hy => ?_)
    · have := frW_lt (hcell j (key j y hy).1)
      rwa [addr_block] at this
    · rw [(key j y hy).2]; exact .i _ _
theorem bounds_i64 {x : Int} (h : (Lit.int .i64 x).wf = true) : -9223372036854775808 ≤ x ∧ x ≤ 9223372036854775807 := by simpa [Lit.wf, IntKind.min, IntKind.max, IntKind.signed, IntKind.bits] using h
theorem rel_i (W : World) (x : Int) : RelA W (ghW W) W.heap.size (.v false [.i .i64 x]) (.int .i64 x) := ⟨_, rfl, rfl⟩
theorem rel_i2 (W : World) (x y : Int) : RelA W (ghW W) W.heap.size (.v true [.i .i64 x, .i .i64 y]) (.agg #[.int .i64 x, .int .i64 y]) := ⟨[.int .i64 x, .int .i64 y], rfl, rfl, rfl, trivial⟩
theorem rel_i3 (W : World) (x y z : Int) : RelA W (ghW W) W.heap.size (.v true [.i .i64 x, .i .i64 y, .i .i64 z]) (.agg #[.int .i64 x, .int .i64 y, .int .i64 z]) := ⟨[.int .i64 x, .int .i64 y, .int .i64 z], rfl, rfl, rfl, rfl, trivial⟩
end Go.Proofs.YtfhoalglgmdiaaaDoor
