/-
  Slices: cut, built, made, appended to.
-/
import Derived.Test.YtpobimdcphjljaaEx
namespace Go.Proofs.Ytpobimdcphjljaa
open Go
set_option linter.unusedVariables false
set_option linter.unusedSimpArgs false
set_option linter.unnecessarySimpa false
set_option maxRecDepth 4000

theorem add_add (a : Addr) (i j : Nat) : (a.add i).add j = a.add (i + j) := by
  unfold Addr.add
  by_cases hi : i = 0
  · subst hi; simp
  · by_cases hj : j = 0
    · subst hj; simp [hi]
    · simp [hi, hj, Nat.add_assoc]

/-! ### Cuts -/
def optI (ov : Operand → A) (x : Option Operand) (d : Int) : Option Int :=
  match x with
  | none => some d
  | some y =>
    match slot (ov y) with
    | some (.i _ z) => some z
    | _ => none
theorem sem_slice {P : Program} {T : TypeId → Option TI} (hT : TOk P T) {G : Nat → Option (List D)} {base k : Nat} {o : Oper} {ov : Operand → A} {t : TypeId} {x : Operand} {lo hi : Option Operand} {ti : TI} {e s n : Nat} {f nn : Bool} {ds : List D} {l h : Int} {nid : Nat}
    (ho : o.op = .slice t x lo hi none) (ht : T t = some ti) (hk : ti.k = .slice e s) (hx : slot (ov x) = some (.sl f nn n ds)) (hl : optI ov lo 0 = some l) (hh : optI ov hi n = some h) (h0 : 0 ≤ l) (h1 : l ≤ h) (h2 : h ≤ n) :
    ASem P G base k o ov [] (.v false [.sl f nn (h - l).toNat ((ds.drop (l.toNat * s)).take ((h - l).toNat * s))]) [] nid 0 := by
  refine .pure fun w g a _ hop _ => ?_
  obtain ⟨hu, hs, hpos, ie, hie, hies⟩ := (hT.get ht).slice hk
  have hv := slot_rel (hop x (by simp [ho, Op.operands])) hx
  have hv : RelD w (frOf f base g.fr) (.sl nn n ds) (a.eval x) := hv
  have opt : ∀ (y : Operand) (d z : Int), y ∈ o.op.operands.toList → optI ov (some y) d = some z → ∃ kk, a.eval y = .int kk z := by
    intro y d z hy hz
    unfold optI at hz
    simp only at hz
    split at hz
    · rename_i kk z' hs'
      cases hz
      have := slot_rel (hop y hy) hs'
      exact ⟨kk, this⟩
    · cases hz
  have bd : ∀ cap : Nat, n ≤ cap → (Instr.sliceBounds true n cap (lo.map a.eval) (hi.map a.eval) none).run P w = .ok (l.toNat, h.toNat, cap) w := by
    intro cap hcap
    cases lo with
    | none =>
      cases hl
      cases hi with
      | none => cases hh; simp [Instr.sliceBounds]
      | some y =>
        obtain ⟨kk, hy⟩ := opt y n h (by simp [ho, Op.operands]) hh
        simp only [Instr.sliceBounds, Option.map_some, Option.map_none, hy, Instr.sliceBound, asIntOf, Sem.run_bind, Sem.run_pure, Result.andThen_ok]
        rw [if_pos (by omega)]
        simp
    | some q =>
      obtain ⟨kq, hq⟩ := opt q 0 l (by simp [ho, Op.operands]) hl
      cases hi with
      | none =>
        cases hh
        simp only [Instr.sliceBounds, Option.map_some, Option.map_none, hq, Instr.sliceBound, asIntOf, Sem.run_bind, Sem.run_pure, Result.andThen_ok]
        rw [if_pos (by omega)]
        simp
      | some y =>
        obtain ⟨kk, hy⟩ := opt y n h (by simp [ho, Op.operands]) hh
        simp only [Instr.sliceBounds, Option.map_some, hy, hq, Instr.sliceBound, asIntOf, Sem.run_bind, Sem.run_pure, Result.andThen_ok]
        rw [if_pos (by omega)]
        simp only [Sem.run_pure, Result.andThen_ok]
        rw [if_pos (by omega)]
        simp
  generalize hV : a.eval x = V at hv
  have hlt : l.toNat ≤ h.toNat := by omega
  have e1 : h.toNat - l.toNat = (h - l).toNat := by omega
  cases hv with
  | nil =>
    have hh0 : h = 0 := by omega
    have hl0 : l = 0 := by omega
    subst hh0 hl0
    refine ⟨.slice none 0 0, ?_, _, rfl, ?_⟩
    · unfold execOp
      have := bd 0 (Nat.le_refl _)
      simp only [Int.toNat_zero] at this
      simp only [ho, hV, Instr.sliceAt, run_underlying hu, Instr.slice, Sem.run_bind, Result.andThen_ok, Option.map_none, this, sizeOf, typeInfo, run_program, hie, Sem.run_pure]
      simp
    · show RelD w _ _ _
      simp
      exact .nil
  | sl _ _ ad cap vs hn hc h1' h2' h3' =>
    refine ⟨.slice (some (if cap = l.toNat then ad else ad.add (l.toNat * s))) (h.toNat - l.toNat) (cap - l.toNat), ?_, _, rfl, ?_⟩
    · unfold execOp
      have := bd cap hn
      simp only [ho, hV, Instr.sliceAt, run_underlying hu, Instr.slice, Sem.run_bind, Result.andThen_ok, Option.map_none, this, sizeOf, typeInfo, run_program, hie, Sem.run_pure, hies]
      split <;> simp
    · show RelD w _ _ _
      rw [e1]
      by_cases hcl : cap = l.toNat
      · have : (h - l).toNat = 0 := by omega
        rw [this]
        simp only [Nat.zero_mul, List.take_zero]
        exact .sl 0 [] _ _ (fun _ => Go.undef) (by omega) (by omega) (fun j x hx => by simp at hx) (fun j x hx => by simp at hx) (fun j x hx => by simp at hx)
      · rw [if_neg hcl]
        have key : ∀ j x, ((ds.drop (l.toNat * s)).take ((h - l).toNat * s))[j]? = some x → ds[l.toNat * s + j]? = some x := by
          intro j x hx
          rw [List.getElem?_take] at hx
          split at hx
          · rwa [List.getElem?_drop] at hx
          · cases hx
        refine .sl _ _ _ _ (fun j => vs (l.toNat * s + j)) (by omega) (by omega) (fun j x hx => ?_) (fun j x hx => ?_) (fun j x hx => h3' _ x (key j x hx))
        · rw [add_add]; exact h1' _ x (key j x hx)
        · rw [add_add, addr_block]; exact h2' _ x (key j x hx)

/-! ### New arrays -/
theorem flat_get {α : Type} (Z : List α) : ∀ (n j : Nat), ((List.replicate n Z).flatten)[j]? = if j < n * Z.length then Z[j % Z.length]? else none
  | 0, j => by simp
  | n + 1, j => by
    rw [List.replicate_succ, List.flatten_cons, List.getElem?_append]
    split
    · rename_i h
      rw [if_pos (by rw [Nat.add_mul]; omega), Nat.mod_eq_of_lt h]
    · rename_i h
      rw [flat_get Z n (j - Z.length)]
      have : (n + 1) * Z.length = n * Z.length + Z.length := by rw [Nat.add_mul, Nat.one_mul]
      by_cases hj : j < (n + 1) * Z.length
      · rw [if_pos hj, if_pos (by omega), ← Nat.mod_eq_sub_mod (by omega)]
      · rw [if_neg hj, if_neg (by omega)]
theorem made_rel {w : World} {g : Gh} {base : Nat} {Z : List C} {z : Array Value} (h : RelL w g base Z z.toList) (n m : Nat) (hm : n ≤ m) : RelL w g base (List.replicate n Z).flatten ((madeCells z (m * z.size)).toList.take (n * z.size)) := by
  have hl : Z.length = z.size := by rw [h.length]; simp
  refine RelL.intro ?_ fun j c v hc hv => ?_
  · simp [madeCells, hl]
    rw [Nat.min_eq_left hm]
  · rw [flat_get] at hc
    split at hc
    · rename_i hj
      rw [hl] at hj hc
      obtain ⟨u, h1, h2⟩ := h.get hc
      rw [List.getElem?_take, if_pos hj] at hv
      have hz : 0 < z.size := by
        rcases Nat.eq_zero_or_pos z.size with h0 | h0
        · rw [h0] at hj; omega
        · exact h0
      have hjm : j < m * z.size := Nat.lt_of_lt_of_le hj (Nat.mul_le_mul_right _ hm)
      have hmod : j % z.size < z.size := Nat.mod_lt _ hz
      simp [madeCells, hjm, hmod] at hv
      simp [hmod] at h1
      rw [← hv, h1]; exact h2
    · cases hc
theorem sem_makeSlice {P : Program} {T : TypeId → Option TI} (hT : TOk P T) {G : Nat → Option (List D)} {base k : Nat} {o : Oper} {ov : Operand → A} {t e s : Nat} {x y : Operand} {ti te : TI} {kx ky : IntKind} {l c : Int} {f : Bool} {zs : List D} {nid : Nat}
    (ho : o.op = .makeSlice t x y) (ht : T t = some ti) (hk : ti.k = .slice e s) (he : T e = some te) (hx : slot (ov x) = some (.i kx l)) (hy : slot (ov y) = some (.i ky c)) (hz : toDs te.zero = some (f, zs)) (h0 : 0 ≤ l) (h1 : l ≤ c) (h2 : (te.bytes : Int) * c ≤ 281474976710656) (h3 : c ≤ 9223372036854775807) (h4 : c.toNat ≤ maxLen) :
    ASem P G base k o ov [] (.v false [.own true nid l.toNat]) [(nid, .arr e f true l.toNat (List.replicate l.toNat zs).flatten)] nid 1 := by
  refine .value fun w g a _ _ hop _ hb => ?_
  have hv1 := slot_rel (hop x (by simp [ho, Op.operands])) hx
  have hv2 := slot_rel (hop y (by simp [ho, Op.operands])) hy
  generalize hV1 : a.eval x = V1 at hv1
  generalize hV2 : a.eval y = V2 at hv2
  cases hv1
  cases hv2
  obtain ⟨hu, hs, hpos, ie, hie, hies⟩ := (hT.get ht).slice hk
  obtain ⟨i, z, q1, q2, q3, q4, q5⟩ := (hT.get he).info
  obtain rfl : i = ie := by rw [hie] at q1; exact (Option.some.inj q1).symm
  have hrel : RelL w g base te.zero z.cells.toList := litsB_rel q5
  have hzl : zs.length = te.zero.length := by have := (toDs_rel hrel hz false (fun e => by cases e)).length; simp at this; rw [this, hrel.length]; simp
  have hzs : z.cells.size = i.size := by
    have h1 := hrel.length
    have h2 := (hT.get he).zlen
    simp at h1
    omega
  have hrel' : RelL w g base (zs.map (D.toC f)) z.cells.toList := toDs_rel hrel hz f (fun e => e)
  have hr := run_make (P := P) w t e i z hu hie q4 kx ky l c h0 h1 (by rw [q3]; exact h2) h3
  have hn : l.toNat ≤ c.toNat := by omega
  refine ⟨_, nuG g w nid c.toNat 0, _, .inl ?_, eff_arr (cur := madeCells z.cells (c.toNat * i.size)) (cap := c.toNat) (hb nid (Nat.le_refl _) (by omega)) ?_ hn h4 ?_ ?_ (fun r x hx => .inl (List.mem_singleton.1 hx))⟩
  · unfold execOp
    simp only [ho, hV1, hV2, Sem.run_bind, hr, Result.andThen_ok, Sem.run_pure]
  · simp [hs, hzl, ← hies, ← hzs, hrel.length]
  · simp [madeCells, hs, hies]
  · have := made_rel hrel' l.toNat c.toNat hn
    rw [hzs] at this
    rw [hs, ← hies, List.map_flatten, List.map_replicate]
    exact this

theorem sem_buildSlice {P : Program} {T : TypeId → Option TI} (hT : TOk P T) {G : Nat → Option (List D)} {base k : Nat} {o : Oper} {ov : Operand → A} {t e s len : Nat} {parts : Array (Nat × Operand)} {ti te : TI} {ps : List (Nat × List C)} {cs : List C} {f : Bool} {ds : List D} {nid : Nat}
    (ho : o.op = .buildSlice t len parts) (ht : T t = some ti) (hk : ti.k = .slice e s) (he : T e = some te) (hp : partsA ov parts.toList = some ps) (hf : fillC (fun i => some (i * s, s)) (List.replicate len te.zero).flatten ps = some cs) (hd : toDs cs = some (f, ds)) (h1 : len * s ≤ 16777216) (h2 : 0 < len) (h3 : ds.length = len * s) :
    ASem P G base k o ov [] (.v false [.own true nid len]) [(nid, .arr e f true len ds)] nid 1 := by
  refine .value fun w g a _ _ hop _ hb => ?_
  have hops : ∀ p ∈ parts.toList, RelA w g base (ov p.2) (a.eval p.2) := fun p hp => hop p.2 (by simp [ho, Op.operands]; exact ⟨p.1, by simpa using hp⟩)
  obtain ⟨e1, e2⟩ := partsA_rel hops hp
  obtain ⟨hu, hs, hpos, ie, hie, hies⟩ := (hT.get ht).slice hk
  obtain ⟨i, z, q1, q2, q3, q4, q5⟩ := (hT.get he).info
  obtain rfl : i = ie := by rw [hie] at q1; exact (Option.some.inj q1).symm
  have hrel : RelL w g base te.zero z.cells.toList := litsB_rel q5
  have hzs : z.cells.size = i.size := by
    have h1 := hrel.length
    have h2 := (hT.get he).zlen
    simp at h1
    omega
  have hz0 : RelL w g base (List.replicate len te.zero).flatten ((Array.range (len * i.size)).map (z.cells[· % z.cells.size]!)).toList := by
    have := made_rel hrel len len (Nat.le_refl _)
    rw [hzs, List.take_of_length_le (by simp [madeCells])] at this
    exact this
  obtain ⟨vs, hv1, hv2⟩ := fill_rel (place := fun j => some (j * i.size, i.size)) (qs := (parts.map fun (i, x) => (i, a.eval x)).toList) (by simp [e1]) (fun j p q hp hq => e2 j p q hp (by simpa using hq)) hz0 (by rw [hies]; exact hf)
  have hle : len ≤ len * s := Nat.le_mul_of_pos_right _ hpos
  have hml : len ≤ maxLen := by unfold maxLen; omega
  have hr := run_buildSlice (P := P) w t e len (parts.map fun (i, x) => (i, a.eval x)) vs i z hu hie q4 (by rw [hies]; omega) (by rw [hies]; have := Nat.mul_pos h2 hpos; omega) hv1
  have hrl : RelL w g base (ds.map (D.toC f)) vs.toList := toDs_rel hv2 hd f (fun e => e)
  have hvl : vs.size = len * s := by have := hrl.length; simp at this; omega
  refine ⟨_, nuG g w nid len 0, _, .inl ?_, eff_arr (cur := vs) (cap := len) (hb nid (Nat.le_refl _) (by omega)) (by rw [hs]; exact h3) (Nat.le_refl _) hml (by rw [hs]; exact hvl) ?_ (fun r x hx => .inl (List.mem_singleton.1 hx))⟩
  · unfold execOp
    simp only [ho, Sem.run_bind, hr, Result.andThen_ok, Sem.run_pure]
  · rw [List.take_of_length_le (by rw [hs]; simp [hvl])]; exact hrl
/-- A slice literal that is only read from then on. -/
theorem sem_buildSliceV {P : Program} {T : TypeId → Option TI} (hT : TOk P T) {G : Nat → Option (List D)} {base k : Nat} {o : Oper} {ov : Operand → A} {t e s len : Nat} {parts : Array (Nat × Operand)} {ti te : TI} {ps : List (Nat × List C)} {cs : List C} {f : Bool} {ds : List D} {nid : Nat}
    (ho : o.op = .buildSlice t len parts) (ht : T t = some ti) (hk : ti.k = .slice e s) (he : T e = some te) (hp : partsA ov parts.toList = some ps) (hf : fillC (fun i => some (i * s, s)) (List.replicate len te.zero).flatten ps = some cs) (hd : toDs cs = some (f, ds)) (h1 : len * s ≤ 16777216) (h2 : 0 < len) (h3 : ds.length = len * s) :
    ASem P G base k o ov [] (.v false [.sl f true len ds]) [] nid 0 := by
  refine .value fun w g a hbw _ hop _ hb => ?_
  have hops : ∀ p ∈ parts.toList, RelA w g base (ov p.2) (a.eval p.2) := fun p hp => hop p.2 (by simp [ho, Op.operands]; exact ⟨p.1, by simpa using hp⟩)
  obtain ⟨e1, e2⟩ := partsA_rel hops hp
  obtain ⟨hu, hs, hpos, ie, hie, hies⟩ := (hT.get ht).slice hk
  obtain ⟨i, z, q1, q2, q3, q4, q5⟩ := (hT.get he).info
  obtain rfl : i = ie := by rw [hie] at q1; exact (Option.some.inj q1).symm
  have hrel : RelL w g base te.zero z.cells.toList := litsB_rel q5
  have hzs : z.cells.size = i.size := by
    have h1 := hrel.length
    have h2 := (hT.get he).zlen
    simp at h1
    omega
  have hz0 : RelL w g base (List.replicate len te.zero).flatten ((Array.range (len * i.size)).map (z.cells[· % z.cells.size]!)).toList := by
    have := made_rel hrel len len (Nat.le_refl _)
    rw [hzs, List.take_of_length_le (by simp [madeCells])] at this
    exact this
  obtain ⟨vs, hv1, hv2⟩ := fill_rel (place := fun j => some (j * i.size, i.size)) (qs := (parts.map fun (i, x) => (i, a.eval x)).toList) (by simp [e1]) (fun j p q hp hq => e2 j p q hp (by simpa using hq)) hz0 (by rw [hies]; exact hf)
  have hle : len ≤ len * s := Nat.le_mul_of_pos_right _ hpos
  have hml : len ≤ maxLen := by unfold maxLen; omega
  have hr := run_buildSlice (P := P) w t e len (parts.map fun (i, x) => (i, a.eval x)) vs i z hu hie q4 (by rw [hies]; omega) (by rw [hies]; have := Nat.mul_pos h2 hpos; omega) hv1
  have hrl : RelL w g base (ds.map (D.toC f)) vs.toList := toDs_rel hv2 hd f (fun e => e)
  have hvl : vs.size = len * s := by have := hrl.length; simp at this; omega
  have hcell : ∀ (a : Addr) v, w.cell? a = some v → (w.alloc (.cells vs e (0, 0))).cell? a = some v := fun a v h => (World.grownBy_alloc w _ none).cell h (by simp)
  have hnew : ∀ j, (w.alloc (.cells vs e (0, 0))).cell? ((⟨w.heap.size, 0, none⟩ : Addr).add j) = vs[j]? := fun j => by
    have hh : (w.alloc (.cells vs e (0, 0))).heap[w.heap.size]? = some (.cells vs e (0, 0)) := alloc_new w _
    have hb : ((⟨w.heap.size, 0, none⟩ : Addr).add j).spot = none := by unfold Addr.add; split <;> rfl
    have ho' : ((⟨w.heap.size, 0, none⟩ : Addr).add j).off = j := by unfold Addr.add; split <;> simp_all
    unfold World.cell?
    rw [addr_block]
    dsimp only
    rw [hh, hb, ho']; rfl
  have hoff : ∀ j, ((⟨w.heap.size, 0, none⟩ : Addr).add j).off = j := fun j => by unfold Addr.add; split <;> simp_all
  have hevo : Evo w g.fr (w.alloc (.cells vs e (0, 0))) (fun b => if b = w.heap.size then vs.size else g.fr b) := ⟨by simp, fun b hb => by rw [if_neg (by omega)]; exact Nat.le_refl _, fun a v _ h => hcell a v h, fun b _ hb => RowKit.Below.heap_alloc w _ b hb, fun b hb _ => if_neg (by omega)⟩
  refine ⟨w.alloc (.cells vs e (0, 0)), ⟨fun b => if b = w.heap.size then vs.size else g.fr b, g.gb, g.gc, g.born⟩, .slice (some ⟨w.heap.size, 0, none⟩) len len, .inl ?_, ⟨⟨rfl, rfl, rfl, hevo, fun b hb _ => RowKit.Below.heap_alloc w _ b hb, fun b hb => if_neg (by omega), fun r h => ⟨h, rfl, rfl⟩, fun r h => .inl h⟩, ⟨_, rfl, ?_⟩, (fun r x h => by cases h), (fun r x h => by cases h), (fun r x r' x' h => by cases h)⟩⟩
  · unfold execOp
    simp only [ho, Sem.run_bind, hr, Result.andThen_ok, Sem.run_pure]
  · have hg : ∀ (j : Nat) (d : D), ds[j]? = some d → ∃ v, vs[j]? = some v ∧ RelD w (frOf f base g.fr) d v := fun j d hj => by
      obtain ⟨v, h1, h2⟩ := hrl.get (j := j) (c := D.toC f d) (by rw [List.getElem?_map, hj]; rfl)
      exact ⟨v, by simpa using h1, RelC.ofC h2⟩
    have hvs : ∀ (j : Nat) (d : D), ds[j]? = some d → vs[j]? = some (vs.getD j Go.undef) := fun j d hj => by
      obtain ⟨v, h1, _⟩ := hg j d hj
      simp [Array.getD_eq_getD_getElem?, h1]
    refine .sl len ds _ len (fun j => vs.getD j Go.undef) (Nat.le_refl _) hml (fun j d hj => by rw [hnew]; exact hvs j d hj) (fun j d hj => ?_) (fun j d hj => ?_)
    · rw [hoff]
      have : j < vs.size := (Array.getElem?_eq_some_iff.1 (hvs j d hj)).1
      show j < frOf f base (fun b => if b = w.heap.size then vs.size else g.fr b) w.heap.size
      unfold frOf restr
      split
      · dsimp only; rw [if_neg (by omega), if_pos rfl]; exact this
      · dsimp only; rw [if_pos rfl]; exact this
    · obtain ⟨v, h1, h2⟩ := hg j d hj
      have hv := hvs j d hj
      rw [h1] at hv
      rw [← Option.some.inj hv]
      exact h2.evo (hevo.frOf f base)
/-- A slice literal without elements. -/
theorem sem_buildSlice0 {P : Program} {T : TypeId → Option TI} (hT : TOk P T) {G : Nat → Option (List D)} {base k : Nat} {o : Oper} {ov : Operand → A} {t e s : Nat} {parts : Array (Nat × Operand)} {ti : TI} {nid : Nat}
    (ho : o.op = .buildSlice t 0 parts) (ht : T t = some ti) (hk : ti.k = .slice e s) (hp : parts.toList = []) :
    ASem P G base k o ov [] (.v false [.own true nid 0]) [(nid, .arr e true true 0 [])] nid 1 := by
  refine .value fun w g a _ _ hop _ hb => ?_
  obtain ⟨hu, hs, hpos, ie, hie, hies⟩ := (hT.get ht).slice hk
  have hp' : parts = #[] := by cases parts; simpa using hp
  refine ⟨_, nuG g w nid 0 0, _, .inl ?_, eff_arr (cur := #[]) (cap := 0) (hb nid (Nat.le_refl _) (by omega)) (by simp) (Nat.le_refl _) (by unfold maxLen; omega) (by simp) (by simp; trivial) (fun r x hx => .inl (List.mem_singleton.1 hx))⟩
  unfold execOp
  simp [ho, hp', Instr.buildSlice, run_underlying hu, sizeOf, typeInfo, hie, Instr.fill, newRow, Array.range_zero']

/-! ### Append -/
theorem hw_self {w : World} {b : Nat} {cur : Array Value} {t : TypeId} (h : w.heap[b]? = some (.cells cur t (0, 0))) : w.setRow b cur = w := setRow_self w b cur t (0, 0) h
structure Pushed (w w' : World) (o : Obj) : Prop where
  heap : w'.heap = w.heap.push o
  os : w'.os = w.os
  tape : w'.tape = w.tape
  output : w'.output = w.output
theorem eff_push {P : Program} {w w' : World} {g : Gh} {base nid : Nat} {e : TypeId} {f : Bool} {n cap : Nat} {ds : List D} {cur : Array Value} {ups : List (Nat × R)} {lv : Nat → Prop} (hw : Pushed w w' (.cells cur e (0, 0))) (hb : ¬ g.born nid) (hl : ds.length = n * P.cellsOf e) (hn : n ≤ cap) (hc : cap ≤ maxLen)
    (hcs : cur.size = cap * P.cellsOf e) (h : RelL w g base (ds.map (D.toC f)) (cur.toList.take (n * P.cellsOf e)))
    (hu : ∀ r x, (r, x) ∈ ups → (r, x) = (nid, R.arr e f true n ds) ∨ ((r < nid ∨ nid + 1 ≤ r) ∧ x = .gone)) :
    Eff P w g base (.v false [.own true nid n]) ups (fun r => nid ≤ r ∧ r < nid + 1) lv w' (nuG g w nid cap 0) (.slice (some ⟨w.heap.size, 0, none⟩) n cap) := by
  have he := eff_arr (P := P) (base := base) (ups := ups) (lv := lv) hb hl hn hc hcs h hu
  have hh : w'.heap = (w.alloc (.cells cur e (0, 0))).heap := hw.heap
  have hcell : ∀ a, w'.cell? a = (w.alloc (.cells cur e (0, 0))).cell? a := fun a => by unfold World.cell?; rw [hh]
  have hevo : Evo (w.alloc (.cells cur e (0, 0))) (nuG g w nid cap 0).fr w' (nuG g w nid cap 0).fr := ⟨by rw [hh]; exact Nat.le_refl _, fun _ _ => Nat.le_refl _, fun a v _ h => by rw [hcell]; exact h, fun _ _ _ => by rw [hh], fun _ _ _ => rfl⟩
  have hst : Step (w.alloc (.cells cur e (0, 0))) (nuG g w nid cap 0) w' (nuG g w nid cap 0) (fun _ => False) (fun _ => False) :=
    ⟨hw.os, hw.tape, hw.output, hevo, fun _ _ _ => by rw [hh], fun _ _ => rfl, fun _ h => ⟨h, rfl, rfl⟩, fun _ h => .inl h⟩
  refine ⟨⟨hw.os, hw.tape, hw.output, he.step.evo.trans hevo, fun b hb hk => by rw [hh]; exact he.step.keep b hb hk, he.step.frk, he.step.gk, he.step.bk⟩, he.val.step hst, fun r x hx => (he.ok r x hx).step hst (fun _ _ h => h.elim), he.new, he.inj⟩
theorem mem_two {r r0 nid : Nat} {x y z : R} (h : (r, x) ∈ [(r0, y), (nid, z)]) : (r, x) = (r0, y) ∨ (r, x) = (nid, z) := by
  simpa using h
/-- To an own slice. -/
theorem sem_append_own {P : Program} {T : TypeId → Option TI} (hT : TOk P T) {G : Nat → Option (List D)} {base k : Nat} {o : Oper} {ov : Operand → A} {t e e' s : Nat} {x y : Operand} {ti te : TI} {r n n' nid : Nat} {f f' nn' : Bool} {ds ds' : List D} {p : C} {m : Nat → R}
    (ho : o.op = .call { callee := .builtin .append, args := #[x, y], argTypes := #[t, t] }) (ht : T t = some ti) (hk : ti.k = .slice e s) (he : T e = some te) (hx : slot (ov x) = some (.own true r n)) (hm : m r = .arr e' f true n ds) (hee : e' = e) (hy : slot (ov y) = some p) (hp : sliceOf m p = some (f', nn', n', ds'))
    (hl : ds'.length = n' * s) (h1 : n + n' ≤ maxLen) (h2 : (n + n') * te.bytes ≤ 140737488355328) (hr : r < nid) :
    ASem P G base k o ov ((r, m r) :: ftSl m p) (.v false [.own true nid (n + n')]) [(r, .gone), (nid, .arr e (f && f') true (n + n') (ds ++ ds'))] nid 1 := by
  subst hee
  refine .value fun w g a _ _ hop hft hb => ?_
  have hv1 := slot_rel (hop x (by simp [ho, Op.operands, Call.operands])) hx
  have hv2 := slot_rel (hop y (by simp [ho, Op.operands, Call.operands])) hy
  obtain ⟨hu, hs, hpos, ie, hie, hies⟩ := (hT.get ht).slice hk
  obtain ⟨i, z, q1, q2, q3, q4, q5⟩ := (hT.get he).info
  obtain rfl : i = ie := by rw [hie] at q1; exact (Option.some.inj q1).symm
  have hres := (by have := hft r (m r) (by simp); rw [hm] at this; exact this : ResOk P w g base r (.arr e' f true n ds))
  obtain ⟨hbr, hlen0, hres⟩ := hres
  simp only [if_true] at hres
  obtain ⟨hfr, cur, hheap, hn, hc, hcs, hrel⟩ := hres
  obtain ⟨_, hv1⟩ := hv1
  simp only [if_true] at hv1
  have hzs : z.cells.size = i.size := by
    have h1 := (litsB_rel (w := w) (g := g) (base := base) q5).length
    have h2 := (hT.get he).zlen
    simp at h1
    omega
  have hne : r ≠ nid := by omega
  have hrun : (execOp a.eval o).run P w = ((Builtin.append_ #[t, t] o.type #[a.eval x, a.eval y]).run P w).andThen fun v w => .ok (.value v) w := by
    unfold execOp
    simp [ho, resolve, invoke, builtin]
  rw [hrun, hv1]
  have hml : maxLen = 9223372036854775807 := by unfold maxLen; rfl
  -- in place
  have place : ∀ (news : List Value) (vy : Value), a.eval y = vy → RelL w g base (ds'.map (D.toC f')) news → n + n' ≤ g.gc r → (Builtin.append_ #[t, t] o.type #[.slice (some ⟨g.gb r, 0, none⟩) n (g.gc r), vy]).run P w = .ok (.slice (some ⟨g.gb r, 0, none⟩) (n + n') (g.gc r)) (w.setRow (g.gb r) (cur.toList.take (n * i.size) ++ news ++ cur.toList.drop (n * i.size + news.length)).toArray) →
      ∃ w' g' V, ((((Builtin.append_ #[t, t] o.type #[.slice (some ⟨g.gb r, 0, none⟩) n (g.gc r), a.eval y]).run P w).andThen fun v w => .ok (Next.value v) w) = .ok (.value V) w' ∨ (((Builtin.append_ #[t, t] o.type #[.slice (some ⟨g.gb r, 0, none⟩) n (g.gc r), a.eval y]).run P w).andThen fun v w => .ok (Next.value v) w) = .ok .skip w' ∧ V = Go.undef) ∧
        Eff P w g base (.v false [.own true nid (n + n')]) [(r, .gone), (nid, .arr e' (f && f') true (n + n') (ds ++ ds'))] (fun r => nid ≤ r ∧ r < nid + 1) (fun q => ∃ x, (q, x) ∈ (r, m r) :: ftSl m p ∧ x.live = true) w' g' V := by
    intro news vy hvy hnews hroom hr
    rw [hvy, hr]
    have hnl : news.length = n' * i.size := by rw [← hnews.length, List.length_map, hl, hies]
    have hcurl : cur.toList.length = g.gc r * i.size := by rw [Array.length_toList, hcs, hs, hies]
    have hmul : n * i.size + n' * i.size ≤ g.gc r * i.size := by rw [← Nat.add_mul]; exact Nat.mul_le_mul_right _ hroom
    let g' : Gh := ⟨g.fr, upd g.gb nid (g.gb r), upd g.gc nid (g.gc r), fun q => g.born q ∨ q = nid⟩
    have hnb : ¬ g.born nid := hb nid (Nat.le_refl _) (by omega)
    have hst : ∀ (W : Nat → Prop), (∃ q, W q ∧ g.gb q = g.gb r) → Step w g (w.setRow (g.gb r) (cur.toList.take (n * i.size) ++ news ++ cur.toList.drop (n * i.size + news.length)).toArray) g' W (fun r => nid ≤ r ∧ r < nid + 1) := by
      intro W hW
      have h0 := step_row (nw := fun _ => False) (wr := W) (cur' := (cur.toList.take (n * i.size) ++ news ++ cur.toList.drop (n * i.size + news.length)).toArray) hheap hfr hW
      refine ⟨h0.os, h0.tape, h0.output, h0.evo, h0.keep, h0.frk, fun q hq => ⟨.inl hq, ?_, ?_⟩, fun q hq => ?_⟩
      · show upd g.gb nid (g.gb r) q = _
        unfold upd; rw [if_neg (fun (e : q = nid) => hnb (e ▸ hq))]
      · show upd g.gc nid (g.gc r) q = _
        unfold upd; rw [if_neg (fun (e : q = nid) => hnb (e ▸ hq))]
      · rcases hq with h | rfl
        · exact .inl h
        · exact .inr ⟨Nat.le_refl _, by omega⟩
    have hgb : g'.gb nid = g.gb r := by show upd g.gb nid (g.gb r) nid = _; simp [upd]
    have hgc : g'.gc nid = g.gc r := by show upd g.gc nid (g.gc r) nid = _; simp [upd]
    refine ⟨_, g', _, .inl rfl, hst _ ⟨r, ⟨⟨_, List.mem_cons_self ..⟩, by omega, m r, by simp, by rw [hm]; rfl⟩, rfl⟩, ⟨_, rfl, .inr rfl, by rw [hgb, hgc]; rfl⟩, fun q xx hq => ?_, fun q xx hq hn' hl' => .inr ⟨r, by simp, by omega, ⟨m r, by simp, by rw [hm]; rfl⟩, ?_⟩, fun q xx q' xx' hq hq' hn1 hn2 hne' => by omega⟩
    · rcases mem_two hq with h | h
      · cases h; trivial
      · cases h
        refine ⟨.inr rfl, by simp [hl, hlen0, hs, Nat.add_mul], ?_⟩
        simp only [if_true]
        refine ⟨by rw [hgb]; exact hfr, _, by rw [hgb]; exact setRow_heap w _ cur _ e' _ hheap, by rw [hgc]; exact hroom, by rw [hgc]; exact hc, ?_, ?_⟩
        · rw [hgc]
          simp only [List.size_toArray, List.length_append, List.length_take, List.length_drop, hcurl, hnl, hs, ← hies]
          omega
        · have htk : (cur.toList.take (n * i.size)).length = n * i.size := by rw [List.length_take, hcurl]; omega
          have e0 : ((cur.toList.take (n * i.size) ++ news ++ cur.toList.drop (n * i.size + news.length)).toArray.toList.take ((n + n') * P.cellsOf e')) = cur.toList.take (n * i.size) ++ news := by
            rw [List.toList_toArray]
            have e3 : (n + n') * P.cellsOf e' = (cur.toList.take (n * i.size) ++ news).length := by rw [List.length_append, htk, hnl, hs, hies, Nat.add_mul]
            rw [e3]
            exact List.take_left
          rw [e0, List.map_append]
          have r1 : RelL w g base (ds.map (D.toC (f && f'))) (cur.toList.take (n * i.size)) := by
            rw [hies, ← hs]; exact RelL.weaken (fun e => (Bool.and_eq_true _ _ ▸ e).1) hrel
          have r2 : RelL w g base (ds'.map (D.toC (f && f'))) news := RelL.weaken (fun e => (Bool.and_eq_true _ _ ▸ e).2) hnews
          exact (r1.append r2).step (hst (fun q => q = r) ⟨r, rfl, rfl⟩)
    · rcases mem_two hq with h | h
      · cases h; omega
      · cases h; exact hgb
  rcases slice_cells hv2 hp (fun q xx hq => hft q xx (List.mem_cons_of_mem _ hq)) with ⟨hnn, hn0, hV⟩ | ⟨hnn, ad, cap, news, hV, hncap, hnews, hcells⟩
  · -- a nil source
    subst hn0
    have hds' : ds' = [] := List.eq_nil_of_length_eq_zero (by simpa using hl)
    subst hds'
    refine place [] _ hV trivial (by simpa using hn) ?_
    rw [show (cur.toList.take (n * i.size) ++ ([] : List Value) ++ cur.toList.drop (n * i.size + ([] : List Value).length)).toArray = cur by simp, hw_self hheap]
    simp [Builtin.append_, run_underlying hu, sizeOf, typeInfo, hie, Builtin.lenOf, hn, Builtin.firstCells, storeCells]
  · have hnl : news.length = n' * i.size := by rw [← hnews.length, List.length_map, hl, hies]
    by_cases hroom : n + n' ≤ g.gc r
    · refine place news _ hV hnews hroom ?_
      exact run_append_room (P := P) w t o.type e' i hu hie (g.gb r) n (g.gc r) cur hheap ad n' cap news hnl hcells hnews.ones hroom (by rw [hcs, hs, hnl, hies, ← Nat.add_mul]; exact Nat.mul_le_mul_right _ hroom)
    · rw [hV]
      have hold : ∀ j v, (cur.toList.take (n * i.size))[j]? = some v → w.cell? ((⟨g.gb r, 0, none⟩ : Addr).add j) = some v := by
        intro j v hv
        rw [add_none]
        rw [List.getElem?_take] at hv
        split at hv
        · simp [World.cell?, hheap]
          simpa using hv
        · cases hv
      have hcurl : cur.toList.length = g.gc r * i.size := by rw [Array.length_toList, hcs, hs, hies]
      have hmul : n * i.size ≤ g.gc r * i.size := Nat.mul_le_mul_right _ hn
      have htk : (cur.toList.take (n * i.size)).length = n * i.size := by rw [List.length_take, hcurl]; omega
      have hrg := run_append_grow (P := P) w t o.type e' i z hu hie q4 ⟨g.gb r, 0, none⟩ n (g.gc r) _ htk hold ad n' cap news hnl hcells (by omega) (by omega) (growslice_fits (by omega) (by rw [q3]; exact h2))
      rw [hrg]
      have hge := grownCap_ge w (n + n') (g.gc r) e'
      have hle := grownCap_le_maxLen w (n + n') (g.gc r) e' h1
      refine ⟨_, nuG g w nid (grownCap w (n + n') (g.gc r) e') 0, _, .inl rfl, eff_push (ds := ds ++ ds') (f := f && f') (cap := grownCap w (n + n') (g.gc r) e') ⟨rfl, rfl, rfl, rfl⟩ (hb nid (Nat.le_refl _) (by omega)) (by simp [hl, hlen0, hs, Nat.add_mul]) hge hle ?_ ?_ (fun q xx hq => ?_)⟩
      · simp only [Array.size_append, List.size_toArray, size_zeroCells, hzs, htk, hnl, hs, ← hies, ← Nat.add_mul]
        congr 1
        omega
      · have e0 : ((cur.toList.take (n * i.size)).toArray ++ news.toArray ++ Builtin.zeroCells z.cells (grownCap w (n + n') (g.gc r) e' - (n + n'))).toList.take ((n + n') * P.cellsOf e') = cur.toList.take (n * i.size) ++ news := by
          simp only [Array.toList_append, List.toList_toArray]
          have e3 : (n + n') * P.cellsOf e' = (cur.toList.take (n * i.size) ++ news).length := by rw [List.length_append, htk, hnl, hs, hies, Nat.add_mul]
          rw [e3]
          exact List.take_left
        rw [e0, List.map_append]
        exact RelL.append (by rw [hies, ← hs]; exact RelL.weaken (fun e => (Bool.and_eq_true _ _ ▸ e).1) hrel) (RelL.weaken (fun e => (Bool.and_eq_true _ _ ▸ e).2) hnews)
      · rcases mem_two hq with h | h
        · cases h; exact .inr ⟨by omega, rfl⟩
        · exact .inl h

def upNil : C → List (Nat × R)
  | .own _ r _ => [(r, .gone)]
  | _ => []
/-- To no slice. -/
theorem sem_append_nil {P : Program} {T : TypeId → Option TI} (hT : TOk P T) {G : Nat → Option (List D)} {base k : Nat} {o : Oper} {ov : Operand → A} {t e s : Nat} {x y : Operand} {ti te : TI} {n' nid : Nat} {f' nn' : Bool} {ds' : List D} {p q : C} {m : Nat → R}
    (ho : o.op = .call { callee := .builtin .append, args := #[x, y], argTypes := #[t, t] }) (ht : T t = some ti) (hk : ti.k = .slice e s) (he : T e = some te) (hx : slot (ov x) = some q) (hq : (∃ fx ds, q = .sl fx false 0 ds) ∨ ∃ r, q = .own false r 0 ∧ r < nid) (hy : slot (ov y) = some p) (hp : sliceOf m p = some (f', nn', n', ds'))
    (hl : ds'.length = n' * s) (h1 : n' ≤ maxLen) (h2 : n' * te.bytes ≤ 140737488355328) :
    ASem P G base k o ov (ftSl m q ++ ftSl m p) (.v false [.own (decide (0 < n')) nid n']) (upNil q ++ [(nid, .arr e f' (decide (0 < n')) n' ds')]) nid 1 := by
  refine .value fun w g a _ _ hop hft hb => ?_
  have hv1 := slot_rel (hop x (by simp [ho, Op.operands, Call.operands])) hx
  have hv2 := slot_rel (hop y (by simp [ho, Op.operands, Call.operands])) hy
  obtain ⟨hu, hs, hpos, ie, hie, hies⟩ := (hT.get ht).slice hk
  obtain ⟨i, z, q1, q2, q3, q4, q5⟩ := (hT.get he).info
  obtain rfl : i = ie := by rw [hie] at q1; exact (Option.some.inj q1).symm
  have hzs : z.cells.size = i.size := by
    have h1 := (litsB_rel (w := w) (g := g) (base := base) q5).length
    have h2 := (hT.get he).zlen
    simp at h1
    omega
  have hnb : ¬ g.born nid := hb nid (Nat.le_refl _) (by omega)
  have hml : maxLen = 9223372036854775807 := by unfold maxLen; rfl
  have hx0 : a.eval x = .slice none 0 0 := by
    rcases hq with ⟨fx, ds, rfl⟩ | ⟨r, rfl, _⟩
    · have h : RelD w (frOf fx base g.fr) (.sl false 0 ds) (a.eval x) := hv1
      generalize a.eval x = V at h
      cases h; rfl
    · obtain ⟨_, h⟩ := hv1
      simpa using h
  have hups : ∀ r xx, (r, xx) ∈ upNil q ++ [(nid, R.arr e f' (decide (0 < n')) n' ds')] → (r, xx) = (nid, R.arr e f' (decide (0 < n')) n' ds') ∨ ((r < nid ∨ nid + 1 ≤ r) ∧ xx = .gone) := by
    intro r xx h
    rcases List.mem_append.1 h with h | h
    · rcases hq with ⟨fx, ds, rfl⟩ | ⟨r', rfl, hr'⟩
      · cases h
      · simp [upNil] at h; obtain ⟨rfl, rfl⟩ := h; exact .inr ⟨.inl hr', rfl⟩
    · exact .inl (List.mem_singleton.1 h)
  have hrun : (execOp a.eval o).run P w = ((Builtin.append_ #[t, t] o.type #[.slice none 0 0, a.eval y]).run P w).andThen fun v w => .ok (.value v) w := by
    unfold execOp
    simp [ho, resolve, invoke, builtin, hx0]
  rw [hrun]
  rcases Nat.eq_zero_or_pos n' with h0 | h0
  · subst h0
    have hds' : ds' = [] := List.eq_nil_of_length_eq_zero (by simpa using hl)
    subst hds'
    have hr : (Builtin.append_ #[t, t] o.type #[.slice none 0 0, a.eval y]).run P w = .ok (.slice none 0 0) w := by
      rcases slice_cells hv2 hp (fun q xx hq => hft q xx (List.mem_append_right _ hq)) with ⟨_, _, hV⟩ | ⟨_, ad, cap, news, hV, _⟩
      · rw [hV]; simp [Builtin.append_, run_underlying hu, sizeOf, typeInfo, hie, Builtin.lenOf, Builtin.firstCells]
      · rw [hV]; simp [Builtin.append_, run_underlying hu, sizeOf, typeInfo, hie, Builtin.lenOf, Builtin.firstCells, loadCells, loadCellsFrom]
    rw [hr]
    refine ⟨w, ⟨g.fr, g.gb, g.gc, fun q => g.born q ∨ q = nid⟩, _, .inl rfl, ⟨rfl, rfl, rfl, Evo.refl _ _, fun _ _ _ => rfl, fun _ _ => rfl, fun q hq => ⟨.inl hq, rfl, rfl⟩, fun q hq => ?_⟩, ⟨_, rfl, .inr rfl, by simp⟩, fun r xx hr' => ?_, fun r xx hr' hn hl' => ?_, fun r xx r' xx' hr' hr'' hn hn' hne => by omega⟩
    · rcases hq with h | rfl
      · exact .inl h
      · exact .inr ⟨Nat.le_refl _, by omega⟩
    · rcases hups r xx hr' with h | ⟨_, rfl⟩
      · cases h; exact ⟨.inr rfl, by simp, by simp⟩
      · trivial
    · rcases hups r xx hr' with h | ⟨_, rfl⟩
      · cases h; cases hl'
      · cases hl'
  · have hd : decide (0 < n') = true := by simpa using h0
    rw [hd] at hups ⊢
    rcases slice_cells hv2 hp (fun q xx hq => hft q xx (List.mem_append_right _ hq)) with ⟨_, hn0, _⟩ | ⟨_, ad, cap, news, hV, hncap, hnews, hcells⟩
    · omega
    · have hnl : news.length = n' * i.size := by rw [← hnews.length, List.length_map, hl, hies]
      rw [hV, run_append_nil (P := P) w t o.type e i z hu hie q4 ad n' cap news hnl hcells h0 (by omega) (by rw [q3]; omega)]
      have hge := grownCap_ge w n' 0 e
      have hle := grownCap_le_maxLen w n' 0 e h1
      refine ⟨_, nuG g w nid (grownCap w n' 0 e) 0, _, .inl rfl, eff_push (ds := ds') (f := f') (cap := grownCap w n' 0 e) ⟨rfl, rfl, rfl, rfl⟩ hnb (by rw [hl, hs]) hge hle ?_ ?_ hups⟩
      · simp only [Array.size_append, List.size_toArray, size_zeroCells, hzs, hnl, hs, ← hies, ← Nat.add_mul]
        congr 1
        omega
      · have e0 : (news.toArray ++ Builtin.zeroCells z.cells (grownCap w n' 0 e - n')).toList.take (n' * P.cellsOf e) = news := by
          simp only [Array.toList_append]
          rw [hs, ← hies, ← hnl]
          exact List.take_left
        rw [e0]; exact hnews
end Go.Proofs.Ytpobimdcphjljaa
