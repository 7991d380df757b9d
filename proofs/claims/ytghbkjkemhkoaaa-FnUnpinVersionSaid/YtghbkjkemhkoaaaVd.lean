/-
  slices.Delete of one number out of a row of one's own, and slices.Index: contracts over plain data.
-/
import Derived.Test.YtghbkjkemhkoaaaVf
import Derived.Shelf.Slices.Delete
namespace Go.Proofs.Ytghbkjkemhkoaaa
open Go
set_option linter.unusedVariables false
set_option linter.unusedSimpArgs false
set_option linter.unnecessarySimpa false

def renDel : Go.Shelf.Ren := ⟨fun n => match n with | 23 => 52 | n => n, fun n => match n with | 0 => 0 | 3 => 3 | 4 => 4 | 22 => 24 | n => n, fun n => n⟩
theorem laysDel : Lays2.n23 Try.prog renDel := by
  constructor
  all_goals first | kernel_rfl | (intro w; kernel_rfl)
theorem ints_rel {w : World} {g : Gh} {base : Nat} {f : Bool} : ∀ {xs : List Int} {vs : List Value}, RelL w g base ((xs.flatMap intD).map (D.toC f)) vs ↔ vs = xs.map (Value.int .i64)
  | [], [] => by simp [RelL]
  | [], _ :: _ => by simp [RelL]
  | x :: xs, [] => by simp [intD, RelL]
  | x :: xs, v :: vs => by
    have := ints_rel (w := w) (g := g) (base := base) (f := f) (xs := xs) (vs := vs)
    show (RelC w g base (.i .i64 x) v ∧ RelL w g base ((xs.flatMap intD).map (D.toC f)) vs) ↔ _
    rw [this, List.map_cons, List.cons.injEq]
    rfl
theorem map_heap {w : World} {b : Nat} {f : Array Value → Array Value} {c : Array Value} {e : TypeId} {fr : Nat × Nat} (h : w.heap[b]? = some (.cells c e fr)) : (Sort.mapBlock w b f).heap[b]? = some (.cells (f c) e fr) := by
  unfold Sort.mapBlock
  simp [Array.getElem?_modify, h, Sort.onCells]
theorem map_other {w : World} {b k : Nat} {f : Array Value → Array Value} (h : k ≠ b) : (Sort.mapBlock w b f).heap[k]? = w.heap[k]? := by
  unfold Sort.mapBlock
  simp [Array.getElem?_modify, Ne.symm h]
theorem cell_block {w w' : World} {a : Addr} (h : w'.heap[a.block]? = w.heap[a.block]?) : w'.cell? a = w.cell? a := by
  unfold World.cell?
  rw [h]
theorem Delete_ok (xs : List Int) (k : Nat) (hk : k < xs.length) (hl : xs.length ≤ 1048576) : FnOk Try.prog noG 52 [.v false [.own true 0 xs.length], .v false [.i .i64 (k : Int)], .v false [.i .i64 ((k : Int) + 1)]] [intR true xs] (.v false [.own true 0 (xs.length - 1)]) [.arr 3 true true (xs.length - 1) ((xs.take k ++ xs.drop (k + 1)).flatMap intD)] := by
  refine ⟨⟨_, Try.func52, by kernel_rfl, by kernel_rfl⟩, fun w g vs hG hargs hmem hborn => ?_⟩
  have hc1 : Try.prog.cellsOf 3 = 1 := by kernel_rfl
  match vs, hargs with
  | [v0, v1, v2], hargs =>
  obtain ⟨⟨c0, e0, r0⟩, ⟨c1, e1, r1⟩, ⟨c2, e2, r2⟩, _⟩ := (show (∃ c, [C.own true 0 xs.length] = [c] ∧ RelC w g w.heap.size c v0) ∧ (∃ c, [C.i .i64 (k : Int)] = [c] ∧ RelC w g w.heap.size c v1) ∧ (∃ c, [C.i .i64 ((k : Int) + 1)] = [c] ∧ RelC w g w.heap.size c v2) ∧ True from hargs)
  cases e0; cases e1; cases e2
  obtain ⟨hb0, r0⟩ := r0
  simp only [if_true] at r0
  unfold RelC at r1 r2
  subst r0 r1 r2
  have hres : ResOk Try.prog w g w.heap.size 0 (intR true xs) := hmem.ok 0
  obtain ⟨_, hlen, hif⟩ := hres
  simp only [if_true] at hif
  obtain ⟨hfr0, cur, hheap, hn, hcap, hsz, hrel⟩ := hif
  rw [hc1, Nat.mul_one] at hrel hsz
  have hcur := ints_rel.1 hrel
  have hH : Sort.Holds (Value.int .i64) w (g.gb 0) 0 xs.toArray := fun j hj => by
    have hj' : j < xs.length := by simpa using hj
    have e1 := congrArg (fun l => l[j]?) hcur
    simp only [List.getElem?_take, if_pos hj', List.getElem?_map, List.getElem?_eq_getElem hj', Option.map_some, Array.getElem?_toList] at e1
    have ge : xs.toArray[j]! = xs[j] := by rw [getElem!_pos _ j hj]; simp
    refine ⟨?_, ?_⟩
    · rw [Nat.zero_add, ge]
      simp [World.cell?, hheap, e1]
    · simp [World.frozen?, hheap]
  have hm : maxLen ≤ 9223372036854775807 := by decide
  have hcall := Any.slices_Delete_int laysDel (g.gb 0) 0 (g.gc 0) k (k + 1) xs w hH hn (by omega) (by omega) (by omega)
  refine hcall.mono ?_
  rintro e w' ⟨rfl, q, rfl⟩
  have e1 : k + 1 - k = 1 := by omega
  rw [e1]
  obtain ⟨ys, hys⟩ : ∃ ys, ys = xs.take k ++ xs.drop (k + 1) := ⟨_, rfl⟩
  have hyl : ys.length = xs.length - 1 := by rw [hys]; simp; omega
  rw [← hys]
  obtain ⟨w', hw'⟩ : ∃ w', w' = Sort.putRow (Value.int .i64) (Sort.ahead w q) (g.gb 0) 0 (ys ++ List.replicate 1 0).toArray := ⟨_, rfl⟩
  rw [← hw']
  have hh : w'.heap[g.gb 0]? = some (.cells (Sort.putCells (Value.int .i64) 0 (ys ++ List.replicate 1 0).toArray cur) 3 (0, 0)) := by
    rw [hw']; exact map_heap (w := Sort.ahead w q) hheap
  have ho : ∀ b, b ≠ g.gb 0 → w'.heap[b]? = w.heap[b]? := fun b hb => by rw [hw']; exact map_other (w := Sort.ahead w q) hb
  have hsize : w'.heap.size = w.heap.size := by rw [hw']; exact Sort.size_putRow _ _ _ _ _
  have hos : w'.os = w.os := by rw [hw']; rfl
  have hta : w'.tape = w.tape := by rw [hw']; rfl
  have hou : w'.output = w.output := by rw [hw']; rfl
  clear hw'
  refine ⟨_, g, rfl, ⟨⟨_, rfl, hb0, rfl⟩, ⟨fun r => ?_, fun r r' hne a b => ?_, fun r hr a => ?_⟩, ⟨hos, hta, hou, ⟨by omega, fun _ _ => Nat.le_refl _, fun a v h1 h2 => ?_⟩, fun b hb hne => ho b (hne 0 Nat.zero_lt_one rfl), fun _ _ => rfl, fun r hr => ⟨hr, rfl, rfl⟩⟩, fun r hr hb => ?_, fun r hr _ => ?_⟩⟩
  · cases r with
    | succ r => exact True.intro
    | zero =>
      refine ⟨hb0, ?_, ?_⟩
      · have := flat_len intD 1 intD_len ys
        rw [← hyl]; rw [this, hc1]
      · simp only [if_true]
        refine ⟨hfr0, _, hh, by omega, hcap, by rw [hc1, Nat.mul_one]; simp [Sort.putCells, hsz], ?_⟩
        rw [hc1, Nat.mul_one]
        refine ints_rel.2 ?_
        apply List.ext_getElem?
        intro j
        rw [List.getElem?_take]
        split
        · rename_i hj
          have hj2 : j < cur.size := by omega
          simp only [Sort.putCells, Array.getElem?_toList, Array.getElem?_mapIdx, Array.getElem?_eq_getElem hj2, Option.map_some, List.getElem?_map]
          rw [if_pos ⟨by omega, by simp; omega⟩, Nat.sub_zero, getElem!_pos _ j (by simp; omega)]
          simp only [List.getElem_toArray]
          rw [List.getElem_append_left (by omega), List.getElem?_eq_getElem (by omega)]
          rfl
        · rename_i hj
          rw [List.getElem?_eq_none (by simp; omega)]
  · have z : ∀ r, (lsR [R.arr 3 true true (xs.length - 1) (ys.flatMap intD)] r).live = true → r = 0 := fun r h => by
      cases r with
      | zero => rfl
      | succ r => cases h
    exact absurd ((z r a).trans (z r' b).symm) hne
  · cases r with
    | zero => exact absurd hr (by simp)
    | succ r => cases a
  · have hb : a.block ≠ g.gb 0 := fun e => by rw [e, hfr0] at h1; exact absurd h1 (Nat.not_lt_zero _)
    rw [cell_block (ho _ hb)]; exact h2
  · have := (hborn r).1 hb
    simp at this hr
    omega
  · have : r = 0 := by simpa using hr
    subst this; rfl
end Go.Proofs.Ytghbkjkemhkoaaa
