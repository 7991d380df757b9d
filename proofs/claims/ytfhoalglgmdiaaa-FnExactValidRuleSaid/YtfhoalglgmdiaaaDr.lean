/-
  The drawn arguments: each drawing function returns.
-/
import Derived.Test.YtfhoalglgmdiaaaRd
namespace Go.Proofs.Ytfhoalglgmdiaaa
open Go.RowKit

/-- A slice of bytes that can be read. -/
def Code (w : World) (ao : Option Addr) (len : Nat) : Prop := ∃ code : Nat → Nat, ∀ i, i < len → ∃ a, ao = some a ∧ a.block < w.heap.size ∧ w.cell? (a.add i) = some (.int .u8 (code i)) ∧ code i ≤ 255

theorem code_nil (w : World) : Code w none 0 := ⟨fun _ => 0, fun i hi => absurd hi (Nat.not_lt_zero i)⟩
theorem code_of_row {w : World} {x : Addr} {l c : Nat} {zs : List Int} (hl : l ≤ c) (hz : zs.length = c) (hcell : ∀ i, i < zs.length → w.cell? (x.add i) = some (.int .u8 (zs.getD i 0)))
    (hwf : ∀ n ∈ zs, (Lit.int .u8 n).wf = true) : Code w (some x) l := by
  refine ⟨fun i => (zs.getD i 0).toNat, fun i hi => ?_⟩
  have hi' : i < zs.length := by omega
  have hc := hcell i hi'
  have hb := hwf (zs[i]) (List.getElem_mem hi')
  have hb' : 0 ≤ zs[i] ∧ zs[i] ≤ 255 := by simpa [Lit.wf, IntKind.min, IntKind.max, IntKind.signed, IntKind.bits] using hb
  have hg : zs.getD i 0 = zs[i] := by simp [List.getD, hi']
  refine ⟨x, rfl, ?_, ?_, ?_⟩
  · have := World.block_lt_of_cell? w _ hc
    rwa [add_block] at this
  · show w.cell? (x.add i) = some (.int .u8 ((zs.getD i 0).toNat : Int))
    rw [hc, hg, Int.toNat_of_nonneg hb'.1]
  · show (zs.getD i 0).toNat ≤ 255
    rw [hg]
    omega
theorem bounds_i64 {x : Int} (h : (Lit.int .i64 x).wf = true) : -9223372036854775808 ≤ x ∧ x ≤ 9223372036854775807 := by simpa [Lit.wf, IntKind.min, IntKind.max, IntKind.signed, IntKind.bits] using h
theorem code_grown {w w' : World} {ao : Option Addr} {len : Nat} (h : Code w ao len) (hg : w.grownBy w' none) : Code w' ao len := by
  obtain ⟨code, h⟩ := h
  refine ⟨code, fun i hi => ?_⟩
  obtain ⟨a, h1, h2, h3, h4⟩ := h i hi
  exact ⟨a, h1, Nat.lt_of_lt_of_le h2 hg.size, hg.cell h3 (by simp), h4⟩
theorem code_alloc {w : World} {ao : Option Addr} {len : Nat} (h : Code w ao len) (o : Obj) : Code (w.alloc o) ao len := code_grown h (World.grownBy_alloc w o none)

theorem rdr_new {w : World} {ao : Option Addr} {len cap : Nat} (h : Code w ao len) (hl : len ≤ 2000) : Rdr (w.alloc (.cells #[.slice ao len cap, .int .i64 0] 39)) w.heap.size 0 := by
  obtain ⟨code, h⟩ := h
  refine ⟨0, ao, len, cap, code, Nat.le_refl _, heap_new _ _ _ rfl, hl, fun i hi => ?_⟩
  obtain ⟨a, h1, h2, h3, h4⟩ := h i hi
  exact ⟨a, h1, h2, (World.grownBy_alloc w _ none).cell h3 (by simp), h4⟩

set_option maxHeartbeats 400000 in
theorem newReader_any (ao : Option Addr) (len cap : Nat) (w : World) (hl : len ≤ cap) (hm : cap ≤ maxLen) (h : Code w ao len) :
    Calls Try.prog 11 #[.slice ao len cap] w fun e w' => e = .returned (.pointer (some ⟨w.heap.size, 0, none⟩)) ∧ Rdr w' w.heap.size 0 ∧ Below w.heap.size w w' := by
  unfold maxLen at hm
  have HH := Lib.hid h
  clear h
  by_cases hlen : len ≤ 2000
  · go_enter Try.func11, Try.ntmps11
    go_wp2
    go_ret
    exact ⟨rfl, rdr_new HH.out hlen, (Below.refl _ _).alloc (Nat.le_refl _) _⟩
  · have hz : 2000 ≤ cap := by omega
    go_enter Try.func11, Try.ntmps11
    go_wp2
    go_ret
    exact ⟨rfl, rdr_new (HH.out.imp fun c hc i hi => hc i (by omega)) (Nat.le_refl _), (Below.refl _ _).alloc (Nat.le_refl _) _⟩

set_option maxHeartbeats 400000 in
theorem anyRule_any (rb B : Nat) (w : World) (hB : B ≤ 900000) (hr : Rdr w rb B) :
    Calls Try.prog 10 #[.pointer (some ⟨rb, 0, none⟩)] w fun e w' => ∃ a h c : Int, e = .returned (.agg #[.int .i64 a, .int .i64 h, .int .i64 c]) ∧ Rdr w' rb (B + 5) ∧ w.grownBy w' (some rb) := by
  have hrl := hr.lt
  have G0 := Lib.hid (World.grownBy.refl w (some rb))
  have hr0 := hr
  clear hr
  have H2 := Lib.hid (heap_new w (.cells #[.int .i64 0, .int .i64 0, .int .i64 0] 25) _ rfl)
  go_enter Try.func10, Try.ntmps10
  go_wp2_with fail
  with_reducible refine (one_any rb _ [.int .i64 (0), .int .i64 (5), .int .i64 (10), .int .i64 (-1), .int .i64 (50), .int .i64 (1000)] 3 (0, 0) 6 6 (B) _ (by omega) (by repeat (first | exact hr0 | refine Rdr.alloc ?_ _ | refine Rdr.set ?_ (by omega) _)) (by exact heap_new _ _ _ (by simp)) rfl (by omega) (by omega) (by omega) rfl).mono ?_
  rintro e w1 ⟨z1, rfl, hz1, hr1, hg1⟩
  have G1 := Lib.hid (grown_step (w := w) (by repeat (first | exact G0.out | refine grown_alloc ?_ _ | refine grown_set ?_ (by omega) _)) hg1)
  have l1 : w.heap.size ≤ w1.heap.size := G1.out.size
  first | (with_reducible have H2 := Lib.hid (after hg1 (b := w.heap.size) (by omega) H2.out)) | (with_reducible have H2 := Lib.hid (after hg1 (b := w.heap.size) (by omega) (heap_old _ H2.out))) | (with_reducible have H2 := Lib.hid (after hg1 (b := w.heap.size) (by omega) (heap_old _ (heap_old _ H2.out)))) | (with_reducible have H2 := Lib.hid (after hg1 (b := w.heap.size) (by omega) (heap_old _ (heap_old _ (heap_old _ H2.out))))) | (with_reducible have H2 := Lib.hid (after hg1 (b := w.heap.size) (by omega) (heap_old _ (heap_old _ (heap_old _ (heap_old _ H2.out)))))) | (with_reducible have H2 := Lib.hid (after hg1 (b := w.heap.size) (by omega) (heap_old _ (heap_old _ (heap_old _ (heap_old _ (heap_old _ H2.out)))))))
  have l1H2 : w.heap.size < w1.heap.size := (Array.getElem?_eq_some_iff.1 H2.out).1
  clear hg1
  go_wp2_with fail
  with_reducible refine (one_any rb _ [.int .i64 (0), .int .i64 (10), .int .i64 (5), .int .i64 (20), .int .i64 (100)] 3 (0, 0) 5 5 (B + 1) _ (by omega) (by repeat (first | exact hr1 | refine Rdr.alloc ?_ _ | refine Rdr.set ?_ (by omega) _)) (by exact heap_new _ _ _ (by simp)) rfl (by omega) (by omega) (by omega) rfl).mono ?_
  rintro e w2 ⟨z2, rfl, hz2, hr2, hg2⟩
  have G2 := Lib.hid (grown_step (w := w) (by repeat (first | exact G1.out | refine grown_alloc ?_ _ | refine grown_set ?_ (by omega) _)) hg2)
  have l2 : w.heap.size ≤ w2.heap.size := G2.out.size
  first | (with_reducible have H2 := Lib.hid (after hg2 (b := w.heap.size) (by omega) H2.out)) | (with_reducible have H2 := Lib.hid (after hg2 (b := w.heap.size) (by omega) (heap_old _ H2.out))) | (with_reducible have H2 := Lib.hid (after hg2 (b := w.heap.size) (by omega) (heap_old _ (heap_old _ H2.out)))) | (with_reducible have H2 := Lib.hid (after hg2 (b := w.heap.size) (by omega) (heap_old _ (heap_old _ (heap_old _ H2.out))))) | (with_reducible have H2 := Lib.hid (after hg2 (b := w.heap.size) (by omega) (heap_old _ (heap_old _ (heap_old _ (heap_old _ H2.out)))))) | (with_reducible have H2 := Lib.hid (after hg2 (b := w.heap.size) (by omega) (heap_old _ (heap_old _ (heap_old _ (heap_old _ (heap_old _ H2.out)))))))
  have l2H2 : w.heap.size < w2.heap.size := (Array.getElem?_eq_some_iff.1 H2.out).1
  clear hg2
  go_wp2_with fail
  with_reducible refine (one_any rb _ [.int .i64 (0), .int .i64 (10), .int .i64 (5), .int .i64 (20)] 3 (0, 0) 4 4 (B + 2) _ (by omega) (by repeat (first | exact hr2 | refine Rdr.alloc ?_ _ | refine Rdr.set ?_ (by omega) _)) (by exact heap_new _ _ _ (by simp)) rfl (by omega) (by omega) (by omega) rfl).mono ?_
  rintro e w3 ⟨z3, rfl, hz3, hr3, hg3⟩
  have G3 := Lib.hid (grown_step (w := w) (by repeat (first | exact G2.out | refine grown_alloc ?_ _ | refine grown_set ?_ (by omega) _)) hg3)
  have l3 : w.heap.size ≤ w3.heap.size := G3.out.size
  first | (with_reducible have H2 := Lib.hid (after hg3 (b := w.heap.size) (by omega) H2.out)) | (with_reducible have H2 := Lib.hid (after hg3 (b := w.heap.size) (by omega) (heap_old _ H2.out))) | (with_reducible have H2 := Lib.hid (after hg3 (b := w.heap.size) (by omega) (heap_old _ (heap_old _ H2.out)))) | (with_reducible have H2 := Lib.hid (after hg3 (b := w.heap.size) (by omega) (heap_old _ (heap_old _ (heap_old _ H2.out))))) | (with_reducible have H2 := Lib.hid (after hg3 (b := w.heap.size) (by omega) (heap_old _ (heap_old _ (heap_old _ (heap_old _ H2.out)))))) | (with_reducible have H2 := Lib.hid (after hg3 (b := w.heap.size) (by omega) (heap_old _ (heap_old _ (heap_old _ (heap_old _ (heap_old _ H2.out)))))))
  have l3H2 : w.heap.size < w3.heap.size := (Array.getElem?_eq_some_iff.1 H2.out).1
  clear hg3
  go_wp2_with fail
  have H3 := Lib.hid (heap_new w3 (.cells #[.int .i64 z1, .int .i64 z2, .int .i64 z3] 25) _ rfl)
  with_reducible refine (pick_any rb _ (B + 3) _ (by omega) (by repeat (first | exact hr3 | refine Rdr.alloc ?_ _ | refine Rdr.set ?_ (by omega) _))).mono ?_
  rintro e w4 ⟨r4, rfl, r4a, r4b, hr4, hg4⟩
  have G4 := Lib.hid (grown_step (w := w) (by repeat (first | exact G3.out | refine grown_alloc ?_ _ | refine grown_set ?_ (by omega) _)) hg4)
  have l4 : w.heap.size ≤ w4.heap.size := G4.out.size
  first | (with_reducible have H2 := Lib.hid (after hg4 (b := w.heap.size) (by omega) H2.out)) | (with_reducible have H2 := Lib.hid (after hg4 (b := w.heap.size) (by omega) (heap_old _ H2.out))) | (with_reducible have H2 := Lib.hid (after hg4 (b := w.heap.size) (by omega) (heap_old _ (heap_old _ H2.out)))) | (with_reducible have H2 := Lib.hid (after hg4 (b := w.heap.size) (by omega) (heap_old _ (heap_old _ (heap_old _ H2.out))))) | (with_reducible have H2 := Lib.hid (after hg4 (b := w.heap.size) (by omega) (heap_old _ (heap_old _ (heap_old _ (heap_old _ H2.out)))))) | (with_reducible have H2 := Lib.hid (after hg4 (b := w.heap.size) (by omega) (heap_old _ (heap_old _ (heap_old _ (heap_old _ (heap_old _ H2.out)))))))
  have l4H2 : w.heap.size < w4.heap.size := (Array.getElem?_eq_some_iff.1 H2.out).1
  first | (with_reducible have H3 := Lib.hid (after hg4 (b := w3.heap.size) (by omega) H3.out)) | (with_reducible have H3 := Lib.hid (after hg4 (b := w3.heap.size) (by omega) (heap_old _ H3.out))) | (with_reducible have H3 := Lib.hid (after hg4 (b := w3.heap.size) (by omega) (heap_old _ (heap_old _ H3.out)))) | (with_reducible have H3 := Lib.hid (after hg4 (b := w3.heap.size) (by omega) (heap_old _ (heap_old _ (heap_old _ H3.out))))) | (with_reducible have H3 := Lib.hid (after hg4 (b := w3.heap.size) (by omega) (heap_old _ (heap_old _ (heap_old _ (heap_old _ H3.out)))))) | (with_reducible have H3 := Lib.hid (after hg4 (b := w3.heap.size) (by omega) (heap_old _ (heap_old _ (heap_old _ (heap_old _ (heap_old _ H3.out)))))))
  have l4H3 : w3.heap.size < w4.heap.size := (Array.getElem?_eq_some_iff.1 H3.out).1
  clear hg4
  by_cases h0 : r4 = 0
  · have h0' : (r4 == 0) = true := beq_iff_eq.2 h0
    clear h0
    go_wp2_with fail
    with_reducible refine (one_any rb _ [.int .i64 (1001), .int .i64 (-1001)] 3 (0, 0) 2 2 (B + 4) _ (by omega) (by repeat (first | exact hr4 | refine Rdr.alloc ?_ _ | refine Rdr.set ?_ (by omega) _)) (by exact heap_new _ _ _ (by simp)) rfl (by omega) (by omega) (by omega) rfl).mono ?_
    rintro e w5 ⟨z5, rfl, hz5, hr5, hg5⟩
    have G5 := Lib.hid (grown_step (w := w) (by repeat (first | exact G4.out | refine grown_alloc ?_ _ | refine grown_set ?_ (by omega) _)) hg5)
    have l5 : w.heap.size ≤ w5.heap.size := G5.out.size
    first | (with_reducible have H2 := Lib.hid (after hg5 (b := w.heap.size) (by omega) H2.out)) | (with_reducible have H2 := Lib.hid (after hg5 (b := w.heap.size) (by omega) (heap_old _ H2.out))) | (with_reducible have H2 := Lib.hid (after hg5 (b := w.heap.size) (by omega) (heap_old _ (heap_old _ H2.out)))) | (with_reducible have H2 := Lib.hid (after hg5 (b := w.heap.size) (by omega) (heap_old _ (heap_old _ (heap_old _ H2.out))))) | (with_reducible have H2 := Lib.hid (after hg5 (b := w.heap.size) (by omega) (heap_old _ (heap_old _ (heap_old _ (heap_old _ H2.out)))))) | (with_reducible have H2 := Lib.hid (after hg5 (b := w.heap.size) (by omega) (heap_old _ (heap_old _ (heap_old _ (heap_old _ (heap_old _ H2.out)))))))
    have l5H2 : w.heap.size < w5.heap.size := (Array.getElem?_eq_some_iff.1 H2.out).1
    first | (with_reducible have H3 := Lib.hid (after hg5 (b := w3.heap.size) (by omega) H3.out)) | (with_reducible have H3 := Lib.hid (after hg5 (b := w3.heap.size) (by omega) (heap_old _ H3.out))) | (with_reducible have H3 := Lib.hid (after hg5 (b := w3.heap.size) (by omega) (heap_old _ (heap_old _ H3.out)))) | (with_reducible have H3 := Lib.hid (after hg5 (b := w3.heap.size) (by omega) (heap_old _ (heap_old _ (heap_old _ H3.out))))) | (with_reducible have H3 := Lib.hid (after hg5 (b := w3.heap.size) (by omega) (heap_old _ (heap_old _ (heap_old _ (heap_old _ H3.out)))))) | (with_reducible have H3 := Lib.hid (after hg5 (b := w3.heap.size) (by omega) (heap_old _ (heap_old _ (heap_old _ (heap_old _ (heap_old _ H3.out)))))))
    have l5H3 : w3.heap.size < w5.heap.size := (Array.getElem?_eq_some_iff.1 H3.out).1
    clear hg5
    obtain ⟨c3, f3⟩ := blk H3.out
    obtain ⟨c2, f2⟩ := blk H2.out
    go_wp2_with fail
    refine bodyPost_ret (v := .agg #[.int .i64 z5, .int .i64 z2, .int .i64 z3]) (by simp [results, Try.results10, go_sem, c2, c3, f2, f3]) rfl ?_
    exact ⟨_, _, _, rfl, (by repeat (first | exact hr5 | refine Rdr.alloc ?_ _ | refine Rdr.set ?_ (by omega) _)), (by repeat (first | exact G5.out | refine grown_alloc ?_ _ | refine grown_set ?_ (by omega) _))⟩
  · have h0' : (r4 == 0) = false := beq_eq_false_iff_ne.2 h0
    clear h0
    by_cases h1 : r4 = 1
    · have h1' : (r4 == 1) = true := beq_iff_eq.2 h1
      clear h1
      go_wp2_with fail
      with_reducible refine (one_any rb _ [.int .i64 (-1), .int .i64 (101)] 3 (0, 0) 2 2 (B + 4) _ (by omega) (by repeat (first | exact hr4 | refine Rdr.alloc ?_ _ | refine Rdr.set ?_ (by omega) _)) (by exact heap_new _ _ _ (by simp)) rfl (by omega) (by omega) (by omega) rfl).mono ?_
      rintro e w5 ⟨z5, rfl, hz5, hr5, hg5⟩
      have G5 := Lib.hid (grown_step (w := w) (by repeat (first | exact G4.out | refine grown_alloc ?_ _ | refine grown_set ?_ (by omega) _)) hg5)
      have l5 : w.heap.size ≤ w5.heap.size := G5.out.size
      first | (with_reducible have H2 := Lib.hid (after hg5 (b := w.heap.size) (by omega) H2.out)) | (with_reducible have H2 := Lib.hid (after hg5 (b := w.heap.size) (by omega) (heap_old _ H2.out))) | (with_reducible have H2 := Lib.hid (after hg5 (b := w.heap.size) (by omega) (heap_old _ (heap_old _ H2.out)))) | (with_reducible have H2 := Lib.hid (after hg5 (b := w.heap.size) (by omega) (heap_old _ (heap_old _ (heap_old _ H2.out))))) | (with_reducible have H2 := Lib.hid (after hg5 (b := w.heap.size) (by omega) (heap_old _ (heap_old _ (heap_old _ (heap_old _ H2.out)))))) | (with_reducible have H2 := Lib.hid (after hg5 (b := w.heap.size) (by omega) (heap_old _ (heap_old _ (heap_old _ (heap_old _ (heap_old _ H2.out)))))))
      have l5H2 : w.heap.size < w5.heap.size := (Array.getElem?_eq_some_iff.1 H2.out).1
      first | (with_reducible have H3 := Lib.hid (after hg5 (b := w3.heap.size) (by omega) H3.out)) | (with_reducible have H3 := Lib.hid (after hg5 (b := w3.heap.size) (by omega) (heap_old _ H3.out))) | (with_reducible have H3 := Lib.hid (after hg5 (b := w3.heap.size) (by omega) (heap_old _ (heap_old _ H3.out)))) | (with_reducible have H3 := Lib.hid (after hg5 (b := w3.heap.size) (by omega) (heap_old _ (heap_old _ (heap_old _ H3.out))))) | (with_reducible have H3 := Lib.hid (after hg5 (b := w3.heap.size) (by omega) (heap_old _ (heap_old _ (heap_old _ (heap_old _ H3.out)))))) | (with_reducible have H3 := Lib.hid (after hg5 (b := w3.heap.size) (by omega) (heap_old _ (heap_old _ (heap_old _ (heap_old _ (heap_old _ H3.out)))))))
      have l5H3 : w3.heap.size < w5.heap.size := (Array.getElem?_eq_some_iff.1 H3.out).1
      clear hg5
      obtain ⟨c3, f3⟩ := blk H3.out
      obtain ⟨c2, f2⟩ := blk H2.out
      go_wp2_with fail
      refine bodyPost_ret (v := .agg #[.int .i64 z1, .int .i64 z5, .int .i64 z3]) (by simp [results, Try.results10, go_sem, c2, c3, f2, f3]) rfl ?_
      exact ⟨_, _, _, rfl, (by repeat (first | exact hr5 | refine Rdr.alloc ?_ _ | refine Rdr.set ?_ (by omega) _)), (by repeat (first | exact G5.out | refine grown_alloc ?_ _ | refine grown_set ?_ (by omega) _))⟩
    · have h1' : (r4 == 1) = false := beq_eq_false_iff_ne.2 h1
      clear h1
      obtain ⟨c3, f3⟩ := blk H3.out
      obtain ⟨c2, f2⟩ := blk H2.out
      go_wp2_with fail
      refine bodyPost_ret (v := .agg #[.int .i64 z1, .int .i64 z2, .int .i64 z3]) (by simp [results, Try.results10, go_sem, c2, c3, f2, f3]) rfl ?_
      exact ⟨_, _, _, rfl, Rdr.mono (p := B + 4) (by repeat (first | exact hr4 | refine Rdr.alloc ?_ _ | refine Rdr.set ?_ (by omega) _)) (by omega), (by repeat (first | exact G4.out | refine grown_alloc ?_ _ | refine grown_set ?_ (by omega) _))⟩

/-- The writes of a reader that is itself new are new. -/
theorem below_of_grown {w a b : World} {rb : Nat} (h : Below w.heap.size w a) (k : a.grownBy b (some rb)) (hrb : w.heap.size ≤ rb) : Below w.heap.size w b :=
  h.grown k h.size (fun i hi => by cases hi; exact hrb)

set_option maxHeartbeats 400000 in
theorem drawValidRule_any (ao : Option Addr) (len cap : Nat) (w : World) (hl : len ≤ cap) (hm : cap ≤ maxLen) (h : Code w ao len) :
    Calls Try.prog 8 #[.slice ao len cap] w fun e w' => ∃ a h c : Int, e = .returned (.agg #[.int .i64 a, .int .i64 h, .int .i64 c]) ∧ Below w.heap.size w w' := by
  have HH := Lib.hid h
  clear h
  go_enter Try.func8, Try.ntmps8
  go_wp2_with fail
  with_reducible refine (newReader_any ao len cap _ hl hm (by exact code_alloc HH.out _)).mono ?_
  rintro e w1 ⟨rfl, hr1, hb1⟩
  have H2 := Lib.hid ((hb1.block w.heap.size (by simp)).trans (heap_new w _ _ rfl))
  have B1 := Lib.hid (((Below.refl _ w).alloc (Nat.le_refl _) _).trans (hb1.mono (by simp)))
  clear hb1
  go_wp2_with fail
  with_reducible refine (anyRule_any _ 0 _ (by omega) (by simpa using hr1)).mono ?_
  rintro e w2 ⟨a, h, c, rfl, hr2, hg2⟩
  have H2 := Lib.hid (after hg2 (b := w.heap.size) (by simp) H2.out)
  have B2 := Lib.hid (below_of_grown B1.out hg2 (by simp))
  obtain ⟨c2, f2⟩ := blk H2.out
  clear hg2
  go_wp2_with fail
  refine bodyPost_ret (v := .agg #[.int .i64 a, .int .i64 h, .int .i64 c]) (by simp [results, Try.results8, go_sem, c2]) rfl ?_
  exact ⟨_, _, _, rfl, by repeat (first | exact B2.out | refine below_set ?_ (by omega) _)⟩
end Go.Proofs.Ytfhoalglgmdiaaa
