/-
  FnExactValidRule: the walk.
-/
import Derived.Test.YtfhoalglgmdiaaaDr
import Derived.Test.YtfhoalglgmdiaaaRu
namespace Go.Proofs.Ytfhoalglgmdiaaa
open Go.RowKit

set_option maxHeartbeats 400000 in
theorem toRule_any (a h c : Int) (w : World) :
    Calls Try.prog 6 #[.agg #[.int .i64 a, .int .i64 h, .int .i64 c]] w fun e w' => e = .returned (.agg #[.int .i64 a, .int .i64 h, .int .i64 c]) ∧ Below w.heap.size w w' := by
  go_enter Try.func6, Try.ntmps6
  go_wp2
  refine bodyPost_ret (v := .agg #[.int .i64 a, .int .i64 h, .int .i64 c]) (by simp [results, Try.results6, go_sem]) rfl ?_
  exact ⟨rfl, by go_grown⟩

set_option maxHeartbeats 400000 in
theorem walkExactValidRule (a h c : Int) (w : World) :
    Calls Try.prog 3 #[.agg #[.int .i64 a, .int .i64 h, .int .i64 c]] w fun e w' => e = .returned (.bool true) ∧ Below w.heap.size w w' := by
  have B0 := Lib.hid (Below.refl w.heap.size w)
  have H1 := Lib.hid (heap_new w (.cells #[.int .i64 a, .int .i64 h, .int .i64 c] 23) _ rfl)
  go_enter Try.func3, Try.ntmps3
  go_wp2_with fail
  with_reducible refine (toRule_any a h c _).mono ?_
  rintro e w1 ⟨rfl, hb1⟩
  have B1 := Lib.hid (Below.trans (B := w.heap.size) (a := w) (by repeat (first | exact B0.out | refine Below.alloc ?_ (by first | omega | (simp; omega) | simp) _ | refine below_set ?_ (by omega) _)) (hb1.mono (by first | omega | (simp; omega) | simp)))
  have l1 : w.heap.size ≤ w1.heap.size := B1.out.size
  first | (with_reducible have H1 := Lib.hid (after_b hb1 (b := w.heap.size) H1.out)) | (with_reducible have H1 := Lib.hid (after_b hb1 (b := w.heap.size) (heap_old _ H1.out))) | (with_reducible have H1 := Lib.hid (after_b hb1 (b := w.heap.size) (heap_old _ (heap_old _ H1.out)))) | (with_reducible have H1 := Lib.hid (after_b hb1 (b := w.heap.size) (heap_old _ (heap_old _ (heap_old _ H1.out))))) | (with_reducible have H1 := Lib.hid (after_b hb1 (b := w.heap.size) (heap_old _ (heap_old _ (heap_old _ (heap_old _ H1.out)))))) | (with_reducible have H1 := Lib.hid (after_b hb1 (b := w.heap.size) (heap_old _ (heap_old _ (heap_old _ (heap_old _ (heap_old _ H1.out)))))))
  have l1H1 : w.heap.size < w1.heap.size := (Array.getElem?_eq_some_iff.1 H1.out).1
  clear hb1
  go_wp2_with fail
  with_reducible refine (specValidRule a h c _).mono ?_
  rintro e w2 ⟨rfl, hb2⟩
  have B2 := Lib.hid (Below.trans (B := w.heap.size) (a := w) (by repeat (first | exact B1.out | refine Below.alloc ?_ (by first | omega | (simp; omega) | simp) _ | refine below_set ?_ (by omega) _)) (hb2.mono (by first | omega | (simp; omega) | simp)))
  have l2 : w.heap.size ≤ w2.heap.size := B2.out.size
  first | (with_reducible have H1 := Lib.hid (after_b hb2 (b := w.heap.size) H1.out)) | (with_reducible have H1 := Lib.hid (after_b hb2 (b := w.heap.size) (heap_old _ H1.out))) | (with_reducible have H1 := Lib.hid (after_b hb2 (b := w.heap.size) (heap_old _ (heap_old _ H1.out)))) | (with_reducible have H1 := Lib.hid (after_b hb2 (b := w.heap.size) (heap_old _ (heap_old _ (heap_old _ H1.out))))) | (with_reducible have H1 := Lib.hid (after_b hb2 (b := w.heap.size) (heap_old _ (heap_old _ (heap_old _ (heap_old _ H1.out)))))) | (with_reducible have H1 := Lib.hid (after_b hb2 (b := w.heap.size) (heap_old _ (heap_old _ (heap_old _ (heap_old _ (heap_old _ H1.out)))))))
  have l2H1 : w.heap.size < w2.heap.size := (Array.getElem?_eq_some_iff.1 H1.out).1
  clear hb2
  obtain ⟨cH1, fH1⟩ := blk H1.out
  go_wp2_with fail
  clear cH1 fH1
  with_reducible refine (toRule_any a h c _).mono ?_
  rintro e w3 ⟨rfl, hb3⟩
  have B3 := Lib.hid (Below.trans (B := w.heap.size) (a := w) (by repeat (first | exact B2.out | refine Below.alloc ?_ (by first | omega | (simp; omega) | simp) _ | refine below_set ?_ (by omega) _)) (hb3.mono (by first | omega | (simp; omega) | simp)))
  have l3 : w.heap.size ≤ w3.heap.size := B3.out.size
  first | (with_reducible have H1 := Lib.hid (after_b hb3 (b := w.heap.size) H1.out)) | (with_reducible have H1 := Lib.hid (after_b hb3 (b := w.heap.size) (heap_old _ H1.out))) | (with_reducible have H1 := Lib.hid (after_b hb3 (b := w.heap.size) (heap_old _ (heap_old _ H1.out)))) | (with_reducible have H1 := Lib.hid (after_b hb3 (b := w.heap.size) (heap_old _ (heap_old _ (heap_old _ H1.out))))) | (with_reducible have H1 := Lib.hid (after_b hb3 (b := w.heap.size) (heap_old _ (heap_old _ (heap_old _ (heap_old _ H1.out)))))) | (with_reducible have H1 := Lib.hid (after_b hb3 (b := w.heap.size) (heap_old _ (heap_old _ (heap_old _ (heap_old _ (heap_old _ H1.out)))))))
  have l3H1 : w.heap.size < w3.heap.size := (Array.getElem?_eq_some_iff.1 H1.out).1
  clear hb3
  go_wp2_with fail
  with_reducible refine (implValidRule a h c _).mono ?_
  rintro e w4 ⟨rfl, hb4⟩
  have B4 := Lib.hid (Below.trans (B := w.heap.size) (a := w) (by repeat (first | exact B3.out | refine Below.alloc ?_ (by first | omega | (simp; omega) | simp) _ | refine below_set ?_ (by omega) _)) (hb4.mono (by first | omega | (simp; omega) | simp)))
  have l4 : w.heap.size ≤ w4.heap.size := B4.out.size
  clear hb4
  go_wp2_with fail
  go_ret
  exact ⟨rfl, (by repeat (first | exact B4.out | refine Below.alloc ?_ (by first | omega | (simp; omega) | simp) _ | refine below_set ?_ (by omega) _))⟩
end Go.Proofs.Ytfhoalglgmdiaaa
