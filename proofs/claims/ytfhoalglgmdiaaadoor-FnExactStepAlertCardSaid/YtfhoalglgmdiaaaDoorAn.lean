/-
  The alert's step where its arguments are not valid; and the reference's whole step.
-/
import Derived.Test.YtfhoalglgmdiaaaDoorAm
namespace Go.Proofs.YtfhoalglgmdiaaaDoor
open Go.RowKit

set_option maxHeartbeats 2000000 in
theorem implStep_no (ab ho ca st si t v : Int) (w : World) (h : okA ab ho ca st si t v = false) :
    Calls Tryd.prog 19 #[.agg #[.int .i64 ab, .int .i64 ho, .int .i64 ca], .agg #[.int .i64 st, .int .i64 si], .agg #[.int .i64 t, .int .i64 v]] w fun e w' =>
      e = .returned (.tuple #[.agg #[.int .i64 0, .int .i64 0], .bool false]) ∧ Below w.heap.size w w' := by
  have B0 := Lib.hid (Below.refl w.heap.size w)
  have H3 := Lib.hid (heap_old (.cells #[.int .i64 0, .int .i64 0] 28) (heap_old (.cells #[.int .i64 t, .int .i64 v] 34) (heap_old (.cells #[.int .i64 st, .int .i64 si] 28) (heap_new w (.cells #[.int .i64 ab, .int .i64 ho, .int .i64 ca] 31) (w.heap.size) (by simp)))))
  have H4 := Lib.hid (heap_old (.cells #[.int .i64 0, .int .i64 0] 28) (heap_old (.cells #[.int .i64 t, .int .i64 v] 34) (heap_new (w.alloc (.cells #[.int .i64 ab, .int .i64 ho, .int .i64 ca] 31)) (.cells #[.int .i64 st, .int .i64 si] 28) (w.heap.size + 1) (by simp))))
  have H5 := Lib.hid (heap_old (.cells #[.int .i64 0, .int .i64 0] 28) (heap_new ((w.alloc (.cells #[.int .i64 ab, .int .i64 ho, .int .i64 ca] 31)).alloc (.cells #[.int .i64 st, .int .i64 si] 28)) (.cells #[.int .i64 t, .int .i64 v] 34) (w.heap.size + 1 + 1) (by simp)))
  have H6 := Lib.hid (heap_new (((w.alloc (.cells #[.int .i64 ab, .int .i64 ho, .int .i64 ca] 31)).alloc (.cells #[.int .i64 st, .int .i64 si] 28)).alloc (.cells #[.int .i64 t, .int .i64 v] 34)) (.cells #[.int .i64 0, .int .i64 0] 28) (w.heap.size + 1 + 1 + 1) (by simp))
  cases hr : ruleB ab ho ca
  · have HR := Lib.hid hr
    clear hr h H3 H4 H5
    go_enter Tryd.func19, Tryd.ntmps19
    go_wp2_with fail
    with_reducible refine (implValidRule ab ho ca _).mono ?_
    rintro e w1 ⟨he, hb1⟩
    have B1 := Lib.hid (Below.trans (B := w.heap.size) (a := w) (by repeat (first | exact B0.out | refine Below.alloc ?_ (by first | omega | (simp; omega) | simp) _ | refine below_set ?_ (by omega) _)) (hb1.mono (by first | omega | (simp; omega) | simp)))
    have l1 : w.heap.size ≤ w1.heap.size := B1.out.size
    first | (with_reducible have H6 := Lib.hid (after_b hb1 (b := w.heap.size + 1 + 1 + 1) H6.out)) | (with_reducible have H6 := Lib.hid (after_b hb1 (b := w.heap.size + 1 + 1 + 1) (heap_old _ H6.out))) | (with_reducible have H6 := Lib.hid (after_b hb1 (b := w.heap.size + 1 + 1 + 1) (heap_old _ (heap_old _ H6.out)))) | (with_reducible have H6 := Lib.hid (after_b hb1 (b := w.heap.size + 1 + 1 + 1) (heap_old _ (heap_old _ (heap_old _ H6.out))))) | (with_reducible have H6 := Lib.hid (after_b hb1 (b := w.heap.size + 1 + 1 + 1) (heap_old _ (heap_old _ (heap_old _ (heap_old _ H6.out)))))) | (with_reducible have H6 := Lib.hid (after_b hb1 (b := w.heap.size + 1 + 1 + 1) (heap_old _ (heap_old _ (heap_old _ (heap_old _ (heap_old _ H6.out)))))))
    have l1H6 : w.heap.size + 1 + 1 + 1 < w1.heap.size := (Array.getElem?_eq_some_iff.1 H6.out).1
    clear hb1
    rw [HR.out] at he
    subst he
    obtain ⟨cH6, fH6⟩ := blk H6.out
    clear H6
    go_wp2_with fail
    refine bodyPost_ret (v := .tuple #[.agg #[.int .i64 0, .int .i64 0], .bool false]) (by simp [results, Tryd.results19, go_sem, cH6]) rfl ?_
    exact ⟨rfl, (by repeat (first | exact B1.out | refine Below.alloc ?_ (by first | omega | (simp; omega) | simp) _ | refine below_set ?_ (by omega) _))⟩
  · cases hp : pointB t v
    · have HR := Lib.hid hr
      have HP := Lib.hid hp
      clear hr h hp H3 H4
      go_enter Tryd.func19, Tryd.ntmps19
      go_wp2_with fail
      with_reducible refine (implValidRule ab ho ca _).mono ?_
      rintro e w1 ⟨he, hb1⟩
      have B1 := Lib.hid (Below.trans (B := w.heap.size) (a := w) (by repeat (first | exact B0.out | refine Below.alloc ?_ (by first | omega | (simp; omega) | simp) _ | refine below_set ?_ (by omega) _)) (hb1.mono (by first | omega | (simp; omega) | simp)))
      have l1 : w.heap.size ≤ w1.heap.size := B1.out.size
      first | (with_reducible have H5 := Lib.hid (after_b hb1 (b := w.heap.size + 1 + 1) H5.out)) | (with_reducible have H5 := Lib.hid (after_b hb1 (b := w.heap.size + 1 + 1) (heap_old _ H5.out))) | (with_reducible have H5 := Lib.hid (after_b hb1 (b := w.heap.size + 1 + 1) (heap_old _ (heap_old _ H5.out)))) | (with_reducible have H5 := Lib.hid (after_b hb1 (b := w.heap.size + 1 + 1) (heap_old _ (heap_old _ (heap_old _ H5.out))))) | (with_reducible have H5 := Lib.hid (after_b hb1 (b := w.heap.size + 1 + 1) (heap_old _ (heap_old _ (heap_old _ (heap_old _ H5.out)))))) | (with_reducible have H5 := Lib.hid (after_b hb1 (b := w.heap.size + 1 + 1) (heap_old _ (heap_old _ (heap_old _ (heap_old _ (heap_old _ H5.out)))))))
      have l1H5 : w.heap.size + 1 + 1 < w1.heap.size := (Array.getElem?_eq_some_iff.1 H5.out).1
      first | (with_reducible have H6 := Lib.hid (after_b hb1 (b := w.heap.size + 1 + 1 + 1) H6.out)) | (with_reducible have H6 := Lib.hid (after_b hb1 (b := w.heap.size + 1 + 1 + 1) (heap_old _ H6.out))) | (with_reducible have H6 := Lib.hid (after_b hb1 (b := w.heap.size + 1 + 1 + 1) (heap_old _ (heap_old _ H6.out)))) | (with_reducible have H6 := Lib.hid (after_b hb1 (b := w.heap.size + 1 + 1 + 1) (heap_old _ (heap_old _ (heap_old _ H6.out))))) | (with_reducible have H6 := Lib.hid (after_b hb1 (b := w.heap.size + 1 + 1 + 1) (heap_old _ (heap_old _ (heap_old _ (heap_old _ H6.out)))))) | (with_reducible have H6 := Lib.hid (after_b hb1 (b := w.heap.size + 1 + 1 + 1) (heap_old _ (heap_old _ (heap_old _ (heap_old _ (heap_old _ H6.out)))))))
      have l1H6 : w.heap.size + 1 + 1 + 1 < w1.heap.size := (Array.getElem?_eq_some_iff.1 H6.out).1
      clear hb1
      rw [HR.out] at he
      subst he
      obtain ⟨cH5, fH5⟩ := blk H5.out
      go_wp2_with fail
      clear cH5 fH5
      with_reducible refine (implvalidPoint t v _).mono ?_
      rintro e w2 ⟨he, hb2⟩
      have B2 := Lib.hid (Below.trans (B := w.heap.size) (a := w) (by repeat (first | exact B1.out | refine Below.alloc ?_ (by first | omega | (simp; omega) | simp) _ | refine below_set ?_ (by omega) _)) (hb2.mono (by first | omega | (simp; omega) | simp)))
      have l2 : w.heap.size ≤ w2.heap.size := B2.out.size
      first | (with_reducible have H6 := Lib.hid (after_b hb2 (b := w.heap.size + 1 + 1 + 1) H6.out)) | (with_reducible have H6 := Lib.hid (after_b hb2 (b := w.heap.size + 1 + 1 + 1) (heap_old _ H6.out))) | (with_reducible have H6 := Lib.hid (after_b hb2 (b := w.heap.size + 1 + 1 + 1) (heap_old _ (heap_old _ H6.out)))) | (with_reducible have H6 := Lib.hid (after_b hb2 (b := w.heap.size + 1 + 1 + 1) (heap_old _ (heap_old _ (heap_old _ H6.out))))) | (with_reducible have H6 := Lib.hid (after_b hb2 (b := w.heap.size + 1 + 1 + 1) (heap_old _ (heap_old _ (heap_old _ (heap_old _ H6.out)))))) | (with_reducible have H6 := Lib.hid (after_b hb2 (b := w.heap.size + 1 + 1 + 1) (heap_old _ (heap_old _ (heap_old _ (heap_old _ (heap_old _ H6.out)))))))
      have l2H6 : w.heap.size + 1 + 1 + 1 < w2.heap.size := (Array.getElem?_eq_some_iff.1 H6.out).1
      clear hb2
      rw [HP.out] at he
      subst he
      obtain ⟨cH6, fH6⟩ := blk H6.out
      clear H6
      go_wp2_with fail
      refine bodyPost_ret (v := .tuple #[.agg #[.int .i64 0, .int .i64 0], .bool false]) (by simp [results, Tryd.results19, go_sem, cH6]) rfl ?_
      exact ⟨rfl, (by repeat (first | exact B2.out | refine Below.alloc ?_ (by first | omega | (simp; omega) | simp) _ | refine below_set ?_ (by omega) _))⟩
    · obtain ⟨r1, r2, r3, r4, r5, r6⟩ := rule_parts hr
      obtain ⟨p1, p2, p3, p4⟩ := point_parts hp
      have hbad : st < 0 ∨ 3 < st ∨ si < 0 ∨ t < si := by
        unfold okA at h
        rw [hr, hp] at h
        simp at h
        omega
      clear H3 H4 H5 H6 hr hp h
      by_cases ha : st < 0
      · clear hbad
        go_enter Tryd.func19, Tryd.ntmps19
        go_wp2
        go_returns
        exact ⟨rfl, by go_grown⟩
      · by_cases hb : 3 < st
        · clear hbad
          go_enter Tryd.func19, Tryd.ntmps19
          go_wp2
          go_returns
          exact ⟨rfl, by go_grown⟩
        · by_cases hc : si < 0
          · clear hbad
            go_enter Tryd.func19, Tryd.ntmps19
            go_wp2
            go_returns
            exact ⟨rfl, by go_grown⟩
          · have hd : t < si := by omega
            clear hbad
            go_enter Tryd.func19, Tryd.ntmps19
            go_wp2
            go_returns
            exact ⟨rfl, by go_grown⟩
end Go.Proofs.YtfhoalglgmdiaaaDoor
