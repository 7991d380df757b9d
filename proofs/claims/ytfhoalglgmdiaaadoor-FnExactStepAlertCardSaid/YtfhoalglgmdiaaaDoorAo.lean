/-
  The alert's whole step of the reference; and that both texts say the same.
-/
import Derived.Test.YtfhoalglgmdiaaaDoorAl
namespace Go.Proofs.YtfhoalglgmdiaaaDoor
open Go.RowKit

def okA (ab ho ca st si t v : Int) : Bool := ruleB ab ho ca && pointB t v && decide (0 ≤ st ∧ st ≤ 3 ∧ 0 ≤ si ∧ si ≤ t)
theorem ok_parts {ab ho ca st si t v : Int} (h : okA ab ho ca st si t v = true) : ruleB ab ho ca = true ∧ pointB t v = true ∧ 0 ≤ st ∧ st ≤ 3 ∧ 0 ≤ si ∧ si ≤ t ∧ t ≤ 1000 := by
  unfold okA at h
  simp only [Bool.and_eq_true] at h
  obtain ⟨⟨hr, hp⟩, h0⟩ := h
  have ht : 0 ≤ t ∧ t ≤ 1000 := by unfold pointB at hp; simp at hp; omega
  simp at h0
  exact ⟨hr, hp, h0.1, h0.2.1, h0.2.2.1, h0.2.2.2, ht.2⟩
theorem rule_parts {ab ho ca : Int} (h : ruleB ab ho ca = true) : -1000 ≤ ab ∧ ab ≤ 1000 ∧ 0 ≤ ho ∧ ho ≤ 100 ∧ 0 ≤ ca ∧ ca ≤ 100 := by
  unfold ruleB at h; simpa using h
theorem point_parts {t v : Int} (h : pointB t v = true) : 0 ≤ t ∧ t ≤ 1000 ∧ -1000 ≤ v ∧ v ≤ 1000 := by
  unfold pointB at h; simpa using h

set_option maxHeartbeats 1000000 in
theorem specStep_yes (ab ho ca st si t v : Int) (w : World) (h : okA ab ho ca st si t v = true) :
    Calls Tryd.prog 15 #[.agg #[.int .i64 ab, .int .i64 ho, .int .i64 ca], .agg #[.int .i64 st, .int .i64 si], .agg #[.int .i64 t, .int .i64 v]] w fun e w' =>
      e = .returned (.tuple #[.agg #[.int .i64 (stepA ab ho ca st si t v).1, .int .i64 (stepA ab ho ca st si t v).2], .bool true]) ∧ Below w.heap.size w w' := by
  obtain ⟨hr, hp, h0a, h0b, h1, h2, ht1⟩ := ok_parts h
  have ha : alertB st si = true := by unfold alertB; simp; omega
  have HR := Lib.hid hr
  have HP := Lib.hid hp
  have HA := Lib.hid ha
  clear hr hp ha h
  have B0 := Lib.hid (Below.refl w.heap.size w)
  have H3 := Lib.hid (heap_old (.cells #[.int .i64 0, .int .i64 0] 28) (heap_old (.cells #[.int .i64 t, .int .i64 v] 34) (heap_old (.cells #[.int .i64 st, .int .i64 si] 28) (heap_new w (.cells #[.int .i64 ab, .int .i64 ho, .int .i64 ca] 31) (w.heap.size) (by simp)))))
  have H4 := Lib.hid (heap_old (.cells #[.int .i64 0, .int .i64 0] 28) (heap_old (.cells #[.int .i64 t, .int .i64 v] 34) (heap_new (w.alloc (.cells #[.int .i64 ab, .int .i64 ho, .int .i64 ca] 31)) (.cells #[.int .i64 st, .int .i64 si] 28) (w.heap.size + 1) (by simp))))
  have H5 := Lib.hid (heap_old (.cells #[.int .i64 0, .int .i64 0] 28) (heap_new ((w.alloc (.cells #[.int .i64 ab, .int .i64 ho, .int .i64 ca] 31)).alloc (.cells #[.int .i64 st, .int .i64 si] 28)) (.cells #[.int .i64 t, .int .i64 v] 34) (w.heap.size + 1 + 1) (by simp)))
  have H6 := Lib.hid (heap_new (((w.alloc (.cells #[.int .i64 ab, .int .i64 ho, .int .i64 ca] 31)).alloc (.cells #[.int .i64 st, .int .i64 si] 28)).alloc (.cells #[.int .i64 t, .int .i64 v] 34)) (.cells #[.int .i64 0, .int .i64 0] 28) (w.heap.size + 1 + 1 + 1) (by simp))
  go_enter Tryd.func15, Tryd.ntmps15
  go_wp2_with fail
  with_reducible refine (specvalidRule ab ho ca _).mono ?_
  rintro e w1 ⟨he, hb1⟩
  have B1 := Lib.hid (Below.trans (B := w.heap.size) (a := w) (by repeat (first | exact B0.out | refine Below.alloc ?_ (by first | omega | (simp; omega) | simp) _ | refine below_set ?_ (by omega) _)) (hb1.mono (by first | omega | (simp; omega) | simp)))
  have l1 : w.heap.size ≤ w1.heap.size := B1.out.size
  first | (with_reducible have H3 := Lib.hid (after_b hb1 (b := w.heap.size) H3.out)) | (with_reducible have H3 := Lib.hid (after_b hb1 (b := w.heap.size) (heap_old _ H3.out))) | (with_reducible have H3 := Lib.hid (after_b hb1 (b := w.heap.size) (heap_old _ (heap_old _ H3.out)))) | (with_reducible have H3 := Lib.hid (after_b hb1 (b := w.heap.size) (heap_old _ (heap_old _ (heap_old _ H3.out))))) | (with_reducible have H3 := Lib.hid (after_b hb1 (b := w.heap.size) (heap_old _ (heap_old _ (heap_old _ (heap_old _ H3.out)))))) | (with_reducible have H3 := Lib.hid (after_b hb1 (b := w.heap.size) (heap_old _ (heap_old _ (heap_old _ (heap_old _ (heap_old _ H3.out)))))))
  have l1H3 : w.heap.size < w1.heap.size := (Array.getElem?_eq_some_iff.1 H3.out).1
  first | (with_reducible have H4 := Lib.hid (after_b hb1 (b := w.heap.size + 1) H4.out)) | (with_reducible have H4 := Lib.hid (after_b hb1 (b := w.heap.size + 1) (heap_old _ H4.out))) | (with_reducible have H4 := Lib.hid (after_b hb1 (b := w.heap.size + 1) (heap_old _ (heap_old _ H4.out)))) | (with_reducible have H4 := Lib.hid (after_b hb1 (b := w.heap.size + 1) (heap_old _ (heap_old _ (heap_old _ H4.out))))) | (with_reducible have H4 := Lib.hid (after_b hb1 (b := w.heap.size + 1) (heap_old _ (heap_old _ (heap_old _ (heap_old _ H4.out)))))) | (with_reducible have H4 := Lib.hid (after_b hb1 (b := w.heap.size + 1) (heap_old _ (heap_old _ (heap_old _ (heap_old _ (heap_old _ H4.out)))))))
  have l1H4 : w.heap.size + 1 < w1.heap.size := (Array.getElem?_eq_some_iff.1 H4.out).1
  first | (with_reducible have H5 := Lib.hid (after_b hb1 (b := w.heap.size + 1 + 1) H5.out)) | (with_reducible have H5 := Lib.hid (after_b hb1 (b := w.heap.size + 1 + 1) (heap_old _ H5.out))) | (with_reducible have H5 := Lib.hid (after_b hb1 (b := w.heap.size + 1 + 1) (heap_old _ (heap_old _ H5.out)))) | (with_reducible have H5 := Lib.hid (after_b hb1 (b := w.heap.size + 1 + 1) (heap_old _ (heap_old _ (heap_old _ H5.out))))) | (with_reducible have H5 := Lib.hid (after_b hb1 (b := w.heap.size + 1 + 1) (heap_old _ (heap_old _ (heap_old _ (heap_old _ H5.out)))))) | (with_reducible have H5 := Lib.hid (after_b hb1 (b := w.heap.size + 1 + 1) (heap_old _ (heap_old _ (heap_old _ (heap_old _ (heap_old _ H5.out)))))))
  have l1H5 : w.heap.size + 1 + 1 < w1.heap.size := (Array.getElem?_eq_some_iff.1 H5.out).1
  first | (with_reducible have H6 := Lib.hid (after_b hb1 (b := w.heap.size + 1 + 1 + 1) H6.out)) | (with_reducible have H6 := Lib.hid (after_b hb1 (b := w.heap.size + 1 + 1 + 1) (heap_old _ H6.out))) | (with_reducible have H6 := Lib.hid (after_b hb1 (b := w.heap.size + 1 + 1 + 1) (heap_old _ (heap_old _ H6.out)))) | (with_reducible have H6 := Lib.hid (after_b hb1 (b := w.heap.size + 1 + 1 + 1) (heap_old _ (heap_old _ (heap_old _ H6.out))))) | (with_reducible have H6 := Lib.hid (after_b hb1 (b := w.heap.size + 1 + 1 + 1) (heap_old _ (heap_old _ (heap_old _ (heap_old _ H6.out)))))) | (with_reducible have H6 := Lib.hid (after_b hb1 (b := w.heap.size + 1 + 1 + 1) (heap_old _ (heap_old _ (heap_old _ (heap_old _ (heap_old _ H6.out)))))))
  have l1H6 : w.heap.size + 1 + 1 + 1 < w1.heap.size := (Array.getElem?_eq_some_iff.1 H6.out).1
  clear hb1
  rw [HR.out] at he
  subst he
  obtain ⟨cH4, fH4⟩ := blk H4.out
  go_wp2_with fail
  clear cH4 fH4
  with_reducible refine (specvalidAlert st si _).mono ?_
  rintro e w2 ⟨he, hb2⟩
  have B2 := Lib.hid (Below.trans (B := w.heap.size) (a := w) (by repeat (first | exact B1.out | refine Below.alloc ?_ (by first | omega | (simp; omega) | simp) _ | refine below_set ?_ (by omega) _)) (hb2.mono (by first | omega | (simp; omega) | simp)))
  have l2 : w.heap.size ≤ w2.heap.size := B2.out.size
  first | (with_reducible have H3 := Lib.hid (after_b hb2 (b := w.heap.size) H3.out)) | (with_reducible have H3 := Lib.hid (after_b hb2 (b := w.heap.size) (heap_old _ H3.out))) | (with_reducible have H3 := Lib.hid (after_b hb2 (b := w.heap.size) (heap_old _ (heap_old _ H3.out)))) | (with_reducible have H3 := Lib.hid (after_b hb2 (b := w.heap.size) (heap_old _ (heap_old _ (heap_old _ H3.out))))) | (with_reducible have H3 := Lib.hid (after_b hb2 (b := w.heap.size) (heap_old _ (heap_old _ (heap_old _ (heap_old _ H3.out)))))) | (with_reducible have H3 := Lib.hid (after_b hb2 (b := w.heap.size) (heap_old _ (heap_old _ (heap_old _ (heap_old _ (heap_old _ H3.out)))))))
  have l2H3 : w.heap.size < w2.heap.size := (Array.getElem?_eq_some_iff.1 H3.out).1
  first | (with_reducible have H4 := Lib.hid (after_b hb2 (b := w.heap.size + 1) H4.out)) | (with_reducible have H4 := Lib.hid (after_b hb2 (b := w.heap.size + 1) (heap_old _ H4.out))) | (with_reducible have H4 := Lib.hid (after_b hb2 (b := w.heap.size + 1) (heap_old _ (heap_old _ H4.out)))) | (with_reducible have H4 := Lib.hid (after_b hb2 (b := w.heap.size + 1) (heap_old _ (heap_old _ (heap_old _ H4.out))))) | (with_reducible have H4 := Lib.hid (after_b hb2 (b := w.heap.size + 1) (heap_old _ (heap_old _ (heap_old _ (heap_old _ H4.out)))))) | (with_reducible have H4 := Lib.hid (after_b hb2 (b := w.heap.size + 1) (heap_old _ (heap_old _ (heap_old _ (heap_old _ (heap_old _ H4.out)))))))
  have l2H4 : w.heap.size + 1 < w2.heap.size := (Array.getElem?_eq_some_iff.1 H4.out).1
  first | (with_reducible have H5 := Lib.hid (after_b hb2 (b := w.heap.size + 1 + 1) H5.out)) | (with_reducible have H5 := Lib.hid (after_b hb2 (b := w.heap.size + 1 + 1) (heap_old _ H5.out))) | (with_reducible have H5 := Lib.hid (after_b hb2 (b := w.heap.size + 1 + 1) (heap_old _ (heap_old _ H5.out)))) | (with_reducible have H5 := Lib.hid (after_b hb2 (b := w.heap.size + 1 + 1) (heap_old _ (heap_old _ (heap_old _ H5.out))))) | (with_reducible have H5 := Lib.hid (after_b hb2 (b := w.heap.size + 1 + 1) (heap_old _ (heap_old _ (heap_old _ (heap_old _ H5.out)))))) | (with_reducible have H5 := Lib.hid (after_b hb2 (b := w.heap.size + 1 + 1) (heap_old _ (heap_old _ (heap_old _ (heap_old _ (heap_old _ H5.out)))))))
  have l2H5 : w.heap.size + 1 + 1 < w2.heap.size := (Array.getElem?_eq_some_iff.1 H5.out).1
  first | (with_reducible have H6 := Lib.hid (after_b hb2 (b := w.heap.size + 1 + 1 + 1) H6.out)) | (with_reducible have H6 := Lib.hid (after_b hb2 (b := w.heap.size + 1 + 1 + 1) (heap_old _ H6.out))) | (with_reducible have H6 := Lib.hid (after_b hb2 (b := w.heap.size + 1 + 1 + 1) (heap_old _ (heap_old _ H6.out)))) | (with_reducible have H6 := Lib.hid (after_b hb2 (b := w.heap.size + 1 + 1 + 1) (heap_old _ (heap_old _ (heap_old _ H6.out))))) | (with_reducible have H6 := Lib.hid (after_b hb2 (b := w.heap.size + 1 + 1 + 1) (heap_old _ (heap_old _ (heap_old _ (heap_old _ H6.out)))))) | (with_reducible have H6 := Lib.hid (after_b hb2 (b := w.heap.size + 1 + 1 + 1) (heap_old _ (heap_old _ (heap_old _ (heap_old _ (heap_old _ H6.out)))))))
  have l2H6 : w.heap.size + 1 + 1 + 1 < w2.heap.size := (Array.getElem?_eq_some_iff.1 H6.out).1
  clear hb2
  rw [HA.out] at he
  subst he
  obtain ⟨cH5, fH5⟩ := blk H5.out
  go_wp2_with fail
  clear cH5 fH5
  with_reducible refine (specvalidPoint t v _).mono ?_
  rintro e w3 ⟨he, hb3⟩
  have B3 := Lib.hid (Below.trans (B := w.heap.size) (a := w) (by repeat (first | exact B2.out | refine Below.alloc ?_ (by first | omega | (simp; omega) | simp) _ | refine below_set ?_ (by omega) _)) (hb3.mono (by first | omega | (simp; omega) | simp)))
  have l3 : w.heap.size ≤ w3.heap.size := B3.out.size
  first | (with_reducible have H3 := Lib.hid (after_b hb3 (b := w.heap.size) H3.out)) | (with_reducible have H3 := Lib.hid (after_b hb3 (b := w.heap.size) (heap_old _ H3.out))) | (with_reducible have H3 := Lib.hid (after_b hb3 (b := w.heap.size) (heap_old _ (heap_old _ H3.out)))) | (with_reducible have H3 := Lib.hid (after_b hb3 (b := w.heap.size) (heap_old _ (heap_old _ (heap_old _ H3.out))))) | (with_reducible have H3 := Lib.hid (after_b hb3 (b := w.heap.size) (heap_old _ (heap_old _ (heap_old _ (heap_old _ H3.out)))))) | (with_reducible have H3 := Lib.hid (after_b hb3 (b := w.heap.size) (heap_old _ (heap_old _ (heap_old _ (heap_old _ (heap_old _ H3.out)))))))
  have l3H3 : w.heap.size < w3.heap.size := (Array.getElem?_eq_some_iff.1 H3.out).1
  first | (with_reducible have H4 := Lib.hid (after_b hb3 (b := w.heap.size + 1) H4.out)) | (with_reducible have H4 := Lib.hid (after_b hb3 (b := w.heap.size + 1) (heap_old _ H4.out))) | (with_reducible have H4 := Lib.hid (after_b hb3 (b := w.heap.size + 1) (heap_old _ (heap_old _ H4.out)))) | (with_reducible have H4 := Lib.hid (after_b hb3 (b := w.heap.size + 1) (heap_old _ (heap_old _ (heap_old _ H4.out))))) | (with_reducible have H4 := Lib.hid (after_b hb3 (b := w.heap.size + 1) (heap_old _ (heap_old _ (heap_old _ (heap_old _ H4.out)))))) | (with_reducible have H4 := Lib.hid (after_b hb3 (b := w.heap.size + 1) (heap_old _ (heap_old _ (heap_old _ (heap_old _ (heap_old _ H4.out)))))))
  have l3H4 : w.heap.size + 1 < w3.heap.size := (Array.getElem?_eq_some_iff.1 H4.out).1
  first | (with_reducible have H5 := Lib.hid (after_b hb3 (b := w.heap.size + 1 + 1) H5.out)) | (with_reducible have H5 := Lib.hid (after_b hb3 (b := w.heap.size + 1 + 1) (heap_old _ H5.out))) | (with_reducible have H5 := Lib.hid (after_b hb3 (b := w.heap.size + 1 + 1) (heap_old _ (heap_old _ H5.out)))) | (with_reducible have H5 := Lib.hid (after_b hb3 (b := w.heap.size + 1 + 1) (heap_old _ (heap_old _ (heap_old _ H5.out))))) | (with_reducible have H5 := Lib.hid (after_b hb3 (b := w.heap.size + 1 + 1) (heap_old _ (heap_old _ (heap_old _ (heap_old _ H5.out)))))) | (with_reducible have H5 := Lib.hid (after_b hb3 (b := w.heap.size + 1 + 1) (heap_old _ (heap_old _ (heap_old _ (heap_old _ (heap_old _ H5.out)))))))
  have l3H5 : w.heap.size + 1 + 1 < w3.heap.size := (Array.getElem?_eq_some_iff.1 H5.out).1
  first | (with_reducible have H6 := Lib.hid (after_b hb3 (b := w.heap.size + 1 + 1 + 1) H6.out)) | (with_reducible have H6 := Lib.hid (after_b hb3 (b := w.heap.size + 1 + 1 + 1) (heap_old _ H6.out))) | (with_reducible have H6 := Lib.hid (after_b hb3 (b := w.heap.size + 1 + 1 + 1) (heap_old _ (heap_old _ H6.out)))) | (with_reducible have H6 := Lib.hid (after_b hb3 (b := w.heap.size + 1 + 1 + 1) (heap_old _ (heap_old _ (heap_old _ H6.out))))) | (with_reducible have H6 := Lib.hid (after_b hb3 (b := w.heap.size + 1 + 1 + 1) (heap_old _ (heap_old _ (heap_old _ (heap_old _ H6.out)))))) | (with_reducible have H6 := Lib.hid (after_b hb3 (b := w.heap.size + 1 + 1 + 1) (heap_old _ (heap_old _ (heap_old _ (heap_old _ (heap_old _ H6.out)))))))
  have l3H6 : w.heap.size + 1 + 1 + 1 < w3.heap.size := (Array.getElem?_eq_some_iff.1 H6.out).1
  clear hb3
  rw [HP.out] at he
  subst he
  obtain ⟨cH3, fH3⟩ := blk H3.out
  obtain ⟨cH4, fH4⟩ := blk H4.out
  obtain ⟨cH5, fH5⟩ := blk H5.out
  clear l1H3 l1H4 l1H5 l1H6 l2H3 l2H4 l2H5 l2H6
  go_wp2_with fail
  clear cH3 fH3 cH4 fH4 cH5 fH5
  with_reducible refine (specstep ab ho ca st si t v _ ⟨h0a, h0b⟩ h1 h2 ht1).mono ?_
  rintro e w4 ⟨rfl, hb4⟩
  have B4 := Lib.hid (Below.trans (B := w.heap.size) (a := w) (by repeat (first | exact B3.out | refine Below.alloc ?_ (by first | omega | (simp; omega) | simp) _ | refine below_set ?_ (by omega) _)) (hb4.mono (by first | omega | (simp; omega) | simp)))
  have l4 : w.heap.size ≤ w4.heap.size := B4.out.size
  first | (with_reducible have H6 := Lib.hid (after_b hb4 (b := w.heap.size + 1 + 1 + 1) H6.out)) | (with_reducible have H6 := Lib.hid (after_b hb4 (b := w.heap.size + 1 + 1 + 1) (heap_old _ H6.out))) | (with_reducible have H6 := Lib.hid (after_b hb4 (b := w.heap.size + 1 + 1 + 1) (heap_old _ (heap_old _ H6.out)))) | (with_reducible have H6 := Lib.hid (after_b hb4 (b := w.heap.size + 1 + 1 + 1) (heap_old _ (heap_old _ (heap_old _ H6.out))))) | (with_reducible have H6 := Lib.hid (after_b hb4 (b := w.heap.size + 1 + 1 + 1) (heap_old _ (heap_old _ (heap_old _ (heap_old _ H6.out)))))) | (with_reducible have H6 := Lib.hid (after_b hb4 (b := w.heap.size + 1 + 1 + 1) (heap_old _ (heap_old _ (heap_old _ (heap_old _ (heap_old _ H6.out)))))))
  have l4H6 : w.heap.size + 1 + 1 + 1 < w4.heap.size := (Array.getElem?_eq_some_iff.1 H6.out).1
  clear hb4
  obtain ⟨x, hx⟩ : ∃ x, x = stepA ab ho ca st si t v := ⟨_, rfl⟩
  rw [← hx]
  have HX := Lib.hid hx
  clear hx
  obtain ⟨cH6, fH6⟩ := blk H6.out
  clear H6 H3 H4 H5
  go_wp2_with fail
  refine bodyPost_ret (v := .tuple #[.agg #[.int .i64 x.1, .int .i64 x.2], .bool true]) (by simp [results, Tryd.results15, go_sem, cH6]) rfl ?_
  exact ⟨by rw [HX.out], (by repeat (first | exact B4.out | refine Below.alloc ?_ (by first | omega | (simp; omega) | simp) _ | refine below_set ?_ (by omega) _))⟩

set_option maxHeartbeats 2000000 in
theorem specStep_no (ab ho ca st si t v : Int) (w : World) (h : okA ab ho ca st si t v = false) :
    Calls Tryd.prog 15 #[.agg #[.int .i64 ab, .int .i64 ho, .int .i64 ca], .agg #[.int .i64 st, .int .i64 si], .agg #[.int .i64 t, .int .i64 v]] w fun e w' =>
      e = .returned (.tuple #[.agg #[.int .i64 0, .int .i64 0], .bool false]) ∧ Below w.heap.size w w' := by
  have B0 := Lib.hid (Below.refl w.heap.size w)
  have H3 := Lib.hid (heap_old (.cells #[.int .i64 0, .int .i64 0] 28) (heap_old (.cells #[.int .i64 t, .int .i64 v] 34) (heap_old (.cells #[.int .i64 st, .int .i64 si] 28) (heap_new w (.cells #[.int .i64 ab, .int .i64 ho, .int .i64 ca] 31) (w.heap.size) (by simp)))))
  have H4 := Lib.hid (heap_old (.cells #[.int .i64 0, .int .i64 0] 28) (heap_old (.cells #[.int .i64 t, .int .i64 v] 34) (heap_new (w.alloc (.cells #[.int .i64 ab, .int .i64 ho, .int .i64 ca] 31)) (.cells #[.int .i64 st, .int .i64 si] 28) (w.heap.size + 1) (by simp))))
  have H5 := Lib.hid (heap_old (.cells #[.int .i64 0, .int .i64 0] 28) (heap_new ((w.alloc (.cells #[.int .i64 ab, .int .i64 ho, .int .i64 ca] 31)).alloc (.cells #[.int .i64 st, .int .i64 si] 28)) (.cells #[.int .i64 t, .int .i64 v] 34) (w.heap.size + 1 + 1) (by simp)))
  have H6 := Lib.hid (heap_new (((w.alloc (.cells #[.int .i64 ab, .int .i64 ho, .int .i64 ca] 31)).alloc (.cells #[.int .i64 st, .int .i64 si] 28)).alloc (.cells #[.int .i64 t, .int .i64 v] 34)) (.cells #[.int .i64 0, .int .i64 0] 28) (w.heap.size + 1 + 1 + 1) (by simp))
  cases hr : ruleB ab ho ca
  · have HR := Lib.hid hr
    clear hr h H3 H4 H5
    go_enter Tryd.func15, Tryd.ntmps15
    go_wp2_with fail
    with_reducible refine (specvalidRule ab ho ca _).mono ?_
    rintro e w1 ⟨he, hb1⟩
    have B1 := Lib.hid (Below.trans (B := w.heap.size) (a := w) (by repeat (first | exact B0.out | refine Below.alloc ?_ (by first | omega | (simp; omega) | simp) _ | refine below_set ?_ (by omega) _)) (hb1.mono (by first | omega | (simp; omega) | simp)))
    have l1 : w.heap.size ≤ w1.heap.size := B1.out.size
    first | (with_reducible have H6 := Lib.hid (after_b hb1 (b := w.heap.size + 1 + 1 + 1) H6.out)) | (with_reducible have H6 := Lib.hid (after_b hb1 (b := w.heap.size + 1 + 1 + 1) (heap_old _ H6.out))) | (with_reducible have H6 := Lib.hid (after_b hb1 (b := w.heap.size + 1 + 1 + 1) (heap_old _ (heap_old _ H6.out)))) | (with_reducible have H6 := Lib.hid (after_b hb1 (b := w.heap.size + 1 + 1 + 1) (heap_old _ (heap_old _ (heap_old _ H6.out))))) | (with_reducible have H6 := Lib.hid (after_b hb1 (b := w.heap.size + 1 + 1 + 1) (heap_old _ (heap_old _ (heap_old _ (heap_old _ H6.out)))))) | (with_reducible have H6 := Lib.hid (after_b hb1 (b := w.heap.size + 1 + 1 + 1) (heap_old _ (heap_old _ (heap_old _ (heap_old _ (heap_old _ H6.out)))))))
    have l1H6 : w.heap.size + 1 + 1 + 1 < w1.heap.size := (Array.getElem?_eq_some_iff.1 H6.out).1
    clear hb1
    rw [HR.out] at he
    subst he
    obtain ⟨cH6, fH6⟩ := blk H6.out
    clear H6
    go_wp2_with fail
    refine bodyPost_ret (v := .tuple #[.agg #[.int .i64 0, .int .i64 0], .bool false]) (by simp [results, Tryd.results15, go_sem, cH6]) rfl ?_
    exact ⟨rfl, (by repeat (first | exact B1.out | refine Below.alloc ?_ (by first | omega | (simp; omega) | simp) _ | refine below_set ?_ (by omega) _))⟩
  · cases ha : alertB st si
    · have HR := Lib.hid hr
      have HA := Lib.hid ha
      clear hr h ha H3 H5
      go_enter Tryd.func15, Tryd.ntmps15
      go_wp2_with fail
      with_reducible refine (specvalidRule ab ho ca _).mono ?_
      rintro e w1 ⟨he, hb1⟩
      have B1 := Lib.hid (Below.trans (B := w.heap.size) (a := w) (by repeat (first | exact B0.out | refine Below.alloc ?_ (by first | omega | (simp; omega) | simp) _ | refine below_set ?_ (by omega) _)) (hb1.mono (by first | omega | (simp; omega) | simp)))
      have l1 : w.heap.size ≤ w1.heap.size := B1.out.size
      first | (with_reducible have H4 := Lib.hid (after_b hb1 (b := w.heap.size + 1) H4.out)) | (with_reducible have H4 := Lib.hid (after_b hb1 (b := w.heap.size + 1) (heap_old _ H4.out))) | (with_reducible have H4 := Lib.hid (after_b hb1 (b := w.heap.size + 1) (heap_old _ (heap_old _ H4.out)))) | (with_reducible have H4 := Lib.hid (after_b hb1 (b := w.heap.size + 1) (heap_old _ (heap_old _ (heap_old _ H4.out))))) | (with_reducible have H4 := Lib.hid (after_b hb1 (b := w.heap.size + 1) (heap_old _ (heap_old _ (heap_old _ (heap_old _ H4.out)))))) | (with_reducible have H4 := Lib.hid (after_b hb1 (b := w.heap.size + 1) (heap_old _ (heap_old _ (heap_old _ (heap_old _ (heap_old _ H4.out)))))))
      have l1H4 : w.heap.size + 1 < w1.heap.size := (Array.getElem?_eq_some_iff.1 H4.out).1
      first | (with_reducible have H6 := Lib.hid (after_b hb1 (b := w.heap.size + 1 + 1 + 1) H6.out)) | (with_reducible have H6 := Lib.hid (after_b hb1 (b := w.heap.size + 1 + 1 + 1) (heap_old _ H6.out))) | (with_reducible have H6 := Lib.hid (after_b hb1 (b := w.heap.size + 1 + 1 + 1) (heap_old _ (heap_old _ H6.out)))) | (with_reducible have H6 := Lib.hid (after_b hb1 (b := w.heap.size + 1 + 1 + 1) (heap_old _ (heap_old _ (heap_old _ H6.out))))) | (with_reducible have H6 := Lib.hid (after_b hb1 (b := w.heap.size + 1 + 1 + 1) (heap_old _ (heap_old _ (heap_old _ (heap_old _ H6.out)))))) | (with_reducible have H6 := Lib.hid (after_b hb1 (b := w.heap.size + 1 + 1 + 1) (heap_old _ (heap_old _ (heap_old _ (heap_old _ (heap_old _ H6.out)))))))
      have l1H6 : w.heap.size + 1 + 1 + 1 < w1.heap.size := (Array.getElem?_eq_some_iff.1 H6.out).1
      clear hb1
      rw [HR.out] at he
      subst he
      obtain ⟨cH4, fH4⟩ := blk H4.out
      go_wp2_with fail
      clear cH4 fH4
      with_reducible refine (specvalidAlert st si _).mono ?_
      rintro e w2 ⟨he, hb2⟩
      have B2 := Lib.hid (Below.trans (B := w.heap.size) (a := w) (by repeat (first | exact B1.out | refine Below.alloc ?_ (by first | omega | (simp; omega) | simp) _ | refine below_set ?_ (by omega) _)) (hb2.mono (by first | omega | (simp; omega) | simp)))
      have l2 : w.heap.size ≤ w2.heap.size := B2.out.size
      first | (with_reducible have H6 := Lib.hid (after_b hb2 (b := w.heap.size + 1 + 1 + 1) H6.out)) | (with_reducible have H6 := Lib.hid (after_b hb2 (b := w.heap.size + 1 + 1 + 1) (heap_old _ H6.out))) | (with_reducible have H6 := Lib.hid (after_b hb2 (b := w.heap.size + 1 + 1 + 1) (heap_old _ (heap_old _ H6.out)))) | (with_reducible have H6 := Lib.hid (after_b hb2 (b := w.heap.size + 1 + 1 + 1) (heap_old _ (heap_old _ (heap_old _ H6.out))))) | (with_reducible have H6 := Lib.hid (after_b hb2 (b := w.heap.size + 1 + 1 + 1) (heap_old _ (heap_old _ (heap_old _ (heap_old _ H6.out)))))) | (with_reducible have H6 := Lib.hid (after_b hb2 (b := w.heap.size + 1 + 1 + 1) (heap_old _ (heap_old _ (heap_old _ (heap_old _ (heap_old _ H6.out)))))))
      have l2H6 : w.heap.size + 1 + 1 + 1 < w2.heap.size := (Array.getElem?_eq_some_iff.1 H6.out).1
      clear hb2
      rw [HA.out] at he
      subst he
      obtain ⟨cH6, fH6⟩ := blk H6.out
      clear H6
      go_wp2_with fail
      refine bodyPost_ret (v := .tuple #[.agg #[.int .i64 0, .int .i64 0], .bool false]) (by simp [results, Tryd.results15, go_sem, cH6]) rfl ?_
      exact ⟨rfl, (by repeat (first | exact B2.out | refine Below.alloc ?_ (by first | omega | (simp; omega) | simp) _ | refine below_set ?_ (by omega) _))⟩
    · have hd : pointB t v = true → t < si := by
        intro hp
        unfold okA at h
        rw [hr, hp] at h
        unfold alertB at ha
        simp at h ha
        omega
      have HR := Lib.hid hr
      have HA := Lib.hid ha
      have HD := Lib.hid hd
      clear hr h ha hd H3
      go_enter Tryd.func15, Tryd.ntmps15
      go_wp2_with fail
      with_reducible refine (specvalidRule ab ho ca _).mono ?_
      rintro e w1 ⟨he, hb1⟩
      have B1 := Lib.hid (Below.trans (B := w.heap.size) (a := w) (by repeat (first | exact B0.out | refine Below.alloc ?_ (by first | omega | (simp; omega) | simp) _ | refine below_set ?_ (by omega) _)) (hb1.mono (by first | omega | (simp; omega) | simp)))
      have l1 : w.heap.size ≤ w1.heap.size := B1.out.size
      first | (with_reducible have H4 := Lib.hid (after_b hb1 (b := w.heap.size + 1) H4.out)) | (with_reducible have H4 := Lib.hid (after_b hb1 (b := w.heap.size + 1) (heap_old _ H4.out))) | (with_reducible have H4 := Lib.hid (after_b hb1 (b := w.heap.size + 1) (heap_old _ (heap_old _ H4.out)))) | (with_reducible have H4 := Lib.hid (after_b hb1 (b := w.heap.size + 1) (heap_old _ (heap_old _ (heap_old _ H4.out))))) | (with_reducible have H4 := Lib.hid (after_b hb1 (b := w.heap.size + 1) (heap_old _ (heap_old _ (heap_old _ (heap_old _ H4.out)))))) | (with_reducible have H4 := Lib.hid (after_b hb1 (b := w.heap.size + 1) (heap_old _ (heap_old _ (heap_old _ (heap_old _ (heap_old _ H4.out)))))))
      have l1H4 : w.heap.size + 1 < w1.heap.size := (Array.getElem?_eq_some_iff.1 H4.out).1
      first | (with_reducible have H5 := Lib.hid (after_b hb1 (b := w.heap.size + 1 + 1) H5.out)) | (with_reducible have H5 := Lib.hid (after_b hb1 (b := w.heap.size + 1 + 1) (heap_old _ H5.out))) | (with_reducible have H5 := Lib.hid (after_b hb1 (b := w.heap.size + 1 + 1) (heap_old _ (heap_old _ H5.out)))) | (with_reducible have H5 := Lib.hid (after_b hb1 (b := w.heap.size + 1 + 1) (heap_old _ (heap_old _ (heap_old _ H5.out))))) | (with_reducible have H5 := Lib.hid (after_b hb1 (b := w.heap.size + 1 + 1) (heap_old _ (heap_old _ (heap_old _ (heap_old _ H5.out)))))) | (with_reducible have H5 := Lib.hid (after_b hb1 (b := w.heap.size + 1 + 1) (heap_old _ (heap_old _ (heap_old _ (heap_old _ (heap_old _ H5.out)))))))
      have l1H5 : w.heap.size + 1 + 1 < w1.heap.size := (Array.getElem?_eq_some_iff.1 H5.out).1
      first | (with_reducible have H6 := Lib.hid (after_b hb1 (b := w.heap.size + 1 + 1 + 1) H6.out)) | (with_reducible have H6 := Lib.hid (after_b hb1 (b := w.heap.size + 1 + 1 + 1) (heap_old _ H6.out))) | (with_reducible have H6 := Lib.hid (after_b hb1 (b := w.heap.size + 1 + 1 + 1) (heap_old _ (heap_old _ H6.out)))) | (with_reducible have H6 := Lib.hid (after_b hb1 (b := w.heap.size + 1 + 1 + 1) (heap_old _ (heap_old _ (heap_old _ H6.out))))) | (with_reducible have H6 := Lib.hid (after_b hb1 (b := w.heap.size + 1 + 1 + 1) (heap_old _ (heap_old _ (heap_old _ (heap_old _ H6.out)))))) | (with_reducible have H6 := Lib.hid (after_b hb1 (b := w.heap.size + 1 + 1 + 1) (heap_old _ (heap_old _ (heap_old _ (heap_old _ (heap_old _ H6.out)))))))
      have l1H6 : w.heap.size + 1 + 1 + 1 < w1.heap.size := (Array.getElem?_eq_some_iff.1 H6.out).1
      clear hb1
      rw [HR.out] at he
      subst he
      obtain ⟨cH4, fH4⟩ := blk H4.out
      go_wp2_with fail
      clear cH4 fH4
      with_reducible refine (specvalidAlert st si _).mono ?_
      rintro e w2 ⟨he, hb2⟩
      have B2 := Lib.hid (Below.trans (B := w.heap.size) (a := w) (by repeat (first | exact B1.out | refine Below.alloc ?_ (by first | omega | (simp; omega) | simp) _ | refine below_set ?_ (by omega) _)) (hb2.mono (by first | omega | (simp; omega) | simp)))
      have l2 : w.heap.size ≤ w2.heap.size := B2.out.size
      first | (with_reducible have H4 := Lib.hid (after_b hb2 (b := w.heap.size + 1) H4.out)) | (with_reducible have H4 := Lib.hid (after_b hb2 (b := w.heap.size + 1) (heap_old _ H4.out))) | (with_reducible have H4 := Lib.hid (after_b hb2 (b := w.heap.size + 1) (heap_old _ (heap_old _ H4.out)))) | (with_reducible have H4 := Lib.hid (after_b hb2 (b := w.heap.size + 1) (heap_old _ (heap_old _ (heap_old _ H4.out))))) | (with_reducible have H4 := Lib.hid (after_b hb2 (b := w.heap.size + 1) (heap_old _ (heap_old _ (heap_old _ (heap_old _ H4.out)))))) | (with_reducible have H4 := Lib.hid (after_b hb2 (b := w.heap.size + 1) (heap_old _ (heap_old _ (heap_old _ (heap_old _ (heap_old _ H4.out)))))))
      have l2H4 : w.heap.size + 1 < w2.heap.size := (Array.getElem?_eq_some_iff.1 H4.out).1
      first | (with_reducible have H5 := Lib.hid (after_b hb2 (b := w.heap.size + 1 + 1) H5.out)) | (with_reducible have H5 := Lib.hid (after_b hb2 (b := w.heap.size + 1 + 1) (heap_old _ H5.out))) | (with_reducible have H5 := Lib.hid (after_b hb2 (b := w.heap.size + 1 + 1) (heap_old _ (heap_old _ H5.out)))) | (with_reducible have H5 := Lib.hid (after_b hb2 (b := w.heap.size + 1 + 1) (heap_old _ (heap_old _ (heap_old _ H5.out))))) | (with_reducible have H5 := Lib.hid (after_b hb2 (b := w.heap.size + 1 + 1) (heap_old _ (heap_old _ (heap_old _ (heap_old _ H5.out)))))) | (with_reducible have H5 := Lib.hid (after_b hb2 (b := w.heap.size + 1 + 1) (heap_old _ (heap_old _ (heap_old _ (heap_old _ (heap_old _ H5.out)))))))
      have l2H5 : w.heap.size + 1 + 1 < w2.heap.size := (Array.getElem?_eq_some_iff.1 H5.out).1
      first | (with_reducible have H6 := Lib.hid (after_b hb2 (b := w.heap.size + 1 + 1 + 1) H6.out)) | (with_reducible have H6 := Lib.hid (after_b hb2 (b := w.heap.size + 1 + 1 + 1) (heap_old _ H6.out))) | (with_reducible have H6 := Lib.hid (after_b hb2 (b := w.heap.size + 1 + 1 + 1) (heap_old _ (heap_old _ H6.out)))) | (with_reducible have H6 := Lib.hid (after_b hb2 (b := w.heap.size + 1 + 1 + 1) (heap_old _ (heap_old _ (heap_old _ H6.out))))) | (with_reducible have H6 := Lib.hid (after_b hb2 (b := w.heap.size + 1 + 1 + 1) (heap_old _ (heap_old _ (heap_old _ (heap_old _ H6.out)))))) | (with_reducible have H6 := Lib.hid (after_b hb2 (b := w.heap.size + 1 + 1 + 1) (heap_old _ (heap_old _ (heap_old _ (heap_old _ (heap_old _ H6.out)))))))
      have l2H6 : w.heap.size + 1 + 1 + 1 < w2.heap.size := (Array.getElem?_eq_some_iff.1 H6.out).1
      clear hb2
      rw [HA.out] at he
      subst he
      obtain ⟨cH5, fH5⟩ := blk H5.out
      go_wp2_with fail
      clear cH5 fH5
      with_reducible refine (specvalidPoint t v _).mono ?_
      rintro e w3 ⟨he, hb3⟩
      have B3 := Lib.hid (Below.trans (B := w.heap.size) (a := w) (by repeat (first | exact B2.out | refine Below.alloc ?_ (by first | omega | (simp; omega) | simp) _ | refine below_set ?_ (by omega) _)) (hb3.mono (by first | omega | (simp; omega) | simp)))
      have l3 : w.heap.size ≤ w3.heap.size := B3.out.size
      first | (with_reducible have H4 := Lib.hid (after_b hb3 (b := w.heap.size + 1) H4.out)) | (with_reducible have H4 := Lib.hid (after_b hb3 (b := w.heap.size + 1) (heap_old _ H4.out))) | (with_reducible have H4 := Lib.hid (after_b hb3 (b := w.heap.size + 1) (heap_old _ (heap_old _ H4.out)))) | (with_reducible have H4 := Lib.hid (after_b hb3 (b := w.heap.size + 1) (heap_old _ (heap_old _ (heap_old _ H4.out))))) | (with_reducible have H4 := Lib.hid (after_b hb3 (b := w.heap.size + 1) (heap_old _ (heap_old _ (heap_old _ (heap_old _ H4.out)))))) | (with_reducible have H4 := Lib.hid (after_b hb3 (b := w.heap.size + 1) (heap_old _ (heap_old _ (heap_old _ (heap_old _ (heap_old _ H4.out)))))))
      have l3H4 : w.heap.size + 1 < w3.heap.size := (Array.getElem?_eq_some_iff.1 H4.out).1
      first | (with_reducible have H5 := Lib.hid (after_b hb3 (b := w.heap.size + 1 + 1) H5.out)) | (with_reducible have H5 := Lib.hid (after_b hb3 (b := w.heap.size + 1 + 1) (heap_old _ H5.out))) | (with_reducible have H5 := Lib.hid (after_b hb3 (b := w.heap.size + 1 + 1) (heap_old _ (heap_old _ H5.out)))) | (with_reducible have H5 := Lib.hid (after_b hb3 (b := w.heap.size + 1 + 1) (heap_old _ (heap_old _ (heap_old _ H5.out))))) | (with_reducible have H5 := Lib.hid (after_b hb3 (b := w.heap.size + 1 + 1) (heap_old _ (heap_old _ (heap_old _ (heap_old _ H5.out)))))) | (with_reducible have H5 := Lib.hid (after_b hb3 (b := w.heap.size + 1 + 1) (heap_old _ (heap_old _ (heap_old _ (heap_old _ (heap_old _ H5.out)))))))
      have l3H5 : w.heap.size + 1 + 1 < w3.heap.size := (Array.getElem?_eq_some_iff.1 H5.out).1
      first | (with_reducible have H6 := Lib.hid (after_b hb3 (b := w.heap.size + 1 + 1 + 1) H6.out)) | (with_reducible have H6 := Lib.hid (after_b hb3 (b := w.heap.size + 1 + 1 + 1) (heap_old _ H6.out))) | (with_reducible have H6 := Lib.hid (after_b hb3 (b := w.heap.size + 1 + 1 + 1) (heap_old _ (heap_old _ H6.out)))) | (with_reducible have H6 := Lib.hid (after_b hb3 (b := w.heap.size + 1 + 1 + 1) (heap_old _ (heap_old _ (heap_old _ H6.out))))) | (with_reducible have H6 := Lib.hid (after_b hb3 (b := w.heap.size + 1 + 1 + 1) (heap_old _ (heap_old _ (heap_old _ (heap_old _ H6.out)))))) | (with_reducible have H6 := Lib.hid (after_b hb3 (b := w.heap.size + 1 + 1 + 1) (heap_old _ (heap_old _ (heap_old _ (heap_old _ (heap_old _ H6.out)))))))
      have l3H6 : w.heap.size + 1 + 1 + 1 < w3.heap.size := (Array.getElem?_eq_some_iff.1 H6.out).1
      clear hb3
      clear l1H4 l1H5 l1H6 l2H4 l2H5 l2H6
      cases hp : pointB t v
      · rw [hp] at he
        subst he
        clear hp
        obtain ⟨cH6, fH6⟩ := blk H6.out
        go_wp2_with fail
        refine bodyPost_ret (v := .tuple #[.agg #[.int .i64 0, .int .i64 0], .bool false]) (by simp [results, Tryd.results15, go_sem, cH6]) rfl ?_
        exact ⟨rfl, (by repeat (first | exact B3.out | refine Below.alloc ?_ (by first | omega | (simp; omega) | simp) _ | refine below_set ?_ (by omega) _))⟩
      · rw [hp] at he
        subst he
        have hd := HD.out hp
        clear hp
        obtain ⟨cH4, fH4⟩ := blk H4.out
        obtain ⟨cH5, fH5⟩ := blk H5.out
        obtain ⟨cH6, fH6⟩ := blk H6.out
        go_wp2_with fail
        refine bodyPost_ret (v := .tuple #[.agg #[.int .i64 0, .int .i64 0], .bool false]) (by simp [results, Tryd.results15, go_sem, cH6]) rfl ?_
        exact ⟨rfl, (by repeat (first | exact B3.out | refine Below.alloc ?_ (by first | omega | (simp; omega) | simp) _ | refine below_set ?_ (by omega) _))⟩
end Go.Proofs.YtfhoalglgmdiaaaDoor
