/-
  FnValidRule: the walk.
-/
import Derived.Test.YtfhoalglgmdiaaaDr
import Derived.Test.YtfhoalglgmdiaaaRu
namespace Go.Proofs.Ytfhoalglgmdiaaa
open Go.RowKit

set_option maxHeartbeats 400000 in
theorem walkValidRule (ao : Option Addr) (len cap : Nat) (w : World) (hl : len ≤ cap) (hm : cap ≤ maxLen) (h : Code w ao len) :
    Calls Try.prog 4 #[.slice ao len cap] w fun e w' => e = .returned (.bool true) ∧ Below w.heap.size w w' := by
  have HH := Lib.hid h
  clear h
  have B0 := Lib.hid (Below.refl w.heap.size w)
  by_cases hbig : 1048576 < len
  · have hb' : (1048576 : Int) < (len : Int) := by omega
    go_enter Try.func4, Try.ntmps4
    go_wp2
    go_ret
    exact ⟨rfl, Below.refl _ _⟩
  · have hb' : ¬ (1048576 : Int) < (len : Int) := by omega
    go_enter Try.func4, Try.ntmps4
    go_wp2_with fail
    with_reducible refine (drawValidRule_any ao len cap _ hl hm HH.out).mono ?_
    rintro e w1 ⟨a, h, c, rfl, hb1⟩
    have B1 := Lib.hid (Below.trans (B := w.heap.size) (a := w) (by repeat (first | exact B0.out | refine Below.alloc ?_ (by first | omega | (simp; omega) | simp) _ | refine below_set ?_ (by omega) _)) (hb1.mono (by first | omega | (simp; omega) | simp)))
    have l1 : w.heap.size ≤ w1.heap.size := B1.out.size
    clear hb1
    have H3 := Lib.hid (heap_new w1 (.cells #[.int .i64 a, .int .i64 h, .int .i64 c] 25) _ rfl)
    go_wp2_with fail
    with_reducible refine (implValidRule a h c _).mono ?_
    rintro e w2 ⟨rfl, hb2⟩
    have B2 := Lib.hid (Below.trans (B := w.heap.size) (a := w) (by repeat (first | exact B1.out | refine Below.alloc ?_ (by first | omega | (simp; omega) | simp) _ | refine below_set ?_ (by omega) _)) (hb2.mono (by first | omega | (simp; omega) | simp)))
    have l2 : w.heap.size ≤ w2.heap.size := B2.out.size
    first | (with_reducible have H3 := Lib.hid (after_b hb2 (b := w1.heap.size) H3.out)) | (with_reducible have H3 := Lib.hid (after_b hb2 (b := w1.heap.size) (heap_old _ H3.out))) | (with_reducible have H3 := Lib.hid (after_b hb2 (b := w1.heap.size) (heap_old _ (heap_old _ H3.out)))) | (with_reducible have H3 := Lib.hid (after_b hb2 (b := w1.heap.size) (heap_old _ (heap_old _ (heap_old _ H3.out))))) | (with_reducible have H3 := Lib.hid (after_b hb2 (b := w1.heap.size) (heap_old _ (heap_old _ (heap_old _ (heap_old _ H3.out)))))) | (with_reducible have H3 := Lib.hid (after_b hb2 (b := w1.heap.size) (heap_old _ (heap_old _ (heap_old _ (heap_old _ (heap_old _ H3.out)))))))
    have l2H3 : w1.heap.size < w2.heap.size := (Array.getElem?_eq_some_iff.1 H3.out).1
    clear hb2
    obtain ⟨cH3, fH3⟩ := blk H3.out
    go_wp2_with fail
    clear cH3 fH3
    with_reducible refine (specValidRule a h c _).mono ?_
    rintro e w3 ⟨rfl, hb3⟩
    have B3 := Lib.hid (Below.trans (B := w.heap.size) (a := w) (by repeat (first | exact B2.out | refine Below.alloc ?_ (by first | omega | (simp; omega) | simp) _ | refine below_set ?_ (by omega) _)) (hb3.mono (by first | omega | (simp; omega) | simp)))
    have l3 : w.heap.size ≤ w3.heap.size := B3.out.size
    first | (with_reducible have H3 := Lib.hid (after_b hb3 (b := w1.heap.size) H3.out)) | (with_reducible have H3 := Lib.hid (after_b hb3 (b := w1.heap.size) (heap_old _ H3.out))) | (with_reducible have H3 := Lib.hid (after_b hb3 (b := w1.heap.size) (heap_old _ (heap_old _ H3.out)))) | (with_reducible have H3 := Lib.hid (after_b hb3 (b := w1.heap.size) (heap_old _ (heap_old _ (heap_old _ H3.out))))) | (with_reducible have H3 := Lib.hid (after_b hb3 (b := w1.heap.size) (heap_old _ (heap_old _ (heap_old _ (heap_old _ H3.out)))))) | (with_reducible have H3 := Lib.hid (after_b hb3 (b := w1.heap.size) (heap_old _ (heap_old _ (heap_old _ (heap_old _ (heap_old _ H3.out)))))))
    have l3H3 : w1.heap.size < w3.heap.size := (Array.getElem?_eq_some_iff.1 H3.out).1
    clear hb3
    obtain ⟨cH3, fH3⟩ := blk H3.out
    cases hr : ruleB a h c
    · have HR := Lib.hid hr
      clear hr
      go_wp2_with fail
      with_reducible refine (specValidRule a h c _).mono ?_
      rintro e w4 ⟨he, hb4⟩
      have B4 := Lib.hid (Below.trans (B := w.heap.size) (a := w) (by repeat (first | exact B3.out | refine Below.alloc ?_ (by first | omega | (simp; omega) | simp) _ | refine below_set ?_ (by omega) _)) (hb4.mono (by first | omega | (simp; omega) | simp)))
      have l4 : w.heap.size ≤ w4.heap.size := B4.out.size
      clear hb4
      rw [HR.out] at he
      subst he
      go_wp2_with fail
      go_ret
      exact ⟨rfl, (by repeat (first | exact B4.out | refine Below.alloc ?_ (by first | omega | (simp; omega) | simp) _ | refine below_set ?_ (by omega) _))⟩
    · have h1 : ruleB a 0 0 = true := by unfold ruleB at hr ⊢; simp at hr ⊢; omega
      have h2 : ruleB a (-1) 0 = false := by unfold ruleB; simp
      have HR := Lib.hid hr
      have H1 := Lib.hid h1
      have H2 := Lib.hid h2
      clear hr h1 h2
      go_wp2_with fail
      with_reducible refine (implValidRule a 0 0 _).mono ?_
      rintro e w4 ⟨he, hb4⟩
      have B4 := Lib.hid (Below.trans (B := w.heap.size) (a := w) (by repeat (first | exact B3.out | refine Below.alloc ?_ (by first | omega | (simp; omega) | simp) _ | refine below_set ?_ (by omega) _)) (hb4.mono (by first | omega | (simp; omega) | simp)))
      have l4 : w.heap.size ≤ w4.heap.size := B4.out.size
      first | (with_reducible have H3 := Lib.hid (after_b hb4 (b := w1.heap.size) H3.out)) | (with_reducible have H3 := Lib.hid (after_b hb4 (b := w1.heap.size) (heap_old _ H3.out))) | (with_reducible have H3 := Lib.hid (after_b hb4 (b := w1.heap.size) (heap_old _ (heap_old _ H3.out)))) | (with_reducible have H3 := Lib.hid (after_b hb4 (b := w1.heap.size) (heap_old _ (heap_old _ (heap_old _ H3.out))))) | (with_reducible have H3 := Lib.hid (after_b hb4 (b := w1.heap.size) (heap_old _ (heap_old _ (heap_old _ (heap_old _ H3.out)))))) | (with_reducible have H3 := Lib.hid (after_b hb4 (b := w1.heap.size) (heap_old _ (heap_old _ (heap_old _ (heap_old _ (heap_old _ H3.out)))))))
      have l4H3 : w1.heap.size < w4.heap.size := (Array.getElem?_eq_some_iff.1 H3.out).1
      clear hb4
      rw [H1.out] at he
      subst he
      clear cH3 fH3
      obtain ⟨cH3, fH3⟩ := blk H3.out
      go_wp2_with fail
      with_reducible refine (implValidRule a (-1) 0 _).mono ?_
      rintro e w5 ⟨he, hb5⟩
      have B5 := Lib.hid (Below.trans (B := w.heap.size) (a := w) (by repeat (first | exact B4.out | refine Below.alloc ?_ (by first | omega | (simp; omega) | simp) _ | refine below_set ?_ (by omega) _)) (hb5.mono (by first | omega | (simp; omega) | simp)))
      have l5 : w.heap.size ≤ w5.heap.size := B5.out.size
      clear hb5
      rw [H2.out] at he
      subst he
      go_wp2_with fail
      go_ret
      exact ⟨rfl, (by repeat (first | exact B5.out | refine Below.alloc ?_ (by first | omega | (simp; omega) | simp) _ | refine below_set ?_ (by omega) _))⟩
end Go.Proofs.Ytfhoalglgmdiaaa
