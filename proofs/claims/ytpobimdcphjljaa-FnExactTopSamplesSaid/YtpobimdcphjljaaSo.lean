/-
  Samples as arguments, opened.
-/
import Derived.Test.YtpobimdcphjljaaSy
import Derived.Test.YtpobimdcphjljaaOp
namespace Go.Proofs.Ytpobimdcphjljaa
open Go
set_option linter.unusedVariables false
set_option linter.unusedSimpArgs false
set_option linter.unnecessarySimpa false
set_option maxRecDepth 4000

theorem fl_lab {xs : List D} (h : FlL [.s, .s] xs) : ∃ x : labT, xs = labD x ∧ x.1.size ≤ 9223372036854775807 ∧ x.2.size ≤ 9223372036854775807 := by
  have hm : maxLen ≤ 9223372036854775807 := by decide
  obtain ⟨d0, _, rfl, h0, h⟩ := fl_cons h
  obtain ⟨d1, _, rfl, h1, h⟩ := fl_cons h
  obtain rfl := fl_nil h
  obtain ⟨x, rfl, wx⟩ := fl_s h0
  obtain ⟨y, rfl, wy⟩ := fl_s h1
  exact ⟨(x, y), rfl, by dsimp only; omega, by dsimp only; omega⟩
theorem fl_sam {xs : List D} (h : FlL [.row [.s, .s], .i .i64] xs) : ∃ x : samT, xs = samD x ∧ (∀ y ∈ x.2.1, y.1.size ≤ 9223372036854775807 ∧ y.2.size ≤ 9223372036854775807) ∧ (x.1 = false → x.2.1 = []) ∧ wfI x.2.2 := by
  obtain ⟨d0, _, rfl, h0, h⟩ := fl_cons h
  obtain ⟨z, rfl, wz⟩ := fl_i1 h
  obtain ⟨nn, ls, hn, hp, rfl⟩ := fl_row (f := labD) h0 (fun xs h => fl_lab h)
  exact ⟨(nn, ls, z), rfl, hp, hn, wz⟩
theorem sam_len {w : World} {fr : Nat → Nat} {nn : Bool} {xs : List samT} {v : Value} (h : RelD w fr (.sl nn xs.length (xs.flatMap samD)) v) : ∀ x ∈ xs, x.2.1.length ≤ 9223372036854775807 := by
  intro x hx
  obtain ⟨i, hi, rfl⟩ := List.getElem_of_mem hx
  have hd := flat_at samD 2 samD_len xs i hi
  have hg : (xs.flatMap samD)[i * 2]? = some (.sl xs[i].1 xs[i].2.1.length (xs[i].2.1.flatMap labD)) := by
    have e : (List.drop (i * 2) (xs.flatMap samD))[0]? = (samD xs[i] ++ (xs.drop (i + 1)).flatMap samD)[0]? := by rw [← hd, Int.toNat_natCast]
    rw [List.getElem?_drop] at e
    simpa [samD] using e
  revert hg
  generalize xs.flatMap samD = ds at h
  generalize xs.length = n at h
  intro hg
  cases h with
  | nil => simp at hg
  | sl _ _ a cap vs hn hc h1 h2 h3 => exact reld_len (h3 _ _ hg)
theorem open_samples {w : World} {d : D} {v : Value} (fd : FlD (.row [.row [.s, .s], .i .i64]) d) (r : RelD w (frW w) d v) : ∃ (nn : Bool) (xs : List samT), (nn = false → xs = []) ∧ rawS xs ∧ (∀ x ∈ xs, wfI x.2.2) ∧ RelA w (ghW w) w.heap.size (.v false [.sl false nn xs.length (xs.flatMap samD)]) v := by
  obtain ⟨nn, xs, hn, hp, rfl⟩ := fl_row (f := samD) fd (fun xs h => fl_sam h)
  exact ⟨nn, xs, hn, ⟨reld_len r, fun x hx => ⟨sam_len r x hx, (hp x hx).1, (hp x hx).2.1⟩⟩, fun x hx => (hp x hx).2.2, rel_one (d := .sl nn xs.length (xs.flatMap samD)) r⟩
end Go.Proofs.Ytpobimdcphjljaa
