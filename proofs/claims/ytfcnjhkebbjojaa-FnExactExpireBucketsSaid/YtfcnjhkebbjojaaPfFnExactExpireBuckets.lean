/-
  FnExactExpireBuckets: the call returns true whatever its arguments; nothing that was there is written.
-/
import Derived.Test.YtfcnjhkebbjojaaTx
import Derived.Test.YtfcnjhkebbjojaaOp
import Derived.ProofKit
import Derived.OpenShut
import Derived.ShutString
import Derived.ChangeOld
import Derived.Below
import Derived.Lib.SmallJoins
namespace Go.Proofs.Ytfcnjhkebbjojaa.fnExactExpireBuckets
open Go.ChangeShapes Go.WideShapes Go.ChangeAt Go.RowKit Go.Joins
set_option linter.unusedVariables false

theorem own : ownKnob Try.prog.godebug = none := by kernel_rfl
theorem laidOut : laidOutB Try.prog = true := by kernel_rfl

set_option maxRecDepth 100000 in
theorem lifted (os : Os) (started : os.Started) (H : Type) (enc : TypeId × Value → H) :
    ReturnsInHanded {} Try.checked os 9 .any (Rows.fnExactExpireBucketsSpec.pre6 enc Try.prog Try.f9 Rows.fnExactExpireBucketsRow.domain false) (Rows.fnExactExpireBucketsSpec.post enc Try.prog Try.f9 false true false false) := by
  refine returnsInHanded_of_change (C := Try.checked) own started (by kernel_rfl) Try.func9
    (ChangeSpec.witness6 (enc := enc) (C := Try.checked) false ⟨#[], #[.slice none 0 0, .int .i64 0, .slice none 0 0, .int .i64 0], []⟩ 8 (by kernel_rfl) (by kernel_rfl) (by kernel_rfl) (by kernel_rfl)) ?_
  intro W base args ds gs before hval0 hW hcnd _
  have hval : ∀ (j : Nat) t v, Try.f9.params[j]? = some t → args[j]? = some v → Value.okWide Try.prog W .any base t v := hval0
  have hW' := hW
  obtain ⟨p, q, hA0, hV, rfl, hfz, hnd⟩ := hW
  have hA : DataW.TrodAll enc Try.prog W 0 (fun _ => true) true Try.f9.params.toList args.toList ds p := hA0
  rw [Try.params9] at hA hval
  obtain ⟨v0, vs0, d0, ds0, p0, q0, hargs, rfl, rfl, h0, r0⟩ := trodAll_cons hA
  obtain ⟨v1, vs1, d1, ds1, p1, q1, rfl, rfl, rfl, h1, r1⟩ := trodAll_cons r0
  obtain ⟨v2, vs2, d2, ds2, p2, q2, rfl, rfl, rfl, h2, r2⟩ := trodAll_cons r1
  obtain ⟨v3, vs3, d3, ds3, p3, q3, rfl, rfl, rfl, h3, r3⟩ := trodAll_cons r2
  obtain ⟨rfl, rfl, rfl⟩ := trodAll_nil r3
  obtain rfl : args = #[v0, v1, v2, v3] := by cases args; simp_all
  obtain ⟨rfl, rfl⟩ := trodVars_none hV
  have k0 := h0
  have lt0 : ∀ x ∈ p0, x.block < W.heap.size := by obtain ⟨m, hm⟩ := k0; exact DataW.trod_lt m _ _ _ hm
  obtain ⟨a0, len0, cap0, rfl⟩ := okWide_slice Try.underlying30 (hval 0 30 v0 rfl rfl)
  obtain ⟨ds0, fl0, rl0⟩ := open_flat (show flat Try.prog 6 30 = some [.row [.i .i64, .i .i64]] by kernel_rfl) h0
  obtain ⟨dd0, du0, rfl, fd0, fe0⟩ := fl_cons fl0
  obtain rfl := fl_nil fe0
  obtain ⟨nn0, xs0, hn0, hw0, rfl⟩ := fl_row (f := tirD) fd0 (fun xs h => fl_i2 h)
  have rel0 : RelA W (ghW W) W.heap.size (.v false [.sl false nn0 xs0.length (xs0.flatMap tirD)]) (.slice a0 len0 cap0) := rel_one (d := .sl nn0 xs0.length (xs0.flatMap tirD)) rl0.1
  have hlx0 : xs0.length ≤ 9223372036854775807 := reld_len rl0.1
  have k1 := h1
  have lt1 : ∀ x ∈ p1, x.block < W.heap.size := by obtain ⟨m, hm⟩ := k1; exact DataW.trod_lt m _ _ _ hm
  obtain ⟨a1, rfl, rfl, rfl, w1⟩ := open_int Try.underlying3 (hval 1 3 v1 rfl rfl) h1
  have k2 := h2
  have lt2 : ∀ x ∈ p2, x.block < W.heap.size := by obtain ⟨m, hm⟩ := k2; exact DataW.trod_lt m _ _ _ hm
  obtain ⟨a2, len2, cap2, rfl⟩ := okWide_slice Try.underlying47 (hval 2 47 v2 rfl rfl)
  obtain ⟨ds2, fl2, rl2⟩ := open_flat (show flat Try.prog 6 47 = some [.row [.i .i64, .i .i64, .i .i64, .i .i64, .i .i64]] by kernel_rfl) h2
  obtain ⟨dd2, du2, rfl, fd2, fe2⟩ := fl_cons fl2
  obtain rfl := fl_nil fe2
  obtain ⟨nn2, xs2, hn2, hw2, rfl⟩ := fl_row (f := bktD) fd2 (fun xs h => fl_i5 h)
  have rel2 : RelA W (ghW W) W.heap.size (.v false [.sl false nn2 xs2.length (xs2.flatMap bktD)]) (.slice a2 len2 cap2) := rel_one (d := .sl nn2 xs2.length (xs2.flatMap bktD)) rl2.1
  have hlx2 : xs2.length ≤ 9223372036854775807 := reld_len rl2.1
  have k3 := h3
  have lt3 : ∀ x ∈ p3, x.block < W.heap.size := by obtain ⟨m, hm⟩ := k3; exact DataW.trod_lt m _ _ _ hm
  obtain ⟨a3, rfl, rfl, rfl, w3⟩ := open_int Try.underlying3 (hval 3 3 v3 rfl rfl) h3
  clear hA0 hval0
  refine (walk_of (vs := [_, _, _, _]) (FnExactExpireBuckets_ok nn0 xs0 a1 nn2 xs2 a3 hn0 hlx0  hn2 hlx2 ) (glob_none W) ⟨rel0, (rel_i W a1), rel2, (rel_i W a3), trivial⟩ rfl).mono fun e W' ⟨he, bel⟩ => ?_
  subst he
  exact ⟨_, rfl, _, _, _, [], _, [], hW', trodAll_mk1 (shut_bool Try.underlying4 _), (trodAll_cons_mk (Below.trod laidOut (by kernel_rfl) (of_decide_eq_true (by kernel_rfl)) k0 bel lt0) (trodAll_cons_mk (Below.trod laidOut (by kernel_rfl) (of_decide_eq_true (by kernel_rfl)) k1 bel lt1) (trodAll_cons_mk (Below.trod laidOut (by kernel_rfl) (of_decide_eq_true (by kernel_rfl)) k2 bel lt2) (trodAll_cons_mk (Below.trod laidOut (by kernel_rfl) (of_decide_eq_true (by kernel_rfl)) k3 bel lt3) trodAll_mk0)))), rfl, bel.frame _, fun h => by cases h⟩

theorem over : Rows.fnExactExpireBucketsRow.holds Try.pinned (OpenSpec.ofChange Rows.fnExactExpireBucketsSpec) :=
  OpenClaim.holds_of_wide 9 Try.f9 rfl rfl rfl rfl rfl rfl rfl ⟨rfl, rfl, rfl, rfl, rfl⟩ rfl rfl rfl rfl rfl (by kernel_rfl) Try.func9 (by kernel_rfl)
    (of_decide_eq_true (by kernel_rfl)) (by unfold Func.isWrapper; first | (rw [if_pos (by decide +kernel)]; kernel_rfl) | (rw [if_neg (by decide +kernel)]; exact ⟨rfl, rfl⟩))
    (fun os started H enc _ => lifted os started H enc)

theorem proved : Rows.FnExactExpireBucketsSaid := over
end Go.Proofs.Ytfcnjhkebbjojaa.fnExactExpireBuckets
