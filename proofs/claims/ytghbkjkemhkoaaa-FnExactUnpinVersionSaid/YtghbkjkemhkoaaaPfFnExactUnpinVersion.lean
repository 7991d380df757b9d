/-
  FnExactUnpinVersion: the call returns true whatever its arguments; nothing that was there is written.
-/
import Derived.Test.YtghbkjkemhkoaaaVxu
import Derived.Test.YtghbkjkemhkoaaaOp
import Derived.ProofKit
import Derived.OpenShut
import Derived.ShutString
import Derived.ChangeOld
import Derived.Below
import Derived.Lib.SmallJoins
namespace Go.Proofs.Ytghbkjkemhkoaaa.fnExactUnpinVersion
open Go.ChangeShapes Go.WideShapes Go.ChangeAt Go.RowKit Go.Joins
set_option linter.unusedVariables false

theorem own : ownKnob Try.prog.godebug = none := by kernel_rfl
theorem laidOut : laidOutB Try.prog = true := by kernel_rfl

set_option maxRecDepth 100000 in
theorem lifted (os : Os) (started : os.Started) (H : Type) (enc : TypeId × Value → H) :
    ReturnsInHanded {} Try.checked os 14 .any (Rows.fnExactUnpinVersionSpec.pre6 enc Try.prog Try.f14 Rows.fnExactUnpinVersionRow.domain false) (Rows.fnExactUnpinVersionSpec.post enc Try.prog Try.f14 false true false false) := by
  refine returnsInHanded_of_change (C := Try.checked) own started (by kernel_rfl) Try.func14
    (ChangeSpec.witness6 (enc := enc) (C := Try.checked) false ⟨#[], #[.agg #[.slice none 0 0, .int .i64 0, .slice none 0 0], .int .i64 0], []⟩ 8 (by kernel_rfl) (by kernel_rfl) (by kernel_rfl) (by kernel_rfl)) ?_
  intro W base args ds gs before hval0 hW hcnd _
  have hval : ∀ (j : Nat) t v, Try.f14.params[j]? = some t → args[j]? = some v → Value.okWide Try.prog W .any base t v := hval0
  have hW' := hW
  obtain ⟨p, q, hA0, hV, rfl, hfz, hnd⟩ := hW
  have hA : DataW.TrodAll enc Try.prog W 0 (fun _ => true) true Try.f14.params.toList args.toList ds p := hA0
  rw [Try.params14] at hA hval
  obtain ⟨v0, vs0, d0, ds0, p0, q0, hargs, rfl, rfl, h0, r0⟩ := trodAll_cons hA
  obtain ⟨v1, vs1, d1, ds1, p1, q1, rfl, rfl, rfl, h1, r1⟩ := trodAll_cons r0
  obtain ⟨rfl, rfl, rfl⟩ := trodAll_nil r1
  obtain rfl : args = #[v0, v1] := by cases args; simp_all
  obtain ⟨rfl, rfl⟩ := trodVars_none hV
  have k0 := h0
  have lt0 : ∀ x ∈ p0, x.block < W.heap.size := by obtain ⟨m, hm⟩ := k0; exact DataW.trod_lt m _ _ _ hm
  obtain ⟨cs0, rfl, csz0⟩ := okWide_struct Try.underlying32 (hval 0 32 v0 rfl rfl)
  obtain ⟨ds0, fl0, rl0⟩ := open_flat (show flat Try.prog 6 32 = some [.row [.i .i64, .i .i64], .i .i64, .row [.i .i64]] by kernel_rfl) h0
  obtain ⟨da0, du0, rfl, fa0, fe0⟩ := fl_cons fl0
  obtain ⟨db0, dv0, rfl, fb0, ff0⟩ := fl_cons fe0
  obtain ⟨dc0, dw0, rfl, fc0, fg0⟩ := fl_cons ff0
  obtain rfl := fl_nil fg0
  obtain ⟨na0, xa0, ha0, hwa0, rfl⟩ := fl_row (f := pntD) fa0 (fun xs h => fl_i2 h)
  obtain ⟨z0, rfl, wz0⟩ := fl_i fb0
  obtain ⟨nc0, xc0, hc0, hwc0, rfl⟩ := fl_row (f := intD) fc0 (fun xs h => fl_i1 h)
  have rel0 := ver_open (v := (xa0, z0, xc0)) rl0
  obtain ⟨hla0, hlc0⟩ := ver_len rl0
  have k1 := h1
  have lt1 : ∀ x ∈ p1, x.block < W.heap.size := by obtain ⟨m, hm⟩ := k1; exact DataW.trod_lt m _ _ _ hm
  obtain ⟨a1, rfl, rfl, rfl, w1⟩ := open_int Try.underlying3 (hval 1 3 v1 rfl rfl) h1
  clear hA0 hval0
  refine (walk_of (vs := [_, _]) (FnExactUnpinVersion_ok na0 nc0 (xa0, z0, xc0) a1 ha0 hla0 hc0 hlc0 ) (glob_none W) ⟨rel0, (rel_i W a1), trivial⟩ rfl).mono fun e W' ⟨he, bel⟩ => ?_
  subst he
  exact ⟨_, rfl, _, _, _, [], _, [], hW', trodAll_mk1 (shut_bool Try.underlying4 _), (trodAll_cons_mk (Below.trod laidOut (by kernel_rfl) (of_decide_eq_true (by kernel_rfl)) k0 bel lt0) (trodAll_cons_mk (Below.trod laidOut (by kernel_rfl) (of_decide_eq_true (by kernel_rfl)) k1 bel lt1) trodAll_mk0)), rfl, bel.frame _, fun h => by cases h⟩

theorem over : Rows.fnExactUnpinVersionRow.holds Try.pinned (OpenSpec.ofChange Rows.fnExactUnpinVersionSpec) :=
  OpenClaim.holds_of_wide 14 Try.f14 rfl rfl rfl rfl rfl rfl rfl ⟨rfl, rfl, rfl, rfl, rfl⟩ rfl rfl rfl rfl rfl (by kernel_rfl) Try.func14 (by kernel_rfl)
    (of_decide_eq_true (by kernel_rfl)) (by unfold Func.isWrapper; first | (rw [if_pos (by decide +kernel)]; kernel_rfl) | (rw [if_neg (by decide +kernel)]; exact ⟨rfl, rfl⟩))
    (fun os started H enc _ => lifted os started H enc)

theorem proved : Rows.FnExactUnpinVersionSaid := over
end Go.Proofs.Ytghbkjkemhkoaaa.fnExactUnpinVersion
