/-
  From a function's contract over plain data to what the row asks of the call.
-/
import Derived.Test.YtiibfkekcdkjdaaSt
import Derived.Below
import Derived.ProofKit
import Derived.OpenShut
namespace Go.Proofs.Ytiibfkekcdkjdaa
open Go Go.RowKit Go.ChangeShapes Go.WideShapes

def frW (W : World) (b : Nat) : Nat := match W.heap[b]? with | some (.cells c _ _) => c.size | _ => 0
theorem frW_lt {W : World} {a : Addr} {v : Value} (h : W.cell? a = some v) : a.off < frW W a.block := by
  unfold World.cell? at h
  unfold frW
  split at h
  · rename_i h1
    rw [h1]
    split at h
    · cases h
    · exact (Array.getElem?_eq_some_iff.1 h).1
  · cases h
def ghW (W : World) : Gh := ⟨frW W, fun _ => 0, fun _ => 0, fun _ => False⟩
theorem glob_none (W : World) : Glob noG W (frW W) := fun i ds h => by cases h
theorem walk_of {P : Program} {G : Nat → Option (List D)} {f : FuncId} {args : List A} {vs : List Value} {W : World} {res : A} (hok : FnOk P G f args [] res []) (hg : Glob G W (frW W)) (hr : RelAs W (ghW W) W.heap.size args vs) (hres : res = .v false [.b true]) :
    Calls P f vs.toArray W fun e w' => e = .returned (.bool true) ∧ Below W.heap.size W w' := by
  subst hres
  refine (hok.2 W (ghW W) vs hg hr ⟨fun r => trivial, (fun r r' _ h => by cases h), (fun r _ h => by cases h)⟩ (fun r => ⟨fun h => h.elim, fun h => absurd h (Nat.not_lt_zero r)⟩)).mono fun e w' ⟨V, g', he, hp⟩ => ?_
  obtain ⟨c, hc, hv⟩ := hp.val
  cases hc
  cases hv
  exact ⟨he, hp.fr.os, hp.fr.tape, hp.fr.output, hp.fr.evo.size, fun b hb => hp.fr.keep b hb (fun r hr => absurd hr (Nat.not_lt_zero r))⟩

theorem nn_of {α : Type} {nn : Bool} {l : List α} {i : Nat} (h : nn = false → l = []) (hi : i < l.length) : nn = true := by
  cases nn
  · rw [h rfl] at hi; simp at hi
  · rfl
def bD (b : Nat) : D := .i .u8 b
theorem bytes_nil (W : World) : ∃ (nn : Bool) (l : List Nat), (nn = false → l = []) ∧ (∀ b ∈ l, b ≤ 255) ∧ RelA W (ghW W) W.heap.size (.v false [.sl false nn l.length (l.map bD)]) (.slice none 0 0) :=
  ⟨false, [], fun _ => rfl, (fun b h => by cases h), _, rfl, .nil⟩
theorem bytes_row {W : World} {x : Addr} {l c : Nat} {zs : List Int} (hl : l ≤ c) (hm : c ≤ maxLen) (hz : zs.length = c) (hcell : ∀ i, i < zs.length → W.cell? (x.add i) = some (.int .u8 (zs.getD i 0)))
    (hwf : ∀ n ∈ zs, (Lit.int .u8 n).wf = true) : ∃ (nn : Bool) (ks : List Nat), (nn = false → ks = []) ∧ (∀ b ∈ ks, b ≤ 255) ∧ RelA W (ghW W) W.heap.size (.v false [.sl false nn ks.length (ks.map bD)]) (.slice (some x) l c) := by
  have hbd : ∀ n ∈ zs, 0 ≤ n ∧ n ≤ 255 := fun n hn => by simpa [Lit.wf, IntKind.min, IntKind.max, IntKind.signed, IntKind.bits] using hwf n hn
  refine ⟨true, (zs.take l).map Int.toNat, (fun h => by cases h), fun b hb => ?_, ?_⟩
  · obtain ⟨n, hn, rfl⟩ := List.mem_map.1 hb
    have := hbd n (List.mem_of_mem_take hn)
    omega
  · refine ⟨_, rfl, ?_⟩
    have hlen : ((zs.take l).map Int.toNat).length = l := by simp; omega
    have key : ∀ (j : Nat) (y : D), (((zs.take l).map Int.toNat).map bD)[j]? = some y → j < zs.length ∧ y = .i .u8 (zs.getD j 0) := by
      intro j y hy
      simp only [List.getElem?_map, Option.map_map, Option.map_eq_some_iff] at hy
      obtain ⟨n, hn, rfl⟩ := hy
      have hn' : zs[j]? = some n := by
        rw [List.getElem?_take] at hn
        split at hn
        · exact hn
        · cases hn
      have hj := (List.getElem?_eq_some_iff.1 hn').1
      have hb := hbd n (List.mem_of_getElem? hn')
      refine ⟨hj, ?_⟩
      show D.i .u8 ((n.toNat : Nat) : Int) = _
      rw [Int.toNat_of_nonneg hb.1, List.getD_eq_getElem?_getD, hn']; rfl
    rw [hlen]
    refine .sl l _ x c (fun j => .int .u8 (zs.getD j 0)) hl hm (fun j y hy => hcell j (key j y hy).1) (fun j y hy => ?_) (fun j y hy => ?_)
    · have := frW_lt (hcell j (key j y hy).1)
      rwa [addr_block] at this
    · rw [(key j y hy).2]; exact .i _ _
theorem bounds_i64 {x : Int} (h : (Lit.int .i64 x).wf = true) : -9223372036854775808 ≤ x ∧ x ≤ 9223372036854775807 := by simpa [Lit.wf, IntKind.min, IntKind.max, IntKind.signed, IntKind.bits] using h
theorem rel_i (W : World) (x : Int) : RelA W (ghW W) W.heap.size (.v false [.i .i64 x]) (.int .i64 x) := ⟨_, rfl, rfl⟩
theorem rel_i2 (W : World) (x y : Int) : RelA W (ghW W) W.heap.size (.v true [.i .i64 x, .i .i64 y]) (.agg #[.int .i64 x, .int .i64 y]) := ⟨[.int .i64 x, .int .i64 y], rfl, rfl, rfl, trivial⟩
theorem rel_i3 (W : World) (x y z : Int) : RelA W (ghW W) W.heap.size (.v true [.i .i64 x, .i .i64 y, .i .i64 z]) (.agg #[.int .i64 x, .int .i64 y, .int .i64 z]) := ⟨[.int .i64 x, .int .i64 y, .int .i64 z], rfl, rfl, rfl, rfl, trivial⟩
end Go.Proofs.Ytiibfkekcdkjdaa
