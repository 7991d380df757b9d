/-
  From a function's contract over plain data to what the row asks of the call.
-/
import Derived.Test.YtiibfkekcdkjdaaSt
import Derived.Below
import Derived.ProofKit
import Derived.OpenShut
namespace Go.Proofs.Ytiibfkekcdkjdaa
open Go Go.RowKit Go.ChangeShapes Go.WideShapes

def frW (W : World) (b : Nat) : Nat := match W.heap[b]? with | some (.cells c _ _) => c.size | _ => 0
theorem frW_lt {W : World} {a : Addr} {v : Value} (h : W.cell? a = some v) : a.off < frW W a.block := by
  unfold World.cell? at h
  unfold frW
  split at h
  · rename_i h1
    rw [h1]
    split at h
    · cases h
    · exact (Array.getElem?_eq_some_iff.1 h).1
  · cases h
def ghW (W : World) : Gh := ⟨frW W, fun _ => 0, fun _ => 0, fun _ => False⟩
theorem glob_none (W : World) : Glob noG W (frW W) := fun i ds h => by cases h
theorem walk_of {P : Program} {G : Nat → Option (List D)} {f : FuncId} {args : List A} {vs : List Value} {W : World} {res : A} (hok : FnOk P G f args [] res []) (hg : Glob G W (frW W)) (hr : RelAs W (ghW W) W.heap.size args vs) (hres : res = .v false [.b true]) :
    Calls P f vs.toArray W fun e w' => e = .returned (.bool true) ∧ Below W.heap.size W w' := by
  subst hres
  refine (hok.2 W (ghW W) vs hg hr ⟨fun r => trivial, (fun r r' _ h => by cases h), (fun r _ h => by cases h)⟩ (fun r => ⟨fun h => h.elim, fun h => absurd h (Nat.not_lt_zero r)⟩)).mono fun e w' ⟨V, g', he, hp⟩ => ?_
  obtain ⟨c, hc, hv⟩ := hp.val
  cases hc
  cases hv
  exact ⟨he, hp.fr.os, hp.fr.tape, hp.fr.output, hp.fr.evo.size, fun b hb => hp.fr.keep b hb (fun r hr => absurd hr (Nat.not_lt_zero r))⟩

/-- A fresh row that is only read from now on. -/
theorem FnOk.freeze {P : Program} {G : Nat → Option (List D)} {f : FuncId} {args : List A} {e : TypeId} {fh : Bool} {n : Nat} {ds : List D} (h : FnOk P G f args [] (.v false [.own true 0 n]) [.arr e fh true n ds]) : FnOk P G f args [] (.v false [.sl fh true n ds]) [] := by
  refine ⟨h.1, fun w g vs h1 h2 h3 h4 => (h.2 w g vs h1 h2 h3 h4).mono fun ex w' ⟨V, g', he, hp⟩ => ?_⟩
  obtain ⟨c, hc, hv⟩ := hp.val
  cases hc
  obtain ⟨hb, hV⟩ := hv
  simp only [if_true] at hV
  have hok : ResOk P w' g' w.heap.size 0 (.arr e fh true n ds) := hp.mem.ok 0
  obtain ⟨_, hlen, hif⟩ := hok
  simp only [if_true] at hif
  obtain ⟨hfr0, cur, hheap, hn, hcap, hsz, hrel⟩ := hif
  have hown : w.heap.size ≤ g'.gb 0 := hp.mem.own 0 (Nat.zero_le _) rfl
  have hevo : Evo w' g'.fr w' (fun b => if b = g'.gb 0 then cur.size else g'.fr b) := ⟨Nat.le_refl _, fun b _ => by
    by_cases hbe : b = g'.gb 0
    · subst hbe; rw [hfr0]; exact Nat.zero_le _
    · rw [if_neg hbe]; exact Nat.le_refl _, fun a v _ h => h⟩
  have hg : ∀ (j : Nat) (d : D), ds[j]? = some d → cur[j]? = some (cur.getD j Go.undef) ∧ RelD w' (frOf fh w.heap.size g'.fr) d (cur.getD j Go.undef) := fun j d hj => by
    obtain ⟨v, e1, e2⟩ := hrel.get (j := j) (c := D.toC fh d) (by rw [List.getElem?_map, hj]; rfl)
    have e3 : cur[j]? = some v := by
      rw [List.getElem?_take] at e1
      split at e1
      · simpa using e1
      · cases e1
    have e4 : cur.getD j Go.undef = v := by simp [Array.getD_eq_getD_getElem?, e3]
    rw [e4]; exact ⟨e3, RelC.ofC e2⟩
  have hoff : ∀ j, ((⟨g'.gb 0, 0, none⟩ : Addr).add j).off = j := fun j => by unfold Addr.add; split <;> simp_all
  have hcell : ∀ j, w'.cell? ((⟨g'.gb 0, 0, none⟩ : Addr).add j) = cur[j]? := fun j => by
    have hsp : ((⟨g'.gb 0, 0, none⟩ : Addr).add j).spot = none := by unfold Addr.add; split <;> rfl
    unfold World.cell?
    rw [addr_block, hsp, hoff]
    dsimp only
    rw [hheap]; rfl
  refine ⟨V, ⟨fun b => if b = g'.gb 0 then cur.size else g'.fr b, g'.gb, g'.gc, fun _ => False⟩, he, ⟨⟨_, rfl, ?_⟩, ⟨fun r => trivial, (fun r r' _ h => by cases h), (fun r _ h => by cases h)⟩, ⟨hp.fr.os, hp.fr.tape, hp.fr.output, hp.fr.evo.trans hevo, hp.fr.keep, fun b hb' => ?_, fun r hr => absurd ((h4 r).1 hr) (Nat.not_lt_zero r)⟩, (fun r _ h => h), (fun r hr => absurd hr (Nat.not_lt_zero r))⟩⟩
  · rw [hV]
    refine .sl n ds _ (g'.gc 0) (fun j => cur.getD j Go.undef) hn hcap (fun j d hj => by rw [hcell]; exact (hg j d hj).1) (fun j d hj => ?_) (fun j d hj => (hg j d hj).2.evo (hevo.frOf fh _))
    rw [hoff]
    have : j < cur.size := (Array.getElem?_eq_some_iff.1 (hg j d hj).1).1
    show j < frOf fh w.heap.size (fun b => if b = g'.gb 0 then cur.size else g'.fr b) (g'.gb 0)
    unfold frOf restr
    split
    · show j < if g'.gb 0 < w.heap.size then 0 else if g'.gb 0 = g'.gb 0 then cur.size else g'.fr (g'.gb 0)
      rw [if_neg (by omega), if_pos rfl]; exact this
    · show j < if g'.gb 0 = g'.gb 0 then cur.size else g'.fr (g'.gb 0)
      rw [if_pos rfl]; exact this
  · show (if b = g'.gb 0 then cur.size else g'.fr b) = g.fr b
    rw [if_neg (by omega)]; exact hp.fr.frk b hb'
theorem nn_of {α : Type} {nn : Bool} {l : List α} {i : Nat} (h : nn = false → l = []) (hi : i < l.length) : nn = true := by
  cases nn
  · rw [h rfl] at hi; simp at hi
  · rfl
def bD (b : Nat) : D := .i .u8 b
theorem bytes_nil (W : World) : ∃ (nn : Bool) (l : List Nat), (nn = false → l = []) ∧ (∀ b ∈ l, b ≤ 255) ∧ RelA W (ghW W) W.heap.size (.v false [.sl false nn l.length (l.map bD)]) (.slice none 0 0) :=
  ⟨false, [], fun _ => rfl, (fun b h => by cases h), _, rfl, .nil⟩
theorem bytes_row {W : World} {x : Addr} {l c : Nat} {zs : List Int} (hl : l ≤ c) (hm : c ≤ maxLen) (hz : zs.length = c) (hcell : ∀ i, i < zs.length → W.cell? (x.add i) = some (.int .u8 (zs.getD i 0)))
    (hwf : ∀ n ∈ zs, (Lit.int .u8 n).wf = true) : ∃ (nn : Bool) (ks : List Nat), (nn = false → ks = []) ∧ (∀ b ∈ ks, b ≤ 255) ∧ RelA W (ghW W) W.heap.size (.v false [.sl false nn ks.length (ks.map bD)]) (.slice (some x) l c) := by
  have hbd : ∀ n ∈ zs, 0 ≤ n ∧ n ≤ 255 := fun n hn => by simpa [Lit.wf, IntKind.min, IntKind.max, IntKind.signed, IntKind.bits] using hwf n hn
  refine ⟨true, (zs.take l).map Int.toNat, (fun h => by cases h), fun b hb => ?_, ?_⟩
  · obtain ⟨n, hn, rfl⟩ := List.mem_map.1 hb
    have := hbd n (List.mem_of_mem_take hn)
    omega
  · refine ⟨_, rfl, ?_⟩
    have hlen : ((zs.take l).map Int.toNat).length = l := by simp; omega
    have key : ∀ (j : Nat) (y : D), (((zs.take l).map Int.toNat).map bD)[j]? = some y → j < zs.length ∧ y = .i .u8 (zs.getD j 0) := by
      intro j y hy
      simp only [List.getElem?_map, Option.map_map, Option.map_eq_some_iff] at hy
      obtain ⟨n, hn, rfl⟩ := hy
      have hn' : zs[j]? = some n := by
        rw [List.getElem?_take] at hn
        split at hn
        · exact hn
        · cases hn
      have hj := (List.getElem?_eq_some_iff.1 hn').1
      have hb := hbd n (List.mem_of_getElem? hn')
      refine ⟨hj, ?_⟩
      show D.i .u8 ((n.toNat : Nat) : Int) = _
      rw [Int.toNat_of_nonneg hb.1, List.getD_eq_getElem?_getD, hn']; rfl
    rw [hlen]
    refine .sl l _ x c (fun j => .int .u8 (zs.getD j 0)) hl hm (fun j y hy => hcell j (key j y hy).1) (fun j y hy => ?_) (fun j y hy => ?_)
    · have := frW_lt (hcell j (key j y hy).1)
      rwa [addr_block] at this
    · rw [(key j y hy).2]; exact .i _ _
theorem bounds_i64 {x : Int} (h : (Lit.int .i64 x).wf = true) : -9223372036854775808 ≤ x ∧ x ≤ 9223372036854775807 := by simpa [Lit.wf, IntKind.min, IntKind.max, IntKind.signed, IntKind.bits] using h
theorem rel_i (W : World) (x : Int) : RelA W (ghW W) W.heap.size (.v false [.i .i64 x]) (.int .i64 x) := ⟨_, rfl, rfl⟩
theorem rel_i2 (W : World) (x y : Int) : RelA W (ghW W) W.heap.size (.v true [.i .i64 x, .i .i64 y]) (.agg #[.int .i64 x, .int .i64 y]) := ⟨[.int .i64 x, .int .i64 y], rfl, rfl, rfl, trivial⟩
theorem rel_i3 (W : World) (x y z : Int) : RelA W (ghW W) W.heap.size (.v true [.i .i64 x, .i .i64 y, .i .i64 z]) (.agg #[.int .i64 x, .int .i64 y, .int .i64 z]) := ⟨[.int .i64 x, .int .i64 y, .int .i64 z], rfl, rfl, rfl, rfl, trivial⟩
end Go.Proofs.Ytiibfkekcdkjdaa
