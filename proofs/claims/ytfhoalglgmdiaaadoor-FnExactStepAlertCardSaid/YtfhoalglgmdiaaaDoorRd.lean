/-
  The reader of the drawn arguments: its numbers are in their range.
-/
import Derived.Test.YtfhoalglgmdiaaaDoorRows
import Derived.WalkKit
import Derived.WalkSpells
import Derived.WalkLawsBesides
import Derived.Handy
import Derived.Deep.QuietTactic
import Derived.BigQuiet
import Derived.Lib.Hide
import Derived.Laws.BitsAllLaws
import Derived.Laws.BitsLemmas
namespace Go.Proofs.YtfhoalglgmdiaaaDoor
open Go.RowKit

theorem add_block (a : Addr) (i : Nat) : (a.add i).block = a.block := by unfold Addr.add; split <;> rfl

/-- The reader at block rb has read at most B numbers. -/
structure Rdr (w : World) (rb : Nat) (B : Nat) : Prop where
  ex : ∃ (p : Nat) (ao : Option Addr) (len cap : Nat) (code : Nat → Nat), p ≤ B ∧ w.heap[rb]? = some (.cells #[.slice ao len cap, .int .i64 p] 74 (0, 0)) ∧ len ≤ 2000 ∧
    (∀ i, i < len → ∃ a, ao = some a ∧ a.block < rb ∧ w.cell? (a.add i) = some (.int .u8 (code i)) ∧ code i ≤ 255)

theorem grown_setCell (w : World) (a : Addr) (v : Value) {rb : Nat} (h : a.block = rb) : w.grownBy (w.setCell a v) (some rb) :=
  ⟨rfl, rfl, rfl, by simp [World.setCell], fun k _ hne => Below.heap_setCell _ _ _ _ (fun e => hne (by rw [e, h]))⟩

theorem rdr_step {w : World} {rb p : Nat} {ao : Option Addr} {len cap : Nat} {code : Nat → Nat} {v : Value} (hb : w.heap[rb]? = some (.cells #[.slice ao len cap, v] 74 (0, 0))) (hlen : len ≤ 2000)
    (hc : ∀ i, i < len → ∃ a, ao = some a ∧ a.block < rb ∧ w.cell? (a.add i) = some (.int .u8 (code i)) ∧ code i ≤ 255) :
    Rdr (w.setCell ⟨rb, 1, none⟩ (.int .i64 ((p : Int) + 1))) rb (p + 1) := by
  refine ⟨p + 1, ao, len, cap, code, Nat.le_refl _, ?_, hlen, fun i hi => ?_⟩
  · simp [World.setCell, Array.getElem?_modify, hb]
  · obtain ⟨a, h1, h2, h3, h4⟩ := hc i hi
    exact ⟨a, h1, h2, by rw [World.cell?_of_block (Below.heap_setCell _ _ _ _ (by rw [add_block]; exact Nat.ne_of_lt h2))]; exact h3, h4⟩

theorem rdr_drewN {w : World} {rb p : Nat} (h : Rdr w rb p) (n : Nat) : Rdr (w.drewN n) rb p := by
  obtain ⟨p, ao, len, cap, code, h0, h1, h2, h3⟩ := h.ex
  exact ⟨p, ao, len, cap, code, h0, h1, h2, h3⟩
theorem Rdr.lt {w : World} {rb p : Nat} (h : Rdr w rb p) : rb < w.heap.size := by
  obtain ⟨p, ao, len, cap, code, h0, h1, h2, h3⟩ := h.ex
  exact (Array.getElem?_eq_some_iff.1 h1).1
theorem Rdr.mono {w : World} {rb p q : Nat} (h : Rdr w rb p) (hq : p ≤ q) : Rdr w rb q := by
  obtain ⟨p, ao, len, cap, code, h0, h1, h2, h3⟩ := h.ex
  exact ⟨p, ao, len, cap, code, Nat.le_trans h0 hq, h1, h2, h3⟩
/-- What writes elsewhere leaves the reader as it was. -/
theorem Rdr.kept {w w' : World} {rb p : Nat} (h : Rdr w rb p) (hg : w.grownBy w' none) : Rdr w' rb p := by
  have hl := h.lt
  obtain ⟨p, ao, len, cap, code, h0, h1, h2, h3⟩ := h.ex
  refine ⟨p, ao, len, cap, code, h0, (hg.block _ hl (by simp)).trans h1, h2, fun i hi => ?_⟩
  obtain ⟨a, e1, e2, e3, e4⟩ := h3 i hi
  exact ⟨a, e1, e2, hg.cell e3 (by simp), e4⟩
theorem Rdr.keptBy {w w' : World} {rb p : Nat} {row : Option Nat} (h : Rdr w rb p) (hg : w.grownBy w' row) (hrow : ∀ k, row = some k → rb < k) : Rdr w' rb p := by
  have hl := h.lt
  obtain ⟨p, ao, len, cap, code, h0, h1, h2, h3⟩ := h.ex
  refine ⟨p, ao, len, cap, code, h0, (hg.block _ hl (fun e => absurd (hrow _ e.symm) (by omega))).trans h1, h2, fun i hi => ?_⟩
  obtain ⟨a, e1, e2, e3, e4⟩ := h3 i hi
  exact ⟨a, e1, e2, hg.cell e3 (fun e => absurd (hrow _ e.symm) (by rw [add_block]; omega)), e4⟩
theorem Rdr.set {w : World} {rb p b o : Nat} {s : Option Nat} (h : Rdr w rb p) (ha : rb < b) (v : Value) : Rdr (w.setCell ⟨b, o, s⟩ v) rb p :=
  h.keptBy (row := some b) ⟨rfl, rfl, rfl, by simp [World.setCell], fun k _ hne => Below.heap_setCell _ _ _ _ (fun e => hne (by rw [e]))⟩ (fun k hk => by cases hk; exact ha)
theorem Rdr.alloc {w : World} {rb p : Nat} (h : Rdr w rb p) (o : Obj) : Rdr (w.alloc o) rb p := h.kept (World.grownBy_alloc w o none)
theorem grown_drewN {a w : World} {row : Option Nat} (h : a.grownBy w row) (n : Nat) : a.grownBy (w.drewN n) row := ⟨h.os, h.tape, h.output, h.size, h.block⟩

theorem ofInt_i64 (a : Nat) (ha : a < 9223372036854775808) : (BitVec.ofInt 64 (a : Int)).toNat = a := by
  rw [BitVec.ofInt_natCast, BitVec.toNat_ofNat]; exact Nat.mod_eq_of_lt (by omega)
theorem i64_xor_nat (a b : Nat) (ha : a < 9223372036854775808) (hb : b < 9223372036854775808) : bits .xor .i64 (a : Int) (b : Int) = ((a ^^^ b : Nat) : Int) := by
  have hx : a ^^^ b < 2 ^ 63 := Nat.xor_lt_two_pow (by omega) (by omega)
  show IntKind.i64.wrap ((BitVec.ofInt 64 (a : Int) ^^^ BitVec.ofInt 64 (b : Int)).toNat : Int) = _
  rw [BitVec.toNat_xor, ofInt_i64 a ha, ofInt_i64 b hb, IntKind.wrap_i64]
  omega

set_option maxHeartbeats 400000 in
theorem pick_any (rb : Nat) (n : Int) (B : Nat) (w : World) (hB : B ≤ 1000000) (hr : Rdr w rb B) :
    Calls Tryd.prog 45 #[.pointer (some ⟨rb, 0, none⟩), .int .i64 n] w fun e w' => ∃ r : Int, e = .returned (.int .i64 r) ∧ 0 ≤ r ∧ (n < 1 ∧ r = 0 ∨ r < n) ∧ Rdr w' rb (B + 1) ∧ w.grownBy w' (some rb) := by
  obtain ⟨p, ao, len, cap, code, hpB, hb, hlen, hc⟩ := hr.ex
  have hp : p ≤ 1000000 := Nat.le_trans hpB hB
  have hc0 : w.cell? ⟨rb, 0, none⟩ = some (.slice ao len cap) := by simp [World.cell?, hb]
  have hc1 : w.cell? ⟨rb, 1, none⟩ = some (.int .i64 p) := by simp [World.cell?, hb]
  have hf1 : w.frozen? ⟨rb, 1, none⟩ = false := by simp [World.frozen?, hb]
  have HC := Lib.hid hc
  have HB := Lib.hid hb
  clear hc hb hr
  have hcs : ∀ (a : Addr) (i : Nat) (v : Value), a.block < rb → (w.setCell ⟨rb, 1, none⟩ v).cell? (a.add i) = w.cell? (a.add i) := fun a i v h =>
    World.cell?_of_block (Below.heap_setCell _ _ _ _ (by rw [add_block]; exact Nat.ne_of_lt h))
  have HS := Lib.hid hcs
  clear hcs
  by_cases hn : n < 1
  · go_enter Tryd.func45, Tryd.ntmps45
    go_wp2
    go_ret
    exact ⟨0, rfl, by omega, by omega, (rdr_step HB.out hlen HC.out).mono (by omega), grown_setCell _ _ _ rfl⟩
  · by_cases hl0 : len = 0
    · subst hl0
      go_enter Tryd.func45, Tryd.ntmps45
      go_wp2
      go_ret
      exact ⟨0, rfl, by omega, by omega, (rdr_step HB.out hlen HC.out).mono (by omega), grown_setCell _ _ _ rfl⟩
    · have hl0' : ((len : Int) == 0) = false := by simp; omega
      have hl1 : 0 < len := by omega
      by_cases hlt : p < len
      · obtain ⟨a, rfl, hab, hca, hcr⟩ := HC.out p hlt
        have hcw : ∀ v, (w.setCell ⟨rb, 1, none⟩ v).cell? (a.add p) = some (.int .u8 (code p)) := fun v => (HS.out a p v hab).trans hca
        clear hca
        go_enter Tryd.func45, Tryd.ntmps45
        go_wp2
        go_ret
        exact ⟨_, rfl, Int.emod_nonneg _ (by omega), Or.inr (Int.emod_lt_of_pos _ (by omega)), (rdr_step HB.out hlen HC.out).mono (by omega), grown_setCell _ _ _ rfl⟩
      · obtain ⟨i1, hi1⟩ : ∃ i1, i1 = p % len := ⟨_, rfl⟩
        obtain ⟨i2, hi2⟩ : ∃ i2, i2 = (p * 7 + 3) % len := ⟨_, rfl⟩
        have l1 : i1 < len := hi1 ▸ Nat.mod_lt _ hl1
        have l2 : i2 < len := hi2 ▸ Nat.mod_lt _ hl1
        obtain ⟨a, rfl, hab, hca, hcr⟩ := HC.out i1 l1
        obtain ⟨a', ha', hab', hca', hcr'⟩ := HC.out i2 l2
        obtain rfl := Option.some.inj ha'
        clear ha'
        have hcw : ∀ v, (w.setCell ⟨rb, 1, none⟩ v).cell? (a.add i1) = some (.int .u8 (code i1)) := fun v => (HS.out a i1 v hab).trans hca
        have hcw' : ∀ v, (w.setCell ⟨rb, 1, none⟩ v).cell? (a.add i2) = some (.int .u8 (code i2)) := fun v => (HS.out a i2 v hab).trans hca'
        clear hca hca'
        have h1 := Lib.hid hi1
        have h2 := Lib.hid hi2
        clear hi1 hi2
        obtain ⟨q, hq⟩ : ∃ q, q = p / len := ⟨_, rfl⟩
        have hqp : q ≤ p := hq ▸ Nat.div_le_self _ _
        have ht1 : (p : Int).tmod (len : Int) = (i1 : Int) := by rw [h1.out]; exact Int.ofNat_tmod p len |>.symm
        have ht2 : ((p : Int) * 7 + 3).tmod (len : Int) = (i2 : Int) := by rw [h2.out]; exact Int.ofNat_tmod (p * 7 + 3) len |>.symm
        have ht3 : (p : Int).tdiv (len : Int) = (q : Int) := by rw [hq]; exact Int.ofNat_tdiv p len |>.symm
        clear hq
        obtain ⟨c1, hc1e⟩ : ∃ c, c = code i1 := ⟨_, rfl⟩
        obtain ⟨c2, hc2e⟩ : ∃ c, c = code i2 := ⟨_, rfl⟩
        rw [← hc1e] at hcw hcr
        rw [← hc2e] at hcw' hcr'
        clear hc1e hc2e
        have w1 : IntKind.i64.wrap ((p : Int) * 7) = (p : Int) * 7 := IntWalk.i64_in _ (by omega)
        have w2 : IntKind.i64.wrap ((p : Int) * 7 + 3) = (p : Int) * 7 + 3 := IntWalk.i64_in _ (by omega)
        have w3 : IntKind.i64.wrap ((c1 : Int)) = (c1 : Int) := IntWalk.i64_in _ (by omega)
        have w4 : IntKind.i64.wrap ((c1 : Int) * 131) = (c1 : Int) * 131 := IntWalk.i64_in _ (by omega)
        have w5 : IntKind.i64.wrap ((c2 : Int)) = (c2 : Int) := IntWalk.i64_in _ (by omega)
        have w6 : IntKind.i64.wrap ((c2 : Int) * 1117) = (c2 : Int) * 1117 := IntWalk.i64_in _ (by omega)
        have w7 : IntKind.i64.wrap ((c1 : Int) * 131 + (c2 : Int) * 1117) = (c1 : Int) * 131 + (c2 : Int) * 1117 := IntWalk.i64_in _ (by omega)
        have w8 : IntKind.i64.wrap ((p : Int) * 29) = (p : Int) * 29 := IntWalk.i64_in _ (by omega)
        have w9 : IntKind.i64.wrap ((c1 : Int) * 131 + (c2 : Int) * 1117 + (p : Int) * 29) = (c1 : Int) * 131 + (c2 : Int) * 1117 + (p : Int) * 29 := IntWalk.i64_in _ (by omega)
        have w10 : IntKind.i64.wrap ((q : Int) * 53) = (q : Int) * 53 := IntWalk.i64_in _ (by omega)
        have w11 : IntKind.i64.wrap ((c1 : Int) * 131 + (c2 : Int) * 1117 + (p : Int) * 29 + (q : Int) * 53) = (c1 : Int) * 131 + (c2 : Int) * 1117 + (p : Int) * 29 + (q : Int) * 53 := IntWalk.i64_in _ (by omega)
        go_enter Tryd.func45, Tryd.ntmps45
        go_wp2
        go_quiet (fail)
        obtain ⟨x, hx⟩ : ∃ x : Nat, (x : Int) = (c1 : Int) * 131 + (c2 : Int) * 1117 + (p : Int) * 29 + (q : Int) * 53 := ⟨c1 * 131 + c2 * 1117 + p * 29 + q * 53, by omega⟩
        have hxl : x ≤ 1000000000 := by omega
        rw [← hx]
        clear w1 w2 w3 w4 w5 w6 w7 w8 w9 w10 w11 ht1 ht2 ht3 hx hcw hcw' hcr hcr' hqp
        go_wp2
        go_ret
        have hx1 : bits .xor .i64 (x : Int) ((x : Int) / 64) = ((x ^^^ (x / 64) : Nat) : Int) := by
          have e : (x : Int) / 64 = ((x / 64 : Nat) : Int) := by omega
          rw [e]
          exact i64_xor_nat x (x / 64) (by omega) (by omega)
        refine ⟨_, rfl, ?_, ?_, rdr_drewN ((rdr_step HB.out hlen HC.out).mono (by omega)) nq, grown_drewN (grown_setCell _ _ _ rfl) nq⟩
        · show 0 ≤ (bits .xor .i64 (x : Int) ((x : Int) / 64)).tmod n
          rw [hx1]
          exact Int.tmod_nonneg _ (by omega)
        · right
          show (bits .xor .i64 (x : Int) ((x : Int) / 64)).tmod n < n
          rw [hx1]
          exact Int.tmod_lt_of_pos _ (by omega)

def isI64 : Value → Bool
  | .int .i64 _ => true
  | _ => false
theorem ints_of_all {xs : List Value} (h : xs.all isI64 = true) : ∀ v ∈ xs, ∃ z : Int, v = .int .i64 z := by
  intro v hv
  have := List.all_eq_true.1 h v hv
  unfold isI64 at this
  split at this
  · exact ⟨_, rfl⟩
  · cases this
theorem heap_new (w : World) (o : Obj) (b : Nat) (hb : b = w.heap.size) : (w.alloc o).heap[b]? = some o := by subst hb; exact heap_alloc_new w o
/-- Behind a call that writes into block rb alone: another block holds what it held. -/
theorem after {W w1 : World} {rb b : Nat} {o : Obj} (hg : W.grownBy w1 (some rb)) (hne : b ≠ rb) (h : W.heap[b]? = some o) : w1.heap[b]? = some o :=
  (hg.block b (Array.getElem?_eq_some_iff.1 h).1 (fun e => hne (Option.some.inj e))).trans h
theorem after_b {W w1 : World} {b : Nat} {o : Obj} (hg : Below W.heap.size W w1) (h : W.heap[b]? = some o) : w1.heap[b]? = some o :=
  (hg.block b (Array.getElem?_eq_some_iff.1 h).1).trans h
theorem heap_old {W : World} {b : Nat} {o : Obj} (o' : Obj) (h : W.heap[b]? = some o) : (W.alloc o').heap[b]? = some o :=
  (Below.heap_alloc W o' b (Array.getElem?_eq_some_iff.1 h).1).trans h
theorem heap_set_same {W : World} {b o : Nat} {cs : Array Value} {t : TypeId} {fz : Nat × Nat} (v : Value) (h : W.heap[b]? = some (.cells cs t fz)) :
    (W.setCell ⟨b, o, none⟩ v).heap[b]? = some (.cells (cs.setIfInBounds o v) t fz) := by simp [World.setCell, Array.getElem?_modify, h]
theorem heap_set_other {W : World} {b : Nat} {x : Obj} (a : Addr) (v : Value) (hne : b ≠ a.block) (h : W.heap[b]? = some x) : (W.setCell a v).heap[b]? = some x :=
  (Below.heap_setCell W a v b hne).trans h
theorem grown_step {w a b : World} {rb : Nat} (h : w.grownBy a (some rb)) (k : a.grownBy b (some rb)) : w.grownBy b (some rb) :=
  ⟨k.os.trans h.os, k.tape.trans h.tape, k.output.trans h.output, Nat.le_trans h.size k.size, fun i hi hne => (k.block i (Nat.lt_of_lt_of_le hi h.size) hne).trans (h.block i hi hne)⟩
theorem grown_alloc {w a : World} {row : Option Nat} (h : w.grownBy a row) (o : Obj) : w.grownBy (a.alloc o) row :=
  ⟨h.os, h.tape, h.output, Nat.le_trans h.size (by simp), fun i hi hne => (Below.heap_alloc a o i (Nat.lt_of_lt_of_le hi h.size)).trans (h.block i hi hne)⟩
/-- A store into a block that the call itself has made. -/
theorem grown_set {w a : World} {row : Option Nat} {b o : Nat} {s : Option Nat} (h : w.grownBy a row) (hp : w.heap.size ≤ b) (u : Value) : w.grownBy (a.setCell ⟨b, o, s⟩ u) row :=
  ⟨h.os, h.tape, h.output, by simpa [World.setCell] using h.size, fun i hi hne => (Below.heap_setCell a ⟨b, o, s⟩ u i (by show i ≠ b; omega)).trans (h.block i hi hne)⟩
theorem below_set {B : Nat} {a w : World} {b o : Nat} {s : Option Nat} (h : Below B a w) (hp : B ≤ b) (u : Value) : Below B a (w.setCell ⟨b, o, s⟩ u) := h.setCell (p := ⟨b, o, s⟩) hp u
/-- A block known whole: its cells, and that none is frozen. -/
theorem blk {w : World} {b : Nat} {cs : Array Value} {t : TypeId} (h : w.heap[b]? = some (.cells cs t (0, 0))) : (∀ o, w.cell? ⟨b, o, none⟩ = cs[o]?) ∧ (∀ o, w.frozen? ⟨b, o, none⟩ = false) :=
  ⟨fun o => by simp [World.cell?, h], fun o => by simp [World.frozen?, h]⟩

set_option maxHeartbeats 400000 in
theorem one_any (rb lb : Nat) (xs : List Value) (e : TypeId) (fz : Nat × Nat) (n c B : Nat) (w : World) (hB : B ≤ 1000000) (hr : Rdr w rb B) (hl : w.heap[lb]? = some (.cells xs.toArray e fz)) (hn : xs.length = n) (h0 : 0 < n) (hm : n ≤ 1000)
    (hne : lb ≠ rb) (hi : xs.all isI64 = true) :
    Calls Tryd.prog 46 #[.pointer (some ⟨rb, 0, none⟩), .slice (some ⟨lb, 0, none⟩) n c] w fun e w' => ∃ z : Int, e = .returned (.int .i64 z) ∧ .int .i64 z ∈ xs ∧ Rdr w' rb (B + 1) ∧ w.grownBy w' (some rb) := by
  have hlb : lb < w.heap.size := (Array.getElem?_eq_some_iff.1 hl).1
  have HL := Lib.hid hl
  have HI := Lib.hid (ints_of_all hi)
  have HN := Lib.hid hn
  clear hl hi hn
  go_enter Tryd.func46, Tryd.ntmps46
  go_wp2_with fail
  refine (pick_any rb _ B _ hB hr).mono ?_
  rintro e w1 ⟨r, rfl, r0, r1, hr1, hg1⟩
  have hrn : r < n := by omega
  obtain ⟨i, rfl⟩ := Int.eq_ofNat_of_zero_le r0
  have hin : i < n := by omega
  have hb1 : w1.heap[lb]? = some (.cells xs.toArray e fz) := (hg1.block lb hlb (by simpa using hne)).trans HL.out
  have hx : xs[i]? = some (xs[i]'(by rw [HN.out]; exact hin)) := List.getElem?_eq_getElem _
  obtain ⟨z, hz⟩ := HI.out _ (List.mem_of_getElem? hx)
  have hc : w1.cell? ⟨lb, i, none⟩ = some (.int .i64 z) := by simp [World.cell?, hb1, hx, hz]
  have hmem : .int .i64 z ∈ xs := hz ▸ List.mem_of_getElem? hx
  have HM := Lib.hid hmem
  have HG := Lib.hid hg1
  have HR := Lib.hid hr1
  clear hmem hg1 hr1 hb1 hx hz r1 hr
  go_wp2
  go_ret
  exact ⟨z, rfl, HM.out, HR.out, HG.out⟩
end Go.Proofs.YtfhoalglgmdiaaaDoor
