/-
  Versions: copies; adding and pinning (both texts).
-/
import Derived.Test.YtfnplbplmcilpaaVw
namespace Go.Proofs.Ytfnplbplmcilpaa
open Go
set_option linter.unusedVariables false
set_option linter.unusedSimpArgs false
set_option linter.unnecessarySimpa false

/-! ### Rows of numbers are fresh whatever was copied into them -/
inductive FreR : R → R → Prop
  | same {x : R} : FreR x x
  | arr {e : TypeId} {f nn : Bool} {n : Nat} {ds : List D} (hs : ∀ d ∈ ds, d.scalar = true) : FreR (.arr e f nn n ds) (.arr e true nn n ds)
inductive FreL : List R → List R → Prop
  | nil : FreL [] []
  | cons {x y : R} {xs ys : List R} (h : FreR x y) (k : FreL xs ys) : FreL (x :: xs) (y :: ys)
theorem FreL.get {xs ys : List R} (h : FreL xs ys) : xs.length = ys.length ∧ ∀ r, FreR (lsR xs r) (lsR ys r) := by
  induction h with
  | nil => exact ⟨rfl, fun r => .same⟩
  | cons hx hk ih =>
    refine ⟨by simp [ih.1], fun r => ?_⟩
    cases r with
    | zero => exact hx
    | succ r => exact ih.2 r
theorem FreR.live {x y : R} (h : FreR x y) : x.live = y.live := by cases h <;> rfl
theorem FreR.res {P : Program} {w : World} {g : Gh} {base r : Nat} {x y : R} (h : FreR x y) (k : ResOk P w g base r x) : ResOk P w g base r y := by
  cases h with
  | same => exact k
  | @arr e f nn n ds hs =>
    have hmap : ds.map (D.toC true) = ds.map (D.toC f) := List.map_congr_left fun d hd => by
      have := hs d hd
      cases d with
      | sl nn n cs => simp [D.scalar] at this
      | _ => rfl
    unfold ResOk at k ⊢
    dsimp only at k ⊢
    rw [hmap]; exact k
theorem FnOk.fre {P : Program} {G : Nat → Option (List D)} {f : FuncId} {args : List A} {ins : List R} {res : A} {outs outs' : List R} (h : FnOk P G f args ins res outs) (hf : FreL outs outs') : FnOk P G f args ins res outs' := by
  refine ⟨h.1, fun w g vs h1 h2 h3 h4 => (h.2 w g vs h1 h2 h3 h4).mono fun ex w' ⟨V, g', he, hp⟩ => ⟨V, g', he, ?_⟩⟩
  obtain ⟨hl, hr⟩ := hf.get
  exact ⟨hp.val, ⟨fun r => (hr r).res (hp.mem.ok r), fun r r' hne a b => hp.mem.inj r r' hne (by rw [(hr r).live]; exact a) (by rw [(hr r').live]; exact b), fun r hk hlv => hp.mem.own r hk (by rw [(hr r).live]; exact hlv)⟩, hp.fr, fun r hb => hp.nb r (by rw [hl]; exact hb), fun r hr' hlv => hp.lv r hr' (by rw [(hr r).live]; exact hlv)⟩
theorem scalP (xs : List pntT) : ∀ d ∈ xs.flatMap pntD, d.scalar = true := fun d hd => by
  obtain ⟨x, _, hx⟩ := List.mem_flatMap.1 hd
  simp [pntD] at hx
  rcases hx with rfl | rfl <;> rfl
theorem scalI (xs : List Int) : ∀ d ∈ xs.flatMap intD, d.scalar = true := fun d hd => by
  obtain ⟨x, _, hx⟩ := List.mem_flatMap.1 hd
  simp [intD] at hx
  subst hx; rfl
theorem kept1 {e e' : TypeId} {f f' nn : Bool} {n n' : Nat} {ds ds' : List D} : keptB [R.arr e f nn n ds] [R.arr e' f' nn n' ds'] = true := by cases nn <;> rfl
theorem kept2 {e e' u u' : TypeId} {f f' nn h h' mm : Bool} {n n' k k' : Nat} {ds ds' es es' : List D} : keptB [R.arr e f nn n ds, R.arr u h mm k es] [R.arr e' f' nn n' ds', R.arr u' h' mm k' es'] = true := by cases nn <;> cases mm <;> rfl
def pntR (nn : Bool) (xs : List pntT) : R := .arr 40 true nn xs.length (xs.flatMap pntD)
def intR (nn : Bool) (xs : List Int) : R := .arr 3 true nn xs.length (xs.flatMap intD)
def dec0 {α : Type} (xs : List α) : Bool := decide (0 < xs.length)
theorem dec0_nil {α : Type} {xs : List α} (h : dec0 xs = false) : xs = [] := by simpa [dec0] using h
theorem dec0_snoc {α : Type} (xs : List α) (x : α) : dec0 (xs ++ [x]) = true := by simp [dec0]
def verO (b1 b2 : Bool) (v : verT) : List C := [.own b1 0 v.1.length, .i .i64 v.2.1, .own b2 1 v.2.2.length]

theorem icopyPoints_ok (nn : Bool) (xs : List pntT) (hl : xs.length ≤ 1048576) (hnn : nn = false → xs = []) : FnOk Try.prog noG 40 [.v false [.sl false nn xs.length (xs.flatMap pntD)]] [] (.v false [.own (dec0 xs) 0 xs.length]) [pntR (dec0 xs) xs] := by
  have hfl := flat_len pntD 2 pntD_len xs
  refine FnOk.fre (outs := [.arr 40 false (dec0 xs) xs.length (xs.flatMap pntD)]) ?_ (.cons (.arr (scalP xs)) .nil)
  refine fnOk_of' (k := 0) tyOk Try.func40 rfl (by kernel_rfl) Try.ntmps40 (by rw [Try.results40]) rfl (by simp only [List.length_cons, List.length_nil, Nat.reduceAdd, Nat.reduceSub, List.replicate_succ, List.replicate_zero, List.cons_append, List.nil_append]; rfl) (by simp) (by simp) (fun r hr => by simp at hr) fun base => ?_
  refine AW.seq ?_
  refine AW.region ?_
  first
    | refine ao0 (em_assign (by rfl) (by rfl)) (by rfl) (by rfl) ?_
    | refine ao0 (em_assignG (by rfl) (by rfl)) (by rfl) (by rfl) ?_
    | refine ao0 (sem_move (.inr (by rfl))) (by rfl) (by rfl) ?_
  refine ao_nil (by first | dsimp only [setO, setE] | rfl) (by first | dsimp only [setM, setE, setR] | rfl) (by rfl) ?_
  refine AW.seq ?_
  refine AW.region ?_
  first
    | refine ao0 (em_move (by rfl) (by rfl)) (by rfl) (by rfl) ?_
    | refine ao0 (em_moveG (by rfl) (by rfl)) (by rfl) (by rfl) ?_
    | refine ao0 (sem_move (.inl (by rfl))) (by rfl) (by rfl) ?_
  first
    | refine ao_append_nil tyOk (by rfl) (by rfl) (by rfl) (by rfl) (by rfl) (by rfl) (by rfl) (.inl ⟨_, _, rfl⟩) (fun r hr => by cases hr) (by rfl) (by first | rfl | exact sliceOf_own (by rfl)) (by first | rfl | decide | (simp; done) | omega) (by first | decide | omega | (unfold maxLen; omega)) (by first | decide | omega | (dsimp only; omega)) (by first | omega | exact Nat.le_of_ble_eq_true rfl) ?_
    | refine ao_append_own tyOk (by rfl) (by rfl) (by rfl) (by rfl) (by rfl) (by rfl) (by rfl) (by rfl) (by rfl) (by rfl) (by first | rfl | exact sliceOf_own (by rfl)) (by first | rfl | decide | (simp; done) | omega) (by first | decide | omega | (unfold maxLen; omega)) (by first | decide | omega | (dsimp only; omega)) (by first | omega | exact Nat.le_of_ble_eq_true rfl) (by first | omega | exact Nat.le_of_ble_eq_true rfl) ?_
    | refine ao_append_any tyOk (by rfl) (by rfl) (by rfl) (by rfl) (by rfl) (by rfl) (by rfl) (by rfl) (by rfl) (by rfl) (by first | rfl | exact sliceOf_own (by rfl)) (by first | rfl | decide | (simp; done) | omega) (by first | decide | omega | (unfold maxLen; omega)) (by first | decide | omega | (dsimp only; omega)) (by first | omega | exact Nat.le_of_ble_eq_true rfl) (by first | omega | exact Nat.le_of_ble_eq_true rfl) (by first | (simp only [Nat.zero_lt_one, decide_true, Bool.or_true]; rfl) | rfl) ?_
  first
    | refine ao0 (em_assign (by rfl) (by rfl)) (by rfl) (by rfl) ?_
    | refine ao0 (em_assignG (by rfl) (by rfl)) (by rfl) (by rfl) ?_
    | refine ao0 (sem_move (.inr (by rfl))) (by rfl) (by rfl) ?_
  refine ao_nil (by first | dsimp only [setO, setE] | rfl) (by first | dsimp only [setM, setE, setR] | rfl) (by rfl) ?_
  refine AW.ret ?_
  refine retA_own (n := 0) [0] (by rfl) ?_ ?_ rfl (by simp) (by rfl) (by rfl) (by rfl) (by rfl) (by simp) _ (.inr rfl)
  · exact ⟨le_arr (by rfl) (by rfl) (by rfl) (by rfl), trivial⟩
  · exact le_own (by rfl) (by rfl) (by rfl)
theorem scopyInts_ok (nn : Bool) (xs : List Int) (hl : xs.length ≤ 1048576) (hnn : nn = false → xs = []) : FnOk Try.prog noG 27 [.v false [.sl false nn xs.length (xs.flatMap intD)]] [] (.v false [.own true 0 xs.length]) [intR true xs] := by
  have hfl := flat_len intD 1 intD_len xs
  refine FnOk.fre (outs := [.arr 3 false true xs.length (xs.flatMap intD)]) ?_ (.cons (.arr (scalI xs)) .nil)
  refine fnOk_of' (k := 0) tyOk Try.func27 rfl (by kernel_rfl) Try.ntmps27 (by rw [Try.results27]) rfl (by simp only [List.length_cons, List.length_nil, Nat.reduceAdd, Nat.reduceSub, List.replicate_succ, List.replicate_zero, List.cons_append, List.nil_append]; rfl) (by simp) (by simp) (fun r hr => by simp at hr) fun base => ?_
  refine AW.seq ?_
  refine AW.region ?_
  first
    | refine ao0 (em_assign (by rfl) (by rfl)) (by rfl) (by rfl) ?_
    | refine ao0 (em_assignG (by rfl) (by rfl)) (by rfl) (by rfl) ?_
    | refine ao0 (sem_move (.inr (by rfl))) (by rfl) (by rfl) ?_
  refine ao_nil (by first | dsimp only [setO, setE] | rfl) (by first | dsimp only [setM, setE, setR] | rfl) (by rfl) ?_
  refine AW.seq ?_
  refine AW.region ?_
  first
    | refine ao1 (sem_buildSlice0 tyOk (by rfl) (by rfl) (by rfl) (by rfl)) (by omega) (by rfl) (by rfl) ?_
    | refine ao1 (sem_buildSlice tyOk (by rfl) (by rfl) (by rfl) (by rfl) (by rfl) (by rfl) (by rfl) (by decide) (by decide) (by rfl)) (by omega) (by rfl) (by rfl) ?_
  first
    | refine ao0 (em_move (by rfl) (by rfl)) (by rfl) (by rfl) ?_
    | refine ao0 (em_moveG (by rfl) (by rfl)) (by rfl) (by rfl) ?_
    | refine ao0 (sem_move (.inl (by rfl))) (by rfl) (by rfl) ?_
  first
    | refine ao_append_nil tyOk (by rfl) (by rfl) (by rfl) (by rfl) (by rfl) (by rfl) (by rfl) (.inl ⟨_, _, rfl⟩) (fun r hr => by cases hr) (by rfl) (by first | rfl | exact sliceOf_own (by rfl)) (by first | rfl | decide | (simp; done) | omega) (by first | decide | omega | (unfold maxLen; omega)) (by first | decide | omega | (dsimp only; omega)) (by first | omega | exact Nat.le_of_ble_eq_true rfl) ?_
    | refine ao_append_own tyOk (by rfl) (by rfl) (by rfl) (by rfl) (by rfl) (by rfl) (by rfl) (by rfl) (by rfl) (by rfl) (by first | rfl | exact sliceOf_own (by rfl)) (by first | rfl | decide | (simp; done) | omega) (by first | decide | omega | (unfold maxLen; omega)) (by first | decide | omega | (dsimp only; omega)) (by first | omega | exact Nat.le_of_ble_eq_true rfl) (by first | omega | exact Nat.le_of_ble_eq_true rfl) ?_
    | refine ao_append_any tyOk (by rfl) (by rfl) (by rfl) (by rfl) (by rfl) (by rfl) (by rfl) (by rfl) (by rfl) (by rfl) (by first | rfl | exact sliceOf_own (by rfl)) (by first | rfl | decide | (simp; done) | omega) (by first | decide | omega | (unfold maxLen; omega)) (by first | decide | omega | (dsimp only; omega)) (by first | omega | exact Nat.le_of_ble_eq_true rfl) (by first | omega | exact Nat.le_of_ble_eq_true rfl) (by first | (simp only [Nat.zero_lt_one, decide_true, Bool.or_true]; rfl) | rfl) ?_
  first
    | refine ao0 (em_assign (by rfl) (by rfl)) (by rfl) (by rfl) ?_
    | refine ao0 (em_assignG (by rfl) (by rfl)) (by rfl) (by rfl) ?_
    | refine ao0 (sem_move (.inr (by rfl))) (by rfl) (by rfl) ?_
  refine ao_nil (by first | dsimp only [setO, setE] | rfl) (by first | dsimp only [setM, setE, setR] | rfl) (by rfl) ?_
  refine AW.ret ?_
  refine retA_own (n := 0) [1] (by rfl) ?_ ?_ rfl (by simp) (by rfl) (by rfl) (by rfl) (by rfl) (by simp) _ (.inr rfl)
  · exact ⟨le_arr (by rfl) (by rfl) (by simp) (by simp), trivial⟩
  · exact le_own (by rfl) (by rfl) (by simp)
theorem icopyVersions_ok (n1 n2 : Bool) (v : verT) (h1 : v.1.length ≤ 1048576) (h2 : v.2.2.length ≤ 1048576) (hn1 : n1 = false → v.1 = []) (hn2 : n2 = false → v.2.2 = []) : FnOk Try.prog noG 24 [.v true (verC false n1 false n2 v)] [] (.v true (verO (dec0 v.1) (dec0 v.2.2) v)) [pntR (dec0 v.1) v.1, intR (dec0 v.2.2) v.2.2] := by
  have hfl := flat_len intD 1 intD_len v.2.2
  have hC := icopyPoints_ok n1 v.1 h1 hn1
  refine FnOk.fre (outs := [pntR (dec0 v.1) v.1, .arr 3 false (dec0 v.2.2) v.2.2.length (v.2.2.flatMap intD)]) ?_ (.cons .same (.cons (.arr (scalI _)) .nil))
  refine fnOk_of' (k := 0) tyOk Try.func24 rfl (by kernel_rfl) Try.ntmps24 (by rw [Try.results24]) rfl (by simp only [List.length_cons, List.length_nil, Nat.reduceAdd, Nat.reduceSub, List.replicate_succ, List.replicate_zero, List.cons_append, List.nil_append]; rfl) (by simp) (by simp) (fun r hr => by simp at hr) fun base => ?_
  refine AW.seq ?_
  refine AW.region ?_
  refine ao1 (sem_box (by rfl) (by rfl)) (by omega) (by rfl) (by rfl) ?_
  refine ao1 (sem_alloc tyOk (by rfl) (by rfl)) (by omega) (by rfl) (by rfl) ?_
  refine ao_nil (by first | dsimp only [setO, setE] | rfl) (by first | dsimp only [setM, setE, setR] | rfl) (by rfl) ?_
  refine AW.seq ?_
  refine AW.draw follows0 (by kernel_rfl) ?_
  refine ao0 (sem_fieldAddr tyOk (by rfl) (by rfl) (by rfl) (by rfl) (by rfl) (by rfl)) (by rfl) (by rfl) ?_
  refine ao_load tyOk (by rfl) (by rfl) (by rfl) (by rfl) (by rfl) (by rfl) (by rfl) (by first | trivial | exact Nat.le_of_ble_eq_true rfl | decide | (simp; done) | omega) ?_
  refine ao_callL [] [] (hC) (by rfl) (by rfl) (by rfl) (by rfl) (by rfl) (by repeat' (first | exact True.intro | exact .inl ⟨by rfl, by rfl⟩ | exact rfl | exact .inr (.inl ⟨_, _, _, _, by rfl, by rfl⟩) | exact .inr (.inr ⟨_, _, _, _, _, _, by rfl, by rfl, by rfl, by first | exact .head _ | exact .tail _ (.head _) | exact .tail _ (.tail _ (.head _)) | exact .tail _ (.tail _ (.tail _ (.head _)))⟩) | refine And.intro ?_ ?_)) (by repeat' (first | exact True.intro | exact .inl ⟨by rfl, by rfl⟩ | exact rfl | exact .inl rfl | exact .inr (.inl ⟨_, _, _, _, by rfl, by rfl⟩) | exact .inr ⟨rfl, by simp [D.scalar, bD]⟩ | refine And.intro ?_ ?_)) (by rfl) (by rfl) (by rfl) (by decide) (by rfl) (by rfl) (by omega) (by first | rfl | (simp [keptB, notGone, (by rfl).live]; done)) (by rfl) (by rfl) (by rfl) (by rfl) (by rfl) (by rfl) (by rfl) ?_
  refine ao0 (sem_fieldAddr tyOk (by rfl) (by rfl) (by rfl) (by rfl) (by rfl) (by rfl)) (by rfl) (by rfl) ?_
  refine ao_load tyOk (by rfl) (by rfl) (by rfl) (by rfl) (by rfl) (by rfl) (by rfl) (by first | trivial | exact Nat.le_of_ble_eq_true rfl | decide | (simp; done) | omega) ?_
  refine ao0 (sem_fieldAddr tyOk (by rfl) (by rfl) (by rfl) (by rfl) (by rfl) (by rfl)) (by rfl) (by rfl) ?_
  refine ao_load tyOk (by rfl) (by rfl) (by rfl) (by rfl) (by rfl) (by rfl) (by rfl) (by first | trivial | exact Nat.le_of_ble_eq_true rfl | decide | (simp; done) | omega) ?_
  first
    | refine ao_append_nil tyOk (by rfl) (by rfl) (by rfl) (by rfl) (by rfl) (by rfl) (by rfl) (.inl ⟨_, _, rfl⟩) (fun r hr => by cases hr) (by rfl) (by first | rfl | exact sliceOf_own (by rfl)) (by first | rfl | decide | (simp; done) | omega) (by first | decide | omega | (unfold maxLen; omega)) (by first | decide | omega | (dsimp only; omega)) (by first | omega | exact Nat.le_of_ble_eq_true rfl) ?_
    | refine ao_append_own tyOk (by rfl) (by rfl) (by rfl) (by rfl) (by rfl) (by rfl) (by rfl) (by rfl) (by rfl) (by rfl) (by first | rfl | exact sliceOf_own (by rfl)) (by first | rfl | decide | (simp; done) | omega) (by first | decide | omega | (unfold maxLen; omega)) (by first | decide | omega | (dsimp only; omega)) (by first | omega | exact Nat.le_of_ble_eq_true rfl) (by first | omega | exact Nat.le_of_ble_eq_true rfl) ?_
    | refine ao_append_any tyOk (by rfl) (by rfl) (by rfl) (by rfl) (by rfl) (by rfl) (by rfl) (by rfl) (by rfl) (by rfl) (by first | rfl | exact sliceOf_own (by rfl)) (by first | rfl | decide | (simp; done) | omega) (by first | decide | omega | (unfold maxLen; omega)) (by first | decide | omega | (dsimp only; omega)) (by first | omega | exact Nat.le_of_ble_eq_true rfl) (by first | omega | exact Nat.le_of_ble_eq_true rfl) (by first | (simp only [Nat.zero_lt_one, decide_true, Bool.or_true]; rfl) | rfl) ?_
  refine ao0 (sem_build tyOk (by rfl) (by rfl) (by rfl) (by rfl)) (by rfl) (by rfl) ?_
  first
    | refine ao_store_box tyOk (by rfl) (by rfl) (by rfl) (by rfl) (by rfl) (by rfl) (by rfl) (by rfl) (by first | exact Nat.le_of_ble_eq_true rfl | decide | (simp; done) | omega) ?_
    | refine ao_store_arr tyOk (by rfl) (by rfl) (by rfl) (by rfl) (by rfl) (by rfl) (by rfl) (by rfl) (by rfl) (by first | decide | (simp; done) | omega | (simp only [List.length_cons, List.length_nil, List.length_map]; omega) | (simp only [setR_len, List.length_cons, List.length_nil, List.length_map]; omega)) ?_
  refine ao_nil (by first | dsimp only [setO, setE] | rfl) (by first | dsimp only [setM, setE, setR] | rfl) (by rfl) ?_
  refine ⟨by kernel_rfl, ?_⟩
  refine AW.ret ?_
  refine retA_own (n := 0) [2, 3] (by rfl) ?_ ?_ rfl (by simp) (by rfl) (by rfl) (by rfl) (by rfl) (by simp) _ (.inr rfl)
  · exact ⟨le_arr (by rfl) (by rfl) (by rfl) (by rfl), le_arr (by rfl) (by rfl) (by rfl) (by rfl), trivial⟩
  · exact .inr (.inl (by rfl))
theorem scopyVersions_ok (n1 n2 : Bool) (v : verT) (h1 : v.1.length ≤ 1048576) (h2 : v.2.2.length ≤ 1048576) (hn1 : n1 = false → v.1 = []) (hn2 : n2 = false → v.2.2 = []) : FnOk Try.prog noG 26 [.v true (verC false n1 false n2 v)] [] (.v true (verO true true v)) [pntR true v.1, intR true v.2.2] := by
  have hfl := flat_len pntD 2 pntD_len v.1
  have hC := scopyInts_ok n2 v.2.2 h2 hn2
  refine FnOk.fre (outs := [.arr 40 false true v.1.length (v.1.flatMap pntD), intR true v.2.2]) ?_ (.cons (.arr (scalP _)) (.cons .same .nil))
  refine fnOk_of' (k := 0) tyOk Try.func26 rfl (by kernel_rfl) Try.ntmps26 (by rw [Try.results26]) rfl (by simp only [List.length_cons, List.length_nil, Nat.reduceAdd, Nat.reduceSub, List.replicate_succ, List.replicate_zero, List.cons_append, List.nil_append]; rfl) (by simp) (by simp) (fun r hr => by simp at hr) fun base => ?_
  refine AW.seq ?_
  refine AW.region ?_
  refine ao1 (sem_box (by rfl) (by rfl)) (by omega) (by rfl) (by rfl) ?_
  refine ao1 (sem_alloc tyOk (by rfl) (by rfl)) (by omega) (by rfl) (by rfl) ?_
  refine ao_nil (by first | dsimp only [setO, setE] | rfl) (by first | dsimp only [setM, setE, setR] | rfl) (by rfl) ?_
  refine AW.seq ?_
  refine AW.draw follows0 (by kernel_rfl) ?_
  first
    | refine ao1 (sem_buildSlice0 tyOk (by rfl) (by rfl) (by rfl) (by rfl)) (by omega) (by rfl) (by rfl) ?_
    | refine ao1 (sem_buildSlice tyOk (by rfl) (by rfl) (by rfl) (by rfl) (by rfl) (by rfl) (by rfl) (by decide) (by decide) (by rfl)) (by omega) (by rfl) (by rfl) ?_
  refine ao0 (sem_fieldAddr tyOk (by rfl) (by rfl) (by rfl) (by rfl) (by rfl) (by rfl)) (by rfl) (by rfl) ?_
  refine ao_load tyOk (by rfl) (by rfl) (by rfl) (by rfl) (by rfl) (by rfl) (by rfl) (by first | trivial | exact Nat.le_of_ble_eq_true rfl | decide | (simp; done) | omega) ?_
  first
    | refine ao_append_nil tyOk (by rfl) (by rfl) (by rfl) (by rfl) (by rfl) (by rfl) (by rfl) (.inl ⟨_, _, rfl⟩) (fun r hr => by cases hr) (by rfl) (by first | rfl | exact sliceOf_own (by rfl)) (by first | rfl | decide | (simp; done) | omega) (by first | decide | omega | (unfold maxLen; omega)) (by first | decide | omega | (dsimp only; omega)) (by first | omega | exact Nat.le_of_ble_eq_true rfl) ?_
    | refine ao_append_own tyOk (by rfl) (by rfl) (by rfl) (by rfl) (by rfl) (by rfl) (by rfl) (by rfl) (by rfl) (by rfl) (by first | rfl | exact sliceOf_own (by rfl)) (by first | rfl | decide | (simp; done) | omega) (by first | decide | omega | (unfold maxLen; omega)) (by first | decide | omega | (dsimp only; omega)) (by first | omega | exact Nat.le_of_ble_eq_true rfl) (by first | omega | exact Nat.le_of_ble_eq_true rfl) ?_
    | refine ao_append_any tyOk (by rfl) (by rfl) (by rfl) (by rfl) (by rfl) (by rfl) (by rfl) (by rfl) (by rfl) (by rfl) (by first | rfl | exact sliceOf_own (by rfl)) (by first | rfl | decide | (simp; done) | omega) (by first | decide | omega | (unfold maxLen; omega)) (by first | decide | omega | (dsimp only; omega)) (by first | omega | exact Nat.le_of_ble_eq_true rfl) (by first | omega | exact Nat.le_of_ble_eq_true rfl) (by first | (simp only [Nat.zero_lt_one, decide_true, Bool.or_true]; rfl) | rfl) ?_
  refine ao0 (sem_fieldAddr tyOk (by rfl) (by rfl) (by rfl) (by rfl) (by rfl) (by rfl)) (by rfl) (by rfl) ?_
  refine ao_load tyOk (by rfl) (by rfl) (by rfl) (by rfl) (by rfl) (by rfl) (by rfl) (by first | trivial | exact Nat.le_of_ble_eq_true rfl | decide | (simp; done) | omega) ?_
  refine ao0 (sem_fieldAddr tyOk (by rfl) (by rfl) (by rfl) (by rfl) (by rfl) (by rfl)) (by rfl) (by rfl) ?_
  refine ao_load tyOk (by rfl) (by rfl) (by rfl) (by rfl) (by rfl) (by rfl) (by rfl) (by first | trivial | exact Nat.le_of_ble_eq_true rfl | decide | (simp; done) | omega) ?_
  refine ao_callL [] [] (hC) (by rfl) (by rfl) (by rfl) (by rfl) (by rfl) (by repeat' (first | exact True.intro | exact .inl ⟨by rfl, by rfl⟩ | exact rfl | exact .inr (.inl ⟨_, _, _, _, by rfl, by rfl⟩) | exact .inr (.inr ⟨_, _, _, _, _, _, by rfl, by rfl, by rfl, by first | exact .head _ | exact .tail _ (.head _) | exact .tail _ (.tail _ (.head _)) | exact .tail _ (.tail _ (.tail _ (.head _)))⟩) | refine And.intro ?_ ?_)) (by repeat' (first | exact True.intro | exact .inl ⟨by rfl, by rfl⟩ | exact rfl | exact .inl rfl | exact .inr (.inl ⟨_, _, _, _, by rfl, by rfl⟩) | exact .inr ⟨rfl, by simp [D.scalar, bD]⟩ | refine And.intro ?_ ?_)) (by rfl) (by rfl) (by rfl) (by decide) (by rfl) (by rfl) (by omega) (by first | rfl | (simp [keptB, notGone, (by rfl).live]; done)) (by rfl) (by rfl) (by rfl) (by rfl) (by rfl) (by rfl) (by rfl) ?_
  refine ao0 (sem_build tyOk (by rfl) (by rfl) (by rfl) (by rfl)) (by rfl) (by rfl) ?_
  first
    | refine ao_store_box tyOk (by rfl) (by rfl) (by rfl) (by rfl) (by rfl) (by rfl) (by rfl) (by rfl) (by first | exact Nat.le_of_ble_eq_true rfl | decide | (simp; done) | omega) ?_
    | refine ao_store_arr tyOk (by rfl) (by rfl) (by rfl) (by rfl) (by rfl) (by rfl) (by rfl) (by rfl) (by rfl) (by first | decide | (simp; done) | omega | (simp only [List.length_cons, List.length_nil, List.length_map]; omega) | (simp only [setR_len, List.length_cons, List.length_nil, List.length_map]; omega)) ?_
  refine ao_nil (by first | dsimp only [setO, setE] | rfl) (by first | dsimp only [setM, setE, setR] | rfl) (by rfl) ?_
  refine ⟨by kernel_rfl, ?_⟩
  refine AW.ret ?_
  refine retA_own (n := 0) [3, 4] (by rfl) ?_ ?_ rfl (by simp) (by rfl) (by rfl) (by rfl) (by rfl) (by simp) _ (.inr rfl)
  · exact ⟨le_arr (by rfl) (by rfl) (by simp) (by simp), le_arr (by rfl) (by rfl) (by rfl) (by rfl), trivial⟩
  · exact .inr (.inl (by first | rfl | (simp [verO, packA, renA, renC]; rfl)))
end Go.Proofs.Ytfnplbplmcilpaa
