/-
  FnExactStepAlert: the walk.
-/
import Derived.Test.YtfhoalglgmdiaaaDoorAn
import Derived.Test.YtfhoalglgmdiaaaDoorAp
import Derived.Test.YtfhoalglgmdiaaaDoorCalm
namespace Go.Proofs.YtfhoalglgmdiaaaDoor
open Go.RowKit

theorem after_none {W w1 : World} {b : Nat} {o : Obj} (hg : W.grownBy w1 none) (h : W.heap[b]? = some o) : w1.heap[b]? = some o :=
  (hg.block b (Array.getElem?_eq_some_iff.1 h).1 (by simp)).trans h

/-- What the step returns, whatever its arguments. -/
def resA (ab ho ca st si t v : Int) : Int × Int := if okA ab ho ca st si t v then stepA ab ho ca st si t v else (0, 0)
theorem implStep (ab ho ca st si t v : Int) (w : World) (hT : Tab w) :
    Calls Tryd.prog 19 #[.agg #[.int .i64 ab, .int .i64 ho, .int .i64 ca], .agg #[.int .i64 st, .int .i64 si], .agg #[.int .i64 t, .int .i64 v]] w fun e w' =>
      e = .returned (.tuple #[.agg #[.int .i64 (resA ab ho ca st si t v).1, .int .i64 (resA ab ho ca st si t v).2], .bool (okA ab ho ca st si t v)]) ∧ Below w.heap.size w w' := by
  cases h : okA ab ho ca st si t v
  · unfold resA; rw [h]; exact implStep_no ab ho ca st si t v w h
  · unfold resA; rw [h]; exact implStep_yes ab ho ca st si t v w hT h
theorem specStep (ab ho ca st si t v : Int) (w : World) :
    Calls Tryd.prog 15 #[.agg #[.int .i64 ab, .int .i64 ho, .int .i64 ca], .agg #[.int .i64 st, .int .i64 si], .agg #[.int .i64 t, .int .i64 v]] w fun e w' =>
      e = .returned (.tuple #[.agg #[.int .i64 (resA ab ho ca st si t v).1, .int .i64 (resA ab ho ca st si t v).2], .bool (okA ab ho ca st si t v)]) ∧ Below w.heap.size w w' := by
  cases h : okA ab ho ca st si t v
  · unfold resA; rw [h]; exact specStep_no ab ho ca st si t v w h
  · unfold resA; rw [h]; exact specStep_yes ab ho ca st si t v w h

set_option maxHeartbeats 4000000 in
theorem walkExactStepAlert (ab ho ca st si t v : Int) (w : World) (hT : Tab w) :
    Calls Tryd.prog 3 #[.agg #[.int .i64 ab, .int .i64 ho, .int .i64 ca], .agg #[.int .i64 st, .int .i64 si], .agg #[.int .i64 t, .int .i64 v]] w fun e w' =>
      e = .returned (.bool true) ∧ Below w.heap.size w w' := by
  have HT := Lib.hid hT
  have hpos := hT.pos
  clear hT
  have B0 := Lib.hid (Below.refl w.heap.size w)
  have H3 := Lib.hid (heap_old (.cells #[.int .i64 t, .int .i64 v] 27) (heap_old (.cells #[.int .i64 st, .int .i64 si] 25) (heap_new w (.cells #[.int .i64 ab, .int .i64 ho, .int .i64 ca] 23) (w.heap.size) (by simp))))
  have H4 := Lib.hid (heap_old (.cells #[.int .i64 t, .int .i64 v] 27) (heap_new (w.alloc (.cells #[.int .i64 ab, .int .i64 ho, .int .i64 ca] 23)) (.cells #[.int .i64 st, .int .i64 si] 25) (w.heap.size + 1) (by simp)))
  have H5 := Lib.hid (heap_new ((w.alloc (.cells #[.int .i64 ab, .int .i64 ho, .int .i64 ca] 23)).alloc (.cells #[.int .i64 st, .int .i64 si] 25)) (.cells #[.int .i64 t, .int .i64 v] 27) (w.heap.size + 1 + 1) (by simp))
  go_enter Tryd.func3, Tryd.ntmps3
  go_wp2_with fail
  have B1 := Lib.hid (show Below w.heap.size w (((w.alloc (.cells #[.int .i64 ab, .int .i64 ho, .int .i64 ca] 23)).alloc (.cells #[.int .i64 st, .int .i64 si] 25)).alloc (.cells #[.int .i64 t, .int .i64 v] 27)) from by go_grown)
  generalize ((w.alloc (.cells #[.int .i64 ab, .int .i64 ho, .int .i64 ca] 23)).alloc (.cells #[.int .i64 st, .int .i64 si] 25)).alloc (.cells #[.int .i64 t, .int .i64 v] 27) = w1 at *
  have l1 : w.heap.size ≤ w1.heap.size := B1.out.size
  have l1H5 : w.heap.size + 1 + 1 < w1.heap.size := (Array.getElem?_eq_some_iff.1 H5.out).1
  obtain ⟨cH3, fH3⟩ := blk H3.out
  obtain ⟨cH4, fH4⟩ := blk H4.out
  obtain ⟨cH5, fH5⟩ := blk H5.out
  refine wp_region_calm (C0 := fun w => w1.grownBy w none) (R := rel w1 none 28 [] [11]) (I := (fun _ _ => True)) (chain := chainOf [])
    (S := specOf [(1, isV (.agg #[.int .i64 ab, .int .i64 ho, .int .i64 ca])), (3, isV (.agg #[.int .i64 st, .int .i64 si])), (5, isV (.agg #[.int .i64 t, .int .i64 v])), (6, isV (.tuple #[.agg #[.int .i64 (resA ab ho ca st si t v).1, .int .i64 (resA ab ho ca st si t v).2], .bool (okA ab ho ca st si t v)])), (10, isBox w1 28 2), (11, isSt 28 #[.int .i64 (resA ab ho ca st si t v).1, .int .i64 (resA ab ho ca st si t v).2])]) 12
    (by kernel_rfl) (by kernel_rfl) (setting_rel w1 none _ _ _ _ _ _ _ (fun _ _ _ h _ _ => h) (fun _ _ _ h _ => h) ?_ (by kernel_rfl)) ⟨rfl, rfl, rfl, Nat.le_refl _, fun _ _ _ => rfl⟩ trivial ?_
  · intro p hp hx
    simp only [List.mem_cons, List.not_mem_nil, or_false] at hp
    rcases hp with rfl | rfl | rfl | rfl | rfl | rfl
    · exact stabV _
    · exact stabV _
    · exact stabV _
    · exact stabV _
    · exact stabBox _ _ (by simp)
    · cases hx
  rw [show List.range 12 = [0, 1, 2, 3, 4, 5, 6, 7, 8, 9, 10, 11] from rfl]
  refine calm_pure rfl rfl (by go_simp) ?_
  apply Exists.intro
  refine ⟨fun wx hx => ?_, ?_⟩
  · have kH3 := fun o => (World.cell?_of_block (a := ⟨w.heap.size, o, none⟩) (hx.1.block (w.heap.size) (by omega) (by simp; try omega))).trans (cH3 o)
    go_simp
    rfl
  go_simp
  refine calm_ann' rfl rfl (by go_simp) ?_ ?_
  · intro wx hx _
    have lx := hx.1.size
    have bx := hx.1
    go_simp
    refine ann_enter ?_
    with_reducible refine (toRule_any ab ho ca _).mono ?_
    rintro e wy ⟨rfl, hb⟩
    exact ⟨_, rfl, eff_rel rfl rfl lx hb, rfl⟩
  intro u G' w0 hG hu h0 hG0
  obtain rfl := hu w0 (hG0 _)
  clear hu
  go_simp
  refine calm_pure rfl rfl (by go_simp) ?_
  apply Exists.intro
  refine ⟨fun wx hx => ?_, ?_⟩
  · have kH4 := fun o => (World.cell?_of_block (a := ⟨w.heap.size + 1, o, none⟩) (hx.1.block (w.heap.size + 1) (by omega) (by simp; try omega))).trans (cH4 o)
    go_simp
    rfl
  go_simp
  refine calm_ann' rfl rfl (by go_simp) ?_ ?_
  · intro wx hx _
    have lx := hx.1.size
    have bx := hx.1
    go_simp
    refine ann_enter ?_
    with_reducible refine (toAlert_any st si _).mono ?_
    rintro e wy ⟨rfl, hb⟩
    exact ⟨_, rfl, eff_rel rfl rfl lx hb, rfl⟩
  intro u G' w0 hG hu h0 hG0
  obtain rfl := hu w0 (hG0 _)
  clear hu
  go_simp
  refine calm_pure rfl rfl (by go_simp) ?_
  apply Exists.intro
  refine ⟨fun wx hx => ?_, ?_⟩
  · have kH5 := fun o => (World.cell?_of_block (a := ⟨w.heap.size + 1 + 1, o, none⟩) (hx.1.block (w.heap.size + 1 + 1) (by omega) (by simp; try omega))).trans (cH5 o)
    go_simp
    rfl
  go_simp
  refine calm_ann' rfl rfl (by go_simp) ?_ ?_
  · intro wx hx _
    have lx := hx.1.size
    have bx := hx.1
    go_simp
    refine ann_enter ?_
    with_reducible refine (toPoint_any t v _).mono ?_
    rintro e wy ⟨rfl, hb⟩
    exact ⟨_, rfl, eff_rel rfl rfl lx hb, rfl⟩
  intro u G' w0 hG hu h0 hG0
  obtain rfl := hu w0 (hG0 _)
  clear hu
  go_simp
  refine calm_ann' rfl rfl (by go_simp) ?_ ?_
  · intro wx hx _
    have lx := hx.1.size
    have bx := hx.1
    go_simp
    refine ann_enter ?_
    with_reducible refine (specStep ab ho ca st si t v _).mono ?_
    rintro e wy ⟨rfl, hb⟩
    exact ⟨_, rfl, eff_rel rfl rfl lx hb, rfl⟩
  intro u G' w0 hG hu h0 hG0
  obtain rfl := hu w0 (hG0 _)
  clear hu
  go_simp
  refine calm_pure rfl rfl (by go_simp) ?_
  apply Exists.intro
  refine ⟨fun wx hx => ?_, ?_⟩
  · skip
    go_simp
    rfl
  go_simp
  refine calm_pure rfl rfl (by go_simp) ?_
  apply Exists.intro
  refine ⟨fun wx hx => ?_, ?_⟩
  · skip
    go_simp
    rfl
  go_simp
  refine calm_pure rfl rfl (by go_simp) ?_
  apply Exists.intro
  refine ⟨fun wx hx => ?_, ?_⟩
  · skip
    go_simp
    rfl
  go_simp
  refine calm_ann' rfl rfl (by go_simp) ?_ ?_
  · intro wx hx _
    have lx := hx.1.size
    go_simp
    exact ann_value ⟨eff_rel rfl rfl lx ((Below.refl _ _).alloc (Nat.le_refl _) _), _, rfl, lx, _, heap_new _ _ _ rfl, rfl⟩
  intro u G' w0 hG hu h0 hG0
  obtain ⟨b7, rfl, lb7, -⟩ := hu w0 (hG0 _)
  have HF1 := Lib.hid hu
  clear hu
  go_simp
  refine calm_ann' rfl rfl (by go_simp) ?_ ?_
  · intro wx hx _
    obtain ⟨b', e1, -, cs, e2, e3⟩ := HF1.out wx (hx.2 10 (by kernel_rfl))
    obtain rfl : b7 = b' := by injection e1 with e1; injection e1 with e1; injection e1
    obtain ⟨x0, x1, rfl⟩ := arr2 e3
    obtain ⟨cx, fx⟩ := blk e2
    clear e1 e3
    go_simp
    refine ann_skip ⟨eff_rel_st rfl rfl (shp_trans (shp_set lb7 e2 _) (shp_set lb7 (heap_set_same _ e2) _)), fun b'' hb'' => ?_⟩
    obtain rfl : b7 = b'' := by simpa [opVals, Op.operands, Act.eval] using hb''
    exact heap_set_same _ (heap_set_same _ e2)
  intro u G' w0 hG hu h0 hG0
  have HS1 := Lib.hid (fun w h => hu w h b7 (by simp [opVals, Op.operands, Act.eval]))
  clear hu
  go_simp
  refine wpSeq_nil ?_
  intro w2 hw hG9
  skip
  have H7 := Lib.hid (HS1.out w2 (hG9 _))
  have B2 := Lib.hid (B1.out.grown hw l1 (by simp))
  have H3 := Lib.hid (after_none hw H3.out)
  have H4 := Lib.hid (after_none hw H4.out)
  have H5 := Lib.hid (after_none hw H5.out)
  have l2 : w.heap.size ≤ w2.heap.size := B2.out.size
  have l2H5 : w.heap.size + 1 + 1 < w2.heap.size := (Array.getElem?_eq_some_iff.1 H5.out).1
  have l2H7 : b7 < w2.heap.size := (Array.getElem?_eq_some_iff.1 H7.out).1
  clear HS1 HF1 hG9 hw cH3 fH3 cH4 fH4 cH5 fH5
  obtain ⟨cH3, fH3⟩ := blk H3.out
  obtain ⟨cH4, fH4⟩ := blk H4.out
  obtain ⟨cH5, fH5⟩ := blk H5.out
  go_wp2_with fail
  refine wp_region_calm (C0 := fun w => w2.grownBy w none) (R := rel w2 none 28 [] [11]) (I := (fun _ _ => True)) (chain := chainOf [])
    (S := specOf [(1, isV (.agg #[.int .i64 ab, .int .i64 ho, .int .i64 ca])), (3, isV (.agg #[.int .i64 st, .int .i64 si])), (5, isV (.agg #[.int .i64 t, .int .i64 v])), (6, isV (.tuple #[.agg #[.int .i64 (resA ab ho ca st si t v).1, .int .i64 (resA ab ho ca st si t v).2], .bool (okA ab ho ca st si t v)])), (10, isBox w2 28 2), (11, isSt 28 #[.int .i64 (resA ab ho ca st si t v).1, .int .i64 (resA ab ho ca st si t v).2])]) 12
    (by kernel_rfl) (by kernel_rfl) (setting_rel w2 none _ _ _ _ _ _ _ (fun _ _ _ h _ _ => h) (fun _ _ _ h _ => h) ?_ (by kernel_rfl)) ⟨rfl, rfl, rfl, Nat.le_refl _, fun _ _ _ => rfl⟩ trivial ?_
  · intro p hp hx
    simp only [List.mem_cons, List.not_mem_nil, or_false] at hp
    rcases hp with rfl | rfl | rfl | rfl | rfl | rfl
    · exact stabV _
    · exact stabV _
    · exact stabV _
    · exact stabV _
    · exact stabBox _ _ (by simp)
    · cases hx
  rw [show List.range 12 = [0, 1, 2, 3, 4, 5, 6, 7, 8, 9, 10, 11] from rfl]
  refine calm_pure rfl rfl (by go_simp) ?_
  apply Exists.intro
  refine ⟨fun wx hx => ?_, ?_⟩
  · have kH3 := fun o => (World.cell?_of_block (a := ⟨w.heap.size, o, none⟩) (hx.1.block (w.heap.size) (by omega) (by simp; try omega))).trans (cH3 o)
    go_simp
    rfl
  go_simp
  refine calm_ann' rfl rfl (by go_simp) ?_ ?_
  · intro wx hx _
    have lx := hx.1.size
    have bx := hx.1
    go_simp
    refine ann_enter ?_
    with_reducible refine (toRule_any ab ho ca _).mono ?_
    rintro e wy ⟨rfl, hb⟩
    exact ⟨_, rfl, eff_rel rfl rfl lx hb, rfl⟩
  intro u G' w0 hG hu h0 hG0
  obtain rfl := hu w0 (hG0 _)
  clear hu
  go_simp
  refine calm_pure rfl rfl (by go_simp) ?_
  apply Exists.intro
  refine ⟨fun wx hx => ?_, ?_⟩
  · have kH4 := fun o => (World.cell?_of_block (a := ⟨w.heap.size + 1, o, none⟩) (hx.1.block (w.heap.size + 1) (by omega) (by simp; try omega))).trans (cH4 o)
    go_simp
    rfl
  go_simp
  refine calm_ann' rfl rfl (by go_simp) ?_ ?_
  · intro wx hx _
    have lx := hx.1.size
    have bx := hx.1
    go_simp
    refine ann_enter ?_
    with_reducible refine (toAlert_any st si _).mono ?_
    rintro e wy ⟨rfl, hb⟩
    exact ⟨_, rfl, eff_rel rfl rfl lx hb, rfl⟩
  intro u G' w0 hG hu h0 hG0
  obtain rfl := hu w0 (hG0 _)
  clear hu
  go_simp
  refine calm_pure rfl rfl (by go_simp) ?_
  apply Exists.intro
  refine ⟨fun wx hx => ?_, ?_⟩
  · have kH5 := fun o => (World.cell?_of_block (a := ⟨w.heap.size + 1 + 1, o, none⟩) (hx.1.block (w.heap.size + 1 + 1) (by omega) (by simp; try omega))).trans (cH5 o)
    go_simp
    rfl
  go_simp
  refine calm_ann' rfl rfl (by go_simp) ?_ ?_
  · intro wx hx _
    have lx := hx.1.size
    have bx := hx.1
    go_simp
    refine ann_enter ?_
    with_reducible refine (toPoint_any t v _).mono ?_
    rintro e wy ⟨rfl, hb⟩
    exact ⟨_, rfl, eff_rel rfl rfl lx hb, rfl⟩
  intro u G' w0 hG hu h0 hG0
  obtain rfl := hu w0 (hG0 _)
  clear hu
  go_simp
  refine calm_ann' rfl rfl (by go_simp) ?_ ?_
  · intro wx hx _
    have lx := hx.1.size
    have bx := hx.1
    go_simp
    refine ann_enter ?_
    with_reducible refine (implStep ab ho ca st si t v _ (HT.out.below (B2.out.grown bx l2 (by simp)) hpos)).mono ?_
    rintro e wy ⟨rfl, hb⟩
    exact ⟨_, rfl, eff_rel rfl rfl lx hb, rfl⟩
  intro u G' w0 hG hu h0 hG0
  obtain rfl := hu w0 (hG0 _)
  clear hu
  go_simp
  refine calm_pure rfl rfl (by go_simp) ?_
  apply Exists.intro
  refine ⟨fun wx hx => ?_, ?_⟩
  · skip
    go_simp
    rfl
  go_simp
  refine calm_pure rfl rfl (by go_simp) ?_
  apply Exists.intro
  refine ⟨fun wx hx => ?_, ?_⟩
  · skip
    go_simp
    rfl
  go_simp
  refine calm_pure rfl rfl (by go_simp) ?_
  apply Exists.intro
  refine ⟨fun wx hx => ?_, ?_⟩
  · skip
    go_simp
    rfl
  go_simp
  refine calm_ann' rfl rfl (by go_simp) ?_ ?_
  · intro wx hx _
    have lx := hx.1.size
    go_simp
    exact ann_value ⟨eff_rel rfl rfl lx ((Below.refl _ _).alloc (Nat.le_refl _) _), _, rfl, lx, _, heap_new _ _ _ rfl, rfl⟩
  intro u G' w0 hG hu h0 hG0
  obtain ⟨b9, rfl, lb9, -⟩ := hu w0 (hG0 _)
  have HF2 := Lib.hid hu
  clear hu
  go_simp
  refine calm_ann' rfl rfl (by go_simp) ?_ ?_
  · intro wx hx _
    obtain ⟨b', e1, -, cs, e2, e3⟩ := HF2.out wx (hx.2 10 (by kernel_rfl))
    obtain rfl : b9 = b' := by injection e1 with e1; injection e1 with e1; injection e1
    obtain ⟨x0, x1, rfl⟩ := arr2 e3
    obtain ⟨cx, fx⟩ := blk e2
    clear e1 e3
    go_simp
    refine ann_skip ⟨eff_rel_st rfl rfl (shp_trans (shp_set lb9 e2 _) (shp_set lb9 (heap_set_same _ e2) _)), fun b'' hb'' => ?_⟩
    obtain rfl : b9 = b'' := by simpa [opVals, Op.operands, Act.eval] using hb''
    exact heap_set_same _ (heap_set_same _ e2)
  intro u G' w0 hG hu h0 hG0
  have HS2 := Lib.hid (fun w h => hu w h b9 (by simp [opVals, Op.operands, Act.eval]))
  clear hu
  go_simp
  refine wpSeq_nil ?_
  intro w3 hw hG9
  skip
  have H9 := Lib.hid (HS2.out w3 (hG9 _))
  have H7 := Lib.hid (after_none hw H7.out)
  have B3 := Lib.hid (B2.out.grown hw l2 (by simp))
  have l3 : w.heap.size ≤ w3.heap.size := B3.out.size
  clear HS2 HF2 hG9 hw cH3 fH3 cH4 fH4 cH5 fH5 H3 H4 H5
  obtain ⟨cH7, fH7⟩ := blk H7.out
  obtain ⟨cH9, fH9⟩ := blk H9.out
  go_wp2_with fail
  with_reducible refine (eqAlert_any _ _ _ _ _).mono ?_
  rintro e w4 ⟨he, hb4⟩
  have B4 := Lib.hid (B3.out.trans (hb4.mono l3))
  have he' : e = .returned (.bool true) := by rw [he]; simp
  subst he'
  clear he hb4
  go_wp2_with fail
  go_ret
  exact ⟨rfl, B4.out⟩
end Go.Proofs.YtfhoalglgmdiaaaDoor
