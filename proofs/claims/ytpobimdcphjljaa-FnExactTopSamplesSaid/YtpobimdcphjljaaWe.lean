/-
  FnExactTopSamples: the contract, said of the world itself.
-/
import Derived.Test.YtpobimdcphjljaaWk
import Derived.Test.YtpobimdcphjljaaWi
namespace Go.Proofs.Ytpobimdcphjljaa
open Go
set_option linter.unusedVariables false
set_option linter.unusedSimpArgs false
set_option linter.unnecessarySimpa false
set_option maxRecDepth 4000
set_option maxHeartbeats 8000000 in
theorem FnExactTopSamples_small (nn : Bool) (xs : List samT) (z : Int) (hnn : nn = false → xs = []) (hr0 : rawS xs) (hz : z ≤ 9223372036854775807) (hb : ¬ (1048576 : Int) < ((xs.length + szS xs : Nat) : Int)) (w0 : World) (V0 : Value) (hV0 : RelD w0 (frW w0) (.sl nn xs.length (xs.flatMap samD)) V0) :
    Calls Try.prog 5 #[V0, .int .i64 z] w0 fun e w' => e = .returned (.bool true) ∧ RowKit.Below w0.heap.size w0 w' := by
  have hsz := szSampleS_ok nn xs 1048576 (by decide) (by decide) hr0 hnn
  rw [subI_F hb] at hsz
  obtain ⟨z0, hz0d⟩ : ∃ z0, z0 = (1048576 : Int) - ((xs.length + szS xs : Nat) : Int) := ⟨_, rfl⟩
  rw [← hz0d] at hsz
  have hz00 : 0 ≤ z0 := by omega
  have hsm := smS_of_sz hr0 (by omega)
  have hT := toSampleS_ok2 nn xs hsm hnn
  have hln := nnS_len xs
  obtain ⟨ys, hys⟩ : ∃ ys, ys = nnS xs := ⟨_, rfl⟩
  have hys2 : smS ys := by rw [hys]; exact nnS_sm hsm
  have hty : totS ys ≤ 3 * 1048576 := by have := totS_nn xs; have := totS_sz xs; rw [hys]; omega
  rw [← hys] at hT hln
  have hS := sTop_ok ys z hys2 hz
  have hI := iTop_ok ys z hys2 hz
  have hIs := topI_sm (z := z) hys2
  have hE8 := eqSampleS_self (dec0 (topI ys z)) (topB ys z) (topI ys z) (topR ys z) hIs (topR_sm hys2) (fun h => dec0_nil h) topB_nil (top_same ys z)
  have hE10 := eqSampleS_self true true ys ys hys2 hys2 (by simp) (by simp) rfl
  have hlR : (topI ys z).length ≤ 8 := topI_le8 ys z
  have htR : totS (topI ys z) ≤ 8 * 2097153 := totS_bd hIs hlR
  have hH := heldSampleS_ok (dec0 (topI ys z)) (topI ys z) 1 (by decide) (by omega) (by omega) (fun x hx => ⟨(hIs.2 x hx).1.1, (hIs.2 x hx).2⟩) (fun h => dec0_nil h)
  obtain ⟨G, hG⟩ : ∃ G, G = topI ys z := ⟨_, rfl⟩
  have hGd := hG
  rw [← hG] at hE8 hH hI hlR htR
  have hV0 := hV0.cut0
  have hK : Kp w0 w0 (fun q => w0.heap.size ≤ q) := Kp.refl _ _
  refine calls_start Try.func5 rfl (by rw [Try.results5]) fun a ha hd => ?_
  obtain ⟨hs, hat⟩ := args_at (args := [V0, .int .i64 z]) (n := 74) ha (by simp)
  have p0 : a.tmps.getD 0 Go.undef = V0 := hat 0 (by simp)
  have p1 : a.tmps.getD 1 Go.undef = .int .i64 z := hat 1 (by simp)
  clear ha hat
  refine rebase (gh0 (chain [(w0.heap.size, frW w0)])) [(0, .v false [.vw V0 nn xs.length (xs.flatMap samD)]), (1, .v false [.i .i64 (z)])] [] 0 rfl ?_ (fun p hp => ?_) (mem_nil _ _ _ _) (gh0_born _) hd hs
  rotate_left
  · simp only [List.mem_cons, List.not_mem_nil, or_false] at hp
    rcases hp with rfl | rfl
    · exact ⟨_, rfl, p0, by rw [p0]; exact (hV0).weaken (chain_head _ _ _ _)⟩
    · exact ⟨_, rfl, p1⟩
  clear p0 p1 hd hs
  dsimp only [updL, setE, List.replicate, List.length_cons, List.length_nil]
  refine WC.seq (Qf := fun _ _ _ => False) (fun _ _ _ _ _ _ _ h => h.elim) ?_
  refine AW.region ?_
  first
    | refine ao0 (em_assign (by rfl) (by rfl)) (by rfl) (by rfl) ?_
    | refine ao0 (em_assignG (by rfl) (by rfl)) (by rfl) (by rfl) ?_
    | refine ao0 (sem_move (.inr (by rfl))) (by rfl) (by rfl) ?_
  refine ao_nil (by first | dsimp only [setO, setE] | rfl) (by first | dsimp only [setM, setE, setR] | rfl) (by rfl) ?_
  refine WC.seq (Qf := fun _ _ _ => False) (fun _ _ _ _ _ _ _ h => h.elim) ?_
  refine AW.region ?_
  first
    | refine ao0 (em_assign (by rfl) (by rfl)) (by rfl) (by rfl) ?_
    | refine ao0 (em_assignG (by rfl) (by rfl)) (by rfl) (by rfl) ?_
    | refine ao0 (sem_move (.inr (by rfl))) (by rfl) (by rfl) ?_
  refine ao_nil (by first | dsimp only [setO, setE] | rfl) (by first | dsimp only [setM, setE, setR] | rfl) (by rfl) ?_
  refine WC.seq (Qf := fun _ _ _ => False) (fun _ _ _ _ _ _ _ h => h.elim) ?_
  refine AW.region ?_
  first
    | refine ao0 (em_move (by rfl) (by rfl)) (by rfl) (by rfl) ?_
    | refine ao0 (em_moveG (by rfl) (by rfl)) (by rfl) (by rfl) ?_
    | refine ao0 (sem_move (.inl (by rfl))) (by rfl) (by rfl) ?_
  first
    | refine ao0 (em_move (by rfl) (by rfl)) (by rfl) (by rfl) ?_
    | refine ao0 (em_moveG (by rfl) (by rfl)) (by rfl) (by rfl) ?_
    | refine ao0 (sem_move (.inl (by rfl))) (by rfl) (by rfl) ?_
  refine ao_callL [] [] (hsz) (by rfl) (by rfl) (by rfl) (by rfl) (by rfl) (by repeat' (first | exact True.intro | exact .inl ⟨by rfl, by rfl⟩ | exact rfl | exact .inr (.inl ⟨_, _, _, _, by rfl, by rfl⟩) | exact .inr (.inr ⟨_, _, _, _, _, _, by rfl, by rfl, by rfl, by first | exact .head _ | exact .tail _ (.head _) | exact .tail _ (.tail _ (.head _)) | exact .tail _ (.tail _ (.tail _ (.head _)))⟩) | refine And.intro ?_ ?_)) (by repeat' (first | exact True.intro | exact .inl ⟨by rfl, by rfl⟩ | exact rfl | exact .inl rfl | exact .inr (.inl ⟨_, _, _, _, by rfl, by rfl⟩) | exact .inr ⟨rfl, by simp [D.scalar, bD]⟩ | refine And.intro ?_ ?_)) (by rfl) (by rfl) (by rfl) (by decide) (by rfl) (by rfl) (by omega) (by first | rfl | (simp [keptB, notGone, (by rfl).live]; done)) (by rfl) (by rfl) (by rfl) (by rfl) (by rfl) (by rfl) (by rfl) ?_
  first
    | refine ao0 (em_assign (by rfl) (by rfl)) (by rfl) (by rfl) ?_
    | refine ao0 (em_assignG (by rfl) (by rfl)) (by rfl) (by rfl) ?_
    | refine ao0 (sem_move (.inr (by rfl))) (by rfl) (by rfl) ?_
  refine ao_nil (by first | dsimp only [setO, setE] | rfl) (by first | dsimp only [setM, setE, setR] | rfl) (by rfl) ?_
  refine WC.seq (Qf := fun _ _ _ => False) (fun _ _ _ _ _ _ _ h => h.elim) ?_
  refine AW.seq ?_
  refine AW.region ?_
  first
    | refine ao0 (em_move (by rfl) (by rfl)) (by rfl) (by rfl) ?_
    | refine ao0 (em_moveG (by rfl) (by rfl)) (by rfl) (by rfl) ?_
    | refine ao0 (sem_move (.inl (by rfl))) (by rfl) (by rfl) ?_
  first
    | refine ao0 (em_binI (by rfl) (by rfl) (by rfl) (by rfl) (by first | rfl | trivial | exact ⟨rfl, by decide⟩ | exact ⟨rfl, by omega⟩ | decide | omega)) (by rfl) (by rfl) ?_
    | refine ao0 (sem_binS (by rfl) (by rfl) (by rfl) (by rfl) (by trivial)) (by rfl) (by rfl) ?_
  refine ao_nil (by first | dsimp only [setO, setE] | rfl) (by first | dsimp only [setM, setE, setR] | rfl) (by rfl) ?_
  refine AW.cond (by rfl) (fun hc1 => ?_) (fun hc1 => ?_)
  · exfalso; simp at hc1 <;> omega
  refine AW.skip ?_
  refine WC.seq (Qf := fun _ _ _ => False) (fun _ _ _ _ _ _ _ h => h.elim) ?_
  refine AW.region ?_
  first
    | refine ao0 (em_move (by rfl) (by rfl)) (by rfl) (by rfl) ?_
    | refine ao0 (em_moveG (by rfl) (by rfl)) (by rfl) (by rfl) ?_
    | refine ao0 (sem_move (.inl (by rfl))) (by rfl) (by rfl) ?_
  refine ao_callL [] [] (hT) (by rfl) (by rfl) (by rfl) (by rfl) (by rfl) (by repeat' (first | exact True.intro | exact .inl ⟨by rfl, by rfl⟩ | exact rfl | exact .inr (.inl ⟨_, _, _, _, by rfl, by rfl⟩) | exact .inr (.inr ⟨_, _, _, _, _, _, by rfl, by rfl, by rfl, by first | exact .head _ | exact .tail _ (.head _) | exact .tail _ (.tail _ (.head _)) | exact .tail _ (.tail _ (.tail _ (.head _)))⟩) | refine And.intro ?_ ?_)) (by repeat' (first | exact True.intro | exact .inl ⟨by rfl, by rfl⟩ | exact rfl | exact .inl rfl | exact .inr (.inl ⟨_, _, _, _, by rfl, by rfl⟩) | exact .inr ⟨rfl, by simp [D.scalar, bD]⟩ | refine And.intro ?_ ?_)) (by rfl) (by rfl) (by rfl) (by decide) (by rfl) (by rfl) (by omega) (by first | rfl | (simp [keptB, notGone, (by rfl).live]; done)) (by rfl) (by rfl) (by rfl) (by rfl) (by rfl) (by rfl) (by rfl) ?_
  first
    | refine ao0 (em_move (by rfl) (by rfl)) (by rfl) (by rfl) ?_
    | refine ao0 (em_moveG (by rfl) (by rfl)) (by rfl) (by rfl) ?_
    | refine ao0 (sem_move (.inl (by rfl))) (by rfl) (by rfl) ?_
  refine ao_callL [] [0] (hS) (by rfl) (by rfl) (by rfl) (by rfl) (by rfl) (by repeat' (first | exact True.intro | exact .inl ⟨by rfl, by rfl⟩ | exact rfl | exact .inr (.inl ⟨_, _, _, _, by rfl, by rfl⟩) | exact .inr (.inr ⟨_, _, _, _, _, _, by rfl, by rfl, by rfl, by first | exact .head _ | exact .tail _ (.head _) | exact .tail _ (.tail _ (.head _)) | exact .tail _ (.tail _ (.tail _ (.head _)))⟩) | refine And.intro ?_ ?_)) (by repeat' (first | exact True.intro | exact .inl ⟨by rfl, by rfl⟩ | exact rfl | exact .inl rfl | exact .inr (.inl ⟨_, _, _, _, by rfl, by rfl⟩) | exact .inr ⟨rfl, by simp [D.scalar, bD]⟩ | refine And.intro ?_ ?_)) (by rfl) (by rfl) (by rfl) (by decide) (by rfl) (by rfl) (by omega) (by first | rfl | (simp [keptB, notGone, (by rfl).live]; done)) (by rfl) (by rfl) (by rfl) (by rfl) (by rfl) (by rfl) (by rfl) ?_
  first
    | refine ao0 (em_assign (by rfl) (by rfl)) (by rfl) (by rfl) ?_
    | refine ao0 (em_assignG (by rfl) (by rfl)) (by rfl) (by rfl) ?_
    | refine ao0 (sem_move (.inr (by rfl))) (by rfl) (by rfl) ?_
  refine ao_nil (by first | dsimp only [setO, setE] | rfl) (by first | dsimp only [setM, setE, setR] | rfl) (by rfl) ?_
  intro a w1 g hr hn hs
  have hk : Kp w0 w1 nowh := Kp.ofFr hr.fr (fun r h => absurd h (Nat.not_lt_zero r))
  have p0 := (slot_vw (hr.slots 0)).1
  have p1 := slot_i (hr.slots 1)
  obtain ⟨V6, p6⟩ : ∃ v, a.tmps.getD 6 Go.undef = v := ⟨_, rfl⟩
  have hV6 : RelD w1 (frI g.fr w0.heap.size w1.heap.size) (.sl (topB ys z) ((topR ys z).length) ((topR ys z).flatMap samD)) (a.tmps.getD 6 Go.undef) := (slot_slT (hr.slots 6)).cut
  rw [p6] at hV6
  obtain ⟨f6, hf6⟩ : ∃ f, f = g.fr := ⟨_, rfl⟩
  rw [← hf6] at hV6
  clear hf6
  have hd := hr.defers
  clear hr hn g
  have hV0 := hV0.kp hk (fun _ _ h => h.elim)
  have hK := hK.trans hk.none
  have hz1 := hk.size
  clear hk
  refine wp_seq ?_
  refine region_c1 rfl rfl rfl rfl rfl rfl rfl rfl rfl rfl Try.func20 (by kernel_rfl) rfl (by rw [hs]; decide) (by rw [hs]; decide) (by rw [hs]; decide) ?_
  rw [p0]
  refine (toSampleS_deep nn xs hsm hnn w1 _ V0 hV0).mono ?_
  rintro e w2 ⟨V7, es7, rfl, hD7, he7, hk⟩
  refine ⟨_, rfl, fun a2 z1 z2 z3 z4 => ?_⟩
  have hs := z1.trans hs
  have hd := z2.trans hd
  have p0 := (z3 0 (by decide) (by decide) (by decide)).trans p0
  have p1 := (z3 1 (by decide) (by decide) (by decide)).trans p1
  have p6 := (z3 6 (by decide) (by decide) (by decide)).trans p6
  have p7 := z4
  clear z1 z2 z3 z4
  rw [← hys] at he7
  have hx7 := fun q h => hD7.x_lo (q := q) h
  have hV7 := hD7.view
  rw [show es7.length = ys.length by rw [← he7, List.length_map], he7] at hV7
  refine then_normal ?_
  have hV0 := hV0.kp hk (fun _ _ h => h.elim)
  have hV6 := hV6.kp hk (fun _ _ h => h.elim)
  have hK := hK.trans hk.none
  have hz2 := hk.size
  clear hk
  refine wp_seq ?_
  refine region_c2 rfl rfl rfl rfl rfl rfl rfl rfl rfl rfl rfl rfl rfl Try.func14 (by kernel_rfl) rfl (by decide) (by decide) (by rw [hs]; decide) (by rw [hs]; decide) (by rw [hs]; decide) (by rw [hs]; decide) ?_
  rw [p7, p1]
  refine (iTop_deep ys z hys2 hz w2 _ V7 hV7).mono ?_
  rintro e w3 ⟨V8, es8, rfl, hD8, he8, hk⟩
  refine ⟨_, rfl, fun a2 z1 z2 z3 z4 => ?_⟩
  have hs := z1.trans hs
  have hd := z2.trans hd
  have p0 := (z3 0 (by decide) (by decide) (by decide) (by decide)).trans p0
  have p1 := (z3 1 (by decide) (by decide) (by decide) (by decide)).trans p1
  have p6 := (z3 6 (by decide) (by decide) (by decide) (by decide)).trans p6
  have p7 := (z3 7 (by decide) (by decide) (by decide) (by decide)).trans p7
  have p8 := z4
  clear z1 z2 z3 z4
  rw [← hGd] at he8 hD8
  have hx8 := fun q h => hD8.x_lo (q := q) h
  have hV8 := hD8.view
  rw [show es8.length = G.length by rw [← he8, List.length_map], he8] at hV8
  refine then_normal ?_
  have hV0 := hV0.kp hk (fun _ _ h => h.elim)
  have hV6 := hV6.kp hk (fun _ _ h => h.elim)
  have hV7 := hV7.kp hk (fun _ _ h => h.elim)
  have hD7 := hD7.kp hk (fun _ _ h => h)
  have hK := hK.trans hk.none
  have hz3 := hk.size
  clear hk
  refine rebase (gh0 (chain [(w0.heap.size, frW w0), (w1.heap.size, f6), (w2.heap.size, frW w2), (w3.heap.size, frW w3)])) [(0, .v false [.vw V0 nn xs.length (xs.flatMap samD)]), (1, .v false [.i .i64 (z)]), (6, .v false [.vw V6 (topB ys z) (topR ys z).length ((topR ys z).flatMap samD)]), (7, .v false [.vw V7 true ys.length (ys.flatMap samD)]), (8, .v false [.vw V8 (dec0 G) G.length (G.flatMap samD)])] [] 0 rfl ?_ (fun p hp => ?_) (mem_nil _ _ _ _) (gh0_born _) hd hs
  rotate_left
  · simp only [List.mem_cons, List.not_mem_nil, or_false] at hp
    rcases hp with rfl | rfl | rfl | rfl | rfl
    · exact ⟨_, rfl, p0, by rw [p0]; exact (hV0).weaken (chain_head _ _ _ _)⟩
    · exact ⟨_, rfl, p1⟩
    · exact ⟨_, rfl, p6, by rw [p6]; exact (hV6).weaken ((chain_tail (by omega) (chain_head _ _ _ _)))⟩
    · exact ⟨_, rfl, p7, by rw [p7]; exact (hV7).weaken ((chain_tail (by omega) ((chain_tail (by omega) (chain_head _ _ _ _)))))⟩
    · exact ⟨_, rfl, p8, by rw [p8]; exact (hV8).weaken ((chain_tail (by omega) ((chain_tail (by omega) ((chain_tail (by omega) (chain_head _ _ _ _)))))))⟩
  clear p0 p1 p6 p7 p8 hd hs
  dsimp only [updL, setE, List.replicate, List.length_cons, List.length_nil]
  refine WC.seq (Qf := fun _ _ _ => False) (fun _ _ _ _ _ _ _ h => h.elim) ?_
  refine AW.seq ?_
  refine AW.region ?_
  first
    | refine ao0 (em_move (by rfl) (by rfl)) (by rfl) (by rfl) ?_
    | refine ao0 (em_moveG (by rfl) (by rfl)) (by rfl) (by rfl) ?_
    | refine ao0 (sem_move (.inl (by rfl))) (by rfl) (by rfl) ?_
  first
    | refine ao0 (em_move (by rfl) (by rfl)) (by rfl) (by rfl) ?_
    | refine ao0 (em_moveG (by rfl) (by rfl)) (by rfl) (by rfl) ?_
    | refine ao0 (sem_move (.inl (by rfl))) (by rfl) (by rfl) ?_
  refine ao_callL [] [] (hE8) (by rfl) (by rfl) (by rfl) (by rfl) (by rfl) (by repeat' (first | exact True.intro | exact .inl ⟨by rfl, by rfl⟩ | exact rfl | exact .inr (.inl ⟨_, _, _, _, by rfl, by rfl⟩) | exact .inr (.inr ⟨_, _, _, _, _, _, by rfl, by rfl, by rfl, by first | exact .head _ | exact .tail _ (.head _) | exact .tail _ (.tail _ (.head _)) | exact .tail _ (.tail _ (.tail _ (.head _)))⟩) | refine And.intro ?_ ?_)) (by repeat' (first | exact True.intro | exact .inl ⟨by rfl, by rfl⟩ | exact rfl | exact .inl rfl | exact .inr (.inl ⟨_, _, _, _, by rfl, by rfl⟩) | exact .inr ⟨rfl, by simp [D.scalar, bD]⟩ | refine And.intro ?_ ?_)) (by rfl) (by rfl) (by rfl) (by decide) (by rfl) (by rfl) (by omega) (by first | rfl | (simp [keptB, notGone, (by rfl).live]; done)) (by rfl) (by rfl) (by rfl) (by rfl) (by rfl) (by rfl) (by rfl) ?_
  refine ao0 (sem_unOp (by rfl) (by rfl) (by rfl)) (by rfl) (by rfl) ?_
  refine ao_nil (by first | dsimp only [setO, setE] | rfl) (by first | dsimp only [setM, setE, setR] | rfl) (by rfl) ?_
  refine AW.cond (by rfl) (fun hc2 => ?_) (fun hc2 => ?_)
  · exfalso; simp at hc2 <;> omega
  refine AW.skip ?_
  refine WC.seq (Qf := fun _ _ _ => False) (fun _ _ _ _ _ _ _ h => h.elim) ?_
  refine AW.seq ?_
  refine AW.region ?_
  first
    | refine ao0 (em_move (by rfl) (by rfl)) (by rfl) (by rfl) ?_
    | refine ao0 (em_moveG (by rfl) (by rfl)) (by rfl) (by rfl) ?_
    | refine ao0 (sem_move (.inl (by rfl))) (by rfl) (by rfl) ?_
  first
    | refine ao0 (em_move (by rfl) (by rfl)) (by rfl) (by rfl) ?_
    | refine ao0 (em_moveG (by rfl) (by rfl)) (by rfl) (by rfl) ?_
    | refine ao0 (sem_move (.inl (by rfl))) (by rfl) (by rfl) ?_
  refine ao_callL [] [] (hT) (by rfl) (by rfl) (by rfl) (by rfl) (by rfl) (by repeat' (first | exact True.intro | exact .inl ⟨by rfl, by rfl⟩ | exact rfl | exact .inr (.inl ⟨_, _, _, _, by rfl, by rfl⟩) | exact .inr (.inr ⟨_, _, _, _, _, _, by rfl, by rfl, by rfl, by first | exact .head _ | exact .tail _ (.head _) | exact .tail _ (.tail _ (.head _)) | exact .tail _ (.tail _ (.tail _ (.head _)))⟩) | refine And.intro ?_ ?_)) (by repeat' (first | exact True.intro | exact .inl ⟨by rfl, by rfl⟩ | exact rfl | exact .inl rfl | exact .inr (.inl ⟨_, _, _, _, by rfl, by rfl⟩) | exact .inr ⟨rfl, by simp [D.scalar, bD]⟩ | refine And.intro ?_ ?_)) (by rfl) (by rfl) (by rfl) (by decide) (by rfl) (by rfl) (by omega) (by first | rfl | (simp [keptB, notGone, (by rfl).live]; done)) (by rfl) (by rfl) (by rfl) (by rfl) (by rfl) (by rfl) (by rfl) ?_
  refine ao_callL [] [0] (hE10) (by rfl) (by rfl) (by rfl) (by rfl) (by rfl) (by repeat' (first | exact True.intro | exact .inl ⟨by rfl, by rfl⟩ | exact rfl | exact .inr (.inl ⟨_, _, _, _, by rfl, by rfl⟩) | exact .inr (.inr ⟨_, _, _, _, _, _, by rfl, by rfl, by rfl, by first | exact .head _ | exact .tail _ (.head _) | exact .tail _ (.tail _ (.head _)) | exact .tail _ (.tail _ (.tail _ (.head _)))⟩) | refine And.intro ?_ ?_)) (by repeat' (first | exact True.intro | exact .inl ⟨by rfl, by rfl⟩ | exact rfl | exact .inl rfl | exact .inr (.inl ⟨_, _, _, _, by rfl, by rfl⟩) | exact .inr ⟨rfl, by simp [D.scalar, bD]⟩ | refine And.intro ?_ ?_)) (by rfl) (by rfl) (by rfl) (by decide) (by rfl) (by rfl) (by omega) (by first | rfl | (simp [keptB, notGone, (by rfl).live]; done)) (by rfl) (by rfl) (by rfl) (by rfl) (by rfl) (by rfl) (by rfl) ?_
  refine ao0 (sem_unOp (by rfl) (by rfl) (by rfl)) (by rfl) (by rfl) ?_
  refine ao_nil (by first | dsimp only [setO, setE] | rfl) (by first | dsimp only [setM, setE, setR] | rfl) (by rfl) ?_
  refine AW.cond (by rfl) (fun hc3 => ?_) (fun hc3 => ?_)
  · exfalso; simp at hc3 <;> omega
  refine AW.skip ?_
  refine WC.seq (Qf := fun _ _ _ => False) (fun _ _ _ _ _ _ _ h => h.elim) ?_
  refine AW.region ?_
  first
    | refine ao0 (em_assign (by rfl) (by rfl)) (by rfl) (by rfl) ?_
    | refine ao0 (em_assignG (by rfl) (by rfl)) (by rfl) (by rfl) ?_
    | refine ao0 (sem_move (.inr (by rfl))) (by rfl) (by rfl) ?_
  refine ao_nil (by first | dsimp only [setO, setE] | rfl) (by first | dsimp only [setM, setE, setR] | rfl) (by rfl) ?_
  intro a w4 g hr hn hs
  have hk : Kp w3 w4 nowh := Kp.ofFr hr.fr (fun r h => absurd h (Nat.not_lt_zero r))
  have p0 := (slot_vw (hr.slots 0)).1
  have p6 := (slot_vw (hr.slots 6)).1
  have p7 := (slot_vw (hr.slots 7)).1
  have p8 := (slot_vw (hr.slots 8)).1
  have p1 := slot_i (hr.slots 1)
  have p9 := slot_i (hr.slots 9)
  have hd := hr.defers
  clear hr hn g
  have hV0 := hV0.kp hk (fun _ _ h => h.elim)
  have hV6 := hV6.kp hk (fun _ _ h => h.elim)
  have hV7 := hV7.kp hk (fun _ _ h => h.elim)
  have hV8 := hV8.kp hk (fun _ _ h => h.elim)
  have hD7 := hD7.kp hk (fun _ _ h => h)
  have hD8 := hD8.kp hk (fun _ _ h => h)
  have hK := hK.trans hk.none
  have hz4 := hk.size
  clear hk
  refine wp_seq ?_
  refine region_c2 rfl rfl rfl rfl rfl rfl rfl rfl rfl rfl rfl rfl rfl Try.func22 (by kernel_rfl) rfl (by decide) (by decide) (by rw [hs]; decide) (by rw [hs]; decide) (by rw [hs]; decide) (by rw [hs]; decide) ?_
  rw [p7, p9]
  refine (markSampleS_deep w4 _ V7 true es7 ys 1 (DeepXV V7 es7) hD7 he7 (by decide) (by omega) (by have := hys2.1; omega) (fun x hx => (hys2.2 x hx).1.1) (fun _ h => h)).mono ?_
  rintro e w5 ⟨es7b, rfl, -, -, hk⟩
  refine ⟨_, rfl, fun a2 z1 z2 z3 z4 => ?_⟩
  have hs := z1.trans hs
  have hd := z2.trans hd
  have p0 := (z3 0 (by decide) (by decide) (by decide) (by decide)).trans p0
  have p1 := (z3 1 (by decide) (by decide) (by decide) (by decide)).trans p1
  have p6 := (z3 6 (by decide) (by decide) (by decide) (by decide)).trans p6
  have p8 := (z3 8 (by decide) (by decide) (by decide) (by decide)).trans p8
  have p9 := z4
  clear z1 z2 z3 z4
  refine then_normal ?_
  have hV0 := hV0.kp hk (fun q _ h => frI_out (by have := hx7 q h; omega))
  have hV6 := hV6.kp hk (fun q _ h => frI_out (by have := hx7 q h; omega))
  have hV8 := hV8.kp hk (fun q _ h => frI_out (by have := hx7 q h; omega))
  have hD8 := hD8.kp hk (fun q h1 h2 => by have := hx8 q h1; have := hx7 q h2; omega)
  have hK := hK.trans2 hk (fun q hq h => by have := hx7 q h; omega)
  have hz5 := hk.size
  clear hk
  refine rebase (gh0 (chain [(w0.heap.size, frW w0), (w1.heap.size, f6), (w3.heap.size, frW w3)])) [(0, .v false [.vw V0 nn xs.length (xs.flatMap samD)]), (1, .v false [.i .i64 (z)]), (6, .v false [.vw V6 (topB ys z) (topR ys z).length ((topR ys z).flatMap samD)]), (8, .v false [.vw V8 (dec0 G) G.length (G.flatMap samD)]), (9, .v false [.i .i64 (1 + (totS ys : Int))])] [] 0 rfl ?_ (fun p hp => ?_) (mem_nil _ _ _ _) (gh0_born _) hd hs
  rotate_left
  · simp only [List.mem_cons, List.not_mem_nil, or_false] at hp
    rcases hp with rfl | rfl | rfl | rfl | rfl
    · exact ⟨_, rfl, p0, by rw [p0]; exact (hV0).weaken (chain_head _ _ _ _)⟩
    · exact ⟨_, rfl, p1⟩
    · exact ⟨_, rfl, p6, by rw [p6]; exact (hV6).weaken ((chain_tail (by omega) (chain_head _ _ _ _)))⟩
    · exact ⟨_, rfl, p8, by rw [p8]; exact (hV8).weaken ((chain_tail (by omega) ((chain_tail (by omega) (chain_head _ _ _ _)))))⟩
    · exact ⟨_, rfl, p9⟩
  clear p0 p1 p6 p8 p9 hd hs
  dsimp only [updL, setE, List.replicate, List.length_cons, List.length_nil]
  refine WC.seq (Qf := fun _ _ _ => False) (fun _ _ _ _ _ _ _ h => h.elim) ?_
  refine AW.seq ?_
  refine AW.region ?_
  first
    | refine ao0 (em_move (by rfl) (by rfl)) (by rfl) (by rfl) ?_
    | refine ao0 (em_moveG (by rfl) (by rfl)) (by rfl) (by rfl) ?_
    | refine ao0 (sem_move (.inl (by rfl))) (by rfl) (by rfl) ?_
  first
    | refine ao0 (em_binI (by rfl) (by rfl) (by rfl) (by rfl) (by first | rfl | trivial | exact ⟨rfl, by decide⟩ | exact ⟨rfl, by omega⟩ | decide | omega)) (by rfl) (by rfl) ?_
    | refine ao0 (sem_binS (by rfl) (by rfl) (by rfl) (by rfl) (by trivial)) (by rfl) (by rfl) ?_
  first
    | refine ao0 (em_move (by rfl) (by rfl)) (by rfl) (by rfl) ?_
    | refine ao0 (em_moveG (by rfl) (by rfl)) (by rfl) (by rfl) ?_
    | refine ao0 (sem_move (.inl (by rfl))) (by rfl) (by rfl) ?_
  first
    | refine ao_skip (by rfl) (by rfl) ?_
    | refine ao0 (em_move (by rfl) (by rfl)) (by rfl) (by rfl) ?_
    | refine ao0 (em_moveG (by rfl) (by rfl)) (by rfl) (by rfl) ?_
    | refine ao0 (sem_move (.inl (by rfl))) (by rfl) (by rfl) ?_
    | refine ao_opt (by rfl) (by rfl) (fun he => astep0 (em_move (by rfl) (by rfl))) ?_
    | refine ao_opt (by rfl) (by rfl) (fun he => astep0 (em_moveG (by rfl) (by rfl))) ?_
    | refine ao_opt (by rfl) (by rfl) (fun he => by rw [he]; exact astep0 (em_move (by rfl) (by rfl))) ?_
    | refine ao_opt (by rfl) (by rfl) (fun he => by rw [he]; exact astep0 (em_moveG (by rfl) (by rfl))) ?_
    | refine ao_opt (by rfl) (by rfl) (fun he => astep0 (sem_move (.inl (by rfl)))) ?_
    | refine ao_opt (by rfl) (by rfl) (fun he => by rw [he]; exact astep0 (sem_move (.inl (by rfl)))) ?_
  first
    | refine ao_skip (by rfl) (by rfl) ?_
    | refine ao0 (em_move (by rfl) (by rfl)) (by rfl) (by rfl) ?_
    | refine ao0 (em_moveG (by rfl) (by rfl)) (by rfl) (by rfl) ?_
    | refine ao0 (sem_move (.inl (by rfl))) (by rfl) (by rfl) ?_
    | refine ao_opt (by rfl) (by rfl) (fun he => astep0 (em_move (by rfl) (by rfl))) ?_
    | refine ao_opt (by rfl) (by rfl) (fun he => astep0 (em_moveG (by rfl) (by rfl))) ?_
    | refine ao_opt (by rfl) (by rfl) (fun he => by rw [he]; exact astep0 (em_move (by rfl) (by rfl))) ?_
    | refine ao_opt (by rfl) (by rfl) (fun he => by rw [he]; exact astep0 (em_moveG (by rfl) (by rfl))) ?_
    | refine ao_opt (by rfl) (by rfl) (fun he => astep0 (sem_move (.inl (by rfl)))) ?_
    | refine ao_opt (by rfl) (by rfl) (fun he => by rw [he]; exact astep0 (sem_move (.inl (by rfl)))) ?_
  first
    | refine ao_skip (by rfl) (by rfl) ?_
    | refine ao_callL [] [] (hE8) (by rfl) (by rfl) (by rfl) (by rfl) (by rfl) (by repeat' (first | exact True.intro | exact .inl ⟨by rfl, by rfl⟩ | exact rfl | exact .inr (.inl ⟨_, _, _, _, by rfl, by rfl⟩) | exact .inr (.inr ⟨_, _, _, _, _, _, by rfl, by rfl, by rfl, by first | exact .head _ | exact .tail _ (.head _) | exact .tail _ (.tail _ (.head _)) | exact .tail _ (.tail _ (.tail _ (.head _)))⟩) | refine And.intro ?_ ?_)) (by repeat' (first | exact True.intro | exact .inl ⟨by rfl, by rfl⟩ | exact rfl | exact .inl rfl | exact .inr (.inl ⟨_, _, _, _, by rfl, by rfl⟩) | exact .inr ⟨rfl, by simp [D.scalar, bD]⟩ | refine And.intro ?_ ?_)) (by rfl) (by rfl) (by rfl) (by decide) (by rfl) (by rfl) (by omega) (by first | rfl | (simp [keptB, notGone, (by rfl).live]; done)) (by rfl) (by rfl) (by rfl) (by rfl) (by rfl) (by rfl) (by rfl) ?_
    | refine ao_opt (by rfl) (by rfl) (fun he => by rw [he]; exact astep_callL [] [] (hE8) (by rfl) (by rfl) (by rfl) (by repeat' (first | exact True.intro | exact .inl ⟨by rfl, by rfl⟩ | exact rfl | exact .inr (.inl ⟨_, _, _, _, by rfl, by rfl⟩) | exact .inr (.inr ⟨_, _, _, _, _, _, by rfl, by rfl, by rfl, by first | exact .head _ | exact .tail _ (.head _) | exact .tail _ (.tail _ (.head _)) | exact .tail _ (.tail _ (.tail _ (.head _)))⟩) | refine And.intro ?_ ?_)) (by repeat' (first | exact True.intro | exact .inl ⟨by rfl, by rfl⟩ | exact rfl | exact .inl rfl | exact .inr (.inl ⟨_, _, _, _, by rfl, by rfl⟩) | exact .inr ⟨rfl, by simp [D.scalar, bD]⟩ | refine And.intro ?_ ?_)) (by rfl) (by rfl) (by rfl) (by decide) (by rfl) (by rfl) (by omega) (by first | rfl | (simp [keptB, notGone, (by rfl).live]; done)) (by rfl) (by rfl) (by rfl) (by rfl) (by rfl) (by rfl) (by rfl)) ?_
    | refine ao_opt (by rfl) (by rfl) (fun he => astep_callL [] [] (hE8) (by rfl) (by rfl) (by rfl) (by repeat' (first | exact True.intro | exact .inl ⟨by rfl, by rfl⟩ | exact rfl | exact .inr (.inl ⟨_, _, _, _, by rfl, by rfl⟩) | exact .inr (.inr ⟨_, _, _, _, _, _, by rfl, by rfl, by rfl, by first | exact .head _ | exact .tail _ (.head _) | exact .tail _ (.tail _ (.head _)) | exact .tail _ (.tail _ (.tail _ (.head _)))⟩) | refine And.intro ?_ ?_)) (by repeat' (first | exact True.intro | exact .inl ⟨by rfl, by rfl⟩ | exact rfl | exact .inl rfl | exact .inr (.inl ⟨_, _, _, _, by rfl, by rfl⟩) | exact .inr ⟨rfl, by simp [D.scalar, bD]⟩ | refine And.intro ?_ ?_)) (by rfl) (by rfl) (by rfl) (by decide) (by rfl) (by rfl) (by omega) (by first | rfl | (simp [keptB, notGone, (by rfl).live]; done)) (by rfl) (by rfl) (by rfl) (by rfl) (by rfl) (by rfl) (by rfl)) ?_
  first
    | refine ao_skip (by rfl) (by rfl) ?_
    | refine ao0 (sem_unOp (by rfl) (by rfl) (by rfl)) (by rfl) (by rfl) ?_
    | refine ao_opt (by rfl) (by rfl) (fun he => astep0 (sem_unOp (by rfl) (by rfl) (by rfl))) ?_
    | refine ao_opt (by rfl) (by rfl) (fun he => by rw [he]; exact astep0 (sem_unOp (by rfl) (by rfl) (by rfl))) ?_
  first
    | refine ao0 (sem_pickg (by rfl) (by rfl) (by rfl) (by rfl) (by intro hh; first | rfl | exact hh | (exact Bool.noConfusion hh) | (simp [wexp]; done) | (simp [wexp] at hh; done) | (simpa [wexp] using hh) | (simp_all; done)) (by intro hh; first | rfl | exact hh | (exact Bool.noConfusion hh) | (simp [wexp]; done) | (simp [wexp] at hh; done) | (simpa [wexp] using hh) | (simp_all; done))) (by rfl) (by rfl) ?_
    | refine ao0 (sem_pick (by rfl) (by rfl)) (by rfl) (by rfl) ?_
  refine ao_nil (by first | dsimp only [setO, setE] | rfl) (by first | dsimp only [setM, setE, setR] | rfl) (by rfl) ?_
  refine AW.cond (by rfl) (fun hc4 => ?_) (fun hc4 => ?_)
  · exfalso; simp at hc4 <;> omega
  refine AW.skip ?_
  refine WC.seq (Qf := fun _ _ _ => False) (fun _ _ _ _ _ _ _ h => h.elim) ?_
  refine AW.region ?_
  first
    | refine ao0 (em_assign (by rfl) (by rfl)) (by rfl) (by rfl) ?_
    | refine ao0 (em_assignG (by rfl) (by rfl)) (by rfl) (by rfl) ?_
    | refine ao0 (sem_move (.inr (by rfl))) (by rfl) (by rfl) ?_
  refine ao_nil (by first | dsimp only [setO, setE] | rfl) (by first | dsimp only [setM, setE, setR] | rfl) (by rfl) ?_
  intro a w6 g hr hn hs
  have hk : Kp w5 w6 nowh := Kp.ofFr hr.fr (fun r h => absurd h (Nat.not_lt_zero r))
  have p0 := (slot_vw (hr.slots 0)).1
  have p6 := (slot_vw (hr.slots 6)).1
  have p8 := (slot_vw (hr.slots 8)).1
  have p1 := slot_i (hr.slots 1)
  have p9 := slot_i (hr.slots 9)
  have p10 := slot_i (hr.slots 10)
  have hd := hr.defers
  clear hr hn g
  have hV0 := hV0.kp hk (fun _ _ h => h.elim)
  have hV6 := hV6.kp hk (fun _ _ h => h.elim)
  have hV8 := hV8.kp hk (fun _ _ h => h.elim)
  have hD8 := hD8.kp hk (fun _ _ h => h)
  have hK := hK.trans hk.none
  have hz6 := hk.size
  clear hk
  refine wp_seq ?_
  refine region_c2 rfl rfl rfl rfl rfl rfl rfl rfl rfl rfl rfl rfl rfl Try.func22 (by kernel_rfl) rfl (by decide) (by decide) (by rw [hs]; decide) (by rw [hs]; decide) (by rw [hs]; decide) (by rw [hs]; decide) ?_
  rw [p8, p10]
  refine (markSampleS_deep w6 _ V8 (dec0 G) es8 G 1 (DeepXV V8 es8) hD8 he8 (by decide) (by omega) (by omega) (fun x hx => by rw [hGd] at hx; exact (hIs.2 x hx).1.1) (fun _ h => h)).mono ?_
  rintro e w7 ⟨es8b, rfl, hD8b, he8b, hk⟩
  refine ⟨_, rfl, fun a2 z1 z2 z3 z4 => ?_⟩
  have hs := z1.trans hs
  have hd := z2.trans hd
  have p0 := (z3 0 (by decide) (by decide) (by decide) (by decide)).trans p0
  have p1 := (z3 1 (by decide) (by decide) (by decide) (by decide)).trans p1
  have p6 := (z3 6 (by decide) (by decide) (by decide) (by decide)).trans p6
  have p8 := (z3 8 (by decide) (by decide) (by decide) (by decide)).trans p8
  have p10 := z4
  clear z1 z2 z3 z4
  refine then_normal ?_
  have hV0 := hV0.kp hk (fun q _ h => frI_out (by have := hx8 q h; omega))
  have hV6 := hV6.kp hk (fun q _ h => frI_out (by have := hx8 q h; omega))
  have hK := hK.trans2 hk (fun q hq h => by have := hx8 q h; omega)
  have hz7 := hk.size
  clear hk
  have hV8 := hD8b.view
  rw [show es8b.length = G.length by have := congrArg List.length he8b; rw [List.length_map, markS_len] at this; exact this, he8b] at hV8
  refine rebase (gh0 (chain [(w0.heap.size, frW w0), (w1.heap.size, f6), (w7.heap.size, frW w7)])) [(0, .v false [.vw V0 nn xs.length (xs.flatMap samD)]), (1, .v false [.i .i64 (z)]), (6, .v false [.vw V6 (topB ys z) (topR ys z).length ((topR ys z).flatMap samD)]), (8, .v false [.vw V8 (dec0 G) G.length ((markS G 1).flatMap samD)]), (10, .v false [.i .i64 (1 + (totS G : Int))])] [] 0 rfl ?_ (fun p hp => ?_) (mem_nil _ _ _ _) (gh0_born _) hd hs
  rotate_left
  · simp only [List.mem_cons, List.not_mem_nil, or_false] at hp
    rcases hp with rfl | rfl | rfl | rfl | rfl
    · exact ⟨_, rfl, p0, by rw [p0]; exact (hV0).weaken (chain_head _ _ _ _)⟩
    · exact ⟨_, rfl, p1⟩
    · exact ⟨_, rfl, p6, by rw [p6]; exact (hV6).weaken ((chain_tail (by omega) (chain_head _ _ _ _)))⟩
    · exact ⟨_, rfl, p8, by rw [p8]; exact (hV8).weaken ((chain_tail (by omega) ((chain_tail (by omega) (chain_head _ _ _ _)))))⟩
    · exact ⟨_, rfl, p10⟩
  clear p0 p1 p6 p8 p10 hd hs
  dsimp only [updL, setE, List.replicate, List.length_cons, List.length_nil]
  refine WC.seq (Qf := fun _ _ _ => False) (fun _ _ _ _ _ _ _ h => h.elim) ?_
  refine AW.region ?_
  first
    | refine ao0 (em_assign (by rfl) (by rfl)) (by rfl) (by rfl) ?_
    | refine ao0 (em_assignG (by rfl) (by rfl)) (by rfl) (by rfl) ?_
    | refine ao0 (sem_move (.inr (by rfl))) (by rfl) (by rfl) ?_
  refine ao_nil (by first | dsimp only [setO, setE] | rfl) (by first | dsimp only [setM, setE, setR] | rfl) (by rfl) ?_
  refine WC.seq (Qf := fun _ _ _ => False) (fun _ _ _ _ _ _ _ h => h.elim) ?_
  refine AW.region ?_
  first
    | refine ao0 (em_move (by rfl) (by rfl)) (by rfl) (by rfl) ?_
    | refine ao0 (em_moveG (by rfl) (by rfl)) (by rfl) (by rfl) ?_
    | refine ao0 (sem_move (.inl (by rfl))) (by rfl) (by rfl) ?_
  first
    | refine ao0 (em_move (by rfl) (by rfl)) (by rfl) (by rfl) ?_
    | refine ao0 (em_moveG (by rfl) (by rfl)) (by rfl) (by rfl) ?_
    | refine ao0 (sem_move (.inl (by rfl))) (by rfl) (by rfl) ?_
  refine ao_callL [] [] (hH) (by rfl) (by rfl) (by rfl) (by rfl) (by rfl) (by repeat' (first | exact True.intro | exact .inl ⟨by rfl, by rfl⟩ | exact rfl | exact .inr (.inl ⟨_, _, _, _, by rfl, by rfl⟩) | exact .inr (.inr ⟨_, _, _, _, _, _, by rfl, by rfl, by rfl, by first | exact .head _ | exact .tail _ (.head _) | exact .tail _ (.tail _ (.head _)) | exact .tail _ (.tail _ (.tail _ (.head _)))⟩) | refine And.intro ?_ ?_)) (by repeat' (first | exact True.intro | exact .inl ⟨by rfl, by rfl⟩ | exact rfl | exact .inl rfl | exact .inr (.inl ⟨_, _, _, _, by rfl, by rfl⟩) | exact .inr ⟨rfl, by simp [D.scalar, bD]⟩ | refine And.intro ?_ ?_)) (by rfl) (by rfl) (by rfl) (by decide) (by rfl) (by rfl) (by omega) (by first | rfl | (simp [keptB, notGone, (by rfl).live]; done)) (by rfl) (by rfl) (by rfl) (by rfl) (by rfl) (by rfl) (by rfl) ?_
  first
    | refine ao0 (em_assign (by rfl) (by rfl)) (by rfl) (by rfl) ?_
    | refine ao0 (em_assignG (by rfl) (by rfl)) (by rfl) (by rfl) ?_
    | refine ao0 (sem_move (.inr (by rfl))) (by rfl) (by rfl) ?_
  refine ao_nil (by first | dsimp only [setO, setE] | rfl) (by first | dsimp only [setM, setE, setR] | rfl) (by rfl) ?_
  refine WC.seq (Qf := fun _ _ _ => False) (fun _ _ _ _ _ _ _ h => h.elim) ?_
  refine AW.seq ?_
  refine AW.region ?_
  first
    | refine ao0 (em_move (by rfl) (by rfl)) (by rfl) (by rfl) ?_
    | refine ao0 (em_moveG (by rfl) (by rfl)) (by rfl) (by rfl) ?_
    | refine ao0 (sem_move (.inl (by rfl))) (by rfl) (by rfl) ?_
  first
    | refine ao0 (em_binI (by rfl) (by rfl) (by rfl) (by rfl) (by first | rfl | trivial | exact ⟨rfl, by decide⟩ | exact ⟨rfl, by omega⟩ | decide | omega)) (by rfl) (by rfl) ?_
    | refine ao0 (sem_binS (by rfl) (by rfl) (by rfl) (by rfl) (by trivial)) (by rfl) (by rfl) ?_
  refine ao_nil (by first | dsimp only [setO, setE] | rfl) (by first | dsimp only [setM, setE, setR] | rfl) (by rfl) ?_
  refine AW.cond (by rfl) (fun hc5 => ?_) (fun hc5 => ?_)
  · exfalso; simp at hc5 <;> omega
  refine AW.skip ?_
  refine WC.seq (Qf := fun _ _ _ => False) (fun _ _ _ _ _ _ _ h => h.elim) ?_
  refine AW.seq ?_
  refine AW.region ?_
  first
    | refine ao0 (em_move (by rfl) (by rfl)) (by rfl) (by rfl) ?_
    | refine ao0 (em_moveG (by rfl) (by rfl)) (by rfl) (by rfl) ?_
    | refine ao0 (sem_move (.inl (by rfl))) (by rfl) (by rfl) ?_
  first
    | refine ao0 (em_move (by rfl) (by rfl)) (by rfl) (by rfl) ?_
    | refine ao0 (em_moveG (by rfl) (by rfl)) (by rfl) (by rfl) ?_
    | refine ao0 (sem_move (.inl (by rfl))) (by rfl) (by rfl) ?_
  first
    | refine ao0 (em_binI (by rfl) (by rfl) (by rfl) (by rfl) (by first | rfl | trivial | exact ⟨rfl, by decide⟩ | exact ⟨rfl, by omega⟩ | decide | omega)) (by rfl) (by rfl) ?_
    | refine ao0 (sem_binB tyOk (by rfl) (by rfl) (by rfl) (by rfl) (by rfl) (by rfl)) (by rfl) (by rfl) ?_
    | refine ao0 (sem_nilS tyOk (by rfl) (by rfl) (by rfl) (by rfl) (by rfl) (by first | exact .inl ⟨rfl, rfl⟩ | exact .inr ⟨rfl, rfl⟩)) (by rfl) (by rfl) ?_
    | refine ao0 (sem_binS (by rfl) (by rfl) (by rfl) (by rfl) (by trivial)) (by rfl) (by rfl) ?_
  refine ao_nil (by first | dsimp only [setO, setE] | rfl) (by first | dsimp only [setM, setE, setR] | rfl) (by rfl) ?_
  refine AW.cond (by rfl) (fun hc6 => ?_) (fun hc6 => ?_)
  · exfalso; simp at hc6 <;> omega
  refine AW.skip ?_
  refine WC.seq (Qf := fun _ _ _ => False) (fun _ _ _ _ _ _ _ h => h.elim) ?_
  refine AW.region ?_
  first
    | refine ao0 (em_move (by rfl) (by rfl)) (by rfl) (by rfl) ?_
    | refine ao0 (em_moveG (by rfl) (by rfl)) (by rfl) (by rfl) ?_
    | refine ao0 (sem_move (.inl (by rfl))) (by rfl) (by rfl) ?_
  refine ao_callL [] [] (hT) (by rfl) (by rfl) (by rfl) (by rfl) (by rfl) (by repeat' (first | exact True.intro | exact .inl ⟨by rfl, by rfl⟩ | exact rfl | exact .inr (.inl ⟨_, _, _, _, by rfl, by rfl⟩) | exact .inr (.inr ⟨_, _, _, _, _, _, by rfl, by rfl, by rfl, by first | exact .head _ | exact .tail _ (.head _) | exact .tail _ (.tail _ (.head _)) | exact .tail _ (.tail _ (.tail _ (.head _)))⟩) | refine And.intro ?_ ?_)) (by repeat' (first | exact True.intro | exact .inl ⟨by rfl, by rfl⟩ | exact rfl | exact .inl rfl | exact .inr (.inl ⟨_, _, _, _, by rfl, by rfl⟩) | exact .inr ⟨rfl, by simp [D.scalar, bD]⟩ | refine And.intro ?_ ?_)) (by rfl) (by rfl) (by rfl) (by decide) (by rfl) (by rfl) (by omega) (by first | rfl | (simp [keptB, notGone, (by rfl).live]; done)) (by rfl) (by rfl) (by rfl) (by rfl) (by rfl) (by rfl) (by rfl) ?_
  first
    | refine ao0 (em_move (by rfl) (by rfl)) (by rfl) (by rfl) ?_
    | refine ao0 (em_moveG (by rfl) (by rfl)) (by rfl) (by rfl) ?_
    | refine ao0 (sem_move (.inl (by rfl))) (by rfl) (by rfl) ?_
  refine ao_callL [] [0] (hI) (by rfl) (by rfl) (by rfl) (by rfl) (by rfl) (by repeat' (first | exact True.intro | exact .inl ⟨by rfl, by rfl⟩ | exact rfl | exact .inr (.inl ⟨_, _, _, _, by rfl, by rfl⟩) | exact .inr (.inr ⟨_, _, _, _, _, _, by rfl, by rfl, by rfl, by first | exact .head _ | exact .tail _ (.head _) | exact .tail _ (.tail _ (.head _)) | exact .tail _ (.tail _ (.tail _ (.head _)))⟩) | refine And.intro ?_ ?_)) (by repeat' (first | exact True.intro | exact .inl ⟨by rfl, by rfl⟩ | exact rfl | exact .inl rfl | exact .inr (.inl ⟨_, _, _, _, by rfl, by rfl⟩) | exact .inr ⟨rfl, by simp [D.scalar, bD]⟩ | refine And.intro ?_ ?_)) (by rfl) (by rfl) (by rfl) (by decide) (by rfl) (by rfl) (by omega) (by first | rfl | (simp [keptB, notGone, (by rfl).live]; done)) (by rfl) (by rfl) (by rfl) (by rfl) (by rfl) (by rfl) (by rfl) ?_
  first
    | refine ao0 (em_assign (by rfl) (by rfl)) (by rfl) (by rfl) ?_
    | refine ao0 (em_assignG (by rfl) (by rfl)) (by rfl) (by rfl) ?_
    | refine ao0 (sem_move (.inr (by rfl))) (by rfl) (by rfl) ?_
  refine ao_nil (by first | dsimp only [setO, setE] | rfl) (by first | dsimp only [setM, setE, setR] | rfl) (by rfl) ?_
  refine WC.seq (Qf := fun _ _ _ => False) (fun _ _ _ _ _ _ _ h => h.elim) ?_
  refine AW.seq ?_
  refine AW.region ?_
  first
    | refine ao0 (em_move (by rfl) (by rfl)) (by rfl) (by rfl) ?_
    | refine ao0 (em_moveG (by rfl) (by rfl)) (by rfl) (by rfl) ?_
    | refine ao0 (sem_move (.inl (by rfl))) (by rfl) (by rfl) ?_
  first
    | refine ao0 (em_move (by rfl) (by rfl)) (by rfl) (by rfl) ?_
    | refine ao0 (em_moveG (by rfl) (by rfl)) (by rfl) (by rfl) ?_
    | refine ao0 (sem_move (.inl (by rfl))) (by rfl) (by rfl) ?_
  refine ao_callL [] [] (hE8) (by rfl) (by rfl) (by rfl) (by rfl) (by rfl) (by repeat' (first | exact True.intro | exact .inl ⟨by rfl, by rfl⟩ | exact rfl | exact .inr (.inl ⟨_, _, _, _, by rfl, by rfl⟩) | exact .inr (.inr ⟨_, _, _, _, _, _, by rfl, by rfl, by rfl, by first | exact .head _ | exact .tail _ (.head _) | exact .tail _ (.tail _ (.head _)) | exact .tail _ (.tail _ (.tail _ (.head _)))⟩) | refine And.intro ?_ ?_)) (by repeat' (first | exact True.intro | exact .inl ⟨by rfl, by rfl⟩ | exact rfl | exact .inl rfl | exact .inr (.inl ⟨_, _, _, _, by rfl, by rfl⟩) | exact .inr ⟨rfl, by simp [D.scalar, bD]⟩ | refine And.intro ?_ ?_)) (by rfl) (by rfl) (by rfl) (by decide) (by rfl) (by rfl) (by omega) (by first | rfl | (simp [keptB, notGone, (by rfl).live]; done)) (by rfl) (by rfl) (by rfl) (by rfl) (by rfl) (by rfl) (by rfl) ?_
  refine ao0 (sem_unOp (by rfl) (by rfl) (by rfl)) (by rfl) (by rfl) ?_
  refine ao_nil (by first | dsimp only [setO, setE] | rfl) (by first | dsimp only [setM, setE, setR] | rfl) (by rfl) ?_
  refine AW.cond (by rfl) (fun hc7 => ?_) (fun hc7 => ?_)
  · exfalso; simp at hc7 <;> omega
  refine AW.skip ?_
  refine WC.seq (Qf := fun _ _ _ => False) (fun _ _ _ _ _ _ _ h => h.elim) ?_
  refine AW.region ?_
  first
    | refine ao0 (em_assign (by rfl) (by rfl)) (by rfl) (by rfl) ?_
    | refine ao0 (em_assignG (by rfl) (by rfl)) (by rfl) (by rfl) ?_
    | refine ao0 (sem_move (.inr (by rfl))) (by rfl) (by rfl) ?_
  refine ao_nil (by first | dsimp only [setO, setE] | rfl) (by first | dsimp only [setM, setE, setR] | rfl) (by rfl) ?_
  refine WC.seq (Qf := fun _ _ _ => False) (fun _ _ _ _ _ _ _ h => h.elim) ?_
  refine AW.region ?_
  first
    | refine ao0 (em_move (by rfl) (by rfl)) (by rfl) (by rfl) ?_
    | refine ao0 (em_moveG (by rfl) (by rfl)) (by rfl) (by rfl) ?_
    | refine ao0 (sem_move (.inl (by rfl))) (by rfl) (by rfl) ?_
  first
    | refine ao0 (em_move (by rfl) (by rfl)) (by rfl) (by rfl) ?_
    | refine ao0 (em_moveG (by rfl) (by rfl)) (by rfl) (by rfl) ?_
    | refine ao0 (sem_move (.inl (by rfl))) (by rfl) (by rfl) ?_
  refine ao_callL [] [] (hH) (by rfl) (by rfl) (by rfl) (by rfl) (by rfl) (by repeat' (first | exact True.intro | exact .inl ⟨by rfl, by rfl⟩ | exact rfl | exact .inr (.inl ⟨_, _, _, _, by rfl, by rfl⟩) | exact .inr (.inr ⟨_, _, _, _, _, _, by rfl, by rfl, by rfl, by first | exact .head _ | exact .tail _ (.head _) | exact .tail _ (.tail _ (.head _)) | exact .tail _ (.tail _ (.tail _ (.head _)))⟩) | refine And.intro ?_ ?_)) (by repeat' (first | exact True.intro | exact .inl ⟨by rfl, by rfl⟩ | exact rfl | exact .inl rfl | exact .inr (.inl ⟨_, _, _, _, by rfl, by rfl⟩) | exact .inr ⟨rfl, by simp [D.scalar, bD]⟩ | refine And.intro ?_ ?_)) (by rfl) (by rfl) (by rfl) (by decide) (by rfl) (by rfl) (by omega) (by first | rfl | (simp [keptB, notGone, (by rfl).live]; done)) (by rfl) (by rfl) (by rfl) (by rfl) (by rfl) (by rfl) (by rfl) ?_
  first
    | refine ao0 (em_assign (by rfl) (by rfl)) (by rfl) (by rfl) ?_
    | refine ao0 (em_assignG (by rfl) (by rfl)) (by rfl) (by rfl) ?_
    | refine ao0 (sem_move (.inr (by rfl))) (by rfl) (by rfl) ?_
  refine ao_nil (by first | dsimp only [setO, setE] | rfl) (by first | dsimp only [setM, setE, setR] | rfl) (by rfl) ?_
  refine WC.seq (Qf := fun _ _ _ => False) (fun _ _ _ _ _ _ _ h => h.elim) ?_
  refine AW.seq ?_
  refine AW.region ?_
  first
    | refine ao0 (em_move (by rfl) (by rfl)) (by rfl) (by rfl) ?_
    | refine ao0 (em_moveG (by rfl) (by rfl)) (by rfl) (by rfl) ?_
    | refine ao0 (sem_move (.inl (by rfl))) (by rfl) (by rfl) ?_
  first
    | refine ao0 (em_binI (by rfl) (by rfl) (by rfl) (by rfl) (by first | rfl | trivial | exact ⟨rfl, by decide⟩ | exact ⟨rfl, by omega⟩ | decide | omega)) (by rfl) (by rfl) ?_
    | refine ao0 (sem_binS (by rfl) (by rfl) (by rfl) (by rfl) (by trivial)) (by rfl) (by rfl) ?_
  refine ao_nil (by first | dsimp only [setO, setE] | rfl) (by first | dsimp only [setM, setE, setR] | rfl) (by rfl) ?_
  refine AW.cond (by rfl) (fun hc8 => ?_) (fun hc8 => ?_)
  · exfalso; simp at hc8 <;> omega
  refine AW.skip ?_
  refine WC.seq (Qf := fun _ _ _ => False) (fun _ _ _ _ _ _ _ h => h.elim) ?_
  refine AW.seq ?_
  refine AW.region ?_
  first
    | refine ao0 (em_move (by rfl) (by rfl)) (by rfl) (by rfl) ?_
    | refine ao0 (em_moveG (by rfl) (by rfl)) (by rfl) (by rfl) ?_
    | refine ao0 (sem_move (.inl (by rfl))) (by rfl) (by rfl) ?_
  first
    | refine ao0 (em_move (by rfl) (by rfl)) (by rfl) (by rfl) ?_
    | refine ao0 (em_moveG (by rfl) (by rfl)) (by rfl) (by rfl) ?_
    | refine ao0 (sem_move (.inl (by rfl))) (by rfl) (by rfl) ?_
  first
    | refine ao0 (em_binI (by rfl) (by rfl) (by rfl) (by rfl) (by first | rfl | trivial | exact ⟨rfl, by decide⟩ | exact ⟨rfl, by omega⟩ | decide | omega)) (by rfl) (by rfl) ?_
    | refine ao0 (sem_binB tyOk (by rfl) (by rfl) (by rfl) (by rfl) (by rfl) (by rfl)) (by rfl) (by rfl) ?_
    | refine ao0 (sem_nilS tyOk (by rfl) (by rfl) (by rfl) (by rfl) (by rfl) (by first | exact .inl ⟨rfl, rfl⟩ | exact .inr ⟨rfl, rfl⟩)) (by rfl) (by rfl) ?_
    | refine ao0 (sem_binS (by rfl) (by rfl) (by rfl) (by rfl) (by trivial)) (by rfl) (by rfl) ?_
  refine ao_nil (by first | dsimp only [setO, setE] | rfl) (by first | dsimp only [setM, setE, setR] | rfl) (by rfl) ?_
  refine AW.cond (by rfl) (fun hc9 => ?_) (fun hc9 => ?_)
  · exfalso; simp at hc9 <;> omega
  refine AW.skip ?_
  refine WC.all (Qf := fun e s _ => e = .ret ∧ s.t 4 = .v false [.b true]) ?_ ?_
  rotate_left
  · refine AW.seq ?_
    refine AW.region ?_
    first
      | refine ao0 (em_assign (by rfl) (by rfl)) (by rfl) (by rfl) ?_
      | refine ao0 (em_assignG (by rfl) (by rfl)) (by rfl) (by rfl) ?_
      | refine ao0 (sem_move (.inr (by rfl))) (by rfl) (by rfl) ?_
    refine ao_nil (by first | dsimp only [setO, setE] | rfl) (by first | dsimp only [setM, setE, setR] | rfl) (by rfl) ?_
    refine AW.ret ?_
    exact ⟨rfl, rfl⟩
  rintro e s n a w' g ⟨rfl, s4⟩ hr _ _
  have q4 := hr.slots 4
  rw [s4] at q4
  have q4 := slot_b q4
  have hk9 : Kp w7 w' nowh := Kp.ofFr hr.fr (fun r h => absurd h (Nat.not_lt_zero r))
  exact ⟨.inr rfl, hr.defers, congrArg _ q4, (hK.trans hk9.none).below⟩
end Go.Proofs.Ytpobimdcphjljaa
