/-
  Drawn series.
-/
import Derived.Test.YtfcnjhkebbjojaaPn
import Derived.Test.YtfcnjhkebbjojaaDw
namespace Go.Proofs.Ytfcnjhkebbjojaa
open Go
set_option linter.unusedVariables false
set_option linter.unusedSimpArgs false
set_option linter.unnecessarySimpa false

def serF (l : List Nat) (step : Int) : Nat → Nat → Int → List pntT × Nat
  | 0, p, _ => ([], p)
  | n + 1, p, t => if t ≤ 1000 then
      (if pickN l (p + 3) 4 = 0 then ((t, someValueZ l p) :: (serF l step n (p + 5) (t + step + oneZ l (p + 4) [1, 3, 30, 50])).1, (serF l step n (p + 5) (t + step + oneZ l (p + 4) [1, 3, 30, 50])).2)
      else ((t, someValueZ l p) :: (serF l step n (p + 4) (t + step)).1, (serF l step n (p + 4) (t + step)).2))
    else ([], p)
theorem serF_len (l : List Nat) (step : Int) : ∀ (n p : Nat) (t : Int), (serF l step n p t).1.length ≤ n ∧ p ≤ (serF l step n p t).2 ∧ (serF l step n p t).2 ≤ p + 5 * n
  | 0, p, t => by simp [serF]
  | n + 1, p, t => by
    have h1 := serF_len l step n (p + 5) (t + step + oneZ l (p + 4) [1, 3, 30, 50])
    have h2 := serF_len l step n (p + 4) (t + step)
    unfold serF
    split
    · split <;> (simp only [List.length_cons]; omega)
    · simp
def ptOk (x : pntT) : Prop := 0 ≤ x.1 ∧ x.1 ≤ 1000 ∧ -1000 ≤ x.2 ∧ x.2 ≤ 1000
theorem serF_ok (l : List Nat) (step : Int) (hs : 0 ≤ step) : ∀ (n p : Nat) (t : Int), 0 ≤ t → ∀ x ∈ (serF l step n p t).1, ptOk x
  | 0, p, t, _, x, hx => by simp [serF] at hx
  | n + 1, p, t, ht, x, hx => by
    have h3 := oneZ_mem (l := l) (p := p + 4) (xs := [1, 3, 30, 50]) (by decide)
    have hz : 0 ≤ oneZ l (p + 4) [1, 3, 30, 50] := by simp at h3; omega
    have h1 := serF_ok l step hs n (p + 5) (t + step + oneZ l (p + 4) [1, 3, 30, 50]) (by omega)
    have h2 := serF_ok l step hs n (p + 4) (t + step) (by omega)
    have hv := someValueZ_bd l p
    unfold serF at hx
    split at hx
    · split at hx
      · rcases List.mem_cons.1 hx with rfl | hx
        · exact ⟨ht, by assumption, hv.1, hv.2⟩
        · exact h1 x hx
      · rcases List.mem_cons.1 hx with rfl | hx
        · exact ⟨ht, by assumption, hv.1, hv.2⟩
        · exact h2 x hx
    · cases hx
theorem serF_stop {l : List Nat} {step : Int} {n p : Nat} {t : Int} (h : ¬ (0 < n ∧ t ≤ 1000)) : serF l step n p t = ([], p) := by
  cases n with
  | zero => rfl
  | succ n => unfold serF; rw [if_neg (fun k => h ⟨by omega, k⟩)]
theorem serF_T {l : List Nat} {step : Int} {n p : Nat} {t : Int} (h : t ≤ 1000) (k : pickN l (p + 3) 4 = 0) : serF l step (n + 1) p t = ((t, someValueZ l p) :: (serF l step n (p + 5) (t + step + oneZ l (p + 4) [1, 3, 30, 50])).1, (serF l step n (p + 5) (t + step + oneZ l (p + 4) [1, 3, 30, 50])).2) := by
  conv => lhs; unfold serF
  rw [if_pos h, if_pos k]
theorem serF_F {l : List Nat} {step : Int} {n p : Nat} {t : Int} (h : t ≤ 1000) (k : ¬ pickN l (p + 3) 4 = 0) : serF l step (n + 1) p t = ((t, someValueZ l p) :: (serF l step n (p + 4) (t + step)).1, (serF l step n (p + 4) (t + step)).2) := by
  conv => lhs; unfold serF
  rw [if_pos h, if_neg k]
structure SerI (l : List Nat) (step : Int) (T : List pntT × Nat) (p : Nat) (x : List pntT × Nat × Nat × Int) : Prop where
  eq : x.1 ++ (serF l step x.2.1 x.2.2.1 x.2.2.2).1 = T.1
  en : (serF l step x.2.1 x.2.2.1 x.2.2.2).2 = T.2
  len : x.1.length + x.2.1 ≤ 16
  pos : x.2.2.1 + 5 * x.2.1 ≤ p + 83
  t0 : 0 ≤ x.2.2.2
  t1 : x.2.2.2 ≤ 1100
theorem SerI.nextT {l : List Nat} {step : Int} {T : List pntT × Nat} {p : Nat} {xs : List pntT} {n pos : Nat} {t : Int} (h : SerI l step T p (xs, n + 1, pos, t)) (ht : t ≤ 1000) (hs : 0 ≤ step ∧ step ≤ 20) (k : pickN l (pos + 3) 4 = 0) : SerI l step T p (xs ++ [(t, someValueZ l pos)], n, pos + 5, t + step + oneZ l (pos + 4) [1, 3, 30, 50]) := by
  obtain ⟨h1, h2, h3, h4, h5, h6⟩ := h
  have m := oneZ_mem (l := l) (p := pos + 4) (xs := [1, 3, 30, 50]) (by decide)
  simp only [List.mem_cons, List.not_mem_nil, or_false] at m
  dsimp only at h1 h2 h3 h4 h5 h6
  rw [serF_T ht k] at h1 h2
  exact ⟨by rw [← h1]; simp, h2, by simp; omega, by dsimp only; omega, by dsimp only; omega, by dsimp only; omega⟩
theorem SerI.nextF {l : List Nat} {step : Int} {T : List pntT × Nat} {p : Nat} {xs : List pntT} {n pos : Nat} {t : Int} (h : SerI l step T p (xs, n + 1, pos, t)) (ht : t ≤ 1000) (hs : 0 ≤ step ∧ step ≤ 20) (k : ¬ pickN l (pos + 3) 4 = 0) : SerI l step T p (xs ++ [(t, someValueZ l pos)], n, pos + 4, t + step) := by
  obtain ⟨h1, h2, h3, h4, h5, h6⟩ := h
  dsimp only at h1 h2 h3 h4 h5 h6
  rw [serF_F ht k] at h1 h2
  exact ⟨by rw [← h1]; simp, h2, by simp; omega, by dsimp only; omega, by dsimp only; omega, by dsimp only; omega⟩
theorem SerI.fin {l : List Nat} {step : Int} {T : List pntT × Nat} {p : Nat} {xs : List pntT} {n pos : Nat} {t : Int} (h : SerI l step T p (xs, n, pos, t)) (k : ¬ (0 < n ∧ t ≤ 1000)) : xs = T.1 ∧ pos = T.2 := by
  have h1 := h.eq
  have h2 := h.en
  dsimp only at h1 h2
  rw [serF_stop k] at h1 h2
  exact ⟨by simpa using h1, h2⟩
def nSer : List Int := [5, 8, 3, 12, 1, 0, 16]
set_option maxHeartbeats 2000000 in
theorem someSeries_ok (nn : Bool) (l : List Nat) (p : Nat) (hl : l.length ≤ 2000) (hp : p ≤ 100000) (hnn : nn = false → l = []) (hb : ∀ b ∈ l, b ≤ 255) : ∃ (xs : List pntT) (q : Nat), xs.length ≤ 16 ∧ (∀ x ∈ xs, ptOk x) ∧ q ≤ 83 ∧ FnOk Try.prog noG 59 [.v false [.ref 0 0]] [rdr nn l p] (.v false [.own true 1 xs.length]) [rdr nn l (p + q), .arr 83 true true xs.length (xs.flatMap pntD)] := by
  have hP := pick_ok nn l p 20 hl (by omega) hnn hb
  have bP := pickN_lt l p 20 (by decide)
  obtain ⟨t0, ht0⟩ : ∃ t0, t0 = pickN l p 20 := ⟨_, rfl⟩
  rw [← ht0] at hP bP
  have hS := one_ok nn l (p + 1) [1, 5, 10, 7, 20] hl (by omega) hnn hb (by decide)
  have mS := oneZ_mem (l := l) (p := p + 1) (xs := [1, 5, 10, 7, 20]) (by decide)
  obtain ⟨step, hst⟩ : ∃ step, step = oneZ l (p + 1) [1, 5, 10, 7, 20] := ⟨_, rfl⟩
  rw [← hst] at hS mS
  have bS : 0 ≤ step ∧ step ≤ 20 := by simp at mS; omega
  obtain ⟨zz, hzz⟩ : ∃ zz, zz = oneZ l (p + 2) nSer := ⟨_, rfl⟩
  have hz : 0 ≤ zz ∧ zz ≤ 16 := by
    have := oneZ_mem (l := l) (p := p + 2) (xs := nSer) (by decide)
    rw [← hzz] at this
    simp [nSer] at this; omega
  obtain ⟨n0, hn0⟩ := Int.eq_ofNat_of_zero_le hz.1
  have hone := one_ok nn l (p + 2) nSer hl (by omega) hnn hb (by decide)
  rw [← hzz, hn0] at hone
  obtain ⟨T, hT⟩ : ∃ T, T = serF l step n0 (p + 3) (t0 : Int) := ⟨_, rfl⟩
  have hlen := serF_len l step n0 (p + 3) (t0 : Int)
  have hok := serF_ok l step bS.1 n0 (p + 3) (t0 : Int) (by omega)
  rw [← hT] at hlen hok
  refine ⟨T.1, T.2 - p, by omega, hok, by omega, ?_⟩
  refine fnOk_of' (k := 1) tyOk Try.func59 rfl (by kernel_rfl) Try.ntmps59 (by rw [Try.results59]) rfl (by simp only [List.length_cons, List.length_nil, Nat.reduceAdd, Nat.reduceSub, List.replicate_succ, List.replicate_zero, List.cons_append, List.nil_append]; rfl) (by simp) (by simp) (fun r hr => ((keptB_get (by first | rfl | (simp [keptB, notGone, R.live]; done))).2 r hr).2) fun base => ?_
  refine AW.seq ?_
  refine AW.region ?_
  first
    | refine ao0 (em_assign (by rfl) (by rfl)) (by rfl) (by rfl) ?_
    | refine ao0 (em_assignG (by rfl) (by rfl)) (by rfl) (by rfl) ?_
    | refine ao0 (sem_move (.inr (by rfl))) (by rfl) (by rfl) ?_
  refine ao_nil (by first | dsimp only [setO, setE] | rfl) (by first | dsimp only [setM, setE, setR] | rfl) (by rfl) ?_
  refine AW.seq ?_
  refine AW.region ?_
  first
    | refine ao1 (sem_buildSlice0 tyOk (by rfl) (by rfl) (by rfl) (by rfl)) (by omega) (by rfl) (by rfl) ?_
    | refine ao1 (sem_buildSlice tyOk (by rfl) (by rfl) (by rfl) (by rfl) (by rfl) (by rfl) (by rfl) (by decide) (by decide) (by rfl)) (by omega) (by rfl) (by rfl) ?_
  first
    | refine ao0 (em_assign (by rfl) (by rfl)) (by rfl) (by rfl) ?_
    | refine ao0 (em_assignG (by rfl) (by rfl)) (by rfl) (by rfl) ?_
    | refine ao0 (sem_move (.inr (by rfl))) (by rfl) (by rfl) ?_
  refine ao_nil (by first | dsimp only [setO, setE] | rfl) (by first | dsimp only [setM, setE, setR] | rfl) (by rfl) ?_
  refine AW.seq ?_
  refine AW.region ?_
  first
    | refine ao0 (em_move (by rfl) (by rfl)) (by rfl) (by rfl) ?_
    | refine ao0 (em_moveG (by rfl) (by rfl)) (by rfl) (by rfl) ?_
    | refine ao0 (sem_move (.inl (by rfl))) (by rfl) (by rfl) ?_
  refine ao_callL [0] [] (hP) (by rfl) (by rfl) (by rfl) (by rfl) (by rfl) (by repeat' (first | exact True.intro | exact .inl ⟨by rfl, by rfl⟩ | exact rfl | exact .inr (.inl ⟨_, _, _, _, by rfl, by rfl⟩) | exact .inr (.inr ⟨_, _, _, _, _, _, by rfl, by rfl, by rfl, by first | exact .head _ | exact .tail _ (.head _) | exact .tail _ (.tail _ (.head _)) | exact .tail _ (.tail _ (.tail _ (.head _)))⟩) | refine And.intro ?_ ?_)) (by repeat' (first | exact True.intro | exact .inl ⟨by rfl, by rfl⟩ | exact rfl | exact .inl rfl | exact .inr (.inl ⟨_, _, _, _, by rfl, by rfl⟩) | exact .inr ⟨rfl, by simp [D.scalar, bD]⟩ | refine And.intro ?_ ?_)) (by rfl) (by rfl) (by rfl) (by decide) (by rfl) (by rfl) (by omega) (by first | rfl | (simp [keptB, notGone, (by rfl).live]; done)) (by rfl) (by rfl) (by rfl) (by rfl) (by rfl) (by rfl) (by rfl) ?_
  first
    | refine ao0 (em_assign (by rfl) (by rfl)) (by rfl) (by rfl) ?_
    | refine ao0 (em_assignG (by rfl) (by rfl)) (by rfl) (by rfl) ?_
    | refine ao0 (sem_move (.inr (by rfl))) (by rfl) (by rfl) ?_
  refine ao_nil (by first | dsimp only [setO, setE] | rfl) (by first | dsimp only [setM, setE, setR] | rfl) (by rfl) ?_
  refine AW.seq ?_
  refine AW.region ?_
  first
    | refine ao0 (em_move (by rfl) (by rfl)) (by rfl) (by rfl) ?_
    | refine ao0 (em_moveG (by rfl) (by rfl)) (by rfl) (by rfl) ?_
    | refine ao0 (sem_move (.inl (by rfl))) (by rfl) (by rfl) ?_
  first
    | refine ao0 (sem_buildSliceV tyOk (by rfl) (by rfl) (by rfl) (by rfl) (by rfl) (by rfl) (by rfl) (by decide) (by decide) (by rfl)) (by rfl) (by rfl) ?_
    | refine ao1 (sem_buildSlice0 tyOk (by rfl) (by rfl) (by rfl) (by rfl)) (by omega) (by rfl) (by rfl) ?_
    | refine ao1 (sem_buildSlice tyOk (by rfl) (by rfl) (by rfl) (by rfl) (by rfl) (by rfl) (by rfl) (by decide) (by decide) (by rfl)) (by omega) (by rfl) (by rfl) ?_
  refine ao_callL [0] [] (hS) (by rfl) (by rfl) (by rfl) (by rfl) (by rfl) (by repeat' (first | exact True.intro | exact .inl ⟨by rfl, by rfl⟩ | exact rfl | exact .inr (.inl ⟨_, _, _, _, by rfl, by rfl⟩) | exact .inr (.inr ⟨_, _, _, _, _, _, by rfl, by rfl, by rfl, by first | exact .head _ | exact .tail _ (.head _) | exact .tail _ (.tail _ (.head _)) | exact .tail _ (.tail _ (.tail _ (.head _)))⟩) | refine And.intro ?_ ?_)) (by repeat' (first | exact True.intro | exact .inl ⟨by rfl, by rfl⟩ | exact rfl | exact .inl rfl | exact .inr (.inl ⟨_, _, _, _, by rfl, by rfl⟩) | exact .inr ⟨rfl, by simp [D.scalar, bD]⟩ | refine And.intro ?_ ?_)) (by rfl) (by rfl) (by rfl) (by decide) (by rfl) (by rfl) (by omega) (by first | rfl | (simp [keptB, notGone, (by rfl).live]; done)) (by rfl) (by rfl) (by rfl) (by rfl) (by rfl) (by rfl) (by rfl) ?_
  first
    | refine ao0 (em_assign (by rfl) (by rfl)) (by rfl) (by rfl) ?_
    | refine ao0 (em_assignG (by rfl) (by rfl)) (by rfl) (by rfl) ?_
    | refine ao0 (sem_move (.inr (by rfl))) (by rfl) (by rfl) ?_
  refine ao_nil (by first | dsimp only [setO, setE] | rfl) (by first | dsimp only [setM, setE, setR] | rfl) (by rfl) ?_
  refine AW.seq ?_
  refine AW.seq ?_
  refine AW.region ?_
  first
    | refine ao0 (em_move (by rfl) (by rfl)) (by rfl) (by rfl) ?_
    | refine ao0 (em_moveG (by rfl) (by rfl)) (by rfl) (by rfl) ?_
    | refine ao0 (sem_move (.inl (by rfl))) (by rfl) (by rfl) ?_
  first
    | refine ao0 (sem_buildSliceV tyOk (by rfl) (by rfl) (by rfl) (by rfl) (by rfl) (by rfl) (by rfl) (by decide) (by decide) (by rfl)) (by rfl) (by rfl) ?_
    | refine ao1 (sem_buildSlice0 tyOk (by rfl) (by rfl) (by rfl) (by rfl)) (by omega) (by rfl) (by rfl) ?_
    | refine ao1 (sem_buildSlice tyOk (by rfl) (by rfl) (by rfl) (by rfl) (by rfl) (by rfl) (by rfl) (by decide) (by decide) (by rfl)) (by omega) (by rfl) (by rfl) ?_
  refine ao_callL [0] [] (hone) (by rfl) (by rfl) (by rfl) (by rfl) (by rfl) (by repeat' (first | exact True.intro | exact .inl ⟨by rfl, by rfl⟩ | exact rfl | exact .inr (.inl ⟨_, _, _, _, by rfl, by rfl⟩) | exact .inr (.inr ⟨_, _, _, _, _, _, by rfl, by rfl, by rfl, by first | exact .head _ | exact .tail _ (.head _) | exact .tail _ (.tail _ (.head _)) | exact .tail _ (.tail _ (.tail _ (.head _)))⟩) | refine And.intro ?_ ?_)) (by repeat' (first | exact True.intro | exact .inl ⟨by rfl, by rfl⟩ | exact rfl | exact .inl rfl | exact .inr (.inl ⟨_, _, _, _, by rfl, by rfl⟩) | exact .inr ⟨rfl, by simp [D.scalar, bD]⟩ | refine And.intro ?_ ?_)) (by rfl) (by rfl) (by rfl) (by decide) (by rfl) (by rfl) (by omega) (by first | rfl | (simp [keptB, notGone, (by rfl).live]; done)) (by rfl) (by rfl) (by rfl) (by rfl) (by rfl) (by rfl) (by rfl) ?_
  first
    | refine ao0 (em_assign (by rfl) (by rfl)) (by rfl) (by rfl) ?_
    | refine ao0 (em_assignG (by rfl) (by rfl)) (by rfl) (by rfl) ?_
    | refine ao0 (sem_move (.inr (by rfl))) (by rfl) (by rfl) ?_
  refine ao_nil (by first | dsimp only [setO, setE] | rfl) (by first | dsimp only [setM, setE, setR] | rfl) (by rfl) ?_
  refine AW.block ?_
  refine AW.loopU (X := {x : List pntT × Nat × Nat × Int // SerI l step T p x}) (fun i => [(6, .v false [.i .i64 (i.1.2.1 : Int)]), (4, .v false [.i .i64 i.1.2.2.2]), (3, .v false [.own true 1 i.1.1.length]), (1, .any), (7, .any), (8, .any), (9, .any), (10, .any), (11, .any), (12, .any), (13, .any), (14, .any), (15, .any), (16, .any), (17, .any), (18, .any), (19, .any), (20, .any), (21, .any), (22, .any), (23, .any), (24, .any), (25, .any), (26, .any), (27, .any), (28, .any), (29, .any), (30, .any), (31, .any), (32, .any), (33, .any), (34, .any), (35, .any), (36, .any), (37, .any), (38, .any), (39, .any), (40, .any), (41, .any)]) (fun i => [rdr nn l i.1.2.2.1, .arr 83 true true i.1.1.length (i.1.1.flatMap pntD)]) 2 (fun i => i.1.2.1) ⟨([], n0, p + 3, (t0 : Int)), ⟨by rw [hT]; rfl, by rw [hT], by simp; omega, by dsimp only; omega, by dsimp only; omega, by dsimp only; omega⟩⟩ ?_ ?_
  · skip
    dsimp only [updL, setE]
    refine into_lists [0, 1] ?_ ?_ rfl rfl (by decide) (by rfl) (by rfl) (by rfl) (by rfl) (by omega)
    all_goals (try (repeat' (first | exact True.intro | exact Or.inl rfl | exact Or.inr (Or.inl rfl) | refine And.intro ?_ ?_ | exact le_i (by omega) | exact le_own (by rfl) (by rfl) (by first | rfl | omega) | exact le_arr (by rfl) (by rfl) (by first | rfl | omega) (by rfl) | exact Or.inr (Or.inr (Or.inl ⟨_, _, rfl, rfl⟩)) | exact Or.inr (Or.inr ⟨_, _, rfl⟩) | exact Or.inr (Or.inr (Or.inr ⟨_, _, _, _, rfl, rfl⟩)))))
    all_goals first | exact le_i (by rfl) | exact le_rdr (by rfl) (by rfl) | exact le_arr (by rfl) (by rfl) (by rfl) (by rfl) | exact le_own (by rfl) (by rfl) (by rfl)
  · intro i
    refine AW.norm (by first | dsimp only [updL, setE] | rfl) rfl rfl ?_
    obtain ⟨⟨xs, n, pos, t⟩, hi⟩ := i
    dsimp only
    have hq1 := hi.len
    have hq2 := hi.pos
    have hq3 := hi.t0
    have hq4 := hi.t1
    dsimp only at hq1 hq2 hq3 hq4
    have hfl := flat_len pntD 2 pntD_len xs
    refine AW.seq ?_
    refine AW.seq ?_
    refine AW.region ?_
    first
      | refine ao0 (em_move (by rfl) (by rfl)) (by rfl) (by rfl) ?_
      | refine ao0 (em_moveG (by rfl) (by rfl)) (by rfl) (by rfl) ?_
      | refine ao0 (sem_move (.inl (by rfl))) (by rfl) (by rfl) ?_
    first
      | refine ao0 (em_binI (by rfl) (by rfl) (by rfl) (by rfl) (by first | rfl | trivial | exact ⟨rfl, by decide⟩ | exact ⟨rfl, by omega⟩ | decide | omega)) (by rfl) (by rfl) ?_
      | refine ao0 (sem_binS (by rfl) (by rfl) (by rfl) (by rfl) (by trivial)) (by rfl) (by rfl) ?_
    first
      | refine ao0 (em_move (by rfl) (by rfl)) (by rfl) (by rfl) ?_
      | refine ao0 (em_moveG (by rfl) (by rfl)) (by rfl) (by rfl) ?_
      | refine ao0 (sem_move (.inl (by rfl))) (by rfl) (by rfl) ?_
    first
      | refine ao_skip (by rfl) (by rfl) ?_
      | refine ao0 (em_move (by rfl) (by rfl)) (by rfl) (by rfl) ?_
      | refine ao0 (em_moveG (by rfl) (by rfl)) (by rfl) (by rfl) ?_
      | refine ao0 (sem_move (.inl (by rfl))) (by rfl) (by rfl) ?_
      | refine ao_opt (by rfl) (by rfl) (fun he => astep0 (em_move (by rfl) (by rfl))) ?_
      | refine ao_opt (by rfl) (by rfl) (fun he => astep0 (em_moveG (by rfl) (by rfl))) ?_
      | refine ao_opt (by rfl) (by rfl) (fun he => by rw [he]; exact astep0 (em_move (by rfl) (by rfl))) ?_
      | refine ao_opt (by rfl) (by rfl) (fun he => by rw [he]; exact astep0 (em_moveG (by rfl) (by rfl))) ?_
      | refine ao_opt (by rfl) (by rfl) (fun he => astep0 (sem_move (.inl (by rfl)))) ?_
      | refine ao_opt (by rfl) (by rfl) (fun he => by rw [he]; exact astep0 (sem_move (.inl (by rfl)))) ?_
    first
      | refine ao_skip (by rfl) (by rfl) ?_
      | refine ao0 (em_binI (by rfl) (by rfl) (by rfl) (by rfl) (by first | rfl | trivial | exact ⟨rfl, by decide⟩ | exact ⟨rfl, by omega⟩ | decide | omega)) (by rfl) (by rfl) ?_
      | refine ao0 (sem_binS (by rfl) (by rfl) (by rfl) (by rfl) (by trivial)) (by rfl) (by rfl) ?_
      | refine ao_opt (by rfl) (by rfl) (fun he => astep0 (em_binI (by rfl) (by rfl) (by rfl) (by rfl) (by first | rfl | trivial | exact ⟨rfl, by decide⟩ | exact ⟨rfl, by omega⟩ | decide | omega))) ?_
      | refine ao_opt (by rfl) (by rfl) (fun he => astep0 (sem_binS (by rfl) (by rfl) (by rfl) (by rfl) (by trivial))) ?_
      | refine ao_opt (by rfl) (by rfl) (fun he => by rw [he]; exact astep0 (em_binI (by rfl) (by rfl) (by rfl) (by rfl) (by first | rfl | trivial | exact ⟨rfl, by decide⟩ | exact ⟨rfl, by omega⟩ | decide | omega))) ?_
      | refine ao_opt (by rfl) (by rfl) (fun he => by rw [he]; exact astep0 (sem_binS (by rfl) (by rfl) (by rfl) (by rfl) (by trivial))) ?_
    first
      | refine ao0 (sem_pickg (by rfl) (by rfl) (by rfl) (by rfl) (by intro hh; first | rfl | exact hh | (exact Bool.noConfusion hh) | (simp [wexp]; done) | (simp [wexp] at hh; done) | (simpa [wexp] using hh) | (simp_all; done)) (by intro hh; first | rfl | exact hh | (exact Bool.noConfusion hh) | (simp [wexp]; done) | (simp [wexp] at hh; done) | (simpa [wexp] using hh) | (simp_all; done))) (by rfl) (by rfl) ?_
      | refine ao0 (sem_pick (by rfl) (by rfl)) (by rfl) (by rfl) ?_
    refine ao_nil (by first | dsimp only [setO, setE] | rfl) (by first | dsimp only [setM, setE, setR] | rfl) (by rfl) ?_
    refine AW.cond (by rfl) (fun hc1 => ?_) (fun hc1 => ?_)
    · skip
      obtain ⟨g1, g2⟩ := and_T hc1
      have ht1 : t ≤ 1000 := by simpa using g2
      obtain ⟨m, rfl⟩ : ∃ m, n = m + 1 := ⟨n - 1, by simp at g1; omega⟩
      refine AW.skip ?_
      refine AW.seq ?_
      refine AW.block ?_
      refine AW.seq ?_
      refine AW.region ?_
      first
        | refine ao0 (em_move (by rfl) (by rfl)) (by rfl) (by rfl) ?_
        | refine ao0 (em_moveG (by rfl) (by rfl)) (by rfl) (by rfl) ?_
        | refine ao0 (sem_move (.inl (by rfl))) (by rfl) (by rfl) ?_
      first
        | refine ao0 (em_move (by rfl) (by rfl)) (by rfl) (by rfl) ?_
        | refine ao0 (em_moveG (by rfl) (by rfl)) (by rfl) (by rfl) ?_
        | refine ao0 (sem_move (.inl (by rfl))) (by rfl) (by rfl) ?_
      first
        | refine ao0 (em_move (by rfl) (by rfl)) (by rfl) (by rfl) ?_
        | refine ao0 (em_moveG (by rfl) (by rfl)) (by rfl) (by rfl) ?_
        | refine ao0 (sem_move (.inl (by rfl))) (by rfl) (by rfl) ?_
      refine ao_callL [0] [] (someValue_fn nn l pos hl (by omega) hnn hb) (by rfl) (by rfl) (by rfl) (by rfl) (by rfl) (by repeat' (first | exact True.intro | exact .inl ⟨by rfl, by rfl⟩ | exact rfl | exact .inr (.inl ⟨_, _, _, _, by rfl, by rfl⟩) | exact .inr (.inr ⟨_, _, _, _, _, _, by rfl, by rfl, by rfl, by first | exact .head _ | exact .tail _ (.head _) | exact .tail _ (.tail _ (.head _)) | exact .tail _ (.tail _ (.tail _ (.head _)))⟩) | refine And.intro ?_ ?_)) (by repeat' (first | exact True.intro | exact .inl ⟨by rfl, by rfl⟩ | exact rfl | exact .inl rfl | exact .inr (.inl ⟨_, _, _, _, by rfl, by rfl⟩) | exact .inr ⟨rfl, by simp [D.scalar, bD]⟩ | refine And.intro ?_ ?_)) (by rfl) (by rfl) (by rfl) (by decide) (by rfl) (by rfl) (by omega) (by first | rfl | (simp [keptB, notGone, (by rfl).live]; done)) (by rfl) (by rfl) (by rfl) (by rfl) (by rfl) (by rfl) (by rfl) ?_
      refine ao0 (sem_build tyOk (by rfl) (by rfl) (by rfl) (by rfl)) (by rfl) (by rfl) ?_
      first
        | refine ao1 (sem_buildSlice0 tyOk (by rfl) (by rfl) (by rfl) (by rfl)) (by omega) (by rfl) (by rfl) ?_
        | refine ao1 (sem_buildSlice tyOk (by rfl) (by rfl) (by rfl) (by rfl) (by rfl) (by rfl) (by rfl) (by decide) (by decide) (by rfl)) (by omega) (by rfl) (by rfl) ?_
      first
        | refine ao_append_nil tyOk (by rfl) (by rfl) (by rfl) (by rfl) (by rfl) (by rfl) (by rfl) (.inl ⟨_, _, rfl⟩) (fun r hr => by cases hr) (by rfl) (by first | rfl | exact sliceOf_own (by rfl)) (by first | rfl | decide | (simp; done) | omega) (by first | decide | omega | (unfold maxLen; omega)) (by first | decide | omega | (dsimp only; omega)) (by omega) ?_
        | refine ao_append_own tyOk (by rfl) (by rfl) (by rfl) (by rfl) (by rfl) (by rfl) (by rfl) (by rfl) (by rfl) (by rfl) (by first | rfl | exact sliceOf_own (by rfl)) (by first | rfl | decide | (simp; done) | omega) (by first | decide | omega | (unfold maxLen; omega)) (by first | decide | omega | (dsimp only; omega)) (by omega) (by omega) ?_
        | refine ao_append_any tyOk (by rfl) (by rfl) (by rfl) (by rfl) (by rfl) (by rfl) (by rfl) (by rfl) (by rfl) (by rfl) (by first | rfl | exact sliceOf_own (by rfl)) (by first | rfl | decide | (simp; done) | omega) (by first | decide | omega | (unfold maxLen; omega)) (by first | decide | omega | (dsimp only; omega)) (by omega) (by omega) (by first | (simp only [Nat.zero_lt_one, decide_true, Bool.or_true]; rfl) | rfl) ?_
      first
        | refine ao0 (em_assign (by rfl) (by rfl)) (by rfl) (by rfl) ?_
        | refine ao0 (em_assignG (by rfl) (by rfl)) (by rfl) (by rfl) ?_
        | refine ao0 (sem_move (.inr (by rfl))) (by rfl) (by rfl) ?_
      refine ao_nil (by first | dsimp only [setO, setE] | rfl) (by first | dsimp only [setM, setE, setR] | rfl) (by rfl) ?_
      refine AW.seq ?_
      refine AW.region ?_
      first
        | refine ao0 (em_move (by rfl) (by rfl)) (by rfl) (by rfl) ?_
        | refine ao0 (em_moveG (by rfl) (by rfl)) (by rfl) (by rfl) ?_
        | refine ao0 (sem_move (.inl (by rfl))) (by rfl) (by rfl) ?_
      first
        | refine ao0 (em_move (by rfl) (by rfl)) (by rfl) (by rfl) ?_
        | refine ao0 (em_moveG (by rfl) (by rfl)) (by rfl) (by rfl) ?_
        | refine ao0 (sem_move (.inl (by rfl))) (by rfl) (by rfl) ?_
      first
        | refine ao0 (em_add (by rfl) (by rfl) (by rfl) (by omega) (by omega)) (by rfl) (by rfl) ?_
        | refine ao0 (em_add8 (by rfl) (by rfl) (by rfl) (by omega) (by omega)) (by rfl) (by rfl) ?_
        | refine ao0 (em_binI (by rfl) (by rfl) (by rfl) (by rfl) (by first | rfl | trivial | exact ⟨rfl, by decide⟩ | exact ⟨rfl, by omega⟩ | decide | omega)) (by rfl) (by rfl) ?_
        | refine ao0 (sem_binS (by rfl) (by rfl) (by rfl) (by rfl) (by trivial)) (by rfl) (by rfl) ?_
      first
        | refine ao0 (em_assign (by rfl) (by rfl)) (by rfl) (by rfl) ?_
        | refine ao0 (em_assignG (by rfl) (by rfl)) (by rfl) (by rfl) ?_
        | refine ao0 (sem_move (.inr (by rfl))) (by rfl) (by rfl) ?_
      refine ao_nil (by first | dsimp only [setO, setE] | rfl) (by first | dsimp only [setM, setE, setR] | rfl) (by rfl) ?_
      have mz := oneZ_mem (l := l) (p := pos + 3 + 1) (xs := [1, 3, 30, 50]) (by decide)
      simp only [List.mem_cons, List.not_mem_nil, or_false] at mz
      refine AW.seq ?_
      refine AW.region ?_
      first
        | refine ao0 (em_move (by rfl) (by rfl)) (by rfl) (by rfl) ?_
        | refine ao0 (em_moveG (by rfl) (by rfl)) (by rfl) (by rfl) ?_
        | refine ao0 (sem_move (.inl (by rfl))) (by rfl) (by rfl) ?_
      refine ao_callL [0] [] (pick_ok nn l (pos + 3) 4 hl (by omega) hnn hb) (by rfl) (by rfl) (by rfl) (by rfl) (by rfl) (by repeat' (first | exact True.intro | exact .inl ⟨by rfl, by rfl⟩ | exact rfl | exact .inr (.inl ⟨_, _, _, _, by rfl, by rfl⟩) | exact .inr (.inr ⟨_, _, _, _, _, _, by rfl, by rfl, by rfl, by first | exact .head _ | exact .tail _ (.head _) | exact .tail _ (.tail _ (.head _)) | exact .tail _ (.tail _ (.tail _ (.head _)))⟩) | refine And.intro ?_ ?_)) (by repeat' (first | exact True.intro | exact .inl ⟨by rfl, by rfl⟩ | exact rfl | exact .inl rfl | exact .inr (.inl ⟨_, _, _, _, by rfl, by rfl⟩) | exact .inr ⟨rfl, by simp [D.scalar, bD]⟩ | refine And.intro ?_ ?_)) (by rfl) (by rfl) (by rfl) (by decide) (by rfl) (by rfl) (by omega) (by first | rfl | (simp [keptB, notGone, (by rfl).live]; done)) (by rfl) (by rfl) (by rfl) (by rfl) (by rfl) (by rfl) (by rfl) ?_
      first
        | refine ao0 (em_binI (by rfl) (by rfl) (by rfl) (by rfl) (by first | rfl | trivial | exact ⟨rfl, by decide⟩ | exact ⟨rfl, by omega⟩ | decide | omega)) (by rfl) (by rfl) ?_
        | refine ao0 (sem_binB tyOk (by rfl) (by rfl) (by rfl) (by rfl) (by rfl) (by rfl)) (by rfl) (by rfl) ?_
        | refine ao0 (sem_nilS tyOk (by rfl) (by rfl) (by rfl) (by rfl) (by rfl) (by first | exact .inl ⟨rfl, rfl⟩ | exact .inr ⟨rfl, rfl⟩)) (by rfl) (by rfl) ?_
        | refine ao0 (sem_binS (by rfl) (by rfl) (by rfl) (by rfl) (by trivial)) (by rfl) (by rfl) ?_
      refine ao_nil (by first | dsimp only [setO, setE] | rfl) (by first | dsimp only [setM, setE, setR] | rfl) (by rfl) ?_
      refine AW.cond (by rfl) (fun hc2 => ?_) (fun hc2 => ?_)
      · skip
        obtain ⟨pz, tz, hpz, htz, hnx⟩ : ∃ (pz : Nat) (tz : Int), pz = pos + 3 + 1 + 1 ∧ tz = t + step + oneZ l (pos + 3 + 1) [1, 3, 30, 50] ∧ SerI l step T p (xs ++ [(t, someValueZ l pos)], m, pz, tz) := ⟨_, _, rfl, rfl, hi.nextT ht1 bS (by simpa using hc2)⟩
        refine AW.region ?_
        first
          | refine ao0 (em_move (by rfl) (by rfl)) (by rfl) (by rfl) ?_
          | refine ao0 (em_moveG (by rfl) (by rfl)) (by rfl) (by rfl) ?_
          | refine ao0 (sem_move (.inl (by rfl))) (by rfl) (by rfl) ?_
        first
          | refine ao0 (em_move (by rfl) (by rfl)) (by rfl) (by rfl) ?_
          | refine ao0 (em_moveG (by rfl) (by rfl)) (by rfl) (by rfl) ?_
          | refine ao0 (sem_move (.inl (by rfl))) (by rfl) (by rfl) ?_
        first
          | refine ao0 (sem_buildSliceV tyOk (by rfl) (by rfl) (by rfl) (by rfl) (by rfl) (by rfl) (by rfl) (by decide) (by decide) (by rfl)) (by rfl) (by rfl) ?_
          | refine ao1 (sem_buildSlice0 tyOk (by rfl) (by rfl) (by rfl) (by rfl)) (by omega) (by rfl) (by rfl) ?_
          | refine ao1 (sem_buildSlice tyOk (by rfl) (by rfl) (by rfl) (by rfl) (by rfl) (by rfl) (by rfl) (by decide) (by decide) (by rfl)) (by omega) (by rfl) (by rfl) ?_
        refine ao_callL [0] [] (one_ok nn l (pos + 3 + 1) [1, 3, 30, 50] hl (by omega) hnn hb (by decide)) (by rfl) (by rfl) (by rfl) (by rfl) (by rfl) (by repeat' (first | exact True.intro | exact .inl ⟨by rfl, by rfl⟩ | exact rfl | exact .inr (.inl ⟨_, _, _, _, by rfl, by rfl⟩) | exact .inr (.inr ⟨_, _, _, _, _, _, by rfl, by rfl, by rfl, by first | exact .head _ | exact .tail _ (.head _) | exact .tail _ (.tail _ (.head _)) | exact .tail _ (.tail _ (.tail _ (.head _)))⟩) | refine And.intro ?_ ?_)) (by repeat' (first | exact True.intro | exact .inl ⟨by rfl, by rfl⟩ | exact rfl | exact .inl rfl | exact .inr (.inl ⟨_, _, _, _, by rfl, by rfl⟩) | exact .inr ⟨rfl, by simp [D.scalar, bD]⟩ | refine And.intro ?_ ?_)) (by rfl) (by rfl) (by rfl) (by decide) (by rfl) (by rfl) (by omega) (by first | rfl | (simp [keptB, notGone, (by rfl).live]; done)) (by rfl) (by rfl) (by rfl) (by rfl) (by rfl) (by rfl) (by rfl) ?_
        first
          | refine ao0 (em_add (by rfl) (by rfl) (by rfl) (by omega) (by omega)) (by rfl) (by rfl) ?_
          | refine ao0 (em_add8 (by rfl) (by rfl) (by rfl) (by omega) (by omega)) (by rfl) (by rfl) ?_
          | refine ao0 (em_binI (by rfl) (by rfl) (by rfl) (by rfl) (by first | rfl | trivial | exact ⟨rfl, by decide⟩ | exact ⟨rfl, by omega⟩ | decide | omega)) (by rfl) (by rfl) ?_
          | refine ao0 (sem_binS (by rfl) (by rfl) (by rfl) (by rfl) (by trivial)) (by rfl) (by rfl) ?_
        first
          | refine ao0 (em_assign (by rfl) (by rfl)) (by rfl) (by rfl) ?_
          | refine ao0 (em_assignG (by rfl) (by rfl)) (by rfl) (by rfl) ?_
          | refine ao0 (sem_move (.inr (by rfl))) (by rfl) (by rfl) ?_
        refine ao_nil (by first | dsimp only [setO, setE] | rfl) (by first | dsimp only [setM, setE, setR] | rfl) (by rfl) ?_
        refine AW.region ?_
        first
          | refine ao0 (em_move (by rfl) (by rfl)) (by rfl) (by rfl) ?_
          | refine ao0 (em_moveG (by rfl) (by rfl)) (by rfl) (by rfl) ?_
          | refine ao0 (sem_move (.inl (by rfl))) (by rfl) (by rfl) ?_
        first
          | refine ao0 (em_sub (by rfl) (by rfl) (by rfl) (by omega) (by omega)) (by rfl) (by rfl) ?_
          | refine ao0 (em_sub8 (by rfl) (by rfl) (by rfl) (by omega) (by omega)) (by rfl) (by rfl) ?_
          | refine ao0 (em_binI (by rfl) (by rfl) (by rfl) (by rfl) (by first | rfl | trivial | exact ⟨rfl, by decide⟩ | exact ⟨rfl, by omega⟩ | decide | omega)) (by rfl) (by rfl) ?_
          | refine ao0 (sem_binS (by rfl) (by rfl) (by rfl) (by rfl) (by trivial)) (by rfl) (by rfl) ?_
        first
          | refine ao0 (em_assign (by rfl) (by rfl)) (by rfl) (by rfl) ?_
          | refine ao0 (em_assignG (by rfl) (by rfl)) (by rfl) (by rfl) ?_
          | refine ao0 (sem_move (.inr (by rfl))) (by rfl) (by rfl) ?_
        refine ao_nil (by first | dsimp only [setO, setE] | rfl) (by first | dsimp only [setM, setE, setR] | rfl) (by rfl) ?_
        refine ⟨⟨(xs ++ [(t, someValueZ l pos)], m, pz, tz), hnx⟩, by dsimp only; omega, ?_⟩
        dsimp only [updL, setE]
        refine into_lists [0, 3] ?_ ?_ rfl rfl (by decide) (by rfl) (by rfl) (by rfl) (by rfl) (by omega)
        all_goals (try (repeat' (first | exact True.intro | exact Or.inl rfl | exact Or.inr (Or.inl rfl) | refine And.intro ?_ ?_ | exact le_i (by omega) | exact le_own (by rfl) (by rfl) (by first | rfl | omega) | exact le_arr (by rfl) (by rfl) (by first | rfl | omega) (by rfl) | exact Or.inr (Or.inr (Or.inl ⟨_, _, rfl, rfl⟩)) | exact Or.inr (Or.inr ⟨_, _, rfl⟩) | exact Or.inr (Or.inr (Or.inr ⟨_, _, _, _, rfl, rfl⟩)))))
        all_goals first | exact le_i (by dsimp only; omega) | exact le_rdr (by rfl) hpz.symm | exact le_arr (by rfl) (by rfl) (by simp) (by simp [pntD, iD]) | exact le_own (by rfl) (by rfl) (by simp)
      · skip
        obtain ⟨pz, tz, hpz, htz, hnx⟩ : ∃ (pz : Nat) (tz : Int), pz = pos + 3 + 1 ∧ tz = t + step ∧ SerI l step T p (xs ++ [(t, someValueZ l pos)], m, pz, tz) := ⟨_, _, rfl, rfl, hi.nextF ht1 bS (by simpa using hc2)⟩
        refine AW.skip ?_
        refine AW.region ?_
        first
          | refine ao0 (em_move (by rfl) (by rfl)) (by rfl) (by rfl) ?_
          | refine ao0 (em_moveG (by rfl) (by rfl)) (by rfl) (by rfl) ?_
          | refine ao0 (sem_move (.inl (by rfl))) (by rfl) (by rfl) ?_
        first
          | refine ao0 (em_sub (by rfl) (by rfl) (by rfl) (by omega) (by omega)) (by rfl) (by rfl) ?_
          | refine ao0 (em_sub8 (by rfl) (by rfl) (by rfl) (by omega) (by omega)) (by rfl) (by rfl) ?_
          | refine ao0 (em_binI (by rfl) (by rfl) (by rfl) (by rfl) (by first | rfl | trivial | exact ⟨rfl, by decide⟩ | exact ⟨rfl, by omega⟩ | decide | omega)) (by rfl) (by rfl) ?_
          | refine ao0 (sem_binS (by rfl) (by rfl) (by rfl) (by rfl) (by trivial)) (by rfl) (by rfl) ?_
        first
          | refine ao0 (em_assign (by rfl) (by rfl)) (by rfl) (by rfl) ?_
          | refine ao0 (em_assignG (by rfl) (by rfl)) (by rfl) (by rfl) ?_
          | refine ao0 (sem_move (.inr (by rfl))) (by rfl) (by rfl) ?_
        refine ao_nil (by first | dsimp only [setO, setE] | rfl) (by first | dsimp only [setM, setE, setR] | rfl) (by rfl) ?_
        refine ⟨⟨(xs ++ [(t, someValueZ l pos)], m, pz, tz), hnx⟩, by dsimp only; omega, ?_⟩
        dsimp only [updL, setE]
        refine into_lists [0, 3] ?_ ?_ rfl rfl (by decide) (by rfl) (by rfl) (by rfl) (by rfl) (by omega)
        all_goals (try (repeat' (first | exact True.intro | exact Or.inl rfl | exact Or.inr (Or.inl rfl) | refine And.intro ?_ ?_ | exact le_i (by omega) | exact le_own (by rfl) (by rfl) (by first | rfl | omega) | exact le_arr (by rfl) (by rfl) (by first | rfl | omega) (by rfl) | exact Or.inr (Or.inr (Or.inl ⟨_, _, rfl, rfl⟩)) | exact Or.inr (Or.inr ⟨_, _, rfl⟩) | exact Or.inr (Or.inr (Or.inr ⟨_, _, _, _, rfl, rfl⟩)))))
        all_goals first | exact le_i (by dsimp only; omega) | exact le_rdr (by rfl) hpz.symm | exact le_arr (by rfl) (by rfl) (by simp) (by simp [pntD, iD]) | exact le_own (by rfl) (by rfl) (by simp)
    · skip
      obtain ⟨f1, f2⟩ := hi.fin (fun k => by simp at hc1; omega)
      subst f1 f2
      refine AW.exit ?_
      refine AW.seq ?_
      refine AW.region ?_
      first
        | refine ao0 (em_move (by rfl) (by rfl)) (by rfl) (by rfl) ?_
        | refine ao0 (em_moveG (by rfl) (by rfl)) (by rfl) (by rfl) ?_
        | refine ao0 (sem_move (.inl (by rfl))) (by rfl) (by rfl) ?_
      first
        | refine ao0 (em_assign (by rfl) (by rfl)) (by rfl) (by rfl) ?_
        | refine ao0 (em_assignG (by rfl) (by rfl)) (by rfl) (by rfl) ?_
        | refine ao0 (sem_move (.inr (by rfl))) (by rfl) (by rfl) ?_
      refine ao_nil (by first | dsimp only [setO, setE] | rfl) (by first | dsimp only [setM, setE, setR] | rfl) (by rfl) ?_
      refine AW.ret ?_
      refine retA_own (n := 0) [0, 1] (by rfl) ?_ ?_ rfl (by simp) (by rfl) (by rfl) (by rfl) (by rfl) (by simp) _ (.inr rfl)
      · exact ⟨le_rdr (by rfl) (by omega), le_arr (by rfl) (by rfl) (by rfl) (by rfl), trivial⟩
      · exact le_own (by rfl) (by rfl) (by rfl)
end Go.Proofs.Ytfcnjhkebbjojaa
