/-
  A region in the text's order, walked in parts: between two parts rows of one's own may come to be only read.
-/
import Derived.Test.YtpobimdcphjljaaBr
namespace Go.Proofs.Ytpobimdcphjljaa
open Go
set_option linter.unusedVariables false
set_option linter.unusedSimpArgs false
set_option linter.unnecessarySimpa false
set_option maxRecDepth 4000

theorem RelS.frz {c : Cx} {l l' : List A} {m m' : List R} {a : Act} {w : World} {g : Gh} (hr : RelS c (sL l m) a w g) (r : Nat) {e : TypeId} {fh : Bool} {n : Nat} {ds : List D} (hm : lsR m r = .arr e fh true n ds) (hk : c.k ≤ r) (hl : AFrzAs r fh n ds l l') (hmm : AFrzRs r fh n ds 0 m m') :
    RelS c (sL l' m') a w ⟨upd g.fr (g.gb r) (frW w (g.gb r)), g.gb, g.gc, g.born⟩ := by
  have hok := hr.mem.ok r
  have hown := hr.mem.own r hk (by show (lsR m r).live = true; rw [hm]; rfl)
  have hok2 : ResOk c.P w g c.base r (.arr e fh true n ds) := by rw [← hm]; exact hok
  have hf0 : g.fr (g.gb r) = 0 := by
    obtain ⟨_, _, hif⟩ := hok2
    simp only [if_true] at hif
    exact hif.1
  have hevo : Evo w g.fr w (upd g.fr (g.gb r) (frW w (g.gb r))) := ⟨Nat.le_refl _, fun b _ => by
    unfold upd; split
    · rename_i h; subst h; rw [hf0]; exact Nat.zero_le _
    · exact Nat.le_refl _, fun a v _ h => h, fun _ _ _ => rfl, fun b _ h => by unfold upd; exact if_neg (fun e => by subst e; omega)⟩
  have hlive : ∀ r', (lsR m' r').live = true → (lsR m r').live = true := fun r' hl' => by
    rcases frzRs_get hmm r' with ⟨_, h0⟩ | ⟨_, h0⟩ | ⟨_, h0⟩
    · rw [h0] at hl'; cases hl'
    · revert h0 hl'
      generalize lsR m' r' = y'
      generalize lsR m r' = y
      intro hl' h0
      cases h0 with
      | box _ => rfl
      | arr => exact hl'
      | gone => cases hl'
    · rw [h0] at hl'; cases hl'
  refine ⟨fun d => RelA.frz hok2 hown (hr.slots d) (frzAs_get hl d), ⟨fun r' => ?_, fun r' r'' hne hl' hl'' => hr.mem.inj r' r'' hne (hlive r' hl') (hlive r'' hl''), fun r' hk' hl' => hr.mem.own r' hk' (hlive r' hl')⟩, ⟨hr.fr.os, hr.fr.tape, hr.fr.output, hr.fr.evo.trans hevo, hr.fr.keep, fun b hb => ?_, hr.fr.gk⟩, hr.glob.evo hevo, fun r' hk' hl' => hr.lvk r' hk' (hlive r' hl'), hr.bk, hr.bk2, hr.defers⟩
  · show ResOk c.P w _ c.base r' (lsR m' r')
    have hne : ∀ x, lsR m r' = x → x.live = true → r' ≠ r → upd g.fr (g.gb r) (frW w (g.gb r)) (g.gb r') = g.fr (g.gb r') := fun x hx hl' hne => by
      have := hr.mem.inj r' r hne (by show (lsR m r').live = true; rw [hx]; exact hl') (by show (lsR m r).live = true; rw [hm]; rfl)
      unfold upd; rw [if_neg this]
    have hx := hr.mem.ok r'
    rcases frzRs_get hmm r' with ⟨_, h0⟩ | ⟨hj, h0⟩ | ⟨_, h0⟩
    · rw [h0]; trivial
    · rw [Nat.zero_add] at hj
      have hx : ResOk c.P w g c.base r' (lsR m r') := hx
      revert h0
      generalize hy' : lsR m' r' = y'
      generalize hy : lsR m r' = y
      intro h0
      rw [hy] at hx
      cases h0 with
      | gone => trivial
      | box hL =>
        obtain ⟨q1, q2, vs, T, q3, q4⟩ := hx
        exact ⟨q1, by show upd g.fr (g.gb r) (frW w (g.gb r)) (g.gb r') = 0; rw [hne _ hy rfl hj]; exact q2, vs, T, q3, RelL.frz hok2 hown hL q4⟩
      | @arr e' f' nn' n' cs' =>
        obtain ⟨q1, q2, q3⟩ := hx
        refine ⟨q1, q2, ?_⟩
        cases nn' with
        | false => exact q3
        | true =>
          simp only [if_true] at q3 ⊢
          obtain ⟨p1, cur, p2, p3, p4, p5, p6⟩ := q3
          refine ⟨by show upd g.fr (g.gb r) (frW w (g.gb r)) (g.gb r') = 0; rw [hne _ hy rfl hj]; exact p1, cur, p2, p3, p4, p5, RelL.frz hok2 hown (frzL_same ?_) p6⟩
          unfold hasL
          rw [List.any_eq_false]
          intro c hc
          obtain ⟨d, _, rfl⟩ := List.mem_map.1 hc
          cases d <;> simp [D.toC, hasC]
    · rw [h0]; trivial
  · show upd g.fr (g.gb r) (frW w (g.gb r)) b = c.g0.fr b
    have : b ≠ g.gb r := by
      have : c.base = c.w0.heap.size := rfl
      omega
    unfold upd; rw [if_neg this]; exact hr.fr.frk b hb

theorem seq_opsP {c : Cx} {nt : Nat} {ops : Array Oper} {Q : Exit → Act → World → Prop} {K : St → Nat → List Rec → Prop} (m : Nat) : ∀ (rest : List Oper) (i : Nat) (s : St) (n : Nat) (acc : List Rec) (a : Act) (w : World) (g : Gh), (ops.toList.drop i).take rest.length = rest → RelS c s a w g → NB g n → a.tmps.size = nt →
    aops c.P c.G c.base c.k nt ops.toList rest s n acc K → (∀ s' n' acc' a' w' g', K s' n' acc' → RelS c s' a' w' g' → NB g' n' → a'.tmps.size = nt → wpOps c.P ops Q (List.range' (i + rest.length) m) a' w') → wpOps c.P ops Q (List.range' i (rest.length + m)) a w
  | [], i, s, n, acc, a, w, g, _, hr, hn, hs, h, hK => by
    have := hK s n acc a w g h hr hn hs
    simpa using this
  | o :: rest, i, s, n, acc, a, w, g, hdrop, hr, hn, hs, h, hK => by
    have ho : ops[i]? = some o := by
      have := congrArg (fun l => l[0]?) hdrop
      simpa [List.getElem?_take] using this
    have hrest : (ops.toList.drop (i + 1)).take rest.length = rest := by
      have hlt : i < ops.toList.length := by
        have := (Array.getElem?_eq_some_iff.1 ho).1
        simpa using this
      rw [List.drop_eq_getElem_cons hlt, List.length_cons, List.take_succ_cons] at hdrop
      exact (List.cons.inj hdrop).2
    rw [List.length_cons, show rest.length + 1 + m = (rest.length + m) + 1 by omega, List.range'_succ]
    unfold wpOps
    simp only [ho]
    unfold aops at h
    obtain ⟨hd, e, v, ups, ft, cnt, hw, h1, h0, h2⟩ := h
    have hd' : ∀ d, o.dst = some d → d < a.tmps.size := by rw [hs]; exact hd
    have hK' : ∀ s' n' acc' a' w' g', K s' n' acc' → RelS c s' a' w' g' → NB g' n' → a'.tmps.size = nt → wpOps c.P ops Q (List.range' (i + 1 + rest.length) m) a' w' := fun s' n' acc' a' w' g' k1 k2 k3 k4 => by
      have := hK s' n' acc' a' w' g' k1 k2 k3 k4
      rwa [List.length_cons, show i + (rest.length + 1) = i + 1 + rest.length by omega] at this
    rw [wantA_ok hr hw]
    cases e with
    | true =>
      simp only [if_true]
      refine .inl (step_sound (h1 rfl) hr (fun r hr' => hn r hr'.1) hd' fun w' g' V hr' hb => ?_)
      exact seq_opsP m rest (i + 1) _ _ _ _ w' g' hrest hr' (fun r h3 h4 => by
        rcases hb r h4 with h5 | h5
        · exact hn r (by omega) h5
        · have := h5.2; omega) (by rw [put_size]; exact hs) h2 hK'
    | false =>
      simp only [Bool.false_eq_true, if_false]
      obtain ⟨e1, e2⟩ := h0 rfl
      have := put_undef (o := o) hr (e2 w g) hd'
      rw [← e1] at this
      exact seq_opsP m rest (i + 1) _ _ _ _ w g hrest this (fun r hr' => hn r (by omega)) (by rw [put_size]; exact hs) h2 hK'
/-- The operations of a region from the j-th on, from the state s. -/
def TW (P : Program) (G : Nat → Option (List D)) (base k nt : Nat) (ops : Array Oper) (j : Nat) (Q : PostA) (s : St) (n : Nat) : Prop :=
  ∀ (c : Cx) (a : Act) (w : World) (g : Gh), c.P = P → c.G = G → c.base = base → c.k = k → RelS c s a w g → NB g n → a.tmps.size = nt →
    ∀ Q' : Exit → Act → World → Prop, (∀ e s' n' a' w' g', Q e s' n' → RelS c s' a' w' g' → NB g' n' → a'.tmps.size = nt → Q' e a' w') → wpOps P ops Q' (List.range' j (ops.size - j)) a w
section
variable {P : Program} {G : Nat → Option (List D)} {base k nt n : Nat} {Q : PostA} {l l' : List A} {m m' : List R} {ops : Array Oper} {j : Nat}
theorem AW.regionS {id : Nat} {s : St} (h : TW P G base k nt ops 0 Q s n) : AW P G base k nt (.region id ops false) Q s n := by
  intro c a w g h1 h2 h3 h4 hr hn hs Q' hQ
  refine wp_region ?_
  have := h c a w g h1 h2 h3 h4 hr hn hs Q' hQ
  rwa [Nat.sub_zero, ← List.range_eq_range'] at this
theorem TW.frz {q : Nat} (r : Nat) {e : TypeId} {fh : Bool} {ds : List D} (hm : lsR m r = .arr e fh true q ds) (hk : k ≤ r) (hl : AFrzAs r fh q ds l l') (hmm : AFrzRs r fh q ds 0 m m')
    (h : TW P G base k nt ops j Q (sL l' m') n) : TW P G base k nt ops j Q (sL l m) n := by
  intro c a w g h1 h2 h3 h4 hr hn hs Q' hQ
  subst h1 h2 h3 h4
  exact h c a w _ rfl rfl rfl rfl (hr.frz r hm hk hl hmm) hn hs Q' hQ
/-- The next i operations. -/
theorem TW.part {s : St} (i : Nat) (hi : j + i ≤ ops.size) (h : aops P G base k nt ops.toList ((ops.toList.drop j).take i) s n [] (fun s' n' _ => TW P G base k nt ops (j + i) Q s' n')) : TW P G base k nt ops j Q s n := by
  intro c a w g h1 h2 h3 h4 hr hn hs Q' hQ
  subst h1 h2 h3 h4
  have hlen : ((ops.toList.drop j).take i).length = i := by simp; omega
  have := seq_opsP (c := c) (ops := ops) (Q := Q') (ops.size - j - i) ((ops.toList.drop j).take i) j s n [] a w g (by rw [hlen]) hr hn hs h (fun s' n' _ a' w' g' k1 k2 k3 k4 => by
    have := k1 c a' w' g' rfl rfl rfl rfl k2 k3 k4 Q' hQ
    rwa [hlen, show ops.size - j - i = ops.size - (j + i) by omega])
  rwa [hlen, show i + (ops.size - j - i) = ops.size - j by omega] at this
/-- All that are left. -/
theorem TW.last {s : St} (h : aops P G base k nt ops.toList (ops.toList.drop j) s n [] (fun s' n' _ => Q .normal s' n')) : TW P G base k nt ops j Q s n := by
  intro c a w g h1 h2 h3 h4 hr hn hs Q' hQ
  subst h1 h2 h3 h4
  have := seq_ops (c := c) (ops := ops) (Q := Q') (ops.toList.drop j) j s n [] a w g rfl hr hn hs h (fun s' n' _ a' w' g' k1 k2 k3 k4 => hQ _ _ _ _ _ _ k1 k2 k3 k4)
  rwa [List.length_drop, Array.length_toList] at this
end
end Go.Proofs.Ytpobimdcphjljaa
