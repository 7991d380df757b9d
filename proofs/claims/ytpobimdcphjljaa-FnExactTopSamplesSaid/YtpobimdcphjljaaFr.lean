/-
  Rows of scalars are fresh whatever was copied into them: of results, and between two operations.
-/
import Derived.Test.YtpobimdcphjljaaTwo
namespace Go.Proofs.Ytpobimdcphjljaa
open Go
set_option linter.unusedVariables false
set_option linter.unusedSimpArgs false
set_option linter.unnecessarySimpa false
set_option maxRecDepth 4000

inductive FreR : R → R → Prop
  | same {x : R} : FreR x x
  | arr {e : TypeId} {f nn : Bool} {n : Nat} {ds : List D} (hs : ∀ d ∈ ds, d.scalar = true) : FreR (.arr e f nn n ds) (.arr e true nn n ds)
inductive FreL : List R → List R → Prop
  | nil : FreL [] []
  | cons {x y : R} {xs ys : List R} (h : FreR x y) (k : FreL xs ys) : FreL (x :: xs) (y :: ys)
theorem FreL.get {xs ys : List R} (h : FreL xs ys) : xs.length = ys.length ∧ ∀ r, FreR (lsR xs r) (lsR ys r) := by
  induction h with
  | nil => exact ⟨rfl, fun r => .same⟩
  | cons hx hk ih =>
    refine ⟨by simp [ih.1], fun r => ?_⟩
    cases r with
    | zero => exact hx
    | succ r => exact ih.2 r
theorem FreR.live {x y : R} (h : FreR x y) : x.live = y.live := by cases h <;> rfl
theorem FreR.res {P : Program} {w : World} {g : Gh} {base r : Nat} {x y : R} (h : FreR x y) (k : ResOk P w g base r x) : ResOk P w g base r y := by
  cases h with
  | same => exact k
  | @arr e f nn n ds hs =>
    have hmap : ds.map (D.toC true) = ds.map (D.toC f) := List.map_congr_left fun d hd => by
      have := hs d hd
      cases d with
      | sl nn n cs => simp [D.scalar] at this
      | wh nn n sz T xs tag => simp [D.scalar] at this
      | _ => rfl
    unfold ResOk at k ⊢
    dsimp only at k ⊢
    rw [hmap]; exact k
theorem FnOk.fre {P : Program} {G : Nat → Option (List D)} {f : FuncId} {args : List A} {ins : List R} {res : A} {outs outs' : List R} (h : FnOk P G f args ins res outs) (hf : FreL outs outs') : FnOk P G f args ins res outs' := by
  refine ⟨h.1, fun w g vs h1 h2 h3 h4 => (h.2 w g vs h1 h2 h3 h4).mono fun ex w' ⟨V, g', he, hp⟩ => ⟨V, g', he, ?_⟩⟩
  obtain ⟨hl, hr⟩ := hf.get
  exact ⟨hp.val, ⟨fun r => (hr r).res (hp.mem.ok r), fun r r' hne a b => hp.mem.inj r r' hne (by rw [(hr r).live]; exact a) (by rw [(hr r').live]; exact b), fun r hk hlv => hp.mem.own r hk (by rw [(hr r).live]; exact hlv)⟩, hp.fr, fun r hb => hp.nb r (by rw [hl]; exact hb), fun r hr' hlv => hp.lv r hr' (by rw [(hr r).live]; exact hlv)⟩
theorem RelS.fre {c : Cx} {l : List A} {m m' : List R} {a : Act} {w : World} {g : Gh} (hr : RelS c (sL l m) a w g) (hf : FreL m m') : RelS c (sL l m') a w g := by
  obtain ⟨_, h⟩ := hf.get
  have hv : ∀ r, (lsR m' r).live = true → (lsR m r).live = true := fun r hl => by rw [(h r).live]; exact hl
  exact ⟨hr.slots, ⟨fun r => (h r).res (hr.mem.ok r), fun r r' hne x y => hr.mem.inj r r' hne (hv r x) (hv r' y), fun r hk x => hr.mem.own r hk (hv r x)⟩, hr.fr, hr.glob, fun r hk x => hr.lvk r hk (hv r x), hr.bk, hr.bk2, hr.defers⟩
section
variable {P : Program} {G : Nat → Option (List D)} {base k nt n : Nat} {Q : PostA} {l : List A} {m m' : List R}
theorem TW.fre {ops : Array Oper} {j : Nat} (hf : FreL m m') (h : TW P G base k nt ops j Q (sL l m') n) : TW P G base k nt ops j Q (sL l m) n := by
  intro c a w g h1 h2 h3 h4 hr hn hs Q' hQ
  subst h1 h2 h3 h4
  exact h c a w _ rfl rfl rfl rfl (hr.fre hf) hn hs Q' hQ
theorem AW.fre {code : Code} (hf : FreL m m') (h : AW P G base k nt code Q (sL l m') n) : AW P G base k nt code Q (sL l m) n := by
  intro c a w g h1 h2 h3 h4 hr hn hs Q' hQ
  subst h1 h2 h3 h4
  exact h c a w _ rfl rfl rfl rfl (hr.fre hf) hn hs Q' hQ
end
end Go.Proofs.Ytpobimdcphjljaa
