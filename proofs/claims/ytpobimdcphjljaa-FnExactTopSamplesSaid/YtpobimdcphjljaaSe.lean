/-
  Structs against structs; bytes as strings.
-/
import Derived.Test.YtpobimdcphjljaaSn
import Derived.Laws.StructEq
import Derived.Laws.BytesString
namespace Go.Proofs.Ytpobimdcphjljaa
open Go

/-- Cells whose value is known whole. -/
def scalV : C → Option Value
  | .b x => some (.bool x)
  | .i k n => some (.int k n)
  | .s x => some (.string x)
  | _ => none
def scalVs : List C → Option (List Value)
  | [] => some []
  | c :: cs => match scalV c, scalVs cs with
    | some v, some vs => some (v :: vs)
    | _, _ => none
theorem scal_rel {w : World} {g : Gh} {base : Nat} : ∀ {cs : List C} {vs us : List Value}, RelL w g base cs vs → scalVs cs = some us → vs = us
  | [], [], us, _, h => by cases h; rfl
  | [], _ :: _, _, h, _ => h.elim
  | _ :: _, [], _, h, _ => h.elim
  | c :: cs, v :: vs, us, h, hs => by
    unfold scalVs at hs
    split at hs
    · rename_i v' vs' h1 h2
      cases hs
      rw [scal_rel h.2 h2]
      have h0 := h.1
      cases c <;> cases h1 <;> cases h0 <;> rfl
    · cases hs
theorem sem_eqG {P : Program} {G : Nat → Option (List D)} {base k : Nat} {o : Oper} {ov : Operand → A} {op : BinOp} {t t' : TypeId} {x y : Operand} {cs ds : List C} {us vs : List Value} {b b' : Bool} {nid : Nat}
    (ho : o.op = .binOp op t x y t') (hg : P.eqGuardType P.depth t = false) (hx : aggOf (ov x) = some cs) (hy : aggOf (ov y) = some ds) (hcs : scalVs cs = some us) (hds : scalVs ds = some vs)
    (heq : ∀ w, (Op.equalIn 10000 t (.agg us.toArray) (.agg vs.toArray)).run P w = .ok b w) (hop : op = .eql ∧ b' = b ∨ op = .neq ∧ b' = !b) : ASem P G base k o ov [] (.v false [.b b']) [] nid 0 := by
  refine .pure fun w g ac _ hop' _ => ?_
  obtain ⟨xs, h1, h2⟩ := aggOf_rel (hop' x (by simp [ho, Op.operands])) hx
  obtain ⟨ys, h3, h4⟩ := aggOf_rel (hop' y (by simp [ho, Op.operands])) hy
  obtain rfl := scal_rel h2 hcs
  obtain rfl := scal_rel h4 hds
  refine ⟨.bool b', ?_, _, rfl, rfl⟩
  have hb : (binOp op t (.agg xs.toArray) (.agg ys.toArray)).run P w = .ok (.bool b') w := by
    rcases hop with ⟨rfl, rfl⟩ | ⟨rfl, rfl⟩
    · rw [run_eql_struct, heq]; rfl
    · rw [run_neq_struct, heq]; rfl
  unfold execOp
  simp only [ho]
  rw [h1, h3, Sem.run_bind, Sem.run_bind, run_eqGuard_agg _ _ _ _ _ _ _ hg, Result.andThen_ok, hb]; rfl

/-! ### Bytes as strings -/
def strL (l : List Int) : ByteArray := l.foldl (fun r n => r.push (UInt8.ofNat n.toNat)) ByteArray.empty
theorem sem_convS {P : Program} {T : TypeId → Option TI} (hT : TOk P T) {G : Nat → Option (List D)} {base k : Nat} {o : Oper} {ov : Operand → A} {s t e : TypeId} {ti si te : TI} {x : Operand} {f nn : Bool} {n : Nat} {l : List Int} {nid : Nat}
    (ho : o.op = .convert s t x) (ht : T t = some ti) (hk : ti.k = .str) (hsrc : T s = some si) (hks : si.k = .slice e 1) (he : T e = some te) (hke : te.k = .int .u8) (hx : slot (ov x) = some (.sl f nn n (l.map fun z => D.i .u8 z))) (hn : n = l.length) (hnn : nn = false → l = []) :
    ASem P G base k o ov [] (.v false [.s (strL l)]) [] nid 0 := by
  subst hn
  refine .pure fun w g ac _ hop _ => ?_
  have h1 := slot_rel (hop x (by simp [ho, Op.operands])) hx
  have hu := (hT.get ht).str hk
  have hs := ((hT.get hsrc).slice hks).1
  have hi := (hT.get he).int hke
  refine ⟨.string (strL l), ?_, _, rfl, rfl⟩
  unfold execOp
  simp only [ho]
  rcases slice_cells (P := P) (m := fun _ => .gone) h1 rfl (fun r y h => by cases h) with ⟨rfl, _, hV⟩ | ⟨rfl, a, cap, vs, hV, _, hrel, hcell⟩
  · rw [hV, Sem.run_bind, run_convert_bytes_string w s t e _ _ _ hs hi hu, hnn rfl]; rfl
  · have hvs : vs = l.map (Value.int .u8) := by
      refine List.ext_getElem? fun j => ?_
      rcases Nat.lt_or_ge j l.length with hj | hj
      · obtain ⟨v, e1, e2⟩ := hrel.get (j := j) (c := .i .u8 l[j]) (by simp [List.getElem?_map, List.getElem?_eq_getElem hj, D.toC])
        cases e2
        rw [e1]; simp [List.getElem?_map, List.getElem?_eq_getElem hj]
      · have hl := hrel.length
        simp at hl
        rw [List.getElem?_eq_none (by omega), List.getElem?_eq_none (by simpa using hj)]
    subst hvs
    have hl := run_loadCells_list (P := P) w a (l.map (Value.int .u8)) hcell
    rw [List.length_map] at hl
    rw [hV, Sem.run_bind, run_convert_bytes_string w s t e _ _ _ hs hi hu, run_bytesToString w a l.length cap l hl]; rfl
theorem strL_data (l : List Int) : (strL l).data.toList = l.map fun n => UInt8.ofNat n.toNat := by
  have : ∀ (l : List Int) (r : ByteArray), (l.foldl (fun r n => r.push (UInt8.ofNat n.toNat)) r).data.toList = r.data.toList ++ l.map fun n => UInt8.ofNat n.toNat := by
    intro l
    induction l with
    | nil => intro r; simp
    | cons n l ih => intro r; rw [List.foldl_cons, ih]; simp [ByteArray.push]
  have h := this l ByteArray.empty
  simpa [strL] using h
def bD (b : Nat) : D := .i .u8 b
def strN (l : List Nat) : ByteArray := strL (l.map fun (n : Nat) => (n : Int))
theorem strN_eq {l m : List Nat} (hl : ∀ b ∈ l, b ≤ 255) (hm : ∀ b ∈ m, b ≤ 255) : ((strN l).toList == (strN m).toList) = decide (l = m) := by
  unfold strN
  rw [ByteArray.toList_eq, ByteArray.toList_eq, strL_data, strL_data]
  have inj : ∀ {l m : List Nat}, (∀ b ∈ l, b ≤ 255) → (∀ b ∈ m, b ≤ 255) → l.map (fun b => UInt8.ofNat b) = m.map (fun b => UInt8.ofNat b) → l = m := by
    intro l
    induction l with
    | nil => intro m _ _ h; cases m with
      | nil => rfl
      | cons _ _ => simp at h
    | cons a l ih =>
      intro m h1 h2 h
      cases m with
      | nil => simp at h
      | cons b m =>
        simp only [List.map_cons, List.cons.injEq] at h
        have e := congrArg UInt8.toNat h.1
        have ha := h1 a (by simp)
        have hb := h2 b (by simp)
        have e1 : ∀ x : Nat, (UInt8.ofNat x).toNat = x % 256 := fun x => by simp
        rw [e1, e1] at e
        rw [show a = b by omega, ih (fun x hx => h1 x (by simp [hx])) (fun x hx => h2 x (by simp [hx])) h.2]
  by_cases h : l = m
  · subst h; simp
  · rw [decide_eq_false h]
    simp only [List.map_map]
    refine beq_eq_false_iff_ne.2 fun e => h (inj hl hm ?_)
    simpa [Function.comp_def] using e
theorem sem_convN {P : Program} {T : TypeId → Option TI} (hT : TOk P T) {G : Nat → Option (List D)} {base k : Nat} {o : Oper} {ov : Operand → A} {s t e : TypeId} {ti si te : TI} {x : Operand} {f nn : Bool} {n : Nat} {l : List Nat} {nid : Nat}
    (ho : o.op = .convert s t x) (ht : T t = some ti) (hk : ti.k = .str) (hsrc : T s = some si) (hks : si.k = .slice e 1) (he : T e = some te) (hke : te.k = .int .u8) (hx : slot (ov x) = some (.sl f nn n (l.map bD))) (hn : n = l.length) (hnn : nn = false → l = []) :
    ASem P G base k o ov [] (.v false [.s (strN l)]) [] nid 0 :=
  sem_convS hT ho ht hk hsrc hks he hke (by rw [hx, List.map_map]; rfl) (by rw [hn]; simp) (fun h => by rw [hnn h]; rfl)
end Go.Proofs.Ytpobimdcphjljaa
