/-
  The evaluator over states that are written out; the seat's table of types.
-/
import Derived.Test.YtpobimdcphjljaaEd
import Derived.KernelRfl
namespace Go.Proofs.Ytpobimdcphjljaa
open Go

def tyList : List (Nat × TI) := [
  (2, ⟨.int .i64, 1, 8, [.i .i64 0]⟩),
  (3, ⟨.int .i64, 1, 8, [.i .i64 0]⟩),
  (4, ⟨.bool, 1, 1, [.b false]⟩),
  (5, ⟨.int .u8, 1, 1, [.i .u8 0]⟩),
  (9, ⟨.str, 1, 16, [.s ⟨#[]⟩]⟩),
  (12, ⟨.int .u64, 1, 8, [.i .u64 0]⟩),
  (13, ⟨.struct [(0, 1, false), (1, 1, false)], 2, 24, [.s ⟨#[]⟩, .i .u64 0]⟩),
  (21, ⟨.int .i32, 1, 4, [.i .i32 0]⟩),
  (22, ⟨.slice 5 1, 1, 24, [.sl true false 0 []]⟩),
  (23, ⟨.slice 31 2, 1, 24, [.sl true false 0 []]⟩),
  (29, ⟨.slice 61 2, 1, 24, [.sl true false 0 []]⟩),
  (30, ⟨.struct [(0, 1, false), (1, 1, false)], 2, 32, [.sl true false 0 [], .i .i64 0]⟩),
  (31, ⟨.struct [(0, 1, false), (1, 1, false)], 2, 32, [.sl true false 0 [], .i .i64 0]⟩),
  (34, ⟨.slice 65 2, 1, 24, [.sl true false 0 []]⟩),
  (46, ⟨.ptr, 1, 8, [.nilp]⟩),
  (50, ⟨.slice 3 1, 1, 24, [.sl true false 0 []]⟩),
  (60, ⟨.struct [(0, 1, false), (1, 1, false)], 2, 32, [.s ⟨#[]⟩, .s ⟨#[]⟩]⟩),
  (61, ⟨.struct [(0, 1, false), (1, 1, false)], 2, 32, [.s ⟨#[]⟩, .s ⟨#[]⟩]⟩),
  (63, ⟨.slice 94 2, 1, 24, [.sl true false 0 []]⟩),
  (64, ⟨.struct [(0, 1, false), (1, 1, false)], 2, 32, [.sl true false 0 [], .i .i64 0]⟩),
  (65, ⟨.struct [(0, 1, false), (1, 1, false)], 2, 32, [.sl true false 0 [], .i .i64 0]⟩),
  (72, ⟨.struct [(0, 1, false), (1, 1, false)], 2, 32, [.sl true false 0 [], .i .i64 0]⟩),
  (73, ⟨.struct [(0, 1, false), (1, 1, false)], 2, 32, [.sl true false 0 [], .i .i64 0]⟩),
  (74, ⟨.slice 29 1, 1, 24, [.sl true false 0 []]⟩),
  (94, ⟨.struct [(0, 1, false), (1, 1, false)], 2, 32, [.s ⟨#[]⟩, .s ⟨#[]⟩]⟩),
  (100, ⟨.slice 9 1, 1, 24, [.sl true false 0 []]⟩),
  (102, ⟨.int .u64, 1, 8, [.i .u64 0]⟩),
  (110, ⟨.int .u32, 1, 4, [.i .u32 0]⟩),
  (114, ⟨.ptr, 1, 8, [.nilp]⟩)]
def tyT : TypeId → Option TI := tab tyList
theorem tyOk : TOk Try.prog tyT := tok_tab (by kernel_rfl)

/-! ### States written out -/
def setE {α : Type} (d : α) : List α → Nat → α → List α
  | [], 0, x => [x]
  | [], n + 1, x => d :: setE d [] n x
  | _ :: l, 0, x => x :: l
  | a :: l, n + 1, x => a :: setE d l n x
theorem setE_get {α : Type} (d : α) : ∀ (l : List α) (n : Nat) (x : α) (m : Nat), (setE d l n x).getD m d = if m = n then x else l.getD m d
  | [], 0, x, m => by cases m <;> simp [setE]
  | [], n + 1, x, m => by
    cases m with
    | zero => simp [setE]
    | succ m => have := setE_get d [] n x m; simp [setE] at this ⊢; exact this
  | _ :: l, 0, x, m => by cases m <;> simp [setE]
  | a :: l, n + 1, x, m => by
    cases m with
    | zero => simp [setE]
    | succ m => have := setE_get d l n x m; simp [setE] at this ⊢; exact this
def setO (l : List A) : Option Nat → A → List A
  | none, _ => l
  | some d, x => setE .any l d x
def setM (m : List R) : List (Nat × R) → List R
  | [] => m
  | p :: ps => setM (setE .gone m p.1 p.2) ps
def sL (l : List A) (m : List R) : St := ⟨lsA l, lsR m⟩
theorem app_sL (l : List A) (m : List R) (o : Oper) (v : A) (ups : List (Nat × R)) : (sL l m).app o v ups = sL (setO l o.dst v) (setM m ups) := by
  unfold sL St.app
  have h1 : updO (lsA l) o.dst v = lsA (setO l o.dst v) := by
    cases o.dst with
    | none => rfl
    | some d =>
      funext q
      show upd (lsA l) d v q = lsA (setE .any l d v) q
      unfold upd lsA
      rw [setE_get]
  have h2 : ∀ (ups : List (Nat × R)) (m : List R), upds (lsR m) ups = lsR (setM m ups) := by
    intro ups
    induction ups with
    | nil => intro m; rfl
    | cons p ps ih =>
      intro m
      show upds (upd (lsR m) p.1 p.2) ps = lsR (setM (setE .gone m p.1 p.2) ps)
      rw [← ih]
      congr 1
      funext q
      unfold upd lsR
      rw [setE_get]
  simp only [h1, h2]

section
variable {P : Program} {G : Nat → Option (List D)} {base k nt n : Nat} {ops : List Oper} {o : Oper} {rest : List Oper} {l : List A} {m : List R} {acc : List Rec} {K : St → Nat → List Rec → Prop}
def dstOk (o : Oper) (nt : Nat) : Bool := match o.dst with | none => true | some d => decide (d < nt)
theorem dstOk_ok (h : dstOk o nt = true) : ∀ d, o.dst = some d → d < nt := by
  intro d hd
  unfold dstOk at h
  rw [hd] at h
  simpa using h
theorem ao_skip (hw : wantA ops (lsA l) o = some false) (hd : dstOk o nt = true) (h : aops P G base k nt ops rest (sL (setO l o.dst .undef) m) n (acc ++ [⟨false, .undef, [], [], n, 0⟩]) K) : aops P G base k nt ops (o :: rest) (sL l m) n acc K := by
  refine ⟨dstOk_ok hd, false, .undef, [], [], 0, hw, (fun h => by cases h), fun _ => ⟨rfl, fun _ _ => rfl⟩, ?_⟩
  rw [app_sL]
  exact h
theorem ao_step {v : A} {ups ft : List (Nat × R)} {cnt : Nat} (hw : wantA ops (lsA l) o = some true) (hd : dstOk o nt = true) (ha : AStep P G base k o (sL l m) v ups ft n cnt)
    (h : aops P G base k nt ops rest (sL (setO l o.dst v) (setM m ups)) (n + cnt) (acc ++ [⟨true, v, ups, ft, n, cnt⟩]) K) : aops P G base k nt ops (o :: rest) (sL l m) n acc K := by
  exact ⟨dstOk_ok hd, true, v, ups, ft, cnt, hw, fun _ => ha, (fun h => by cases h), by rw [app_sL]; exact h⟩
/-- An operation under a guard that is not decided: it writes no memory. -/
theorem ao_opt {e : Bool} {v : A} {ft : List (Nat × R)} (hw : wantA ops (lsA l) o = some e) (hd : dstOk o nt = true) (ha : e = true → AStep P G base k o (sL l m) v [] ft n 0)
    (h : aops P G base k nt ops rest (sL (setO l o.dst (.opt e v)) m) n (acc ++ [⟨e, .opt e v, [], ft, n, 0⟩]) K) : aops P G base k nt ops (o :: rest) (sL l m) n acc K :=
  ⟨dstOk_ok hd, e, .opt e v, [], ft, 0, hw, fun he => ⟨(ha he).sem.weaken fun _ _ _ hv => ⟨fun _ => hv, fun h => by rw [he] at h; cases h⟩, (ha he).held, (ha he).wf, (ha he).up⟩, fun he => ⟨rfl, fun _ _ => ⟨(fun h => by rw [he] at h; cases h), fun _ => rfl⟩⟩, by rw [app_sL]; exact h⟩
theorem astep0 {s : St} {v : A} (hs : ASem P G base k o (evO G s.t) [] v [] n 0) : AStep P G base k o s v [] [] n 0 :=
  ⟨hs, (fun _ _ h => by cases h), ⟨List.nodup_nil, (fun _ _ h => by cases h), (fun _ h => by cases h), (fun _ _ h => by cases h)⟩, (fun _ _ h => by cases h)⟩
theorem astep_load {T : TypeId → Option TI} (hT : TOk P T) {s : St} {t : TypeId} {x : Operand} {ti : TI} {p : C} {L : List C} {v : A} {side : Prop} (ho : o.op = .load t x) (hx : slot (evO G s.t x) = some p) (ht : T t = some ti) (hc : contOf s.m p = some L) (hl : loadA ti L = some (v, side)) (hs : side) : AStep P G base k o s v [] (ftOf s.m p) n 0 :=
  ⟨sem_load hT ho ht hx hc hl hs, (fun r y h => by cases p <;> simp [ftOf] at h; obtain ⟨rfl, rfl⟩ := h; rfl), ⟨List.nodup_nil, (fun _ _ h => by cases h), (fun _ h => by cases h), (fun _ _ h => by cases h)⟩, (fun _ _ h => by cases h)⟩
/-- Operations that only compute. -/
theorem ao0 {v : A} (hs : ASem P G base k o (evO G (lsA l)) [] v [] n 0) (hw : wantA ops (lsA l) o = some true) (hd : dstOk o nt = true)
    (h : aops P G base k nt ops rest (sL (setO l o.dst v) m) n (acc ++ [⟨true, v, [], [], n, 0⟩]) K) : aops P G base k nt ops (o :: rest) (sL l m) n acc K :=
  ao_step hw hd ⟨hs, (fun _ _ h => by cases h), ⟨List.nodup_nil, (fun _ _ h => by cases h), (fun _ h => by cases h), (fun _ _ h => by cases h)⟩, (fun _ _ h => by cases h)⟩ h
/-- Operations that make one resource. -/
theorem ao1 {v : A} {x : R} (hs : ASem P G base k o (evO G (lsA l)) [] v [(n, x)] n 1) (hk : k ≤ n) (hw : wantA ops (lsA l) o = some true) (hd : dstOk o nt = true)
    (h : aops P G base k nt ops rest (sL (setO l o.dst v) (setE .gone m n x)) (n + 1) (acc ++ [⟨true, v, [(n, x)], [], n, 1⟩]) K) : aops P G base k nt ops (o :: rest) (sL l m) n acc K := by
  have nw : nwOf n 1 n := ⟨Nat.le_refl _, by omega⟩
  have one : ∀ r y, (r, y) ∈ [(n, x)] → r = n := fun r y h => by simp at h; exact h.1
  exact ao_step hw hd ⟨hs, (fun _ _ h => by cases h), ⟨by simp, (fun r y h _ => by rw [one r y h]; exact hk), (fun r h => by rw [one r _ h]; exact hk), (fun r y h hn => absurd (one r y h ▸ nw) hn)⟩, (fun r y h hn => absurd (one r y h ▸ nw) hn)⟩ h
theorem ao_load {T : TypeId → Option TI} (hT : TOk P T) {t : TypeId} {x : Operand} {ti : TI} {p : C} {L : List C} {v : A} {side : Prop} (ho : o.op = .load t x) (hw : wantA ops (lsA l) o = some true) (hd : dstOk o nt = true) (hx : slot (evO G (lsA l) x) = some p) (ht : T t = some ti) (hc : contOf (lsR m) p = some L) (hl : loadA ti L = some (v, side)) (hs : side)
    (h : aops P G base k nt ops rest (sL (setO l o.dst v) m) n (acc ++ [⟨true, v, [], ftOf (lsR m) p, n, 0⟩]) K) : aops P G base k nt ops (o :: rest) (sL l m) n acc K :=
  ao_step hw hd ⟨sem_load hT ho ht hx hc hl hs, (fun r y h => by cases p <;> simp [ftOf] at h; obtain ⟨rfl, rfl⟩ := h; rfl), ⟨List.nodup_nil, (fun _ _ h => by cases h), (fun _ h => by cases h), (fun _ _ h => by cases h)⟩, (fun _ _ h => by cases h)⟩ h
theorem step_write {r : Nat} {x : R} {s : St} (hs : ASem P G base k o (evO G s.t) [(r, s.m r)] .undef [(r, x)] n 0) (hg : x ≠ .gone) (hl : (s.m r).live = x.live) : AStep P G base k o s .undef [(r, x)] [(r, s.m r)] n 0 := by
  refine ⟨hs, (fun q y h => by simp at h; obtain ⟨rfl, rfl⟩ := h; rfl), ⟨by simp, (fun q y _ hn => by have := hn.1; have := hn.2; omega), (fun q h => by simp at h; exact absurd h.2.symm hg), (fun q y h _ hy => ?_)⟩, (fun q y h _ => by simp at h; obtain ⟨rfl, rfl⟩ := h; exact ⟨s.m q, by simp⟩)⟩
  simp at h
  obtain ⟨rfl, rfl⟩ := h
  exact ⟨s.m q, by simp, by rw [hl]; exact hy⟩
theorem ao_store_box {T : TypeId → Option TI} (hT : TOk P T) {t : TypeId} {x y : Operand} {ti : TI} {r off : Nat} {cs xs : List C} (ho : o.op = .store t x y) (hw : wantA ops (lsA l) o = some true) (hd : dstOk o nt = true) (hx : slot (evO G (lsA l) x) = some (.ref r off)) (ht : T t = some ti) (hm : lsR m r = .box cs) (hy : cellsA (evO G (lsA l) y) = some xs) (h1 : xs.length = ti.size) (h2 : off + xs.length ≤ cs.length)
    (h : aops P G base k nt ops rest (sL (setO l o.dst .undef) (setE .gone m r (.box (setR cs off xs)))) n (acc ++ [⟨true, .undef, [(r, .box (setR cs off xs))], [(r, lsR m r)], n, 0⟩]) K) : aops P G base k nt ops (o :: rest) (sL l m) n acc K :=
  ao_step hw hd (step_write (s := sL l m) (sem_store_box hT ho ht hx hm hy h1 h2) (by simp) (by show (lsR m r).live = _; rw [hm]; rfl)) h
theorem ao_store_arr {T : TypeId → Option TI} (hT : TOk P T) {t e : TypeId} {x y : Operand} {ti : TI} {r off nn : Nat} {f f' : Bool} {ds ys : List D} {xs : List C} (ho : o.op = .store t x y) (hw : wantA ops (lsA l) o = some true) (hd : dstOk o nt = true) (hx : slot (evO G (lsA l) x) = some (.ref r off)) (ht : T t = some ti) (hm : lsR m r = .arr e f true nn ds) (hy : cellsA (evO G (lsA l) y) = some xs) (hds : toDs xs = some (f', ys)) (h1 : xs.length = ti.size) (h2 : off + xs.length ≤ ds.length)
    (h : aops P G base k nt ops rest (sL (setO l o.dst .undef) (setE .gone m r (.arr e (f && f') true nn (setR ds off ys)))) n (acc ++ [⟨true, .undef, [(r, .arr e (f && f') true nn (setR ds off ys))], [(r, lsR m r)], n, 0⟩]) K) : aops P G base k nt ops (o :: rest) (sL l m) n acc K :=
  ao_step hw hd (step_write (s := sL l m) (sem_store_arr hT ho ht hx hm hy hds h1 h2) (by simp) (by show (lsR m r).live = _; rw [hm]; rfl)) h
theorem ao_append_own {T : TypeId → Option TI} (hT : TOk P T) {t e e' s : Nat} {x y : Operand} {ti te : TI} {r q n' : Nat} {f f' nn' : Bool} {ds ds' : List D} {p : C}
    (ho : o.op = .call { callee := .builtin .append, args := #[x, y], argTypes := #[t, t] }) (hw : wantA ops (lsA l) o = some true) (hd : dstOk o nt = true) (ht : T t = some ti) (hk : ti.k = .slice e s) (he : T e = some te) (hx : slot (evO G (lsA l) x) = some (.own true r q)) (hm : lsR m r = .arr e' f true q ds) (hee : e' = e) (hy : slot (evO G (lsA l) y) = some p) (hp : sliceOf (lsR m) p = some (f', nn', n', ds'))
    (hl : ds'.length = n' * s) (h1 : q + n' ≤ maxLen) (h2 : (q + n') * te.bytes ≤ 140737488355328) (hr : r < n) (hkr : k ≤ r)
    (h : aops P G base k nt ops rest (sL (setO l o.dst (.v false [.own true n (q + n')])) (setE .gone (setE .gone m r .gone) n (.arr e (f && f') true (q + n') (ds ++ ds')))) (n + 1) (acc ++ [⟨true, .v false [.own true n (q + n')], [(r, .gone), (n, .arr e (f && f') true (q + n') (ds ++ ds'))], (r, lsR m r) :: ftSl (lsR m) p, n, 1⟩]) K) : aops P G base k nt ops (o :: rest) (sL l m) n acc K := by
  have nw : nwOf n 1 n := ⟨Nat.le_refl _, by omega⟩
  refine ao_step hw hd ⟨sem_append_own hT ho ht hk he hx hm hee hy hp hl h1 h2 hr, (fun c y hc => ?_), ⟨by simp; omega, (fun c y hc hn => ?_), (fun c hc => ?_), (fun c y hc hn hl' => ?_)⟩, (fun c y hc hn => ?_)⟩ h
  · rcases List.mem_cons.1 hc with hc | hc
    · cases hc; rfl
    · cases p <;> simp [ftSl] at hc
      obtain ⟨rfl, rfl⟩ := hc; rfl
  · rcases mem_two hc with e | e
    · cases e; exact hkr
    · cases e; omega
  · rcases mem_two hc with e | e
    · cases e; exact hkr
    · cases e
  · rcases mem_two hc with e | e
    · cases e; cases hl'
    · cases e; exact absurd nw hn
  · rcases mem_two hc with e | e
    · cases e; exact ⟨_, List.mem_cons_self ..⟩
    · cases e; exact absurd nw hn
theorem ao_append_nil {T : TypeId → Option TI} (hT : TOk P T) {t e s : Nat} {x y : Operand} {ti te : TI} {n' : Nat} {f' nn' : Bool} {ds' : List D} {p q : C}
    (ho : o.op = .call { callee := .builtin .append, args := #[x, y], argTypes := #[t, t] }) (hw : wantA ops (lsA l) o = some true) (hd : dstOk o nt = true) (ht : T t = some ti) (hk : ti.k = .slice e s) (he : T e = some te) (hx : slot (evO G (lsA l) x) = some q) (hq : (∃ fx ds, q = .sl fx false 0 ds) ∨ ∃ r, q = .own false r 0 ∧ r < n) (hqk : ∀ r, q = .own false r 0 → k ≤ r) (hy : slot (evO G (lsA l) y) = some p) (hp : sliceOf (lsR m) p = some (f', nn', n', ds'))
    (hl : ds'.length = n' * s) (h1 : n' ≤ maxLen) (h2 : n' * te.bytes ≤ 140737488355328) (hkn : k ≤ n)
    (h : aops P G base k nt ops rest (sL (setO l o.dst (.v false [.own (decide (0 < n')) n n'])) (setM m (upNil q ++ [(n, .arr e f' (decide (0 < n')) n' ds')]))) (n + 1) (acc ++ [⟨true, .v false [.own (decide (0 < n')) n n'], upNil q ++ [(n, .arr e f' (decide (0 < n')) n' ds')], ftSl (lsR m) q ++ ftSl (lsR m) p, n, 1⟩]) K) : aops P G base k nt ops (o :: rest) (sL l m) n acc K := by
  have nw : nwOf n 1 n := ⟨Nat.le_refl _, by omega⟩
  have mu : ∀ c y, (c, y) ∈ upNil q ++ [(n, R.arr e f' (decide (0 < n')) n' ds')] → (q = .own false c 0 ∧ c < n ∧ y = .gone) ∨ (c = n ∧ y = .arr e f' (decide (0 < n')) n' ds') := fun c y hc => by
    rcases List.mem_append.1 hc with hc | hc
    · rcases hq with ⟨fx, ds, rfl⟩ | ⟨r, rfl, hr⟩
      · cases hc
      · simp [upNil] at hc; obtain ⟨rfl, rfl⟩ := hc; exact .inl ⟨rfl, hr, rfl⟩
    · simp at hc; exact .inr hc
  refine ao_step hw hd ⟨sem_append_nil hT ho ht hk he hx hq hy hp hl h1 h2, (fun c y hc => ?_), ⟨?_, (fun c y hc hn => ?_), (fun c hc => ?_), (fun c y hc hn hl' => ?_)⟩, (fun c y hc hn => ?_)⟩ h
  · rcases List.mem_append.1 hc with hc | hc
    · cases q <;> simp [ftSl] at hc
      obtain ⟨rfl, rfl⟩ := hc; rfl
    · cases p <;> simp [ftSl] at hc
      obtain ⟨rfl, rfl⟩ := hc; rfl
  · rcases hq with ⟨fx, ds, rfl⟩ | ⟨r, rfl, hr⟩
    · simp [upNil]
    · simp [upNil]; omega
  · rcases mu c y hc with ⟨e, _, _⟩ | ⟨rfl, _⟩
    · exact hqk c e
    · exact hkn
  · rcases mu c _ hc with ⟨e, _, _⟩ | ⟨rfl, e⟩
    · exact hqk c e
    · cases e
  · rcases mu c y hc with ⟨_, _, rfl⟩ | ⟨rfl, _⟩
    · cases hl'
    · exact absurd nw hn
  · rcases mu c y hc with ⟨e, _, _⟩ | ⟨rfl, _⟩
    · exact ⟨lsR m c, List.mem_append_left _ (by rw [e]; simp [ftSl])⟩
    · exact absurd nw hn
theorem ao_call {fo : Operand} {ops0 : Array Operand} {ts : Array TypeId} {f : FuncId} {caps : List Nat} {args' : List A} {ins : List R} {res : A} {outs : List R} (ids vw : List Nat) (hok : FnOk P G f args' ins res outs) (hw : wantA ops (lsA l) o = some true) (hd : dstOk o nt = true)
    (ho : o.op = .call { callee := .value fo, args := ops0, argTypes := ts }) (hf : slot (evO G (lsA l) fo) = some (.fn f caps))
    (hin : inAs (fun r => ids.getD r 0) (lsR m) vw (ops0.toList.map (evO G (lsA l)) ++ capsA caps) args') (hres : ∀ r, r < ins.length → inR (fun r => ids.getD r 0) (lsR m) vw (lsR m (ids.getD r 0)) (lsR ins r))
    (hia : ∀ r ∈ args'.flatMap idsA, r < ins.length) (hir : ∀ r, r < ins.length → ∀ q ∈ idsR (lsR ins r), q < ins.length) (hlen : ids.length = ins.length) (hnd : ids.Nodup) (hlt : ∀ r ∈ ids, r < n) (hvw : ∀ r ∈ vw, r ∉ ids) (hle : ins.length ≤ outs.length) (hkn : k ≤ n)
    (hgone : ∀ r, r < ins.length → lsR outs r ≠ .gone) (hlv : ∀ r, r < ins.length → (lsR outs r).live = true → (lsR ins r).live = true) (hba : backA vw res = true) (hbr : outs.all (backR vw) = true)
    (h : aops P G base k nt ops rest (sL (setO l o.dst (renA (tau (fun r => ids.getD r 0) ins.length n) res)) (setM m (upsCall (fun r => ids.getD r 0) ins.length n outs))) (n + (outs.length - ins.length)) (acc ++ [⟨true, renA (tau (fun r => ids.getD r 0) ins.length n) res, upsCall (fun r => ids.getD r 0) ins.length n outs, ftCall (fun r => ids.getD r 0) ins.length (lsR m) vw, n, outs.length - ins.length⟩]) K) : aops P G base k nt ops (o :: rest) (sL l m) n acc K :=
  ao_step hw hd (astep_call (s := sL l m) ids vw ho hf hok hin hres hia hir hlen hnd hlt hvw hle hkn hgone hlv hba hbr) h
theorem backL_nil (cs : List C) : cs.all (backC []) = true := List.all_eq_true.2 fun c _ => by cases c <;> simp [backC]
theorem backA_nil (x : A) : backA [] x = true := by
  cases x with
  | v ag cs => exact backL_nil cs
  | tup xs => exact List.all_eq_true.2 fun x _ => backL_nil x.2
  | opt b x => exact backA_nil x
  | _ => rfl
/-- A call of a function to which nothing is handed but data, and which gives back nothing but data. -/
theorem astep_call0 {s : St} {fo : Operand} {ops0 : Array Operand} {ts : Array TypeId} {f : FuncId} {args' : List A} {res : A} (hok : FnOk P G f args' [] res [])
    (ho : o.op = .call { callee := .value fo, args := ops0, argTypes := ts }) (hf : slot (evO G s.t fo) = some (.fn f []))
    (hin : inAs (fun _ => 0) s.m [] (ops0.toList.map (evO G s.t)) args') (hia : args'.flatMap idsA = []) (hkn : k ≤ n) (hres : renA (tau (fun _ => 0) 0 n) res = res) : AStep P G base k o s res [] [] n 0 := by
  have e : (fun r => ([] : List Nat).getD r 0) = fun _ => 0 := by funext r; simp
  have := astep_call (base := base) (k := k) (nid := n) (s := s) (ids := []) (vw := []) ho hf hok (by rw [e]; simpa [capsA] using hin) (fun r hr => by simp at hr) (fun r hr => by rw [hia] at hr; cases hr) (fun r hr => by simp at hr) rfl List.nodup_nil (fun r hr => by cases hr) (fun r hr => by cases hr) (Nat.le_refl _) hkn (fun r hr => by simp at hr) (fun r hr => by simp at hr) (backA_nil res) rfl
  rw [e] at this
  have this : AStep P G base k o s (renA (tau (fun _ => 0) 0 n) res) [] [] n 0 := this
  rwa [hres] at this
theorem ao_call0 {fo : Operand} {ops0 : Array Operand} {ts : Array TypeId} {f : FuncId} {args' : List A} {res : A} (hok : FnOk P G f args' [] res [])
    (ho : o.op = .call { callee := .value fo, args := ops0, argTypes := ts }) (hw : wantA ops (lsA l) o = some true) (hd : dstOk o nt = true) (hf : slot (evO G (lsA l) fo) = some (.fn f []))
    (hin : inAs (fun _ => 0) (lsR m) [] (ops0.toList.map (evO G (lsA l))) args') (hia : args'.flatMap idsA = []) (hkn : k ≤ n) (hres : renA (tau (fun _ => 0) 0 n) res = res)
    (h : aops P G base k nt ops rest (sL (setO l o.dst res) m) n (acc ++ [⟨true, res, [], [], n, 0⟩]) K) : aops P G base k nt ops (o :: rest) (sL l m) n acc K :=
  ao_step hw hd (astep_call0 (s := sL l m) hok ho hf hin hia hkn hres) h
end

/-! ### Values said by their form -/
section
variable {P : Program} {G : Nat → Option (List D)} {base k nt n : Nat} {ops : List Oper} {o : Oper} {rest : List Oper} {l l' : List A} {m m' : List R} {acc : List Rec} {K : St → Nat → List Rec → Prop} {ov : Operand → A} {nid : Nat}
theorem ao_nil {n' : Nat} (hl : l = l') (hm : m = m') (hn : n = n') (h : K (sL l' m') n' acc) : aops P G base k nt ops [] (sL l m) n acc K := by
  subst hl hm hn; exact h
theorem ASem.view {v x : A} (h : ASem P G base k o ov [] v [] nid 0) (hx : ∀ w g V, RelA w g base v V → RelA w g base x V) : ASem P G base k o ov [] x [] nid 0 := h.weaken hx
theorem em_move {x : Operand} {c : C} (ho : o.op = .move x) (hx : slot (ov x) = some c) : ASem P G base k o ov [] (.v false [c]) [] nid 0 := (sem_move (.inl ho)).weaken fun _ _ _ h => ⟨c, rfl, slot_rel h hx⟩
theorem em_assign {x : Operand} {c : C} (ho : o.op = .assign x) (hx : slot (ov x) = some c) : ASem P G base k o ov [] (.v false [c]) [] nid 0 := (sem_move (.inr ho)).weaken fun _ _ _ h => ⟨c, rfl, slot_rel h hx⟩
def aggOf : A → Option (List C)
  | .v true cs => some cs
  | .opt true x => aggOf x
  | _ => none
theorem aggOf_rel {w : World} {g : Gh} {x : A} {cs : List C} {V : Value} (h : RelA w g base x V) (hx : aggOf x = some cs) : RelA w g base (.v true cs) V := by
  induction x with
  | v ag cs' =>
    cases ag with
    | true => cases hx; exact h
    | false => cases hx
  | opt b x ih =>
    cases b with
    | true => exact ih (h.1 rfl) (by simpa [aggOf] using hx)
    | false => cases hx
  | _ => cases hx
theorem em_moveG {x : Operand} {cs : List C} (ho : o.op = .move x) (hx : aggOf (ov x) = some cs) : ASem P G base k o ov [] (.v true cs) [] nid 0 := (sem_move (.inl ho)).weaken fun _ _ _ h => aggOf_rel h hx
theorem em_assignG {x : Operand} {cs : List C} (ho : o.op = .assign x) (hx : aggOf (ov x) = some cs) : ASem P G base k o ov [] (.v true cs) [] nid 0 := (sem_move (.inr ho)).weaken fun _ _ _ h => aggOf_rel h hx
theorem em_binI {op : BinOp} {t t' : TypeId} {x y : Operand} {ka kb : IntKind} {a b : Int} {c : C} {side : Prop} (ho : o.op = .binOp op t x y t') (hx : slot (ov x) = some (.i ka a)) (hy : slot (ov y) = some (.i kb b)) (hb : binI op ka kb a b = (c, side)) (hs : side) : ASem P G base k o ov [] (.v false [c]) [] nid 0 := by
  have := sem_binI (P := P) (G := G) (base := base) (k := k) (nid := nid) ho hx hy (by rw [hb]; exact hs)
  rw [hb] at this
  exact this
theorem em_field {T : TypeId → Option TI} (hT : TOk P T) {t : TypeId} {x : Operand} {j : Nat} {ti : TI} {fs : List (Nat × Nat × Bool)} {off sz : Nat} {cs : List C} {c : C} (ho : o.op = .field t x j) (ht : T t = some ti) (hk : ti.k = .struct fs) (hj : fs[j]? = some (off, sz, false)) (hx : ov x = .v true cs) (hc : cs[off]? = some c) : ASem P G base k o ov [] (.v false [c]) [] nid 0 :=
  sem_field hT ho ht hk hj hx (by rw [hc]; rfl)
theorem fnOk_of' {T : TypeId → Option TI} (hT : TOk P T) {f : FuncId} {fn : Func} {body : Code} {args : List A} {ins : List R} {res : A} {outs : List R} {rs : List ResultVar} (hf : P.funcs[f]? = some fn) (hb : fn.body = some body) (hn : (fn.name == "runtime.NumGoroutine") = false) (hnt : fn.ntmps = nt) (hrs : fn.results.toList = rs) (hk : ins.length = k) (hl : args ++ List.replicate (nt - args.length) .undef = l) (ha : args.length ≤ nt) (ho : ins.length ≤ outs.length)
    (hlv : ∀ r, r < ins.length → (lsR outs r).live = true → (lsR ins r).live = true)
    (h : ∀ base, AW P G base k nt body (retA T rs k res outs) (sL l ins) k) : FnOk P G f args ins res outs := by
  subst hnt hrs hk hl
  exact fnOk_of hT hf hb hn ha ho hlv h
/-- The end, where all that comes back is data. -/
theorem retA_data {T : TypeId → Option TI} {rs : List ResultVar} {res : A} {s : St} {n : Nat} {ys : List (Bool × List C)} (hk : k = 0) (hy : resVs T s rs = some ys) (hr : packA ys = res) (hi : idsA res = []) (hren : renA (fun _ => 0) res = res) (e : Exit) (he : e = .normal ∨ e = .ret) : retA T rs k res [] e s n := by
  subst hk
  have : ∃ ys, resVs T s rs = some ys ∧ ∃ σ : Nat → Nat, LeM 0 σ s.m (lsR []) ([] : List R).length ∧ leA σ (packA ys) res ∧ ∀ r ∈ idsA res, r < ([] : List R).length :=
    ⟨ys, hy, fun _ => 0, ⟨fun r => .inl (by simp [lsR]), fun r q hq => by simp [lsR, idsR] at hq, fun r _ => by simp [lsR], fun r r' h => by simp [lsR, R.live] at h, fun r h => by omega, fun r _ h => by simp [lsR, R.live] at h, Nat.le_refl _⟩, .inr (.inl (by rw [hren]; exact hr)), fun r h => by rw [hi] at h; cases h⟩
  rcases he with rfl | rfl <;> exact this
end
theorem pack_b {x y : Bool} (h : x = y) : packA [(false, [.b x])] = .v false [.b y] := by rw [h]; rfl
theorem pack_i {k : IntKind} {x y : Int} (h : x = y) : packA [(false, [.i k x])] = .v false [.i k y] := by rw [h]; rfl
def noG : Nat → Option (List D) := fun _ => none
theorem follows0 : Try.prog.follows .mixedOrders = true := by kernel_rfl

/-! ### Views written out -/
def leLA (σ : Nat → Nat) : List A → List A → Prop
  | _, [] => True
  | [], y :: ys => leA σ .any y ∧ leLA σ [] ys
  | x :: xs, y :: ys => leA σ x y ∧ leLA σ xs ys
def leLM (σ : Nat → Nat) (m : Nat → R) : Nat → List R → Prop
  | _, [] => True
  | r, y :: ys => leR σ m r y ∧ leLM σ m (r + 1) ys
theorem leLA_get {σ : Nat → Nat} : ∀ {l l' : List A}, leLA σ l l' → ∀ d, leA σ (lsA l d) (lsA l' d)
  | l, [], _, d => .inl (by simp [lsA])
  | [], y :: ys, h, d => by
    cases d with
    | zero => exact h.1
    | succ d => exact leLA_get (l := []) (l' := ys) h.2 d
  | x :: xs, y :: ys, h, d => by
    cases d with
    | zero => exact h.1
    | succ d => exact leLA_get (l := xs) (l' := ys) h.2 d
theorem leLM_get {σ : Nat → Nat} {m : Nat → R} : ∀ {m' : List R} {j : Nat}, leLM σ m j m' → ∀ r, r < m'.length → leR σ m (j + r) (lsR m' r)
  | [], _, _, r, hr => by simp at hr
  | y :: ys, j, h, r, hr => by
    cases r with
    | zero => exact h.1
    | succ r =>
      have := leLM_get (m' := ys) (j := j + 1) h.2 r (by simpa using hr)
      rw [show j + (r + 1) = j + 1 + r by omega]
      exact this
theorem lsR_ge {m : List R} {r : Nat} (h : m.length ≤ r) : lsR m r = .gone := by
  unfold lsR
  rw [List.getD_eq_getElem?_getD, List.getElem?_eq_none h]; rfl
theorem nodup_getD {sl : List Nat} (hn : sl.Nodup) {r r' : Nat} (hr : r < sl.length) (hr' : r' < sl.length) (e : sl.getD r 0 = sl.getD r' 0) : r = r' := by
  simp only [List.getD_eq_getElem?_getD, List.getElem?_eq_getElem hr, List.getElem?_eq_getElem hr', Option.getD_some] at e
  have hp := List.pairwise_iff_getElem.1 hn
  rcases Nat.lt_trichotomy r r' with h | h | h
  · exact absurd e (hp r r' hr hr' h)
  · exact h
  · exact absurd e.symm (hp r' r hr' hr h)
theorem lem_lists {k : Nat} {m m' : List R} (sl : List Nat) (hlen : sl.length = m'.length) (hn : sl.Nodup) (hm : leLM (fun r => sl.getD r 0) (lsR m) 0 m') (hid : ∀ y ∈ m', ∀ q ∈ idsR y, q < m'.length) (hold : (List.range k).all (fun r => sl.getD r 0 == r) = true)
    (hnew : (List.range m'.length).all (fun r => decide (r < k) || decide (k ≤ sl.getD r 0)) = true) (hk : k ≤ m'.length) : LeM k (fun r => sl.getD r 0) (lsR m) (lsR m') m'.length := by
  have lt : ∀ r, (lsR m' r).live = true → r < m'.length := fun r hl => by
    rcases Nat.lt_or_ge r m'.length with h | h
    · exact h
    · rw [lsR_ge h] at hl; cases hl
  refine ⟨fun r => ?_, fun r q hq => ?_, fun r hr => lsR_ge hr, fun r r' hl hl' e => nodup_getD hn (by rw [hlen]; exact lt r hl) (by rw [hlen]; exact lt r' hl') e, fun r hr => ?_, fun r hr hl => ?_, hk⟩
  · rcases Nat.lt_or_ge r m'.length with h | h
    · have := leLM_get hm r h
      rwa [Nat.zero_add] at this
    · exact .inl (lsR_ge h)
  · rcases Nat.lt_or_ge r m'.length with h | h
    · refine hid (lsR m' r) ?_ q hq
      unfold lsR
      rw [List.getD_eq_getElem?_getD, List.getElem?_eq_getElem h, Option.getD_some]
      exact List.getElem_mem _
    · rw [lsR_ge h] at hq; cases hq
  · simpa using List.all_eq_true.1 hold r (List.mem_range.2 hr)
  · have := List.all_eq_true.1 hnew r (List.mem_range.2 (lt r hl))
    simp only [Bool.or_eq_true, decide_eq_true_eq] at this
    omega
theorem ids_lists {l' : List A} {n : Nat} (h : ∀ x ∈ l', ∀ r ∈ idsA x, r < n) : ∀ d, ∀ r ∈ idsA (lsA l' d), r < n := fun d r hr => by
  unfold lsA at hr
  rw [List.getD_eq_getElem?_getD] at hr
  cases hd : l'[d]? with
  | none => rw [hd] at hr; cases hr
  | some x => rw [hd] at hr; exact h x (List.mem_of_getElem? hd) r hr
/-- Said of lists: every place's number is less than n. -/
def idsLt (n : Nat) : List A → Bool
  | [] => true
  | x :: xs => (idsA x).all (fun r => decide (r < n)) && idsLt n xs
theorem idsLt_ok {n : Nat} : ∀ {l : List A}, idsLt n l = true → ∀ x ∈ l, ∀ r ∈ idsA x, r < n
  | [], _, x, hx => by cases hx
  | y :: ys, h, x, hx => by
    unfold idsLt at h
    rw [Bool.and_eq_true] at h
    rcases List.mem_cons.1 hx with rfl | hx
    · intro r hr; simpa using List.all_eq_true.1 h.1 r hr
    · exact idsLt_ok h.2 x hx
def idsLtR (n : Nat) : List R → Bool
  | [] => true
  | x :: xs => (idsR x).all (fun r => decide (r < n)) && idsLtR n xs
theorem idsLtR_ok {n : Nat} : ∀ {l : List R}, idsLtR n l = true → ∀ x ∈ l, ∀ r ∈ idsR x, r < n
  | [], _, x, hx => by cases hx
  | y :: ys, h, x, hx => by
    unfold idsLtR at h
    rw [Bool.and_eq_true] at h
    rcases List.mem_cons.1 hx with rfl | hx
    · intro r hr; simpa using List.all_eq_true.1 h.1 r hr
    · exact idsLtR_ok h.2 x hx
/-- A state is seen as another one. -/
theorem into_lists {k n : Nat} {l l' : List A} {m m' : List R} (sl : List Nat) (ht : leLA (fun r => sl.getD r 0) l l') (hm : leLM (fun r => sl.getD r 0) (lsR m) 0 m') (hn : m'.length = n) (hlen : sl.length = n) (hnd : sl.Nodup) (hi : idsLt n l' = true) (hid : idsLtR n m' = true) (hold : (List.range k).all (fun r => sl.getD r 0 == r) = true)
    (hnew : (List.range n).all (fun r => decide (r < k) || decide (k ≤ sl.getD r 0)) = true) (hk : k ≤ n) : Into k (lsA l') (lsR m') n (sL l m) := by
  subst hn
  exact ⟨fun r => sl.getD r 0, lem_lists sl hlen hnd hm (idsLtR_ok hid) hold hnew hk, leLA_get ht, ids_lists (idsLt_ok hi)⟩
def updL (l : List A) : List (Nat × A) → List A
  | [] => l
  | p :: ps => updL (setE .any l p.1 p.2) ps
section
variable {P : Program} {G : Nat → Option (List D)} {base k nt n : Nat} {Q : PostA} {l l' : List A} {m m' : List R}
theorem AW.norm {code : Code} {n' : Nat} (hl : l = l') (hm : m = m') (hn : n = n') (h : AW P G base k nt code Q (sL l' m') n') : AW P G base k nt code Q (sL l m) n := by
  subst hl hm hn; exact h
/-- A loop: the slots U x, the resources M x. -/
theorem AW.loopU {X : Type} {body : Code} (U : X → List (Nat × A)) (M : X → List R) (N : Nat) (μ : X → Nat) (x0 : X) (h0 : Into k (lsA (updL l (U x0))) (lsR (M x0)) N (sL l m))
    (h : ∀ x, AW P G base k nt body (thenA (fun s' _ => ∃ x', μ x' < μ x ∧ Into k (lsA (updL l (U x'))) (lsR (M x')) N s') Q) (sL (updL l (U x)) (M x)) N) : AW P G base k nt (.loop body) Q (sL l m) n :=
  AW.loop (fun x => (lsA (updL l (U x)), lsR (M x), N)) μ x0 h0 h
theorem AW.leL {code : Code} {n' : Nat} (h0 : Into k (lsA l') (lsR m') n' (sL l m)) (h : AW P G base k nt code Q (sL l' m') n') : AW P G base k nt code Q (sL l m) n := by
  obtain ⟨σ, h1, h2, h3⟩ := h0
  exact AW.le σ h1 h2 h3 h
end
theorem le_i {σ : Nat → Nat} {kk : IntKind} {a b : Int} (h : a = b) : leA σ (.v false [.i kk a]) (.v false [.i kk b]) := by subst h; exact .inr (.inl rfl)
theorem le_b {σ : Nat → Nat} {a b : Bool} (h : a = b) : leA σ (.v false [.b a]) (.v false [.b b]) := by subst h; exact .inr (.inl rfl)
theorem le_own {σ : Nat → Nat} {nn nn' : Bool} {r q n n' : Nat} (h1 : nn = nn') (h2 : q = σ r) (h3 : n = n') : leA σ (.v false [.own nn q n]) (.v false [.own nn' r n']) := by subst h1 h2 h3; exact .inr (.inl rfl)
theorem le_arr {σ : Nat → Nat} {m : Nat → R} {r : Nat} {e : TypeId} {f nn nn' : Bool} {n n' : Nat} {ds ds' : List D} (h0 : m (σ r) = .arr e f nn n ds) (h1 : nn = nn') (h2 : n = n') (h3 : ds = ds') : leR σ m r (.arr e f nn' n' ds') := by subst h1 h2 h3; exact .inr (.inl h0)
theorem le_box {σ : Nat → Nat} {m : Nat → R} {r : Nat} {cs cs' : List C} (h0 : m (σ r) = .box cs) (h1 : cs = cs'.map (renC σ)) : leR σ m r (.box cs') := by subst h1; exact .inr (.inl h0)
/-- The end: what comes back, and the resources behind it. -/
theorem retA_own {k : Nat} {T : TypeId → Option TI} {rs : List ResultVar} {res : A} {outs : List R} {l : List A} {m : List R} {n : Nat} {ys : List (Bool × List C)} (sl : List Nat) (hy : resVs T (sL l m) rs = some ys) (hm : leLM (fun r => sl.getD r 0) (lsR m) 0 outs) (hr : leA (fun r => sl.getD r 0) (packA ys) res) (hlen : sl.length = outs.length) (hnd : sl.Nodup) (hi : idsLt outs.length [res] = true) (hid : idsLtR outs.length outs = true) (hold : (List.range k).all (fun r => sl.getD r 0 == r) = true)
    (hnew : (List.range outs.length).all (fun r => decide (r < k) || decide (k ≤ sl.getD r 0)) = true) (hk : k ≤ outs.length) (e : Exit) (he : e = .normal ∨ e = .ret) : retA T rs k res outs e (sL l m) n := by
  have : ∃ ys, resVs T (sL l m) rs = some ys ∧ ∃ σ : Nat → Nat, LeM k σ (sL l m).m (lsR outs) outs.length ∧ leA σ (packA ys) res ∧ ∀ r ∈ idsA res, r < outs.length :=
    ⟨ys, hy, _, lem_lists sl hlen hnd hm (idsLtR_ok hid) hold hnew hk, hr, fun r h => idsLt_ok hi res (List.mem_singleton.2 rfl) r h⟩
  rcases he with rfl | rfl <;> exact this

/-! ### Numbers in their range -/
section
variable {P : Program} {G : Nat → Option (List D)} {base k : Nat} {o : Oper} {ov : Operand → A} {nid : Nat}
theorem wrap64 {x : Int} (h1 : -9223372036854775808 ≤ x) (h2 : x ≤ 9223372036854775807) : IntKind.i64.wrap x = x := by rw [IntKind.wrap_i64]; omega
theorem em_add {t t' : TypeId} {x y : Operand} {a b : Int} (ho : o.op = .binOp .add t x y t') (hx : slot (ov x) = some (.i .i64 a)) (hy : slot (ov y) = some (.i .i64 b)) (h1 : -9223372036854775808 ≤ a + b) (h2 : a + b ≤ 9223372036854775807) : ASem P G base k o ov [] (.v false [.i .i64 (a + b)]) [] nid 0 := by
  have := em_binI (P := P) (G := G) (base := base) (k := k) (nid := nid) ho hx hy rfl rfl
  rwa [wrap64 h1 h2] at this
theorem em_sub {t t' : TypeId} {x y : Operand} {a b : Int} (ho : o.op = .binOp .sub t x y t') (hx : slot (ov x) = some (.i .i64 a)) (hy : slot (ov y) = some (.i .i64 b)) (h1 : -9223372036854775808 ≤ a - b) (h2 : a - b ≤ 9223372036854775807) : ASem P G base k o ov [] (.v false [.i .i64 (a - b)]) [] nid 0 := by
  have := em_binI (P := P) (G := G) (base := base) (k := k) (nid := nid) ho hx hy rfl rfl
  rwa [wrap64 h1 h2] at this
theorem em_mul {t t' : TypeId} {x y : Operand} {a b : Int} (ho : o.op = .binOp .mul t x y t') (hx : slot (ov x) = some (.i .i64 a)) (hy : slot (ov y) = some (.i .i64 b)) (h1 : -9223372036854775808 ≤ a * b) (h2 : a * b ≤ 9223372036854775807) : ASem P G base k o ov [] (.v false [.i .i64 (a * b)]) [] nid 0 := by
  have := em_binI (P := P) (G := G) (base := base) (k := k) (nid := nid) ho hx hy rfl rfl
  rwa [wrap64 h1 h2] at this
theorem em_rem {t t' : TypeId} {x y : Operand} {kk : IntKind} {a b : Int} (ho : o.op = .binOp .rem t x y t') (hx : slot (ov x) = some (.i kk a)) (hy : slot (ov y) = some (.i kk b)) (h1 : 0 ≤ a) (h2 : 0 < b) : ASem P G base k o ov [] (.v false [.i kk (a % b)]) [] nid 0 := by
  have := em_binI (P := P) (G := G) (base := base) (k := k) (nid := nid) ho hx hy rfl ⟨rfl, by omega⟩
  rwa [Int.tmod_eq_emod_of_nonneg h1] at this
theorem wrap8 {x : Int} (h1 : 0 ≤ x) (h2 : x ≤ 255) : IntKind.u8.wrap x = x := by rw [IntKind.wrap_u8]; omega
theorem em_add8 {t t' : TypeId} {x y : Operand} {a b : Int} (ho : o.op = .binOp .add t x y t') (hx : slot (ov x) = some (.i .u8 a)) (hy : slot (ov y) = some (.i .u8 b)) (h1 : 0 ≤ a + b) (h2 : a + b ≤ 255) : ASem P G base k o ov [] (.v false [.i .u8 (a + b)]) [] nid 0 := by
  have := em_binI (P := P) (G := G) (base := base) (k := k) (nid := nid) ho hx hy rfl rfl
  rwa [wrap8 h1 h2] at this
theorem em_sub8 {t t' : TypeId} {x y : Operand} {a b : Int} (ho : o.op = .binOp .sub t x y t') (hx : slot (ov x) = some (.i .u8 a)) (hy : slot (ov y) = some (.i .u8 b)) (h1 : 0 ≤ a - b) (h2 : a - b ≤ 255) : ASem P G base k o ov [] (.v false [.i .u8 (a - b)]) [] nid 0 := by
  have := em_binI (P := P) (G := G) (base := base) (k := k) (nid := nid) ho hx hy rfl rfl
  rwa [wrap8 h1 h2] at this
theorem cont_arr {m : Nat → R} {r off : Nat} {e : TypeId} {f : Bool} {q : Nat} {ds ds' : List D} (h : m r = .arr e f true q ds) (hd : ds.drop off = ds') : contOf m (.ref r off) = some (ds'.map (D.toC f)) := by
  subst hd; unfold contOf; dsimp only; rw [h]
theorem sliceOf_own {m : Nat → R} {r n : Nat} {e : TypeId} {f nn : Bool} {ds : List D} (h : m r = .arr e f nn n ds) : sliceOf m (.own nn r n) = some (f, nn, n, ds) := by
  unfold sliceOf; dsimp only; rw [h]; simp
theorem em_quo {t t' : TypeId} {x y : Operand} {a b : Int} (ho : o.op = .binOp .quo t x y t') (hx : slot (ov x) = some (.i .i64 a)) (hy : slot (ov y) = some (.i .i64 b)) (h1 : 0 ≤ a) (h2 : 0 < b) (h3 : a ≤ 9223372036854775807) : ASem P G base k o ov [] (.v false [.i .i64 (a / b)]) [] nid 0 := by
  have := em_binI (P := P) (G := G) (base := base) (k := k) (nid := nid) ho hx hy rfl ⟨rfl, by omega⟩
  rw [Int.tdiv_eq_ediv_of_nonneg h1] at this
  have e1 : 0 ≤ a / b := Int.ediv_nonneg h1 (by omega)
  have e2 : a / b ≤ a := Int.ediv_le_self b h1
  rwa [wrap64 (by omega) (by omega)] at this
theorem em_conv {T : TypeId → Option TI} (hT : TOk P T) {s t : TypeId} {ti si : TI} {x : Operand} {kk : IntKind} {n : Int} (ho : o.op = .convert s t x) (ht : T t = some ti) (hk : ti.k = .int .i64) (hsrc : T s = some si) (hx : slot (ov x) = some (.i kk n)) (h1 : -9223372036854775808 ≤ n) (h2 : n ≤ 9223372036854775807) : ASem P G base k o ov [] (.v false [.i .i64 n]) [] nid 0 := by
  have := sem_convI (P := P) (G := G) (base := base) (k := k) (nid := nid) hT ho ht hk hsrc hx
  rwa [wrap64 h1 h2] at this
theorem ofInt_i64 (a : Nat) (ha : a < 9223372036854775808) : (BitVec.ofInt 64 (a : Int)).toNat = a := by
  rw [BitVec.ofInt_natCast, BitVec.toNat_ofNat]; exact Nat.mod_eq_of_lt (by omega)
theorem em_xor {t t' : TypeId} {x y : Operand} {a b : Int} (ho : o.op = .binOp .xor t x y t') (hx : slot (ov x) = some (.i .i64 a)) (hy : slot (ov y) = some (.i .i64 b)) (h1 : 0 ≤ a) (h2 : a ≤ 9223372036854775807) (h3 : 0 ≤ b) (h4 : b ≤ 9223372036854775807) : ASem P G base k o ov [] (.v false [.i .i64 ((a.toNat ^^^ b.toNat : Nat) : Int)]) [] nid 0 := by
  have := em_binI (P := P) (G := G) (base := base) (k := k) (nid := nid) ho hx hy rfl rfl
  have e : bitsI .xor .i64 a b = ((a.toNat ^^^ b.toNat : Nat) : Int) := by
    have hxx : a.toNat ^^^ b.toNat < 2 ^ 63 := Nat.xor_lt_two_pow (by omega) (by omega)
    show IntKind.i64.wrap ((BitVec.ofInt 64 a ^^^ BitVec.ofInt 64 b).toNat : Int) = _
    obtain ⟨a', rfl⟩ := Int.eq_ofNat_of_zero_le h1
    obtain ⟨b', rfl⟩ := Int.eq_ofNat_of_zero_le h3
    rw [BitVec.toNat_xor, ofInt_i64 a' (by omega), ofInt_i64 b' (by omega), IntKind.wrap_i64]
    simp only [Int.toNat_natCast] at hxx ⊢
    omega
  rwa [e] at this
theorem em_conv8 {T : TypeId → Option TI} (hT : TOk P T) {s t : TypeId} {ti si : TI} {x : Operand} {kk : IntKind} {n : Int} (ho : o.op = .convert s t x) (ht : T t = some ti) (hk : ti.k = .int .u8) (hsrc : T s = some si) (hx : slot (ov x) = some (.i kk n)) (h1 : 0 ≤ n) (h2 : n ≤ 255) : ASem P G base k o ov [] (.v false [.i .u8 n]) [] nid 0 := by
  have := sem_convI (P := P) (G := G) (base := base) (k := k) (nid := nid) hT ho ht hk hsrc hx
  have e : IntKind.u8.wrap n = n := by
    rw [IntKind.wrap_u8]; omega
  rwa [e] at this
/-- The address of an element of a slice that is only read; what stands from it on is known. -/
theorem sem_indexR {T : TypeId → Option TI} (hT : TOk P T) {t : TypeId} {x y : Operand} {ti : TI} {e s : Nat} {f : Bool} {ds ds' : List D} {kk : IntKind} {i : Int} {n : Nat} (ho : o.op = .indexAddr t x y) (ht : T t = some ti) (hk : ti.k = .slice e s) (hx : slot (ov x) = some (.sl f true n ds)) (hy : slot (ov y) = some (.i kk i)) (hd : ds.drop (i.toNat * s) = ds') (h0 : 0 ≤ i) (h1 : i < n) : ASem P G base k o ov [] (.v false [.ro ds']) [] nid 0 := by
  subst hd
  cases f
  · exact sem_indexAddr hT ho ht hk hx hy rfl h0 h1
  · exact sem_indexAddr hT ho ht hk hx hy rfl h0 h1
end

/-! ### Calls, the conditions said of lists -/
def inRs (σ : Nat → Nat) (m : Nat → R) (vw : List Nat) : Nat → List R → Prop
  | _, [] => True
  | r, y :: ys => inR σ m vw (m (σ r)) y ∧ inRs σ m vw (r + 1) ys
theorem inRs_get {σ : Nat → Nat} {m : Nat → R} {vw : List Nat} : ∀ {ys : List R} {j : Nat}, inRs σ m vw j ys → ∀ r, r < ys.length → inR σ m vw (m (σ (j + r))) (lsR ys r)
  | [], _, _, r, hr => by simp at hr
  | y :: ys, j, h, r, hr => by
    cases r with
    | zero => exact h.1
    | succ r =>
      have := inRs_get (ys := ys) (j := j + 1) h.2 r (by simpa using hr)
      rw [show j + (r + 1) = j + 1 + r by omega]
      exact this
def notGone : R → Bool
  | .gone => false
  | _ => true
def keptB : List R → List R → Bool
  | [], _ => true
  | x :: xs, y :: ys => notGone y && (!y.live || x.live) && keptB xs ys
  | _ :: _, [] => false
theorem keptB_get : ∀ {xs ys : List R}, keptB xs ys = true → xs.length ≤ ys.length ∧ ∀ r, r < xs.length → lsR ys r ≠ .gone ∧ ((lsR ys r).live = true → (lsR xs r).live = true)
  | [], ys, _ => ⟨Nat.zero_le _, fun r hr => by simp at hr⟩
  | x :: xs, [], h => by cases h
  | x :: xs, y :: ys, h => by
    unfold keptB at h
    simp only [Bool.and_eq_true] at h
    obtain ⟨h1, h2⟩ := keptB_get h.2
    refine ⟨by simp [h1], fun r hr => ?_⟩
    cases r with
    | zero =>
      refine ⟨fun e => ?_, fun hl => ?_⟩
      · have e : y = .gone := e
        rw [e] at h; exact absurd h.1.1 (by decide)
      · have hl : y.live = true := hl
        have := h.1.2
        rw [hl] at this
        show x.live = true
        simpa using this
    | succ r => exact h2 r (by simpa using hr)
section
variable {P : Program} {G : Nat → Option (List D)} {base k nt n : Nat} {ops : List Oper} {o : Oper} {rest : List Oper} {l : List A} {m : List R} {acc : List Rec} {K : St → Nat → List Rec → Prop}
theorem astep_callL {s : St} {fo : Operand} {ops0 : Array Operand} {ts : Array TypeId} {f : FuncId} {caps : List Nat} {args' : List A} {ins : List R} {res v : A} {outs : List R} {σ τ : Nat → Nat} {ups : List (Nat × R)} {cnt k' : Nat} (ids vw : List Nat) (hok : FnOk P G f args' ins res outs)
    (ho : o.op = .call { callee := .value fo, args := ops0, argTypes := ts }) (hf : slot (evO G s.t fo) = some (.fn f caps)) (hσ : σ = fun r => ids.getD r 0)
    (hin : inAs σ s.m vw (ops0.toList.map (evO G s.t) ++ capsA caps) args') (hres : inRs σ s.m vw 0 ins) (hia : idsLt ins.length args' = true) (hir : idsLtR ins.length ins = true) (hlen : ids.length = ins.length) (hnd : ids.Nodup) (hlt : ids.all (fun r => decide (r < n)) = true) (hvw : vw.all (fun r => !ids.contains r) = true) (hkn : k ≤ n)
    (hk : keptB ins outs = true) (hba : backA vw res = true) (hbr : outs.all (backR vw) = true) (hk' : ins.length = k') (hτ : τ = tau σ k' n) (hv : renA τ res = v) (hu : upsCall σ k' n outs = ups) (hc : outs.length - k' = cnt) : AStep P G base k o s v ups (ftCall σ k' s.m vw) n cnt := by
  subst hk' hτ hv hu hc hσ
  obtain ⟨q1, q2⟩ := keptB_get hk
  have hids : ∀ r ∈ ids, r < n := fun r hr => by simpa using List.all_eq_true.1 hlt r hr
  refine astep_call ids vw ho hf hok hin (fun r hr => ?_) (fun r hr => ?_) (fun r hr q hq => ?_) hlen hnd hids (fun r hr hc => ?_) q1 hkn (fun r hr => (q2 r hr).1) (fun r hr => (q2 r hr).2) hba hbr
  · have := inRs_get hres r hr
    rwa [Nat.zero_add] at this
  · obtain ⟨x, hx, hr⟩ := List.mem_flatMap.1 hr
    exact idsLt_ok hia x hx r hr
  · refine idsLtR_ok hir (lsR ins r) ?_ q hq
    unfold lsR
    rw [List.getD_eq_getElem?_getD, List.getElem?_eq_getElem hr, Option.getD_some]
    exact List.getElem_mem _
  · have := List.all_eq_true.1 hvw r hr
    rw [List.contains_eq_mem] at this
    simp [hc] at this
theorem ao_callL {fo : Operand} {ops0 : Array Operand} {ts : Array TypeId} {f : FuncId} {caps : List Nat} {args' : List A} {ins : List R} {res v : A} {outs : List R} {σ τ : Nat → Nat} {ups : List (Nat × R)} {cnt k' : Nat} (ids vw : List Nat) (hok : FnOk P G f args' ins res outs)
    (ho : o.op = .call { callee := .value fo, args := ops0, argTypes := ts }) (hw : wantA ops (lsA l) o = some true) (hd : dstOk o nt = true) (hf : slot (evO G (lsA l) fo) = some (.fn f caps)) (hσ : σ = fun r => ids.getD r 0)
    (hin : inAs σ (lsR m) vw (ops0.toList.map (evO G (lsA l)) ++ capsA caps) args') (hres : inRs σ (lsR m) vw 0 ins) (hia : idsLt ins.length args' = true) (hir : idsLtR ins.length ins = true) (hlen : ids.length = ins.length) (hnd : ids.Nodup) (hlt : ids.all (fun r => decide (r < n)) = true) (hvw : vw.all (fun r => !ids.contains r) = true) (hkn : k ≤ n)
    (hk : keptB ins outs = true) (hba : backA vw res = true) (hbr : outs.all (backR vw) = true) (hk' : ins.length = k') (hτ : τ = tau σ k' n) (hv : renA τ res = v) (hu : upsCall σ k' n outs = ups) (hc : outs.length - k' = cnt)
    (h : aops P G base k nt ops rest (sL (setO l o.dst v) (setM m ups)) (n + cnt) (acc ++ [⟨true, v, ups, ftCall σ k' (lsR m) vw, n, cnt⟩]) K) : aops P G base k nt ops (o :: rest) (sL l m) n acc K :=
  ao_step hw hd (astep_callL (s := sL l m) ids vw hok ho hf hσ hin hres hia hir hlen hnd hlt hvw hkn hk hba hbr hk' hτ hv hu hc) h
end
end Go.Proofs.Ytpobimdcphjljaa
