/-
  Points: rows of them.
-/
import Derived.Test.YtpobimdcphjljaaFl
namespace Go.Proofs.Ytpobimdcphjljaa
open Go
set_option linter.unusedVariables false
set_option linter.unusedSimpArgs false
set_option linter.unnecessarySimpa false
set_option maxRecDepth 4000

abbrev pntT := Int × Int
def pntD (x : pntT) : List D := [iD x.1, iD x.2]
def pntC (x : pntT) : List C := [.i .i64 x.1, .i .i64 x.2]
theorem pntD_len (x : pntT) : (pntD x).length = 2 := rfl
def pntG (z : Int) : pntT := (z, z + 1)
theorem pnt_ext {x y : pntT} (h0 : x.1 = y.1) (h1 : x.2 = y.2) : x = y := by
  obtain ⟨x0, x1⟩ := x; obtain ⟨y0, y1⟩ := y; dsimp only at h0 h1; subst h0 h1; rfl
/-- A contract that reads no fixed data holds whatever the fixed data. -/
theorem FnOk.any {P : Program} {G : Nat → Option (List D)} {f : FuncId} {args : List A} {ins : List R} {res : A} {outs : List R} (h : FnOk P noG f args ins res outs) : FnOk P G f args ins res outs :=
  ⟨h.1, fun w g vs _ h2 h3 h4 => h.2 w g vs (fun i ds h => by cases h) h2 h3 h4⟩
theorem pack_2 {a b : Int} {x : Int × Int} (h : (a, b) = x) : A.v true [.i .i64 a, .i .i64 b] = A.v true [.i .i64 x.1, .i .i64 x.2] := by subst h; rfl
theorem pack_2t {a b : Int} {u : Bool} {x : Int × Int} (h : (a, b) = x) : A.tup [(true, [.i .i64 a, .i .i64 b]), (false, [.b u])] = A.tup [(true, [.i .i64 x.1, .i .i64 x.2]), (false, [.b u])] := by subst h; rfl
theorem pack_2b {a b : Int} {u : Bool} {x : (Int × Int) × Bool} (h : ((a, b), u) = x) : A.tup [(true, [.i .i64 a, .i .i64 b]), (false, [.b u])] = A.tup [(true, [.i .i64 x.1.1, .i .i64 x.1.2]), (false, [.b x.2])] := by subst h; rfl
end Go.Proofs.Ytpobimdcphjljaa
