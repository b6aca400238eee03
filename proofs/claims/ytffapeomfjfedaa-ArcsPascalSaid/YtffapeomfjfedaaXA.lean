/- Contracts of the plane's arithmetic. -/
import Derived.Test.YtffapeomfjfedaaProg
import Derived.Test.YtffapeomfjfedaaAR
set_option linter.unusedVariables false
set_option linter.unusedSimpArgs false
namespace Go.Arcs
open Go Go.Ab Go.Proofs

abbrev I64 : Ty := .int .i64
abbrev Trip : Ty := .prod I64 (.prod I64 (.prod I64 .unit))
abbrev TripD := Int × Int × Int × Unit
/-! ### mod -/
def small {α : Type} (l : List α) : Prop := (l.length : Int) < 4611686018427387904
def isP (p : Int) : Prop := p = 2 ∨ p = 3 ∨ p = 5 ∨ p = 7
noncomputable def invF (p n : Int) : Int := (([1,2,3,4,5,6] : List Int).find? fun x => (x * n) % p == 1).getD 0
theorem mixed : Try.prog.follows .mixedOrders = true := by kernel_rfl

theorem isP_mem {p : Int} (h : isP p) : p ∈ ([2,3,5,7] : List Int) := by
  rcases h with rfl | rfl | rfl | rfl <;> decide
theorem isP_bd {p : Int} (h : isP p) : 2 ≤ p ∧ p ≤ 7 := by rcases h with rfl | rfl | rfl | rfl <;> decide

end Go.Arcs

set_option linter.unusedVariables false
set_option linter.unusedSimpArgs false
namespace Go.Arcs
open Go Go.Ab Go.Proofs

def firstF (x : TripD) : Int := if x.1 ≠ 0 then x.1 else if x.2.1 ≠ 0 then x.2.1 else x.2.2.1
noncomputable def lowF (p : Int) (x : TripD) : TripD := (x.1 * invF p (firstF x) % p, x.2.1 * invF p (firstF x) % p, x.2.2.1 * invF p (firstF x) % p, ())
def crossF (p : Int) (x y : TripD) : TripD := ((x.2.1 * y.2.2.1 - x.2.2.1 * y.2.1) % p, (x.2.2.1 * y.1 - x.1 * y.2.2.1) % p, (x.1 * y.2.1 - x.2.1 * y.1) % p, ())
def dotC (p : Int) (x y : TripD) : Int := (x.1 * y.1 + x.2.1 * y.2.1 + x.2.2.1 * y.2.2.1) % p
end Go.Arcs

set_option linter.unusedVariables false
set_option linter.unusedSimpArgs false
namespace Go.Arcs
open Go Go.Ab Go.Proofs

def isPb (p : Int) : Bool := [2, 3, 5, 7].contains p
def inPt (p n : Int) : Bool := decide (0 ≤ n) && decide (n < p * p + p + 1)
def ptsC (p : Int) : List TripD := (0, 0, 1, ()) :: ((List.range p.toNat).map fun (z : Nat) => ((0, 1, (z : Int), ()) : TripD)) ++ (List.range p.toNat).flatMap fun (y : Nat) => (List.range p.toNat).map fun (z : Nat) => ((1, (y : Int), (z : Int), ()) : TripD)
def pt (p n : Int) : TripD := (ptsC p).getD n.toNat (0, 0, 0, ())
def ixA {α : Type} (q : α → Bool) : List α → Int → Int
  | [], _ => -1
  | x :: l, i => if q x = true then i else ixA q l (i + 1)
def bothF (p : Int) (x y l : TripD) : Bool := ieq (dotC p x l) 0 && ieq (dotC p y l) 0
def joinR (p a b : Int) : Int := ixA (bothF p (pt p a) (pt p b)) (ptsC p) 0
def numC (p : Int) (x : TripD) : Int := if x.1 = 1 then 1 + p + x.2.1 * p + x.2.2.1 else if x.2.1 = 1 then 1 + x.2.2.1 else 0
def onF (p a b : Int) : Bool := ieq (dotC p (pt p a) (pt p b)) 0
noncomputable def thrF (p a b : Int) : Int := numC p (lowF p (crossF p (pt p a) (pt p b)))
noncomputable def joinF (p a b : Int) : Int × Int × Unit := if isPb p = true ∧ inPt p a = true ∧ inPt p b = true ∧ a ≠ b then (thrF p a b, 0, ()) else (0, 2, ())
noncomputable def g3 (x0 x1 x2 : Int) : Option (Bool × Unit) := gd (small [x1, x2]) (gd ((!!(isPb x0 && List.all [x1, x2] (inPt x0))) = true → (!!(isPb x0 && List.all [x1, x2] (inPt x0))) = true ∧ (!!(isPb x0 && List.all [x1, x2] (inPt x0))) = true) (gd ((!(isPb x0 && List.all [x1, x2] (inPt x0))) = false → (!!(isPb x0 && List.all [x1, x2] (inPt x0))) = true) (bif bif !(isPb x0 && List.all [x1, x2] (inPt x0)) then true else ieq x1 x2 then gd (ieq (joinF x0 x1 x2).1 (0 : Int) = true → ieq (joinF x0 x1 x2).1 (0 : Int) = true) (gd (ieq (joinF x0 x1 x2).1 (0 : Int) = true → ieq (joinF x0 x1 x2).1 (0 : Int) = true) (gd ((bif ieq (joinF x0 x1 x2).1 (0 : Int) then ieq (joinF x0 x1 x2).1 (0 : Int) else false) = true → (bif ieq (joinF x0 x1 x2).1 (0 : Int) then ieq (joinF x0 x1 x2).1 (0 : Int) else false) = true) (gd ((bif ieq (joinF x0 x1 x2).1 (0 : Int) then ieq (joinF x0 x1 x2).1 (0 : Int) else false) = true → (bif ieq (joinF x0 x1 x2).1 (0 : Int) then ieq (joinF x0 x1 x2).1 (0 : Int) else false) = true) (gd ((bif bif ieq (joinF x0 x1 x2).1 (0 : Int) then ieq (joinF x0 x1 x2).1 (0 : Int) else false then ieq (joinF x0 x1 x2).2.1 (2 : Int) else false) = true → (bif bif ieq (joinF x0 x1 x2).1 (0 : Int) then ieq (joinF x0 x1 x2).1 (0 : Int) else false then ieq (joinF x0 x1 x2).2.1 (2 : Int) else false) = true) (gd ((bif bif ieq (joinF x0 x1 x2).1 (0 : Int) then ieq (joinF x0 x1 x2).1 (0 : Int) else false then ieq (joinF x0 x1 x2).2.1 (2 : Int) else false) = true → (bif bif ieq (joinF x0 x1 x2).1 (0 : Int) then ieq (joinF x0 x1 x2).1 (0 : Int) else false then ieq (joinF x0 x1 x2).2.1 (2 : Int) else false) = true) (gd ((bif bif bif ieq (joinF x0 x1 x2).1 (0 : Int) then ieq (joinF x0 x1 x2).1 (0 : Int) else false then ieq (joinF x0 x1 x2).2.1 (2 : Int) else false then ieq (joinF x0 x1 x2).2.1 (2 : Int) else false) = true → (bif bif bif ieq (joinF x0 x1 x2).1 (0 : Int) then ieq (joinF x0 x1 x2).1 (0 : Int) else false then ieq (joinF x0 x1 x2).2.1 (2 : Int) else false then ieq (joinF x0 x1 x2).2.1 (2 : Int) else false) = true) (some ((bif bif bif bif ieq (joinF x0 x1 x2).1 (0 : Int) then ieq (joinF x0 x1 x2).1 (0 : Int) else false then ieq (joinF x0 x1 x2).2.1 (2 : Int) else false then ieq (joinF x0 x1 x2).2.1 (2 : Int) else false then true else false, ()) : Bool × Unit)))))))) else gd (isP x0) (gd (inPt x0 x1 = true) (gd (inPt x0 x2 = true) (gd (ieq (joinF x0 x1 x2).1 (joinR x0 x1 x2) = true → ieq (joinF x0 x1 x2).1 (joinR x0 x1 x2) = true ∧ ieq (joinF x0 x1 x2).1 (joinR x0 x1 x2) = true) (gd (ieq (joinF x0 x1 x2).1 (joinR x0 x1 x2) = true → ieq (joinF x0 x1 x2).1 (joinR x0 x1 x2) = true) (gd ((bif ieq (joinF x0 x1 x2).1 (joinR x0 x1 x2) then ieq (joinF x0 x1 x2).1 (joinR x0 x1 x2) else false) = true → (bif ieq (joinF x0 x1 x2).1 (joinR x0 x1 x2) then ieq (joinF x0 x1 x2).1 (joinR x0 x1 x2) else false) = true) (gd ((bif ieq (joinF x0 x1 x2).1 (joinR x0 x1 x2) then ieq (joinF x0 x1 x2).1 (joinR x0 x1 x2) else false) = true → (bif ieq (joinF x0 x1 x2).1 (joinR x0 x1 x2) then ieq (joinF x0 x1 x2).1 (joinR x0 x1 x2) else false) = true) (gd ((bif bif ieq (joinF x0 x1 x2).1 (joinR x0 x1 x2) then ieq (joinF x0 x1 x2).1 (joinR x0 x1 x2) else false then ieq (joinF x0 x1 x2).2.1 (0 : Int) else false) = true → (bif bif ieq (joinF x0 x1 x2).1 (joinR x0 x1 x2) then ieq (joinF x0 x1 x2).1 (joinR x0 x1 x2) else false then ieq (joinF x0 x1 x2).2.1 (0 : Int) else false) = true) (gd ((bif bif ieq (joinF x0 x1 x2).1 (joinR x0 x1 x2) then ieq (joinF x0 x1 x2).1 (joinR x0 x1 x2) else false then ieq (joinF x0 x1 x2).2.1 (0 : Int) else false) = true → (bif bif ieq (joinF x0 x1 x2).1 (joinR x0 x1 x2) then ieq (joinF x0 x1 x2).1 (joinR x0 x1 x2) else false then ieq (joinF x0 x1 x2).2.1 (0 : Int) else false) = true) (gd ((bif bif bif ieq (joinF x0 x1 x2).1 (joinR x0 x1 x2) then ieq (joinF x0 x1 x2).1 (joinR x0 x1 x2) else false then ieq (joinF x0 x1 x2).2.1 (0 : Int) else false then ieq (joinF x0 x1 x2).2.1 (0 : Int) else false) = true → (bif bif bif ieq (joinF x0 x1 x2).1 (joinR x0 x1 x2) then ieq (joinF x0 x1 x2).1 (joinR x0 x1 x2) else false then ieq (joinF x0 x1 x2).2.1 (0 : Int) else false then ieq (joinF x0 x1 x2).2.1 (0 : Int) else false) = true) (some ((bif bif bif bif ieq (joinF x0 x1 x2).1 (joinR x0 x1 x2) then ieq (joinF x0 x1 x2).1 (joinR x0 x1 x2) else false then ieq (joinF x0 x1 x2).2.1 (0 : Int) else false then ieq (joinF x0 x1 x2).2.1 (0 : Int) else false then true else false, ()) : Bool × Unit))))))))))))))
end Go.Arcs

set_option linter.unusedVariables false
set_option linter.unusedSimpArgs false
namespace Go.Arcs
open Go Go.Ab Go.Proofs

/-! ### The plane's tables -/
end Go.Arcs

set_option linter.unusedVariables false
set_option linter.unusedSimpArgs false
namespace Go.Arcs
open Go Go.Ab Go.Proofs

end Go.Arcs

set_option linter.unusedVariables false
set_option linter.unusedSimpArgs false
namespace Go.Arcs
open Go Go.Ab Go.Proofs

end Go.Arcs

set_option linter.unusedVariables false
set_option linter.unusedSimpArgs false
namespace Go.Arcs
open Go Go.Ab Go.Proofs

theorem ieq_d {x y : Int} : ieq x y = decide (x = y) := by by_cases h : x = y <;> simp [ieq, h]
/-! ### Points -/
end Go.Arcs

set_option linter.unusedVariables false
set_option linter.unusedSimpArgs false
namespace Go.Arcs
open Go Go.Ab Go.Proofs

end Go.Arcs
