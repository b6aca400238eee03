/- Schur: contracts of the sum of products. -/
import Derived.Test.YtobghbapmlnmoaaXE
import Derived.Test.YtobghbapmlnmoaaXI
import Derived.Test.YtobghbapmlnmoaaXJ
set_option linter.unusedVariables false
set_option linter.unusedSimpArgs false
namespace Go.Schur
open Go Go.Ab Go.Proofs

end Go.Schur

set_option linter.unusedVariables false
set_option linter.unusedSimpArgs false
namespace Go.Schur
open Go Go.Ab Go.Proofs

end Go.Schur

set_option linter.unusedVariables false
set_option linter.unusedSimpArgs false
namespace Go.Schur
open Go Go.Ab Go.Proofs

end Go.Schur

set_option linter.unusedVariables false
set_option linter.unusedSimpArgs false
namespace Go.Schur
open Go Go.Ab Go.Proofs

/-! The sum over all fillings, by the greatest number. -/
def pw (y : Int) (n : Nat) : Int := y ^ n
/-- The last number first. -/
def sR : List Int → List Nat → Int
  | [], l => bif isZ l then 1 else 0
  | y :: ys, l => sL (subs l) fun ν => pw y (l.sum - ν.sum) * sR ys ν
/-- The value of a shape. -/
def schN (p : List Nat) (x : List Int) : Int := sR x.reverse p
end Go.Schur

set_option linter.unusedVariables false
set_option linter.unusedSimpArgs false
namespace Go.Schur
open Go Go.Ab Go.Proofs
/-- The value, as it is reckoned. -/
def schW (l x : List Int) : Int := wr .i64 (schN (l.map Int.toNat) x)
def okX (x : List Int) : Prop := 1 ≤ x.length ∧ x.length ≤ 4 ∧ ∀ a ∈ x, -3 ≤ a ∧ a ≤ 3
instance {x : List Int} : Decidable (okX x) := by unfold okX; infer_instance
def schF2 (l x : List Int) : Int × Int × Unit := if shapeB l = true ∧ okX x then (schW l x, 0, ()) else (0, 2, ())
def numB (x : List Int) : Bool := decide (okX x)
noncomputable def g4 (x0 x1 : List Int) : Option (Bool × Unit) := gd (List.length (List.take (12 : Nat) x0) ≤ (1000 : Nat) ∧ List.length (List.take (12 : Nat) x1) ≤ (1000 : Nat)) (gd (small x0) (gd ((!!shapeB x0) = true → (!!shapeB x0) = true ∧ small x1) (gd ((!!shapeB x0) = true → (!!shapeB x0) = true) (gd ((!shapeB x0) = false → (!!shapeB x0) = true) (bif bif !shapeB x0 then true else !numB x1 then gd (ieq (schF2 (List.take (12 : Nat) x0) (List.take (12 : Nat) x1)).1 (0 : Int) = true → ieq (schF2 (List.take (12 : Nat) x0) (List.take (12 : Nat) x1)).1 (0 : Int) = true) (gd (ieq (schF2 (List.take (12 : Nat) x0) (List.take (12 : Nat) x1)).1 (0 : Int) = true → ieq (schF2 (List.take (12 : Nat) x0) (List.take (12 : Nat) x1)).1 (0 : Int) = true) (gd ((bif ieq (schF2 (List.take (12 : Nat) x0) (List.take (12 : Nat) x1)).1 (0 : Int) then ieq (schF2 (List.take (12 : Nat) x0) (List.take (12 : Nat) x1)).2.1 (2 : Int) else false) = true → (bif ieq (schF2 (List.take (12 : Nat) x0) (List.take (12 : Nat) x1)).1 (0 : Int) then ieq (schF2 (List.take (12 : Nat) x0) (List.take (12 : Nat) x1)).2.1 (2 : Int) else false) = true) (some ((bif bif ieq (schF2 (List.take (12 : Nat) x0) (List.take (12 : Nat) x1)).1 (0 : Int) then ieq (schF2 (List.take (12 : Nat) x0) (List.take (12 : Nat) x1)).2.1 (2 : Int) else false then true else false, ()) : Bool × Unit)))) else gd (shapeB x0 = true ∧ okX x1) (gd (ieq (schF2 (List.take (12 : Nat) x0) (List.take (12 : Nat) x1)).1 (schW x0 x1) = true → ieq (schF2 (List.take (12 : Nat) x0) (List.take (12 : Nat) x1)).1 (schW x0 x1) = true) (gd (ieq (schF2 (List.take (12 : Nat) x0) (List.take (12 : Nat) x1)).1 (schW x0 x1) = true → ieq (schF2 (List.take (12 : Nat) x0) (List.take (12 : Nat) x1)).1 (schW x0 x1) = true) (gd ((bif ieq (schF2 (List.take (12 : Nat) x0) (List.take (12 : Nat) x1)).1 (schW x0 x1) then ieq (schF2 (List.take (12 : Nat) x0) (List.take (12 : Nat) x1)).2.1 (0 : Int) else false) = true → (bif ieq (schF2 (List.take (12 : Nat) x0) (List.take (12 : Nat) x1)).1 (schW x0 x1) then ieq (schF2 (List.take (12 : Nat) x0) (List.take (12 : Nat) x1)).2.1 (0 : Int) else false) = true) (some ((bif bif ieq (schF2 (List.take (12 : Nat) x0) (List.take (12 : Nat) x1)).1 (schW x0 x1) then ieq (schF2 (List.take (12 : Nat) x0) (List.take (12 : Nat) x1)).2.1 (0 : Int) else false then true else false, ()) : Bool × Unit))))))))))
end Go.Schur

set_option linter.unusedVariables false
set_option linter.unusedSimpArgs false
namespace Go.Schur
open Go Go.Ab Go.Proofs

end Go.Schur

set_option linter.unusedVariables false
set_option linter.unusedSimpArgs false
namespace Go.Schur
open Go Go.Ab Go.Proofs

end Go.Schur

set_option linter.unusedVariables false
set_option linter.unusedSimpArgs false
namespace Go.Schur
open Go Go.Ab Go.Proofs

end Go.Schur
