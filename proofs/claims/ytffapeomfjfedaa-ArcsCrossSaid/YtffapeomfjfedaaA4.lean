/- Tables of the plane over 2, 3, 5 and 7. -/
import Derived.Test.YtffapeomfjfedaaA3
set_option linter.unusedVariables false
set_option linter.unusedSimpArgs false
namespace Go.Arcs
open Go Go.Ab Go.Proofs

/-! ### The plane's tables -/
theorem plane_pts : ∀ p ∈ ([2, 3, 5, 7] : List Int), (planeF p).2.1 = ptsC p := by decide +kernel
theorem plane_num : ∀ p ∈ ([2, 3, 5, 7] : List Int), ∀ x ∈ ptsC p, Option.getD (α := Int) (assoc Trip I64 (planeF p).2.2.1 x) 0 = numC p x := by decide +kernel
theorem pts_len : ∀ p ∈ ([2, 3, 5, 7] : List Int), ((ptsC p).length : Int) = p * p + p + 1 := by decide +kernel
def inRb (p : Int) (x : TripD) : Bool := decide (0 ≤ x.1) && decide (x.1 < p) && decide (0 ≤ x.2.1) && decide (x.2.1 < p) && decide (0 ≤ x.2.2.1) && decide (x.2.2.1 < p)
theorem inRb_iff {p : Int} {x : TripD} : inRb p x = true ↔ inR p x := by simp [inRb, inR, and_assoc]
theorem pts_in : ∀ p ∈ ([2, 3, 5, 7] : List Int), ∀ x ∈ ptsC p, inRb p x = true := by decide +kernel
def notOb (x : TripD) : Bool := !(ieq x.1 0 && ieq x.2.1 0 && ieq x.2.2.1 0)
theorem notOb_iff {x : TripD} : notOb x = true ↔ notO x := by
  simp only [notOb, notO, ieq, Bool.not_eq_true', Bool.and_eq_false_iff, beq_eq_false_iff_ne, ne_eq]
  by_cases h1 : x.1 = 0 <;> by_cases h2 : x.2.1 = 0 <;> by_cases h3 : x.2.2.1 = 0 <;> simp [h1, h2, h3]
theorem pts_cross : ∀ p ∈ ([2, 3, 5, 7] : List Int), ∀ x ∈ ptsC p, ∀ y ∈ ptsC p, (deq Trip x y || (notOb (crossF p x y) && (ptsC p).any fun z => deq Trip (lowF p (crossF p x y)) z)) = true := by decide +kernel

theorem join_tab : ∀ p ∈ ([2, 3, 5, 7] : List Int), ∀ x ∈ ptsC p, ∀ y ∈ ptsC p, (deq Trip x y || ieq (numC p (lowF p (crossF p x y))) (ixA (bothF p x y) (ptsC p) 0)) = true := by decide +kernel

end Go.Arcs
