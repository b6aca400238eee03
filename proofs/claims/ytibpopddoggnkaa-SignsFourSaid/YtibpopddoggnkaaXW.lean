/- Turned over, and products: contracts of the law. -/
import Derived.Test.YtibpopddoggnkaaXU
set_option linter.unusedVariables false
set_option linter.unusedSimpArgs false
namespace Go.Signs
open Go Go.Ab Go.Proofs

end Go.Signs

set_option linter.unusedVariables false
set_option linter.unusedSimpArgs false
namespace Go.Signs
open Go Go.Ab Go.Proofs

/-! ### Rows and columns -/
section
variable {l : List Int} {m : Int}
/-! ### Made matrices -/
theorem made_isM {n : Nat} {f : Int → Int → Bool} (h1 : 1 ≤ n) (h2 : n ≤ 16) : isM (madeF n f) 16 = true := by
  unfold isM
  simp only [Bool.and_eq_true, decide_eq_true_eq, List.all_eq_true, inM_d, made_len, Int.toNat_natCast]
  refine ⟨⟨by omega, by omega⟩, fun x hx => ?_⟩
  obtain ⟨i, hi, rfl⟩ := List.mem_map.1 hx
  have h3 := rowN_lt (g := f i) (j := n)
  have h5 : ((2 ^ n : Nat) : Int) = (2 : Int) ^ n := by rw [Int.natCast_pow]; rfl
  omega
/-! ### Four rows each -/
/-! ### Products -/
end

/-! ### The documented ones -/
end Go.Signs

set_option linter.unusedVariables false
set_option linter.unusedSimpArgs false
namespace Go.Signs
open Go Go.Ab Go.Proofs

section
variable {n i j : Nat} {f : Int → Int → Bool}
end

end Go.Signs
