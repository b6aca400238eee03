/- Find and Four: contracts. -/
import Derived.Test.YtibpopddoggnkaaXU
set_option linter.unusedVariables false
set_option linter.unusedSimpArgs false
namespace Go.Signs
open Go Go.Ab Go.Proofs
end Go.Signs
set_option linter.unusedVariables false
set_option linter.unusedSimpArgs false
namespace Go.Signs
open Go Go.Ab Go.Proofs
section
variable {m : Int}
end
end Go.Signs
set_option linter.unusedVariables false
set_option linter.unusedSimpArgs false
namespace Go.Signs
open Go Go.Ab Go.Proofs
end Go.Signs
set_option linter.unusedVariables false
set_option linter.unusedSimpArgs false
namespace Go.Signs
open Go Go.Ab Go.Proofs
section
variable {m : Int}
theorem getD_set {q : List Int} {i j : Nat} {x : Int} (h : i < q.length) : (q.set i x).getD j 0 = if j = i then x else q.getD j 0 := by
  simp only [List.getD_eq_getElem?_getD, List.getElem?_set]
  by_cases h2 : i = j
  · subst h2; simp [h]
  · simp [h2, Ne.symm h2]
end
end Go.Signs
set_option linter.unusedVariables false
set_option linter.unusedSimpArgs false
namespace Go.Signs
open Go Go.Ab Go.Proofs
section
variable {f : Int → List A4D → List A4D}
end
section
variable {n : Int}
end
end Go.Signs
set_option linter.unusedVariables false
set_option linter.unusedSimpArgs false
namespace Go.Signs
open Go Go.Ab Go.Proofs
end Go.Signs
set_option linter.unusedVariables false
set_option linter.unusedSimpArgs false
namespace Go.Signs
open Go Go.Ab Go.Proofs
section
variable {n : Int}
end
end Go.Signs
set_option linter.unusedVariables false
set_option linter.unusedSimpArgs false
namespace Go.Signs
open Go Go.Ab Go.Proofs
section
variable {m : Int}
end
end Go.Signs
set_option linter.unusedVariables false
set_option linter.unusedSimpArgs false
namespace Go.Signs
open Go Go.Ab Go.Proofs
end Go.Signs
