/- Fillings: the law. -/
import Derived.Test.YtobghbapmlnmoaaXD
set_option linter.unusedVariables false
set_option linter.unusedSimpArgs false
namespace Go.Schur
open Go Go.Ab Go.Proofs
theorem shape_take {l : List Int} : shapeB (l.take 12) = shapeB l:=by
  by_cases h : l.length ≤ 12
  · rw [List.take_of_length_le h]
  · have h1 : decide ((l.take 12).length ≤ 8) = false:=decide_eq_false (by simp;omega)
    have h2 : decide (l.length ≤ 8) = false:=decide_eq_false (by omega)
    unfold shapeB
    rw [h1,h2];rfl
theorem shape_take_id {l : List Int} (h : shapeB l = true) : l.take 12 = l:=List.take_of_length_le (by have:=(shapeB_iff.1 h).1;omega)
end Go.Schur
