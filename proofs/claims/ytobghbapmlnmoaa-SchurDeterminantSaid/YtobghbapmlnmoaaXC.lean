/- Kostka and Rule: contracts of the counting closures. -/
import Derived.Test.YtobghbapmlnmoaaXB
set_option linter.unusedVariables false
set_option linter.unusedSimpArgs false
namespace Go.Schur
open Go Go.Ab Go.Proofs

/-! Reading rows from right to left. -/
def filB (inner outer : List Int) (most : Int) (n : Nat) (left : List Int) (rows : List (List Int)) : Int := (fil inner outer most false n left rows).length
def eachB (inner outer m : List Int) : Int := if wr .i64 (boxW outer - boxW inner) = boxW m then filB inner outer m.length 81 m [] else 0
def kosF (l m : List Int) : Int × Int × Unit := if shapeB l = true ∧ contB m = true then (eachB [] l m, 0, ()) else (0, 2, ())
end Go.Schur

set_option linter.unusedVariables false
set_option linter.unusedSimpArgs false
namespace Go.Schur
open Go Go.Ab Go.Proofs

end Go.Schur

set_option linter.unusedVariables false
set_option linter.unusedSimpArgs false
namespace Go.Schur
open Go Go.Ab Go.Proofs

end Go.Schur
