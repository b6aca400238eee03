/- Commutes: contracts. -/
import Derived.Test.YtobghbapmlnmoaaXN
set_option linter.unusedVariables false
set_option linter.unusedSimpArgs false
namespace Go.Schur
open Go Go.Ab Go.Proofs
theorem q6i {a b c:List Int} (h:boxW a+boxW b≠boxW c):refR a b c=0:=by unfold refR;rw [if_neg fun h'=>h h'.1]
theorem q43 {a b c:List Int} (h:sh3 a b c) (e:boxW a+boxW b≠boxW c):qjo a b c=0:=by rw [← qyi h,q6i e]
def told (a b c:List Int) (l:List za9):Int:=if c∈l.map (·.1) then qjo a b c else 0
end Go.Schur
