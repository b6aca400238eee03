/- Groups of permutations,reckoned. -/
import Derived.Test.YtieimmiiaabpgaaGreatXE
set_option linter.unusedVariables false
set_option linter.unusedSimpArgs false
set_option maxRecDepth 100000
namespace Go.Top
open Go Go.Ab Go.Proofs Go.Schur
theorem gok3:isG (h23z [[1,2,3,0],[1,0,2,3]]) grp3=true:=by decide +kernel
end Go.Top
