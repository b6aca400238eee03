/- The tables of groups,reckoned. -/
import Derived.Test.YtieimmiiaabpgaaGreatXW
set_option linter.unusedVariables false
set_option linter.unusedSimpArgs false
set_option maxRecDepth 100000
namespace Go.Top
open Go Go.Ab Go.Proofs Go.Schur
theorem tk3:isC (h32z (some grp3)) (tabD (some grp3))=true:=by decide +kernel
end Go.Top
