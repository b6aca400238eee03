/- The tables of groups,reckoned. -/
import Derived.Test.YtieimmiiaabpgaaGreatXW
set_option linter.unusedVariables false
set_option linter.unusedSimpArgs false
set_option maxRecDepth 100000
namespace Go.Top
open Go Go.Ab Go.Proofs Go.Schur
theorem tk0:isC (h32z (some grp0)) (tabD (some grp0))=true:=by decide +kernel
theorem tk1:isC (h32z (some grp1)) (tabD (some grp1))=true:=by decide +kernel
theorem tk2:isC (h32z (some grp2)) (tabD (some grp2))=true:=by decide +kernel
end Go.Top
