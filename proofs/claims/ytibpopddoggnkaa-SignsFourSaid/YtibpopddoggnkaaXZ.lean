/- Found: contracts. -/
import Derived.Test.YtibpopddoggnkaaXY
set_option linter.unusedVariables false
set_option linter.unusedSimpArgs false
namespace Go.Signs
open Go Go.Ab Go.Proofs

end Go.Signs

set_option linter.unusedVariables false
set_option linter.unusedSimpArgs false
namespace Go.Signs
open Go Go.Ab Go.Proofs

end Go.Signs

set_option linter.unusedVariables false
set_option linter.unusedSimpArgs false
namespace Go.Signs
open Go Go.Ab Go.Proofs

end Go.Signs

set_option linter.unusedVariables false
set_option linter.unusedSimpArgs false
namespace Go.Signs
open Go Go.Ab Go.Proofs

end Go.Signs

set_option linter.unusedVariables false
set_option linter.unusedSimpArgs false
namespace Go.Signs
open Go Go.Ab Go.Proofs

end Go.Signs
