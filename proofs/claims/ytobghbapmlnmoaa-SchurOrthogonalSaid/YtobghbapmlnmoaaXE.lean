/- Fillings: the law. -/
import Derived.Test.YtobghbapmlnmoaaXD
set_option linter.unusedVariables false
set_option linter.unusedSimpArgs false
namespace Go.Schur
open Go Go.Ab Go.Proofs

end Go.Schur
