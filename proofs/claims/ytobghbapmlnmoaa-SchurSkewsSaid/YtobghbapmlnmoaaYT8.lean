/- Skews of standard fillings,reckoned. -/
import Derived.Test.YtobghbapmlnmoaaY14
set_option maxRecDepth 100000
namespace Go.Schur
theorem q87:tabS 0 6=true:=by decide +kernel
theorem q83:tabS 1 6=true:=by decide +kernel
end Go.Schur
