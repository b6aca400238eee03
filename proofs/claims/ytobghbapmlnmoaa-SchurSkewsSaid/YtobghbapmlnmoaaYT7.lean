/- Skews of standard fillings,reckoned. -/
import Derived.Test.YtobghbapmlnmoaaY14
set_option maxRecDepth 100000
namespace Go.Schur
theorem zcf:(List.range 4).all (fun k=>tabS k 5)=true:=by decide +kernel
end Go.Schur
