/- Skews of standard fillings,reckoned. -/
import Derived.Test.YtobghbapmlnmoaaY14
set_option maxRecDepth 100000
namespace Go.Schur
theorem zcs:(List.range 5).all (fun k=>tabS k 4)=true:=by decide +kernel
end Go.Schur
