/- Skews of standard fillings,reckoned. -/
import Derived.Test.YtobghbapmlnmoaaY14
set_option maxRecDepth 100000
namespace Go.Schur
theorem zbk:(List.range 9).all (fun k=>tabS k 0)=true:=by decide +kernel
theorem za3:(List.range 8).all (fun k=>tabS k 1)=true:=by decide +kernel
theorem zbi:(List.range 7).all (fun k=>tabS k 2)=true:=by decide +kernel
theorem zci:(List.range 6).all (fun k=>tabS k 3)=true:=by decide +kernel
end Go.Schur
