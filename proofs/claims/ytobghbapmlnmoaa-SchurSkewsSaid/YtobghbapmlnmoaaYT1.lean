/- Slides of standard skew fillings,reckoned: inner shapes of 1 boxes. -/
import Derived.Test.YtobghbapmlnmoaaXY
set_option maxRecDepth 100000
namespace Go.Schur
theorem zc7:(allP.filter (fun (m:List Nat)=>Nat.beq m.sum 1)).all (fun (m:List Nat)=>goN m 7 [])=true:=by decide +kernel
end Go.Schur
