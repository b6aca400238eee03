/- Slides of standard skew fillings,reckoned: inner shapes of 2 boxes. -/
import Derived.Test.YtobghbapmlnmoaaXY
set_option maxRecDepth 100000
namespace Go.Schur
theorem zde:(allP.filter (fun (m:List Nat)=>Nat.beq m.sum 2)).all (fun (m:List Nat)=>goN m 6 [])=true:=by decide +kernel
end Go.Schur
