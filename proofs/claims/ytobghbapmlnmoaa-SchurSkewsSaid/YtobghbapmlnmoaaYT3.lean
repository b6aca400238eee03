/- Slides of standard skew fillings,reckoned: inner shapes of 3 boxes. -/
import Derived.Test.YtobghbapmlnmoaaXY
set_option maxRecDepth 100000
namespace Go.Schur
theorem zdq:(allP.filter (fun (m:List Nat)=>Nat.beq m.sum 3)).all (fun (m:List Nat)=>goN m 5 [])=true:=by decide +kernel
end Go.Schur
