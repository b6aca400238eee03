/- Slides of standard skew fillings,reckoned: inner shapes of no. -/
import Derived.Test.YtobghbapmlnmoaaXY
set_option maxRecDepth 100000
namespace Go.Schur
theorem zdp:(allP.filter (fun (m:List Nat)=>Nat.beq m.sum 0)).all (fun (m:List Nat)=>goN m 8 [])=true:=by decide +kernel
theorem zdc:(allP.filter (fun (m:List Nat)=>Nat.beq m.sum 4)).all (fun (m:List Nat)=>goN m 4 [])=true:=by decide +kernel
theorem zdr:(allP.filter (fun (m:List Nat)=>Nat.beq m.sum 5)).all (fun (m:List Nat)=>goN m 3 [])=true:=by decide +kernel
theorem zda:(allP.filter (fun (m:List Nat)=>Nat.beq m.sum 6)).all (fun (m:List Nat)=>goN m 2 [])=true:=by decide +kernel
theorem zd3:(allP.filter (fun (m:List Nat)=>Nat.beq m.sum 7)).all (fun (m:List Nat)=>goN m 1 [])=true:=by decide +kernel
theorem zdh:(allP.filter (fun (m:List Nat)=>Nat.beq m.sum 8)).all (fun (m:List Nat)=>goN m 0 [])=true:=by decide +kernel
end Go.Schur
