/- Commutes: contracts. -/
import Derived.Test.YtobghbapmlnmoaaXN
set_option linter.unusedVariables false
set_option linter.unusedSimpArgs false
namespace Go.Schur
open Go Go.Ab Go.Proofs
def cmpI (x y:Int) : Int := if x < y then -1 else if y < x then 1 else 0
noncomputable def con117 : Con := mkC 117 [.d I64] [.bool] (fun (x:Int) => []) (fun (x:Int) => (false, ()))
noncomputable def g117 (x0:Int) : Option (Bool × Unit) := some ((!ieq x0 x0, ()) : Bool × Unit)
noncomputable def g117_sh : List LSh := ([] : List LSh)
noncomputable def con102 : Con := mkC 102 [.d I64, .d I64] [I64] (fun (x y:Int) => []) (fun (x y:Int) => (cmpI x y, ()))
noncomputable def g102 (x0 x1:Int) : Option (Int × Unit) := bif ilt x0 x1 then some (((-1:Int), ()) : Int × Unit) else bif ilt x1 x0 then some (((1:Int), ()) : Int × Unit) else some (((0:Int), ()) : Int × Unit)
noncomputable def g102_sh : List LSh := ([] : List LSh)
def cmpL : List Int → List Int → Int
  | [], [] => 0
  | [], _ :: _ => -1
  | _ :: _, [] => 1
  | x :: a, y :: b => if cmpI x y ≠ 0 then cmpI x y else cmpL a b
noncomputable def con60 : Con := mkC 60 [.d LI, .d LI] [I64] (fun (a b:List Int) => [small a]) (fun (a b:List Int) => (cmpL a b, ()))
noncomputable def g60 (x0 x1:List Int) : Option (Int × Unit) := whileO (fun (d2 : Int × Unit) => bif ilt d2.1 (↑(List.length x0):Int) then gd ((0:Int) ≤ d2.1 ∧ d2.1 < (↑(List.length x0):Int)) (bif ile (↑(List.length x1):Int) d2.1 then some (Lp.out (((1:Int), ()) : Int × Unit)) else gd ((0:Int) ≤ d2.1 ∧ d2.1 < (↑(List.length x1):Int)) (bif !ieq (cmpI (List.getD x0 (Int.toNat d2.1) (0:Int)) (List.getD x1 (Int.toNat d2.1) (0:Int))) (0:Int) then some (Lp.out ((cmpI (List.getD x0 (Int.toNat d2.1) (0:Int)) (List.getD x1 (Int.toNat d2.1) (0:Int)), ()) : Int × Unit)) else some (Lp.go ((wr IntKind.i64 (d2.1 + (1:Int)), ()) : Int × Unit)))) else bif ilt (↑(List.length x0):Int) (↑(List.length x1):Int) then some (Lp.out (((-1:Int), ()) : Int × Unit)) else some (Lp.out (((0:Int), ()) : Int × Unit))) (((0:Int), ()) : Int × Unit)
noncomputable def g60_sh : List LSh := LSh.mk (((11, TV.v (Ty.int IntKind.i64)) : Nat × TV) :: ([] : List (Nat × TV))) ([] : List TB) :: ([] : List LSh)
noncomputable def con15 : Con := mkC 15 [.d LI, .d LI, .d LI] [.bool] (fun (a b c:List Int) => [small a ∧ small b ∧ small c]) (fun (a b c:List Int) => (true, ()))
noncomputable def g15_c0 (x0 x1:List Int) : Bool := bif !ieq (prodF (List.take (12:Nat) x0) (List.take (12:Nat) x1)).2.1 (prodF (List.take (12:Nat) x1) (List.take (12:Nat) x0)).2.1 then true else !eqTL (prodF (List.take (12:Nat) x0) (List.take (12:Nat) x1)).1 (prodF (List.take (12:Nat) x1) (List.take (12:Nat) x0)).1
noncomputable def g15_c1 (x0 x1 x2:List Int) : Bool := !bif bif !ieq (ruleG (List.take (12:Nat) x0) (List.take (12:Nat) x1) (List.take (12:Nat) x2)).2.1 (0:Int) then true else !shapeB x0 then true else !shapeB x1
noncomputable def g15_c2 (x0 x1 x2:List Int) : Bool := bif bif bif !ieq (ruleG (List.take (12:Nat) x0) (List.take (12:Nat) x1) (List.take (12:Nat) x2)).2.1 (0:Int) then true else !shapeB x0 then true else !shapeB x1 then true else !shapeB x2
noncomputable def g15_c3 (x0 x1 x2:List Int) : Bool := bif !ieq (ruleG (conjF x0) (conjF x1) (conjF x2)).2.1 (0:Int) then true else !ieq (ruleG (conjF x0) (conjF x1) (conjF x2)).1 (ruleG (List.take (12:Nat) x0) (List.take (12:Nat) x1) (List.take (12:Nat) x2)).1
noncomputable def g15_c4 (x0 x1:List Int) : Bool := bif !ieq (prodF (List.take (12:Nat) x0) (List.take (12:Nat) x1)).2.1 (0:Int) then !ieq (prodF (List.take (12:Nat) x0) (List.take (12:Nat) x1)).2.1 (6:Int) else false
noncomputable def g15_c5 (x0 x1:List Int) (d3 : Int × Int × Unit) : Int := (List.getD (prodF (List.take (12:Nat) x0) (List.take (12:Nat) x1)).1 (Int.toNat d3.2.1) ((([]:List Int), (0:Int), ()) : List Int × Int × Unit)).2.1
noncomputable def g15_c6 (x0 x1:List Int) (d3 : Int × Int × Unit) : Int := cmpL (List.getD (prodF (List.take (12:Nat) x0) (List.take (12:Nat) x1)).1 (Int.toNat (wr IntKind.i64 (d3.2.1 - (1:Int)))) ((([]:List Int), (0:Int), ()) : List Int × Int × Unit)).1 (List.getD (prodF (List.take (12:Nat) x0) (List.take (12:Nat) x1)).1 (Int.toNat d3.2.1) ((([]:List Int), (0:Int), ()) : List Int × Int × Unit)).1
noncomputable def g15_c7 (x0 x1 x2:List Int) (d3 : Int × Int × Unit) : Bool := eqL1 (List.getD (prodF (List.take (12:Nat) x0) (List.take (12:Nat) x1)).1 (Int.toNat d3.2.1) ((([]:List Int), (0:Int), ()) : List Int × Int × Unit)).1 x2
noncomputable def g15 (x0 x1 x2:List Int) : Option (Bool × Unit) := gd (List.length (List.take (12:Nat) x0) ≤ (1000:Nat) ∧ List.length (List.take (12:Nat) x1) ≤ (1000:Nat)) (gd (List.length (List.take (12:Nat) x1) ≤ (1000:Nat) ∧ List.length (List.take (12:Nat) x0) ≤ (1000:Nat)) (gd ((!!ieq (prodF (List.take (12:Nat) x0) (List.take (12:Nat) x1)).2.1 (prodF (List.take (12:Nat) x1) (List.take (12:Nat) x0)).2.1) = true → (!!ieq (prodF (List.take (12:Nat) x0) (List.take (12:Nat) x1)).2.1 (prodF (List.take (12:Nat) x1) (List.take (12:Nat) x0)).2.1) = true ∧ List.length (prodF (List.take (12:Nat) x0) (List.take (12:Nat) x1)).1 ≤ (1000:Nat)) (gd ((!!ieq (prodF (List.take (12:Nat) x0) (List.take (12:Nat) x1)).2.1 (prodF (List.take (12:Nat) x1) (List.take (12:Nat) x0)).2.1) = true → (!!ieq (prodF (List.take (12:Nat) x0) (List.take (12:Nat) x1)).2.1 (prodF (List.take (12:Nat) x1) (List.take (12:Nat) x0)).2.1) = true ∧ List.length (prodF (List.take (12:Nat) x1) (List.take (12:Nat) x0)).1 ≤ (1000:Nat)) (gd ((!!ieq (prodF (List.take (12:Nat) x0) (List.take (12:Nat) x1)).2.1 (prodF (List.take (12:Nat) x1) (List.take (12:Nat) x0)).2.1) = true → (!!ieq (prodF (List.take (12:Nat) x0) (List.take (12:Nat) x1)).2.1 (prodF (List.take (12:Nat) x1) (List.take (12:Nat) x0)).2.1) = true ∧ (!!ieq (prodF (List.take (12:Nat) x0) (List.take (12:Nat) x1)).2.1 (prodF (List.take (12:Nat) x1) (List.take (12:Nat) x0)).2.1) = true ∧ small (prodF (List.take (12:Nat) x0) (List.take (12:Nat) x1)).1 ∧ ∀ (x3 : List Int × Int × Unit), List.Mem x3 (prodF (List.take (12:Nat) x0) (List.take (12:Nat) x1)).1 → small x3.1) (gd ((!!ieq (prodF (List.take (12:Nat) x0) (List.take (12:Nat) x1)).2.1 (prodF (List.take (12:Nat) x1) (List.take (12:Nat) x0)).2.1) = true → (!!ieq (prodF (List.take (12:Nat) x0) (List.take (12:Nat) x1)).2.1 (prodF (List.take (12:Nat) x1) (List.take (12:Nat) x0)).2.1) = true) (gd ((!ieq (prodF (List.take (12:Nat) x0) (List.take (12:Nat) x1)).2.1 (prodF (List.take (12:Nat) x1) (List.take (12:Nat) x0)).2.1) = false → (!!ieq (prodF (List.take (12:Nat) x0) (List.take (12:Nat) x1)).2.1 (prodF (List.take (12:Nat) x1) (List.take (12:Nat) x0)).2.1) = true) (bif g15_c0 x0 x1 then some ((false, ()) : Bool × Unit) else gd (List.length (List.take (12:Nat) x0) ≤ (1000:Nat) ∧ List.length (List.take (12:Nat) x1) ≤ (1000:Nat) ∧ List.length (List.take (12:Nat) x2) ≤ (1000:Nat)) (gd ((!!ieq (ruleG (List.take (12:Nat) x0) (List.take (12:Nat) x1) (List.take (12:Nat) x2)).2.1 (0:Int)) = true → (!!ieq (ruleG (List.take (12:Nat) x0) (List.take (12:Nat) x1) (List.take (12:Nat) x2)).2.1 (0:Int)) = true ∧ small x0) (gd ((!!ieq (ruleG (List.take (12:Nat) x0) (List.take (12:Nat) x1) (List.take (12:Nat) x2)).2.1 (0:Int)) = true → (!!ieq (ruleG (List.take (12:Nat) x0) (List.take (12:Nat) x1) (List.take (12:Nat) x2)).2.1 (0:Int)) = true) (gd ((!ieq (ruleG (List.take (12:Nat) x0) (List.take (12:Nat) x1) (List.take (12:Nat) x2)).2.1 (0:Int)) = false → (!!ieq (ruleG (List.take (12:Nat) x0) (List.take (12:Nat) x1) (List.take (12:Nat) x2)).2.1 (0:Int)) = true) (gd ((!bif !ieq (ruleG (List.take (12:Nat) x0) (List.take (12:Nat) x1) (List.take (12:Nat) x2)).2.1 (0:Int) then true else !shapeB x0) = true → (!bif !ieq (ruleG (List.take (12:Nat) x0) (List.take (12:Nat) x1) (List.take (12:Nat) x2)).2.1 (0:Int) then true else !shapeB x0) = true ∧ small x1) (gd ((!bif !ieq (ruleG (List.take (12:Nat) x0) (List.take (12:Nat) x1) (List.take (12:Nat) x2)).2.1 (0:Int) then true else !shapeB x0) = true → (!bif !ieq (ruleG (List.take (12:Nat) x0) (List.take (12:Nat) x1) (List.take (12:Nat) x2)).2.1 (0:Int) then true else !shapeB x0) = true) (gd ((bif !ieq (ruleG (List.take (12:Nat) x0) (List.take (12:Nat) x1) (List.take (12:Nat) x2)).2.1 (0:Int) then true else !shapeB x0) = false → (!bif !ieq (ruleG (List.take (12:Nat) x0) (List.take (12:Nat) x1) (List.take (12:Nat) x2)).2.1 (0:Int) then true else !shapeB x0) = true) (gd ((!bif bif !ieq (ruleG (List.take (12:Nat) x0) (List.take (12:Nat) x1) (List.take (12:Nat) x2)).2.1 (0:Int) then true else !shapeB x0 then true else !shapeB x1) = true → g15_c1 x0 x1 x2 = true ∧ small x2) (gd ((!bif bif !ieq (ruleG (List.take (12:Nat) x0) (List.take (12:Nat) x1) (List.take (12:Nat) x2)).2.1 (0:Int) then true else !shapeB x0 then true else !shapeB x1) = true → g15_c1 x0 x1 x2 = true) (gd ((bif bif !ieq (ruleG (List.take (12:Nat) x0) (List.take (12:Nat) x1) (List.take (12:Nat) x2)).2.1 (0:Int) then true else !shapeB x0 then true else !shapeB x1) = false → g15_c1 x0 x1 x2 = true) (bif g15_c2 x0 x1 x2 then gd (ieq (ruleG (List.take (12:Nat) x0) (List.take (12:Nat) x1) (List.take (12:Nat) x2)).2.1 (2:Int) = true → ieq (ruleG (List.take (12:Nat) x0) (List.take (12:Nat) x1) (List.take (12:Nat) x2)).2.1 (2:Int) = true) (some ((bif ieq (ruleG (List.take (12:Nat) x0) (List.take (12:Nat) x1) (List.take (12:Nat) x2)).2.1 (2:Int) then true else false, ()) : Bool × Unit)) else gd (shapeB x0 = true) (gd (shapeB x1 = true) (gd (shapeB x2 = true) (gd (List.length (conjF x0) ≤ (1000:Nat) ∧ List.length (conjF x1) ≤ (1000:Nat) ∧ List.length (conjF x2) ≤ (1000:Nat)) (gd ((!!ieq (ruleG (conjF x0) (conjF x1) (conjF x2)).2.1 (0:Int)) = true → (!!ieq (ruleG (conjF x0) (conjF x1) (conjF x2)).2.1 (0:Int)) = true ∧ (!!ieq (ruleG (conjF x0) (conjF x1) (conjF x2)).2.1 (0:Int)) = true) (gd ((!ieq (ruleG (conjF x0) (conjF x1) (conjF x2)).2.1 (0:Int)) = false → (!!ieq (ruleG (conjF x0) (conjF x1) (conjF x2)).2.1 (0:Int)) = true) (gd ((!g15_c3 x0 x1 x2) = true → (!g15_c3 x0 x1 x2) = true) (gd ((!g15_c3 x0 x1 x2 && (!g15_c3 x0 x1 x2 && !ieq (prodF (List.take (12:Nat) x0) (List.take (12:Nat) x1)).2.1 (0:Int))) = true → (!g15_c3 x0 x1 x2 && (!g15_c3 x0 x1 x2 && !ieq (prodF (List.take (12:Nat) x0) (List.take (12:Nat) x1)).2.1 (0:Int))) = true) (gd ((!g15_c3 x0 x1 x2) = true → (!g15_c3 x0 x1 x2) = true ∧ (!g15_c3 x0 x1 x2) = true ∧ ((!ieq (prodF (List.take (12:Nat) x0) (List.take (12:Nat) x1)).2.1 (0:Int)) = true → (!g15_c3 x0 x1 x2 && (!g15_c3 x0 x1 x2 && !ieq (prodF (List.take (12:Nat) x0) (List.take (12:Nat) x1)).2.1 (0:Int))) = true)) (gd (g15_c3 x0 x1 x2 = false → (!g15_c3 x0 x1 x2) = true) (bif bif g15_c3 x0 x1 x2 then true else g15_c4 x0 x1 then some ((false, ()) : Bool × Unit) else bif !ieq (prodF (List.take (12:Nat) x0) (List.take (12:Nat) x1)).2.1 (0:Int) then gd (ieq (ruleG (List.take (12:Nat) x0) (List.take (12:Nat) x1) (List.take (12:Nat) x2)).1 (0:Int) = true → ieq (ruleG (List.take (12:Nat) x0) (List.take (12:Nat) x1) (List.take (12:Nat) x2)).1 (0:Int) = true) (some ((bif ieq (ruleG (List.take (12:Nat) x0) (List.take (12:Nat) x1) (List.take (12:Nat) x2)).1 (0:Int) then true else false, ()) : Bool × Unit)) else whileO (fun (d3 : Int × Int × Unit) => bif ilt d3.2.1 (↑(List.length (prodF (List.take (12:Nat) x0) (List.take (12:Nat) x1)).1):Int) then gd ((0:Int) ≤ d3.2.1 ∧ d3.2.1 < (↑(List.length (prodF (List.take (12:Nat) x0) (List.take (12:Nat) x1)).1):Int)) (gd ((!ilt (g15_c5 x0 x1 d3) (1:Int)) = true → (!ilt (g15_c5 x0 x1 d3) (1:Int)) = true) (gd ((!ilt (g15_c5 x0 x1 d3) (1:Int) && (!ilt (g15_c5 x0 x1 d3) (1:Int) && ilt (0:Int) d3.2.1)) = true → (!ilt (g15_c5 x0 x1 d3) (1:Int) && (!ilt (g15_c5 x0 x1 d3) (1:Int) && ilt (0:Int) d3.2.1)) = true) (gd ((!ilt (g15_c5 x0 x1 d3) (1:Int) && (!ilt (g15_c5 x0 x1 d3) (1:Int) && ilt (0:Int) d3.2.1)) = true → (!ilt (g15_c5 x0 x1 d3) (1:Int) && (!ilt (g15_c5 x0 x1 d3) (1:Int) && ilt (0:Int) d3.2.1)) = true ∧ (!ilt (g15_c5 x0 x1 d3) (1:Int) && (!ilt (g15_c5 x0 x1 d3) (1:Int) && ilt (0:Int) d3.2.1)) = true ∧ (0:Int) ≤ wr IntKind.i64 (d3.2.1 - (1:Int)) ∧ wr IntKind.i64 (d3.2.1 - (1:Int)) < (↑(List.length (prodF (List.take (12:Nat) x0) (List.take (12:Nat) x1)).1):Int)) (gd ((!ilt (g15_c5 x0 x1 d3) (1:Int) && (!ilt (g15_c5 x0 x1 d3) (1:Int) && ilt (0:Int) d3.2.1)) = true → (!ilt (g15_c5 x0 x1 d3) (1:Int) && (!ilt (g15_c5 x0 x1 d3) (1:Int) && ilt (0:Int) d3.2.1)) = true) (gd ((!ilt (g15_c5 x0 x1 d3) (1:Int) && (!ilt (g15_c5 x0 x1 d3) (1:Int) && ilt (0:Int) d3.2.1)) = true → (!ilt (g15_c5 x0 x1 d3) (1:Int) && (!ilt (g15_c5 x0 x1 d3) (1:Int) && ilt (0:Int) d3.2.1)) = true) (gd ((!ilt (g15_c5 x0 x1 d3) (1:Int) && (!ilt (g15_c5 x0 x1 d3) (1:Int) && ilt (0:Int) d3.2.1)) = true → (!ilt (g15_c5 x0 x1 d3) (1:Int) && (!ilt (g15_c5 x0 x1 d3) (1:Int) && ilt (0:Int) d3.2.1)) = true) (gd ((!ilt (g15_c5 x0 x1 d3) (1:Int) && (!ilt (g15_c5 x0 x1 d3) (1:Int) && ilt (0:Int) d3.2.1)) = true → (!ilt (g15_c5 x0 x1 d3) (1:Int) && (!ilt (g15_c5 x0 x1 d3) (1:Int) && ilt (0:Int) d3.2.1)) = true ∧ (!ilt (g15_c5 x0 x1 d3) (1:Int) && (!ilt (g15_c5 x0 x1 d3) (1:Int) && ilt (0:Int) d3.2.1)) = true ∧ small (List.getD (prodF (List.take (12:Nat) x0) (List.take (12:Nat) x1)).1 (Int.toNat (wr IntKind.i64 (d3.2.1 - (1:Int)))) ((([]:List Int), (0:Int), ()) : List Int × Int × Unit)).1) (gd ((!ilt (g15_c5 x0 x1 d3) (1:Int) && (!ilt (g15_c5 x0 x1 d3) (1:Int) && ilt (0:Int) d3.2.1)) = true → (!ilt (g15_c5 x0 x1 d3) (1:Int) && (!ilt (g15_c5 x0 x1 d3) (1:Int) && ilt (0:Int) d3.2.1)) = true) (gd ((!ilt (g15_c5 x0 x1 d3) (1:Int)) = true → (!ilt (g15_c5 x0 x1 d3) (1:Int)) = true ∧ (!ilt (g15_c5 x0 x1 d3) (1:Int)) = true ∧ (ilt (0:Int) d3.2.1 = true → (!ilt (g15_c5 x0 x1 d3) (1:Int) && (!ilt (g15_c5 x0 x1 d3) (1:Int) && ilt (0:Int) d3.2.1)) = true)) (gd (ilt (g15_c5 x0 x1 d3) (1:Int) = false → (!ilt (g15_c5 x0 x1 d3) (1:Int)) = true) (bif bif ilt (g15_c5 x0 x1 d3) (1:Int) then true else bif ilt (0:Int) d3.2.1 then ile (0:Int) (g15_c6 x0 x1 d3) else false then some (Lp.out ((false, ()) : Bool × Unit)) else gd (small (List.getD (prodF (List.take (12:Nat) x0) (List.take (12:Nat) x1)).1 (Int.toNat d3.2.1) ((([]:List Int), (0:Int), ()) : List Int × Int × Unit)).1) (bif g15_c7 x0 x1 x2 d3 then some (Lp.go ((g15_c5 x0 x1 d3, wr IntKind.i64 (d3.2.1 + (1:Int)), ()) : Int × Int × Unit)) else some (Lp.go ((d3.1, wr IntKind.i64 (d3.2.1 + (1:Int)), ()) : Int × Int × Unit)))))))))))))) else gd (ieq d3.1 (ruleG (List.take (12:Nat) x0) (List.take (12:Nat) x1) (List.take (12:Nat) x2)).1 = true → ieq d3.1 (ruleG (List.take (12:Nat) x0) (List.take (12:Nat) x1) (List.take (12:Nat) x2)).1 = true) (some (Lp.out ((bif ieq d3.1 (ruleG (List.take (12:Nat) x0) (List.take (12:Nat) x1) (List.take (12:Nat) x2)).1 then true else false, ()) : Bool × Unit)))) (((0:Int), (0:Int), ()) : Int × Int × Unit))))))))))))))))))))))))))))
noncomputable def g15_sh : List LSh := LSh.mk (((15, TV.v (Ty.int IntKind.i64)) : Nat × TV) :: ((111, TV.v (Ty.int IntKind.i64)) : Nat × TV) :: ([] : List (Nat × TV))) ([] : List TB) :: ([] : List LSh)
end Go.Schur
set_option linter.unusedVariables false
set_option linter.unusedSimpArgs false
namespace Go.Schur
open Go Go.Ab Go.Proofs
def tabC (n k:Nat) : Bool := (P k).all fun a => (P (n - k)).all fun b => (P n).all fun c => decide (refR (toI a) (toI b) (toI c) = refR (toI b) (toI a) (toI c) ∧ refR (toI a) (toI b) (toI c) = refR (conjF (toI a)) (conjF (toI b)) (conjF (toI c)))
theorem tabC_lo : ∀ n ∈ List.range 7, ∀ k ∈ List.range (n + 1), tabC n k = true := by decide +kernel
theorem tabC_7 : ∀ k ∈ List.range 8, tabC 7 k = true := by decide +kernel
theorem tabC_8a : ∀ k ∈ [0, 1, 2], tabC 8 k = true := by decide +kernel
theorem tabC_8b : ∀ k ∈ [3, 4], tabC 8 k = true := by decide +kernel
theorem tabC_8c : ∀ k ∈ [5, 6, 7, 8], tabC 8 k = true := by decide +kernel
theorem tabC_ok {n k : Nat} (hn : n ≤ 8) (hk : k ≤ n) : tabC n k = true := by
  by_cases h7 : n < 7
  · exact tabC_lo n (List.mem_range.2 h7) k (List.mem_range.2 (by omega))
  by_cases h8 : n = 7
  · subst h8; exact tabC_7 k (List.mem_range.2 (by omega))
  obtain rfl : n = 8 := by omega
  by_cases h2 : k < 3
  · exact tabC_8a k (by simp; omega)
  by_cases h4 : k < 5
  · exact tabC_8b k (by simp; omega)
  · exact tabC_8c k (by simp; omega)
end Go.Schur
set_option linter.unusedVariables false
set_option linter.unusedSimpArgs false
namespace Go.Schur
open Go Go.Ab Go.Proofs
theorem conj_P : ∀ p ∈ allP, conjF (toI p) ∈ (P p.sum).map toI ∧ p.sum < 9 ∧ p ∈ P p.sum := by decide +kernel
theorem shape_PP {l : List Int} (h : shapeB l = true) : ∃ p : List Nat, l = toI p ∧ boxW l = (p.sum:Nat) ∧ p.sum ≤ 8 ∧ p ∈ P p.sum ∧ conjF l ∈ (P p.sum).map toI := by
  obtain ⟨p, hp, rfl, hs, _, h8⟩ := shape_allP h
  have := conj_P p hp
  exact ⟨p, rfl, toI_box hs.len h8, h8, this.2.2, this.1⟩
theorem box_P {n : Nat} (hn : n ≤ 8) {l : List Int} (h : l ∈ (P n).map toI) : shapeB l = true ∧ boxW l = n := by
  obtain ⟨p, hp, rfl⟩ := List.mem_map.1 h
  have hs : shapeB (toI p) = true := P_shape n (List.mem_range.2 (by omega)) p hp
  refine ⟨hs, ?_⟩
  obtain ⟨q, e, hb, _, hq, _⟩ := shape_PP hs
  rw [hb]
  have : toI p = toI q := e
  have e2 : p = q := by
    have := congrArg (List.map Int.toNat) this
    unfold toI at this
    rw [List.map_map, List.map_map] at this
    simpa [Function.comp_def] using this
  rw [← e2, P_sum n (List.mem_range.2 (by omega)) p hp]
theorem conj_shape {l : List Int} (h : shapeB l = true) : shapeB (conjF l) = true ∧ boxW (conjF l) = boxW l := by
  obtain ⟨p, rfl, hb, h8, _, hc⟩ := shape_PP h
  have := box_P h8 hc
  exact ⟨this.1, by rw [this.2, hb]⟩
theorem refR_box {a b c : List Int} (h : boxW a + boxW b ≠ boxW c) : refR a b c = 0 := by unfold refR; rw [if_neg fun h' => h h'.1]
theorem ref_tab {a b c : List Int} (h : sh3 a b c) : refR a b c = refR b a c ∧ refR a b c = refR (conjF a) (conjF b) (conjF c) := by
  obtain ⟨ha, hb, hc⟩ := h
  by_cases e : boxW a + boxW b = boxW c
  · obtain ⟨p, rfl, hp, p8, pm, _⟩ := shape_PP ha
    obtain ⟨q, rfl, hq, q8, qm, _⟩ := shape_PP hb
    obtain ⟨r, rfl, hr, r8, rm, _⟩ := shape_PP hc
    have es : p.sum + q.sum = r.sum := by omega
    have := tabC_ok (n := r.sum) (k := p.sum) r8 (by omega)
    have h1 := List.all_eq_true.1 this p pm
    have h2 := List.all_eq_true.1 h1 q (by rw [show r.sum - p.sum = q.sum by omega]; exact qm)
    exact of_decide_eq_true (List.all_eq_true.1 h2 r rm)
  · rw [refR_box e, refR_box (by omega), refR_box (a := conjF a) (by rw [(conj_shape ha).2, (conj_shape hb).2, (conj_shape hc).2]; exact e)]
    exact ⟨rfl, rfl⟩
theorem rule_comm {a b c : List Int} (h : sh3 a b c) : ruleF a b c = ruleF b a c := by
  rw [← rule_ref h, ← rule_ref ⟨h.2.1, h.1, h.2.2⟩]; exact (ref_tab h).1
theorem rule_conj {a b c : List Int} (h : sh3 a b c) : ruleF (conjF a) (conjF b) (conjF c) = ruleF a b c := by
  rw [← rule_ref h, ← rule_ref ⟨(conj_shape h.1).1, (conj_shape h.2.1).1, (conj_shape h.2.2).1⟩]; exact (ref_tab h).2.symm
theorem rule_box {a b c : List Int} (h : sh3 a b c) (e : boxW a + boxW b ≠ boxW c) : ruleF a b c = 0 := by rw [← rule_ref h, refR_box e]
theorem rule_nn {a b c : List Int} : 0 ≤ ruleF a b c := by
  unfold ruleF eachL filL
  split
  · split <;> omega
  · exact Int.le_refl _
theorem P_rise : ∀ n ∈ List.range 9, ((P n).map toI).Pairwise fun a b => cmpL a b < 0 := by decide +kernel
theorem terms_sub {a b : List Int} : ∀ {cs : List (List Int)}, List.Sublist ((termsF a b cs).map (·.1)) cs
  | [] => by simp [termsF]
  | c :: cs => by
    have := terms_sub (a := a) (b := b) (cs := cs)
    have e : termsF a b (c :: cs) = termF a b c ++ termsF a b cs := by simp [termsF]
    rw [e, List.map_append]
    unfold termF
    split
    · exact this.cons_cons c
    · exact this.cons c
theorem terms_mem {a b : List Int} {cs : List (List Int)} {t : TermD} (h : t ∈ termsF a b cs) : t.1 ∈ cs ∧ t.2.1 = ruleF a b t.1 ∧ 0 < t.2.1 := by
  obtain ⟨c, hc, ht⟩ := List.mem_flatMap.1 h
  unfold termF at ht
  split at ht
  · rw [List.mem_singleton.1 ht]; exact ⟨hc, rfl, by assumption⟩
  · cases ht
theorem terms_key {a b c : List Int} {cs : List (List Int)} (hc : c ∈ cs) (h : 0 < ruleF a b c) : c ∈ (termsF a b cs).map (·.1) :=
  List.mem_map.2 ⟨(c, ruleF a b c, ()), List.mem_flatMap.2 ⟨c, hc, by unfold termF; rw [if_pos h]; simp⟩, rfl⟩
theorem term_comm {a b c : List Int} (h : sh3 a b c) : termF a b c = termF b a c := by unfold termF; rw [rule_comm h]
theorem terms_comm {a b : List Int} {cs : List (List Int)} (h : ∀ c ∈ cs, sh3 a b c) : termsF a b cs = termsF b a cs := by
  unfold termsF
  induction cs with
  | nil => rw [List.flatMap_nil, List.flatMap_nil]
  | cons c cs ih => rw [List.flatMap_cons, List.flatMap_cons, term_comm (h c (List.mem_cons_self ..)), ih fun d hd => h d (List.mem_cons_of_mem _ hd)]
theorem prod_comm {a b : List Int} (ha : shapeB a = true) (hb : shapeB b = true) : prodF a b = prodF b a := by
  rw [prod_ok ha hb, prod_ok hb ha, Int.add_comm (boxW b)]
  by_cases h : 8 < boxW a + boxW b
  · rw [if_pos h, if_pos h]
  · have s1 := shape_sum ha
    have s2 := shape_sum hb
    rw [if_neg h, if_neg h, terms_comm fun c hc => ⟨ha, hb, shapes_mem (by omega) (by omega) hc⟩]
end Go.Schur
set_option linter.unusedVariables false
set_option linter.unusedSimpArgs false
namespace Go.Schur
open Go Go.Ab Go.Proofs
theorem goal117 : con117.goal Try.prog (spOf []) g117_sh [] lm30 := by
  have e : (∀ (x:Int), g117 x = some (false, ())) = con117.goal Try.prog (spOf []) g117_sh [] lm30 := by kernel_rfl
  rw [← e]
  intro x
  unfold g117
  rw [ieq_iff.2 rfl]; rfl
set_option maxRecDepth 100000 in
theorem ok117 : con117.Ok Try.prog := Con.of_goal mixed okN con117 goal117
theorem goal102 : con102.goal Try.prog (spOf [con117]) g102_sh [] lm30 := by
  have e : (∀ (x y:Int), g102 x y = some (cmpI x y, ())) = con102.goal Try.prog (spOf [con117]) g102_sh [] lm30 := by kernel_rfl
  rw [← e]
  intro x y
  unfold g102 cmpI
  by_cases h1 : x < y
  · rw [ilt_iff.2 h1, cond_true, if_pos h1]
  · rw [ilt_false.2 (by omega), cond_false, if_neg h1]
    by_cases h2 : y < x
    · rw [ilt_iff.2 h2, cond_true, if_pos h2]
    · rw [ilt_false.2 (by omega), cond_false, if_neg h2]
set_option maxRecDepth 100000 in
theorem ok102 : con102.Ok Try.prog := Con.of_goal mixed (okC ok117 okN) con102 goal102
theorem cmpL_nil {b : List Int} : cmpL [] b = if 0 < b.length then -1 else 0 := by cases b <;> simp [cmpL]
theorem goal60 : con60.goal Try.prog (spOf [con102]) g60_sh [] lm30 := by
  have e : (∀ (a b:List Int), small a → g60 a b = some (cmpL a b, ())) = con60.goal Try.prog (spOf [con102]) g60_sh [] lm30 := by kernel_rfl
  rw [← e]
  intro a b h
  have h1' : (a.length:Int) < 9223372036854775808 := h
  unfold g60
  have key : ∀ d i : Nat, i + d = a.length → whileO (fun (d2 : Int × Unit) => bif ilt d2.1 (↑(List.length a)) then gd ((0) ≤ d2.1 ∧ d2.1 < (↑(List.length a))) (bif ile (↑(List.length b)) d2.1 then some (Lp.out (((1), ()) : Int × Unit)) else gd ((0) ≤ d2.1 ∧ d2.1 < (↑(List.length b))) (bif !ieq (cmpI (List.getD a (Int.toNat d2.1) (0)) (List.getD b (Int.toNat d2.1) (0))) (0) then some (Lp.out ((cmpI (List.getD a (Int.toNat d2.1) (0)) (List.getD b (Int.toNat d2.1) (0)), ()) : Int × Unit)) else some (Lp.go ((wr IntKind.i64 (d2.1 + (1)), ()) : Int × Unit)))) else bif ilt (↑(List.length a)) (↑(List.length b)) then some (Lp.out (((-1), ()) : Int × Unit)) else some (Lp.out (((0), ()) : Int × Unit))) (((i:Int), ()) : Int × Unit) = some (cmpL (a.drop i) (b.drop i), ()) := by
    intro d
    induction d with
    | zero =>
      intro i hi
      refine whileO_out ?_
      simp only [ilt_false.2 (show (a.length:Int) ≤ (i:Int) by omega), cond_false]
      rw [List.drop_eq_nil_of_le (show a.length ≤ i by omega), cmpL_nil, List.length_drop]
      by_cases hb : a.length < b.length
      · rw [ilt_iff.2 (by omega), cond_true, if_pos (by omega)]
      · rw [ilt_false.2 (by omega), cond_false, if_neg (by omega)]
    | succ d ih =>
      intro i hi
      have hd : a.drop i = a.getD i 0 :: a.drop (i + 1) := by
        rw [List.drop_eq_getElem_cons (by omega), List.getD_eq_getElem?_getD, List.getElem?_eq_getElem (by omega)]; rfl
      by_cases hb : b.length ≤ i
      · refine whileO_out ?_
        simp only [ilt_iff.2 (show (i:Int) < (a.length:Int) by omega), cond_true]
        rw [gd_pos ⟨by omega, by omega⟩, show ile (b.length:Int) (i:Int) = true from ile_iff.2 (by omega), cond_true, hd, List.drop_eq_nil_of_le hb]
        rfl
      · have hbd : b.drop i = b.getD i 0 :: b.drop (i + 1) := by
          rw [List.drop_eq_getElem_cons (by omega), List.getD_eq_getElem?_getD, List.getElem?_eq_getElem (by omega)]; rfl
        have hc : cmpL (a.drop i) (b.drop i) = if cmpI (a.getD i 0) (b.getD i 0) ≠ 0 then cmpI (a.getD i 0) (b.getD i 0) else cmpL (a.drop (i + 1)) (b.drop (i + 1)) := by rw [hd, hbd]; rfl
        have ef : ile (b.length:Int) (i:Int) = false := ile_false.2 (by omega)
        rw [hc]
        by_cases hz : cmpI (a.getD i 0) (b.getD i 0) = 0
        · rw [if_neg (fun h => h hz)]
          refine (whileO_go (s' := (((i + 1:Nat):Int), ())) ?_).trans (ih (i + 1) (by omega))
          simp only [ilt_iff.2 (show (i:Int) < (a.length:Int) by omega), cond_true, Int.toNat_natCast]
          rw [gd_pos ⟨by omega, by omega⟩, ef, cond_false, gd_pos ⟨by omega, by omega⟩, hz, ieq_iff.2 rfl, Bool.not_true, cond_false, wr_id (by omega)]; rfl
        · rw [if_pos hz]
          refine whileO_out ?_
          simp only [ilt_iff.2 (show (i:Int) < (a.length:Int) by omega), cond_true, Int.toNat_natCast]
          rw [gd_pos ⟨by omega, by omega⟩, ef, cond_false, gd_pos ⟨by omega, by omega⟩, ieq_false.2 hz, Bool.not_false, cond_true]
  have := key a.length 0 (by omega)
  rw [List.drop_zero, List.drop_zero] at this
  exact this
set_option maxRecDepth 100000 in
theorem ok60 : con60.Ok Try.prog := Con.of_goal mixed (okC ok102 okN) con60 goal60
end Go.Schur
set_option linter.unusedVariables false
set_option linter.unusedSimpArgs false
namespace Go.Schur
open Go Go.Ab Go.Proofs
def told (a b c:List Int) (l : List TermD) : Int := if c ∈ l.map (·.1) then ruleF a b c else 0
theorem g_getD {l : List TermD} {i : Nat} (h : i < l.length) : l.getD i (([]:List Int), (0:Int), ()) = l[i] := by
  rw [List.getD_eq_getElem?_getD, List.getElem?_eq_getElem h]; rfl
theorem prod_facts (a b:List Int) : prodF a b = prodF b a ∧ (prodF a b).1.length ≤ 1000 ∧ (∀ (x : List Int × Int × Unit), List.Mem x (prodF a b).1 → small x.1) := by
  by_cases h : shapeB a = true ∧ shapeB b = true
  · refine ⟨prod_comm h.1 h.2, ?_⟩
    have s1 := shape_sum h.1
    have s2 := shape_sum h.2
    rw [prod_ok h.1 h.2]
    by_cases h8 : 8 < boxW a + boxW b
    · rw [if_pos h8]; exact ⟨by simp, fun x h => by cases h⟩
    · rw [if_neg h8]
      refine ⟨?_, ?_⟩
      · have h1 := terms_len (x := a) (y := b) (a := shapesF (boxW a + boxW b))
        have h2 := shapes_len (n := boxW a + boxW b) (by omega) (by omega)
        show (termsF a b (shapesF (boxW a + boxW b))).length ≤ 1000
        omega
      · exact term_small fun c hc => (shapeB_iff.1 (shapes_mem (by omega) (by omega) hc)).1
  · have e : prodF a b = ([], 2, ()) := by unfold prodF; rw [if_neg h]
    have e' : prodF b a = ([], 2, ()) := by unfold prodF; rw [if_neg fun h' => h ⟨h'.2, h'.1⟩]
    rw [e, e']
    exact ⟨rfl, by simp, fun x h => by cases h⟩
set_option maxHeartbeats 4000000 in
theorem goal15 : con15.goal Try.prog (spOf [con20, con52, con54, con55, con53, con22, con41, con60, con51, con24]) g15_sh [] lm30 := by
  have e : (∀ (a b c:List Int), (small a ∧ small b ∧ small c) → g15 a b c = some (true, ())) = con15.goal Try.prog (spOf [con20, con52, con54, con55, con53, con22, con41, con60, con51, con24]) g15_sh [] lm30 := by kernel_rfl
  rw [← e]
  rintro a b c ⟨ha, hb, hc⟩
  have h12 : ∀ l : List Int, (l.take 12).length ≤ 1000 := fun l => by rw [List.length_take]; omega
  unfold g15 g15_c0 g15_c2 g15_c3 g15_c4 g15_c5 g15_c6 g15_c7 g15_c1
  rw [gd_pos ⟨h12 a, h12 b⟩, gd_pos ⟨h12 b, h12 a⟩]
  simp only [prod_take, rule_take]
  obtain ⟨pc, pl, ps⟩ := prod_facts a b
  rw [← pc]
  have hsm : small (prodF a b).1 := by
    show ((prodF a b).1.length:Int) < 9223372036854775808
    omega
  have heq : eqTL (prodF a b).1 (prodF a b).1 = true := decide_eq_true rfl
  have hi : ieq (prodF a b).2.1 (prodF a b).2.1 = true := ieq_iff.2 rfl
  simp only [heq, hi, Bool.not_true, Bool.not_false, cond_true, cond_false, Bool.false_eq_true, false_implies, gd_true, true_implies, true_and, Bool.true_eq_false, and_true]
  rw [gd_pos pl, gd_pos pl, gd_pos (by exact ⟨hsm, ps⟩)]
  by_cases h3 : sh3 a b c
  · obtain ⟨sa, sb, sc⟩ := h3
    have h3 : sh3 a b c := ⟨sa, sb, sc⟩
    have e2 : ruleG a b c = (ruleF a b c, 0, ()) := by unfold ruleG; exact if_pos h3
    have e4 : ruleG (conjF a) (conjF b) (conjF c) = (ruleF a b c, 0, ()) := by
      unfold ruleG
      rw [if_pos ⟨(conj_shape sa).1, (conj_shape sb).1, (conj_shape sc).1⟩, rule_conj h3]
    have hcl : ∀ l : List Int, shapeB l = true → (conjF l).length ≤ 1000 := fun l h => by
      have := (shape_sum (conj_shape h).1).2.2.2; omega
    rw [e2, e4]
    simp only [show ieq (0:Int) 0 = true from rfl, show ieq (ruleF a b c) (ruleF a b c) = true from ieq_iff.2 rfl, sa, sb, sc, ha, hb, hc, hcl a sa, hcl b sb, hcl c sc, Bool.not_true, Bool.not_false, cond_true, cond_false, Bool.false_eq_true, false_implies, gd_true, true_implies, true_and, Bool.true_eq_false, and_true]
    rw [gd_pos ⟨h12 a, h12 b, h12 c⟩]
    have s1 := shape_sum sa
    have s2 := shape_sum sb
    have s3 := shape_sum sc
    by_cases h8 : 8 < boxW a + boxW b
    · rw [prod_ok sa sb, if_pos h8, rule_box h3 (by omega)]
      simp [gd_true, ieq]
    · rw [prod_ok sa sb, if_neg h8] at ps hsm pl ⊢
      simp only [show ieq (0:Int) 0 = true from rfl, Bool.not_true, Bool.and_false, cond_false, Bool.false_eq_true, false_implies, gd_true]
      have hmem : ∀ d ∈ shapesF (boxW a + boxW b), shapeB d = true ∧ boxW d = boxW a + boxW b := fun d hd => by
        have := box_P (n := (boxW a + boxW b).toNat) (by omega) (l := d) hd
        exact ⟨this.1, by rw [this.2]; omega⟩
      have hrise : ((termsF a b (shapesF (boxW a + boxW b))).map (·.1)).Pairwise fun x y => cmpL x y < 0 :=
        List.Pairwise.sublist terms_sub (P_rise (boxW a + boxW b).toNat (List.mem_range.2 (by omega)))
      have hin : ∀ t ∈ termsF a b (shapesF (boxW a + boxW b)), t.2.1 = ruleF a b t.1 ∧ 0 < t.2.1 := fun t ht => (terms_mem ht).2
      have htold : told a b c (termsF a b (shapesF (boxW a + boxW b))) = ruleF a b c := by
        unfold told
        split
        · rfl
        · rename_i hk
          have hn : ¬ 0 < ruleF a b c := fun hp => hk (terms_key (by
            by_cases e : boxW a + boxW b = boxW c
            · obtain ⟨r, hr, hb', _, rm, _⟩ := shape_PP sc
              exact List.mem_map.2 ⟨r, by rw [show (boxW a + boxW b).toNat = r.sum by omega]; exact rm, hr.symm⟩
            · rw [rule_box h3 e] at hp; omega) hp)
          have := rule_nn (a := a) (b := b) (c := c)
          omega
      have pl' : (termsF a b (shapesF (boxW a + boxW b))).length ≤ 1000 := pl
      have ps' : ∀ (x : List Int × Int × Unit), List.Mem x (termsF a b (shapesF (boxW a + boxW b))) → small x.1 := ps
      clear ps hsm pl heq hi pc
      generalize termsF a b (shapesF (boxW a + boxW b)) = L at hrise hin htold pl' ps' ⊢
      have h0 : told a b c (L.take 0) = 0 := by simp [told]
      rw [show (((0:Int), (0:Int), ()) : Int × Int × Unit) = (fun i : Nat => ((told a b c (L.take i), (i:Int), ()) : Int × Int × Unit)) 0 from by show _ = (told a b c (L.take 0), _, ()); rw [h0]; rfl]
      refine whileO_ind (fun i : Nat => ((told a b c (L.take i), (i:Int), ()) : Int × Int × Unit)) L.length (true, ()) (fun i hlt => ?_) ?_
      · have hLi := hin _ (List.getElem_mem hlt)
        have htk : told a b c (L.take (i + 1)) = if L[i].1 = c then L[i].2.1 else told a b c (L.take i) := by
          unfold told
          rw [List.take_succ_eq_append_getElem hlt, List.map_append]
          by_cases hc' : L[i].1 = c
          · rw [if_pos (by simp [hc']), if_pos hc', hLi.1, hc']
          · have : (c ∈ List.map (fun x => x.1) (L.take i) ++ List.map (fun x => x.1) [L[i]]) ↔ c ∈ List.map (fun x => x.1) (L.take i) := by
              rw [List.mem_append]
              constructor
              · rintro (h | h)
                · exact h
                · exact absurd (by simpa using h : c = L[i].1).symm hc'
              · exact Or.inl
            rw [if_neg hc']
            by_cases hm : c ∈ List.map (fun x => x.1) (L.take i)
            · rw [if_pos (this.2 hm), if_pos hm]
            · rw [if_neg (fun h => hm (this.1 h)), if_neg hm]
        have hcount : ilt L[i].2.1 1 = false := ilt_false.2 (by omega)
        have hsmi : small L[i].1 := ps' _ (List.getElem_mem hlt)
        have heqc : eqL1 L[i].1 c = decide (L[i].1 = c) := rfl
        simp only [ilt_iff.2 (show (i:Int) < (L.length:Int) by omega), cond_true, Int.toNat_natCast, g_getD hlt, hcount, Bool.not_false, Bool.true_and, imp_self, gd_true, cond_false, true_and]
        rw [gd_pos ⟨by omega, by omega⟩]
        rw [wr_id (n := (i:Int) + 1) (by omega), wr_id (n := (i:Int) - 1) (by omega), htk, heqc]
        have hlast : (some (Lp.go (told a b c (L.take i), (((i + 1:Nat):Int)), ())) : Option (Lp (Int × Int × Unit) (Bool × Unit))) = some (Lp.go (told a b c (L.take i), (i:Int) + 1, ())) := rfl
        by_cases hz : i = 0
        · have hzi : ilt (0:Int) (i:Int) = false := ilt_false.2 (by omega)
          simp only [hzi, Bool.false_eq_true, false_implies, gd_true, cond_false, hsmi]
          by_cases hd : L[i].1 = c
          · rw [decide_eq_true hd, cond_true, if_pos hd]; rfl
          · rw [decide_eq_false hd, cond_false, if_neg hd]; rfl
        · have hzi : ilt (0:Int) (i:Int) = true := ilt_iff.2 (by omega)
          have hpe : ((i:Int) - 1).toNat = i - 1 := by omega
          have hpl : i - 1 < L.length := by omega
          have hsmp : small L[i - 1].1 := ps' _ (List.getElem_mem hpl)
          have hcm : ile 0 (cmpL L[i - 1].1 L[i].1) = false := ile_false.2 (by
            have := (List.pairwise_iff_getElem.1 hrise) (i - 1) i (by simpa using hpl) (by simpa using hlt) (by omega)
            simpa using this)
          simp only [hzi, true_implies, gd_true, cond_true, hsmi, hpe, g_getD hpl, hsmp, hcm, cond_false]
          repeat first | rw [gd_pos (⟨trivial, trivial, trivial⟩ : True ∧ True ∧ True)] | rw [gd_pos ⟨trivial, trivial, by omega, by omega⟩] | rw [gd_pos ⟨by omega, by omega⟩]
          by_cases hd : L[i].1 = c
          · rw [decide_eq_true hd, cond_true, if_pos hd]; rfl
          · rw [decide_eq_false hd, cond_false, if_neg hd]; rfl
      · simp only [ilt_false.2 (Int.le_refl _), cond_false, List.take_length, htold, ieq_iff.2 rfl, imp_self, gd_true, cond_true]
  · have e2 : ruleG a b c = (0, 2, ()) := by unfold ruleG; exact if_neg h3
    have i2 : ieq 2 0 = false := rfl
    rw [e2]
    simp only [show ieq (2:Int) 0 = false from rfl, show ieq (2:Int) 2 = true from rfl, Bool.not_true, Bool.not_false, cond_true, cond_false, Bool.false_eq_true, false_implies, gd_true, true_implies, true_and, Bool.true_eq_false, and_true]
    rw [gd_pos ⟨h12 a, h12 b, h12 c⟩]
set_option maxRecDepth 100000 in
theorem ok15 : con15.Ok Try.prog := Con.of_goal mixed (okC ok20 (okC ok52 (okC ok54 (okC ok55 (okC ok53 (okC ok22 (okC ok41 (okC ok60 (okC ok51 (okC ok24 okN)))))))))) con15 goal15
end Go.Schur
