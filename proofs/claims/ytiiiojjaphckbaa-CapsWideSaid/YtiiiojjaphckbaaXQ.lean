/- Rulers: contract of the law Lengths. -/
import Derived.Test.YtiiiojjaphckbaaXP
set_option linter.unusedVariables false
set_option linter.unusedSimpArgs false
namespace Go.Caps
open Go Go.Ab Go.Proofs

noncomputable def con11 : Con := mkC 11 [.d LI, .d I64] [.bool] (fun (l : List Int) (k : Int) => [small l]) (fun (l : List Int) (k : Int) => (true, ()))
noncomputable def g11_c0 (x1 : Int) : Int := (@id Int (arrGet (8 : Nat) (Ty.int IntKind.i64) ((((0 : Int), (0 : Int), (1 : Int), (3 : Int), (6 : Int), (11 : Int), (17 : Int), (25 : Int), ()) : Int × Int × Int × Int × Int × Int × Int × Int × Unit) : Int × Int × Int × Int × Int × Int × Int × Int × Unit) (Int.toNat x1)))
noncomputable def g11_c1 (x1 : Int) : Bool := bif bif bif ilt x1 (1 : Int) then true else ilt (7 : Int) x1 then true else !ieq (↑(List.length (shortX x1).1) : Int) x1 then true else !ieq (List.getD (shortX x1).1 (Int.toNat (wr IntKind.i64 (x1 - (1 : Int)))) (0 : Int)) (g11_c0 x1)
noncomputable def g11_c2 (x0 : List Int) : Bool := bif bif !ieq (rulX (List.take (90 : Nat) x0)).2.1 (0 : Int) then true else ieq (↑(List.length x0) : Int) (0 : Int) then true else ilt (10 : Int) (↑(List.length x0) : Int)
noncomputable def g11_c3 (x0 : List Int) : Bool := ilt (List.getD x0 (Int.toNat (wr IntKind.i64 ((↑(List.length x0) : Int) - (1 : Int)))) (0 : Int)) (wr IntKind.i64 (Int.tdiv (wr IntKind.i64 ((↑(List.length x0) : Int) * wr IntKind.i64 ((↑(List.length x0) : Int) - (1 : Int)))) (2 : Int)))
noncomputable def g11_c4 (x0 : List Int) : Int := (@id Int (arrGet (8 : Nat) (Ty.int IntKind.i64) ((((0 : Int), (0 : Int), (1 : Int), (3 : Int), (6 : Int), (11 : Int), (17 : Int), (25 : Int), ()) : Int × Int × Int × Int × Int × Int × Int × Int × Unit) : Int × Int × Int × Int × Int × Int × Int × Int × Unit) (List.length x0)))
noncomputable def g11_c5 (x0 : List Int) : Bool := bif ile (↑(List.length x0) : Int) (7 : Int) then ilt (List.getD x0 (Int.toNat (wr IntKind.i64 ((↑(List.length x0) : Int) - (1 : Int)))) (0 : Int)) (g11_c4 x0) else false
noncomputable def g11_c6 (x0 : List Int) (d2 : Int × List Int × Unit) : Int := wr IntKind.i64 (List.getD x0 (Int.toNat (wr IntKind.i64 ((↑(List.length x0) : Int) - (1 : Int)))) (0 : Int) - List.getD x0 (Int.toNat d2.1) (0 : Int))
noncomputable def g11_c7 (x0 : List Int) : Int := wr IntKind.i64 (wr IntKind.i64 ((2 : Int) * List.getD x0 (Int.toNat (wr IntKind.i64 ((↑(List.length x0) : Int) - (1 : Int)))) (0 : Int)) + (1 : Int))
noncomputable def g11_c8 (x0 : List Int) (d2 : Int × List Int × Unit) : Int := wr IntKind.i64 (List.getD x0 (Int.toNat (wr IntKind.i64 ((↑(List.length x0) : Int) - (1 : Int)))) (0 : Int) - List.getD x0 (Int.toNat d2.1) (0 : Int))
noncomputable def g11 (x0 : List Int) (x1 : Int) : Option (Bool × Unit) := bif ieq (shortX x1).2.1 (0 : Int) then gd ((!ilt x1 (1 : Int)) = true → (!ilt x1 (1 : Int)) = true) (gd (ilt x1 (1 : Int) = false → (!ilt x1 (1 : Int)) = true) (gd ((!bif ilt x1 (1 : Int) then true else ilt (7 : Int) x1) = true → (!bif ilt x1 (1 : Int) then true else ilt (7 : Int) x1) = true) (gd ((!bif ilt x1 (1 : Int) then true else ilt (7 : Int) x1) = true → (!bif ilt x1 (1 : Int) then true else ilt (7 : Int) x1) = true ∧ (!bif ilt x1 (1 : Int) then true else ilt (7 : Int) x1) = true) (gd ((bif ilt x1 (1 : Int) then true else ilt (7 : Int) x1) = false → (!bif ilt x1 (1 : Int) then true else ilt (7 : Int) x1) = true) (gd ((!bif bif ilt x1 (1 : Int) then true else ilt (7 : Int) x1 then true else !ieq (↑(List.length (shortX x1).1) : Int) x1) = true → (!bif bif ilt x1 (1 : Int) then true else ilt (7 : Int) x1 then true else !ieq (↑(List.length (shortX x1).1) : Int) x1) = true) (gd ((!bif bif ilt x1 (1 : Int) then true else ilt (7 : Int) x1 then true else !ieq (↑(List.length (shortX x1).1) : Int) x1) = true → (!bif bif ilt x1 (1 : Int) then true else ilt (7 : Int) x1 then true else !ieq (↑(List.length (shortX x1).1) : Int) x1) = true ∧ (!bif bif ilt x1 (1 : Int) then true else ilt (7 : Int) x1 then true else !ieq (↑(List.length (shortX x1).1) : Int) x1) = true ∧ (0 : Int) ≤ wr IntKind.i64 (x1 - (1 : Int)) ∧ wr IntKind.i64 (x1 - (1 : Int)) < (↑(List.length (shortX x1).1) : Int)) (gd ((!bif bif ilt x1 (1 : Int) then true else ilt (7 : Int) x1 then true else !ieq (↑(List.length (shortX x1).1) : Int) x1) = true → (!bif bif ilt x1 (1 : Int) then true else ilt (7 : Int) x1 then true else !ieq (↑(List.length (shortX x1).1) : Int) x1) = true) (gd ((!bif bif ilt x1 (1 : Int) then true else ilt (7 : Int) x1 then true else !ieq (↑(List.length (shortX x1).1) : Int) x1) = true → (!bif bif ilt x1 (1 : Int) then true else ilt (7 : Int) x1 then true else !ieq (↑(List.length (shortX x1).1) : Int) x1) = true ∧ (!bif bif ilt x1 (1 : Int) then true else ilt (7 : Int) x1 then true else !ieq (↑(List.length (shortX x1).1) : Int) x1) = true ∧ (0 : Int) ≤ x1 ∧ x1 < (8 : Int)) (gd ((!bif bif ilt x1 (1 : Int) then true else ilt (7 : Int) x1 then true else !ieq (↑(List.length (shortX x1).1) : Int) x1) = true → (!bif bif ilt x1 (1 : Int) then true else ilt (7 : Int) x1 then true else !ieq (↑(List.length (shortX x1).1) : Int) x1) = true ∧ (!bif bif ilt x1 (1 : Int) then true else ilt (7 : Int) x1 then true else !ieq (↑(List.length (shortX x1).1) : Int) x1) = true) (gd ((bif bif ilt x1 (1 : Int) then true else ilt (7 : Int) x1 then true else !ieq (↑(List.length (shortX x1).1) : Int) x1) = false → (!bif bif ilt x1 (1 : Int) then true else ilt (7 : Int) x1 then true else !ieq (↑(List.length (shortX x1).1) : Int) x1) = true) (bif g11_c1 x1 then some ((false, ()) : Bool × Unit) else gd (small (shortX x1).1) (gd ((!!(rulX (shortX x1).1).1) = true → (!!(rulX (shortX x1).1).1) = true) (gd ((!(rulX (shortX x1).1).1) = false → (!!(rulX (shortX x1).1).1) = true) (bif bif !(rulX (shortX x1).1).1 then true else !ieq (rulX (shortX x1).1).2.1 (0 : Int) then some ((false, ()) : Bool × Unit) else gd (small (List.take (90 : Nat) x0)) (gd ((!!ieq (rulX (List.take (90 : Nat) x0)).2.1 (0 : Int)) = true → (!!ieq (rulX (List.take (90 : Nat) x0)).2.1 (0 : Int)) = true) (gd ((!!ieq (rulX (List.take (90 : Nat) x0)).2.1 (0 : Int)) = true → (!!ieq (rulX (List.take (90 : Nat) x0)).2.1 (0 : Int)) = true) (gd ((!ieq (rulX (List.take (90 : Nat) x0)).2.1 (0 : Int)) = false → (!!ieq (rulX (List.take (90 : Nat) x0)).2.1 (0 : Int)) = true) (gd ((!bif !ieq (rulX (List.take (90 : Nat) x0)).2.1 (0 : Int) then true else ieq (↑(List.length x0) : Int) (0 : Int)) = true → (!bif !ieq (rulX (List.take (90 : Nat) x0)).2.1 (0 : Int) then true else ieq (↑(List.length x0) : Int) (0 : Int)) = true) (gd ((!bif !ieq (rulX (List.take (90 : Nat) x0)).2.1 (0 : Int) then true else ieq (↑(List.length x0) : Int) (0 : Int)) = true → (!bif !ieq (rulX (List.take (90 : Nat) x0)).2.1 (0 : Int) then true else ieq (↑(List.length x0) : Int) (0 : Int)) = true) (gd ((bif !ieq (rulX (List.take (90 : Nat) x0)).2.1 (0 : Int) then true else ieq (↑(List.length x0) : Int) (0 : Int)) = false → (!bif !ieq (rulX (List.take (90 : Nat) x0)).2.1 (0 : Int) then true else ieq (↑(List.length x0) : Int) (0 : Int)) = true) (bif g11_c2 x0 then gd (ieq (rulX (List.take (90 : Nat) x0)).2.1 (2 : Int) = true → ieq (rulX (List.take (90 : Nat) x0)).2.1 (2 : Int) = true) (some ((bif ieq (rulX (List.take (90 : Nat) x0)).2.1 (2 : Int) then true else false, ()) : Bool × Unit)) else bif !(rulX (List.take (90 : Nat) x0)).1 then some ((true, ()) : Bool × Unit) else gd ((0 : Int) ≤ wr IntKind.i64 ((↑(List.length x0) : Int) - (1 : Int)) ∧ wr IntKind.i64 ((↑(List.length x0) : Int) - (1 : Int)) < (↑(List.length x0) : Int)) (gd ((2 : Int) ≠ (0 : Int)) (gd ((!g11_c3 x0) = true → (!g11_c3 x0) = true) (gd ((!g11_c3 x0 && (!g11_c3 x0 && ile (↑(List.length x0) : Int) (7 : Int))) = true → (!g11_c3 x0 && (!g11_c3 x0 && ile (↑(List.length x0) : Int) (7 : Int))) = true ∧ (!g11_c3 x0 && (!g11_c3 x0 && ile (↑(List.length x0) : Int) (7 : Int))) = true ∧ (0 : Int) ≤ (↑(List.length x0) : Int) ∧ (↑(List.length x0) : Int) < (8 : Int)) (gd ((!g11_c3 x0 && (!g11_c3 x0 && ile (↑(List.length x0) : Int) (7 : Int))) = true → (!g11_c3 x0 && (!g11_c3 x0 && ile (↑(List.length x0) : Int) (7 : Int))) = true ∧ (!g11_c3 x0 && (!g11_c3 x0 && ile (↑(List.length x0) : Int) (7 : Int))) = true) (gd ((!g11_c3 x0) = true → (!g11_c3 x0) = true ∧ (!g11_c3 x0) = true ∧ (ile (↑(List.length x0) : Int) (7 : Int) = true → (!g11_c3 x0 && (!g11_c3 x0 && ile (↑(List.length x0) : Int) (7 : Int))) = true)) (gd (g11_c3 x0 = false → (!g11_c3 x0) = true) (bif bif g11_c3 x0 then true else g11_c5 x0 then some ((false, ()) : Bool × Unit) else gd ((0 : Nat) = (0 : Nat)) (whileO (fun (d2 : Int × List Int × Unit) => bif ile (0 : Int) d2.1 then gd ((0 : Int) ≤ d2.1 ∧ d2.1 < (↑(List.length x0) : Int)) (gd (List.length d2.2.1 ≤ List.length d2.2.1) (gd ((List.length d2.2.1 + (1 : Nat)) * (8 : Nat) ≤ (1099511627776 : Nat)) (gd (List.length d2.2.1 + (1 : Nat) = List.length (List.take (List.length d2.2.1) d2.2.1 ++ g11_c6 x0 d2 :: ([] : List Int))) (some (Lp.go ((wr IntKind.i64 (d2.1 - (1 : Int)), List.take (List.length d2.2.1) d2.2.1 ++ g11_c6 x0 d2 :: ([] : List Int), ()) : Int × List Int × Unit)))))) else gd ((0 : Nat) + List.length d2.2.1 ≤ List.length d2.2.1) (gd (small (List.take (List.length d2.2.1) (List.drop (0 : Nat) d2.2.1))) (gd ((!!(rulX (List.take (List.length d2.2.1) (List.drop (0 : Nat) d2.2.1))).1) = true → (!!(rulX (List.take (List.length d2.2.1) (List.drop (0 : Nat) d2.2.1))).1) = true) (gd ((!(rulX (List.take (List.length d2.2.1) (List.drop (0 : Nat) d2.2.1))).1) = false → (!!(rulX (List.take (List.length d2.2.1) (List.drop (0 : Nat) d2.2.1))).1) = true) (bif bif !(rulX (List.take (List.length d2.2.1) (List.drop (0 : Nat) d2.2.1))).1 then true else !ieq (rulX (List.take (List.length d2.2.1) (List.drop (0 : Nat) d2.2.1))).2.1 (0 : Int) then some (Lp.out ((false, ()) : Bool × Unit)) else gd (ile (2 : Int) (g11_c7 x0) = true → ile (2 : Int) (g11_c7 x0) = true) (gd (ile (2 : Int) (g11_c7 x0) = true → ile (2 : Int) (g11_c7 x0) = true) (bif bif ile (2 : Int) (g11_c7 x0) then ile (g11_c7 x0) (40 : Int) else false then gd (small (List.take (90 : Nat) x0)) (gd ((!!(sumsX (g11_c7 x0) (List.take (90 : Nat) x0)).1) = true → (!!(sumsX (g11_c7 x0) (List.take (90 : Nat) x0)).1) = true) (gd ((!(sumsX (g11_c7 x0) (List.take (90 : Nat) x0)).1) = false → (!!(sumsX (g11_c7 x0) (List.take (90 : Nat) x0)).1) = true) (bif bif !(sumsX (g11_c7 x0) (List.take (90 : Nat) x0)).1 then true else !ieq (sumsX (g11_c7 x0) (List.take (90 : Nat) x0)).2.1 (0 : Int) then some (Lp.out ((false, ()) : Bool × Unit)) else some (Lp.out ((true, ()) : Bool × Unit))))) else some (Lp.out ((true, ()) : Bool × Unit))))))))) ((wr IntKind.i64 ((↑(List.length x0) : Int) - (1 : Int)), ([] : List Int), ()) : Int × List Int × Unit)))))))))))))))))))))))))))))) else bif !ieq (shortX x1).2.1 (2 : Int) then some ((false, ()) : Bool × Unit) else gd (small (List.take (90 : Nat) x0)) (gd ((!!ieq (rulX (List.take (90 : Nat) x0)).2.1 (0 : Int)) = true → (!!ieq (rulX (List.take (90 : Nat) x0)).2.1 (0 : Int)) = true) (gd ((!!ieq (rulX (List.take (90 : Nat) x0)).2.1 (0 : Int)) = true → (!!ieq (rulX (List.take (90 : Nat) x0)).2.1 (0 : Int)) = true) (gd ((!ieq (rulX (List.take (90 : Nat) x0)).2.1 (0 : Int)) = false → (!!ieq (rulX (List.take (90 : Nat) x0)).2.1 (0 : Int)) = true) (gd ((!bif !ieq (rulX (List.take (90 : Nat) x0)).2.1 (0 : Int) then true else ieq (↑(List.length x0) : Int) (0 : Int)) = true → (!bif !ieq (rulX (List.take (90 : Nat) x0)).2.1 (0 : Int) then true else ieq (↑(List.length x0) : Int) (0 : Int)) = true) (gd ((!bif !ieq (rulX (List.take (90 : Nat) x0)).2.1 (0 : Int) then true else ieq (↑(List.length x0) : Int) (0 : Int)) = true → (!bif !ieq (rulX (List.take (90 : Nat) x0)).2.1 (0 : Int) then true else ieq (↑(List.length x0) : Int) (0 : Int)) = true) (gd ((bif !ieq (rulX (List.take (90 : Nat) x0)).2.1 (0 : Int) then true else ieq (↑(List.length x0) : Int) (0 : Int)) = false → (!bif !ieq (rulX (List.take (90 : Nat) x0)).2.1 (0 : Int) then true else ieq (↑(List.length x0) : Int) (0 : Int)) = true) (bif g11_c2 x0 then gd (ieq (rulX (List.take (90 : Nat) x0)).2.1 (2 : Int) = true → ieq (rulX (List.take (90 : Nat) x0)).2.1 (2 : Int) = true) (some ((bif ieq (rulX (List.take (90 : Nat) x0)).2.1 (2 : Int) then true else false, ()) : Bool × Unit)) else bif !(rulX (List.take (90 : Nat) x0)).1 then some ((true, ()) : Bool × Unit) else gd ((0 : Int) ≤ wr IntKind.i64 ((↑(List.length x0) : Int) - (1 : Int)) ∧ wr IntKind.i64 ((↑(List.length x0) : Int) - (1 : Int)) < (↑(List.length x0) : Int)) (gd ((2 : Int) ≠ (0 : Int)) (gd ((!g11_c3 x0) = true → (!g11_c3 x0) = true) (gd ((!g11_c3 x0 && (!g11_c3 x0 && ile (↑(List.length x0) : Int) (7 : Int))) = true → (!g11_c3 x0 && (!g11_c3 x0 && ile (↑(List.length x0) : Int) (7 : Int))) = true ∧ (!g11_c3 x0 && (!g11_c3 x0 && ile (↑(List.length x0) : Int) (7 : Int))) = true ∧ (0 : Int) ≤ (↑(List.length x0) : Int) ∧ (↑(List.length x0) : Int) < (8 : Int)) (gd ((!g11_c3 x0 && (!g11_c3 x0 && ile (↑(List.length x0) : Int) (7 : Int))) = true → (!g11_c3 x0 && (!g11_c3 x0 && ile (↑(List.length x0) : Int) (7 : Int))) = true ∧ (!g11_c3 x0 && (!g11_c3 x0 && ile (↑(List.length x0) : Int) (7 : Int))) = true) (gd ((!g11_c3 x0) = true → (!g11_c3 x0) = true ∧ (!g11_c3 x0) = true ∧ (ile (↑(List.length x0) : Int) (7 : Int) = true → (!g11_c3 x0 && (!g11_c3 x0 && ile (↑(List.length x0) : Int) (7 : Int))) = true)) (gd (g11_c3 x0 = false → (!g11_c3 x0) = true) (bif bif g11_c3 x0 then true else g11_c5 x0 then some ((false, ()) : Bool × Unit) else gd ((0 : Nat) = (0 : Nat)) (whileO (fun (d2 : Int × List Int × Unit) => bif ile (0 : Int) d2.1 then gd ((0 : Int) ≤ d2.1 ∧ d2.1 < (↑(List.length x0) : Int)) (gd (List.length d2.2.1 ≤ List.length d2.2.1) (gd ((List.length d2.2.1 + (1 : Nat)) * (8 : Nat) ≤ (1099511627776 : Nat)) (gd (List.length d2.2.1 + (1 : Nat) = List.length (List.take (List.length d2.2.1) d2.2.1 ++ g11_c8 x0 d2 :: ([] : List Int))) (some (Lp.go ((wr IntKind.i64 (d2.1 - (1 : Int)), List.take (List.length d2.2.1) d2.2.1 ++ g11_c8 x0 d2 :: ([] : List Int), ()) : Int × List Int × Unit)))))) else gd ((0 : Nat) + List.length d2.2.1 ≤ List.length d2.2.1) (gd (small (List.take (List.length d2.2.1) (List.drop (0 : Nat) d2.2.1))) (gd ((!!(rulX (List.take (List.length d2.2.1) (List.drop (0 : Nat) d2.2.1))).1) = true → (!!(rulX (List.take (List.length d2.2.1) (List.drop (0 : Nat) d2.2.1))).1) = true) (gd ((!(rulX (List.take (List.length d2.2.1) (List.drop (0 : Nat) d2.2.1))).1) = false → (!!(rulX (List.take (List.length d2.2.1) (List.drop (0 : Nat) d2.2.1))).1) = true) (bif bif !(rulX (List.take (List.length d2.2.1) (List.drop (0 : Nat) d2.2.1))).1 then true else !ieq (rulX (List.take (List.length d2.2.1) (List.drop (0 : Nat) d2.2.1))).2.1 (0 : Int) then some (Lp.out ((false, ()) : Bool × Unit)) else gd (ile (2 : Int) (g11_c7 x0) = true → ile (2 : Int) (g11_c7 x0) = true) (gd (ile (2 : Int) (g11_c7 x0) = true → ile (2 : Int) (g11_c7 x0) = true) (bif bif ile (2 : Int) (g11_c7 x0) then ile (g11_c7 x0) (40 : Int) else false then gd (small (List.take (90 : Nat) x0)) (gd ((!!(sumsX (g11_c7 x0) (List.take (90 : Nat) x0)).1) = true → (!!(sumsX (g11_c7 x0) (List.take (90 : Nat) x0)).1) = true) (gd ((!(sumsX (g11_c7 x0) (List.take (90 : Nat) x0)).1) = false → (!!(sumsX (g11_c7 x0) (List.take (90 : Nat) x0)).1) = true) (bif bif !(sumsX (g11_c7 x0) (List.take (90 : Nat) x0)).1 then true else !ieq (sumsX (g11_c7 x0) (List.take (90 : Nat) x0)).2.1 (0 : Int) then some (Lp.out ((false, ()) : Bool × Unit)) else some (Lp.out ((true, ()) : Bool × Unit))))) else some (Lp.out ((true, ()) : Bool × Unit))))))))) ((wr IntKind.i64 ((↑(List.length x0) : Int) - (1 : Int)), ([] : List Int), ()) : Int × List Int × Unit))))))))))))))))
noncomputable def g11_sh : List LSh := LSh.mk (((13, TV.slf (0) (1)) : Nat × TV) :: ((14, TV.v (Ty.int IntKind.i64)) : Nat × TV) :: ([] : List (Nat × TV))) (TB.arr (Ty.int IntKind.i64) true :: ([] : List TB)) :: ([] : List LSh)


end Go.Caps

set_option linter.unusedVariables false
set_option linter.unusedSimpArgs false
namespace Go.Caps
open Go Go.Ab Go.Proofs

/-- All differences are different. -/
def difR (l : List Int) : Prop := ∀ a1 ∈ l, ∀ a2 ∈ l, ∀ b1 ∈ l, ∀ b2 ∈ l, b1 < a1 → b2 < a2 → a1 < a2 → a1 - b1 ≠ a2 - b2
theorem take_mem' {l : List Int} (hr : ris l = true) {i : Nat} (hi : i < l.length) {b : Int} : b ∈ l.take i ↔ b ∈ l ∧ b < l.getD i 0 := by
  have hpw := ris_pw hr
  rw [List.mem_take_iff_getElem]
  constructor
  · rintro ⟨j, hj, rfl⟩
    refine ⟨List.getElem_mem _, ?_⟩
    have := ris_at hr (show j < i by omega) hi
    rwa [gd_at (l := l) (i := j) (by omega)] at this
  · rintro ⟨hb, hle⟩
    obtain ⟨j, hj, rfl⟩ := List.getElem_of_mem hb
    refine ⟨j, ?_, rfl⟩
    rcases Nat.lt_or_ge j i with h | h
    · omega
    · rcases Nat.eq_or_lt_of_le h with e | e
      · subst e; rw [gd_at hi] at hle; omega
      · have := ris_at hr e hj
        rw [gd_at hj] at this; omega
theorem ris_lt {l : List Int} (hr : ris l = true) {i j : Nat} (hi : i < l.length) (hj : j < l.length) (h : l[i] < l[j]) : i < j := by
  rcases Nat.lt_or_ge i j with h' | h'
  · exact h'
  · rcases Nat.eq_or_lt_of_le h' with e | e
    · subst e; omega
    · have := ris_at hr e hi
      rw [gd_at hi, gd_at hj] at this; omega

theorem difR_iff {l : List Int} (hr : ris l = true) : nodK (difsR l) = true ↔ difR l := by
  have hpw := ris_pw hr
  rw [nodK_iff]
  unfold difsR List.Nodup
  rw [List.pairwise_flatMap]
  constructor
  · rintro ⟨_, hp⟩ a1 ha1 a2 ha2 b1 hb1 b2 hb2 h1 h2 hlt
    obtain ⟨i, hi, rfl⟩ := List.getElem_of_mem ha1
    obtain ⟨j, hj, rfl⟩ := List.getElem_of_mem ha2
    have hij := ris_lt hr hi hj hlt
    have := List.pairwise_iff_getElem.1 hp i j (by simpa using hi) (by simpa using hj) hij
    simp only [List.getElem_range] at this
    have := this (l.getD i 0 - b1) (List.mem_map.2 ⟨b1, (take_mem' hr hi).2 ⟨hb1, by rw [gd_at hi]; exact h1⟩, rfl⟩) (l.getD j 0 - b2) (List.mem_map.2 ⟨b2, (take_mem' hr hj).2 ⟨hb2, by rw [gd_at hj]; exact h2⟩, rfl⟩)
    rwa [gd_at hi, gd_at hj] at this
  · intro hd
    constructor
    · intro i hi
      rw [List.pairwise_map]
      refine List.Pairwise.imp (fun {b b'} hlt he => ?_) (List.Pairwise.sublist (List.take_sublist _ _) hpw)
      omega
    · refine List.Pairwise.imp_of_mem (fun {i j} hi hj hlt x hx y hy he => ?_) List.pairwise_lt_range
      have hi := List.mem_range.1 hi
      have hj := List.mem_range.1 hj
      obtain ⟨b1, hb1, rfl⟩ := List.mem_map.1 hx
      obtain ⟨b2, hb2, rfl⟩ := List.mem_map.1 hy
      obtain ⟨m1, l1⟩ := (take_mem' hr hi).1 hb1
      obtain ⟨m2, l2⟩ := (take_mem' hr hj).1 hb2
      exact hd _ (mem_at hi) _ (mem_at hj) b1 m1 b2 m2 l1 l2 (ris_at hr hlt hj) he

/-! ### At least as long as all differences -/
theorem nod_len : ∀ (n : Nat) {l : List Int}, l.Nodup → (∀ x ∈ l, 1 ≤ x ∧ x ≤ (n : Int)) → l.length ≤ n
  | 0, l, hn, hb => by
    cases l with
    | nil => simp
    | cons x l => have := hb x (by simp); omega
  | n + 1, l, hn, hb => by
    by_cases hm : ((n + 1 : Nat) : Int) ∈ l
    · have h1 := nod_len n (l := l.erase ((n + 1 : Nat) : Int)) (hn.erase _) fun x hx => by
        have h2 := (List.Nodup.mem_erase_iff hn).1 hx
        have := hb x h2.2
        exact ⟨this.1, by have := h2.1; omega⟩
      rw [List.length_erase_of_mem hm] at h1
      omega
    · have := nod_len n hn fun x hx => by
        have := hb x hx
        have h2 : x ≠ ((n + 1 : Nat) : Int) := fun e => hm (e ▸ hx)
        omega
      omega
theorem difs_len {l : List Int} : 2 * (difsR l).length = l.length * (l.length - 1) := by
  unfold difsR
  rw [List.length_flatMap]
  have key : ∀ n, n ≤ l.length → 2 * ((List.range n).map fun i => ((l.take i).map fun b => l.getD i 0 - b).length).sum = n * (n - 1) := by
    intro n
    induction n with
    | zero => intro _; rfl
    | succ n ih =>
      intro hn
      have := ih (by omega)
      rw [List.range_succ, List.map_append, List.sum_append, Nat.mul_add, this]
      simp only [List.map_cons, List.map_nil, List.sum_cons, List.sum_nil, List.length_map, List.length_take, Nat.min_eq_left (show n ≤ l.length by omega)]
      cases n with
      | zero => rfl
      | succ n => simp only [Nat.add_sub_cancel]; grind
  exact key _ (Nat.le_refl _)
theorem le_last {l : List Int} (hr : ris l = true) {i : Nat} (hi : i < l.length) : l.getD i 0 ≤ l.getD (l.length - 1) 0 := by
  by_cases he : i = l.length - 1
  · subst he; exact Int.le_refl _
  · have := ris_at hr (show i < l.length - 1 by omega) (by omega); omega
theorem rul_len {l : List Int} (hr : ris l = true) (h0 : ∀ x ∈ l, 0 ≤ x) (h1 : 1 ≤ l.length) (hd : nodK (difsR l) = true) : (l.length : Int) * ((l.length : Int) - 1) ≤ 2 * l.getD (l.length - 1) 0 := by
  have hl0 := h0 _ (mem_at (l := l) (i := l.length - 1) (by omega))
  have := nod_len (l.getD (l.length - 1) 0).toNat (nodK_iff.1 hd) fun d hd => by
    obtain ⟨i, j, hj, hi, rfl⟩ := mem_difs.1 hd
    have a := ris_at hr hj hi
    have b := le_last hr hi
    have c := h0 _ (mem_at (l := l) (i := j) (by omega))
    omega
  have e := difs_len (l := l)
  have e2 : (l.length : Int) * ((l.length : Int) - 1) = ((l.length * (l.length - 1) : Nat) : Int) := by
    rw [Int.natCast_mul]; congr 1; omega
  rw [e2, ← e]
  omega

/-! ### No shorter ones -/
def force' {α : Type} (x : Nat) (f : Nat → α) : α := Nat.rec (f 0) (fun m _ => f (Nat.succ m)) x
theorem force_eq' {α : Type} (x : Nat) (f : Nat → α) : force' x f = f x := by cases x <;> rfl
/-- Whether so many numbers more can follow: R are the distances to those before, D the differences. -/
def gol : Nat → Nat → Nat → Nat → Bool
  | 0, _, _, _ => true
  | need + 1, room, R, D => (List.range' 1 (room - need)).any fun s => force' ((R ||| 1) <<< s) fun R' => bif Nat.beq (R' &&& D) 0 then force' (D ||| R') fun D' => force' (room - s) fun room' => gol need room' R' D' else false

theorem gol_ok {l : List Int} (hr : ris l = true) (hd : difR l) : ∀ (need i room R D : Nat), i + need + 1 = l.length → l.getD (l.length - 1) 0 - l.getD i 0 ≤ room →
    (∀ d : Nat, R.testBit d = true ↔ ∃ j, j < i ∧ (d : Int) = l.getD i 0 - l.getD j 0) → (∀ d : Nat, D.testBit d = true ↔ ∃ a b, b < a ∧ a ≤ i ∧ (d : Int) = l.getD a 0 - l.getD b 0) → gol need room R D = true
  | 0, _, _, _, _, _, _, _, _ => rfl
  | need + 1, i, room, R, D, hl, hroom, hR, hD => by
    simp only [gol, List.any_eq_true, force_eq']
    have hi1 : i + 1 < l.length := by omega
    have hlt := ris_at hr (show i < i + 1 by omega) hi1
    have hro := ris_room hr (n := l.getD (l.length - 1) 0 + 1) (fun x hx => by
      obtain ⟨k, hk, rfl⟩ := List.getElem_of_mem hx
      have := le_last hr hk
      rw [gd_at hk] at this; omega) need (i + 1) (by omega)
    obtain ⟨s, hs⟩ : ∃ s : Nat, l.getD (i + 1) 0 - l.getD i 0 = s := ⟨(l.getD (i + 1) 0 - l.getD i 0).toNat, by omega⟩
    have hR' : ∀ d : Nat, ((R ||| 1) <<< s).testBit d = true ↔ ∃ j, j < i + 1 ∧ (d : Int) = l.getD (i + 1) 0 - l.getD j 0 := fun d => by
      rw [Nat.testBit_shiftLeft, Bool.and_eq_true, decide_eq_true_eq, Nat.testBit_or, Bool.or_eq_true, hR]
      have h1 : (1 : Nat).testBit (d - s) = true ↔ d - s = 0 := by
        rw [show (1 : Nat) = 2 ^ 0 from rfl, Nat.testBit_two_pow, decide_eq_true_eq]; omega
      rw [h1]
      constructor
      · rintro ⟨h2, ⟨j, hj, h3⟩ | h3⟩
        · exact ⟨j, by omega, by omega⟩
        · exact ⟨i, by omega, by omega⟩
      · rintro ⟨j, hj, h3⟩
        by_cases he : j = i
        · subst he; exact ⟨by omega, .inr (by omega)⟩
        · have := ris_at hr (show j < i by omega) (by omega)
          exact ⟨by omega, .inl ⟨j, by omega, by omega⟩⟩
    refine ⟨s, List.mem_range'_1.2 ⟨by omega, by omega⟩, ?_⟩
    have hz : ((R ||| 1) <<< s) &&& D = 0 := by
      refine Nat.eq_of_testBit_eq fun d => ?_
      rw [Nat.zero_testBit, Nat.testBit_and, Bool.eq_false_iff]
      intro h
      rw [Bool.and_eq_true, hR', hD] at h
      obtain ⟨⟨j, hj, e1⟩, a, b, hb, ha, e2⟩ := h
      have m := fun k (hk : k < l.length) => mem_at (l := l) (i := k) hk
      exact hd _ (m a (by omega)) _ (m (i + 1) hi1) _ (m b (by omega)) _ (m j (by omega)) (ris_at hr hb (by omega)) (ris_at hr hj hi1) (ris_at hr (by omega) hi1) (by omega)
    rw [hz]
    show gol need (room - s) _ _ = true
    refine gol_ok hr hd need (i + 1) (room - s) _ _ (by omega) (by omega) hR' fun d => ?_
    rw [Nat.testBit_or, Bool.or_eq_true, hD, hR']
    constructor
    · rintro (⟨a, b, h1, h2, h3⟩ | ⟨j, h1, h2⟩)
      · exact ⟨a, b, h1, by omega, h3⟩
      · exact ⟨i + 1, j, h1, Nat.le_refl _, h2⟩
    · rintro ⟨a, b, h1, h2, h3⟩
      by_cases he : a = i + 1
      · subst he; exact .inr ⟨b, h1, h3⟩
      · exact .inl ⟨a, b, h1, by omega, h3⟩

set_option maxRecDepth 100000 in
theorem gol5 : gol 4 10 0 0 = false := by decide +kernel
set_option maxRecDepth 100000 in
theorem gol6 : gol 5 16 0 0 = false := by decide +kernel
set_option maxRecDepth 100000 in
theorem gol7 : gol 6 24 0 0 = false := by decide +kernel

theorem gol_start {l : List Int} (hr : ris l = true) (hd : difR l) (h0 : ∀ x ∈ l, 0 ≤ x) (h1 : 1 ≤ l.length) {room : Nat} (h : gol (l.length - 1) room 0 0 = false) : (room : Int) < l.getD (l.length - 1) 0 := by
  rcases Int.lt_or_le (room : Int) (l.getD (l.length - 1) 0) with hlt | hle
  · exact hlt
  · have hz := h0 _ (mem_at (l := l) (i := 0) (by omega))
    have := gol_ok hr hd (l.length - 1) 0 room 0 0 (by omega) (by omega) (fun d => by simp) (fun d => by
      rw [Nat.zero_testBit]
      exact ⟨fun h => (nomatch h), fun ⟨a, b, h1, h2, _⟩ => by omega⟩)
    rw [h] at this; cases this
/-- No ruler is shorter than the shortest known one. -/
theorem rul_short {l : List Int} (hr : ris l = true) (hd : nodK (difsR l) = true) (h0 : ∀ x ∈ l, 0 ≤ x) (h1 : 1 ≤ l.length) (h7 : l.length ≤ 7) : lastL.getD (l.length - 1) 0 ≤ l.getD (l.length - 1) 0 := by
  have hb := rul_len hr h0 h1 hd
  have hd' := (difR_iff hr).1 hd
  have hz := h0 _ (mem_at (l := l) (i := l.length - 1) (by omega))
  have hg := fun room => gol_start (room := room) hr hd' h0 h1
  have hn : l.length = 1 ∨ l.length = 2 ∨ l.length = 3 ∨ l.length = 4 ∨ l.length = 5 ∨ l.length = 6 ∨ l.length = 7 := by omega
  rcases hn with hn | hn | hn | hn | hn | hn | hn <;> rw [hn] at hb hz hg ⊢
  · exact hz
  · show (1 : Int) ≤ _; omega
  · show (3 : Int) ≤ _; omega
  · show (6 : Int) ≤ _; omega
  · have := hg 10 gol5; show (11 : Int) ≤ _; omega
  · have := hg 16 gol6; show (17 : Int) ≤ _; omega
  · have := hg 24 gol7; show (25 : Int) ≤ _; omega

/-! ### What Short returns -/
theorem dfs_sound {may : List Int → Int → Bool} {n size : Int} : ∀ (f : Nat) (frm : Int) (l r : List Int), dfsF may n size f frm l = some r → 0 ≤ frm → risTo frm l → (∀ x ∈ l, x < n) → (l.length : Int) ≤ size → (∀ i, i < l.length → may (l.take i) (l.getD i 0) = true) →
    (r.length : Int) = size ∧ ris r = true ∧ (∀ x ∈ r, 0 ≤ x ∧ x < n) ∧ ∀ i, i < r.length → may (r.take i) (r.getD i 0) = true
  | 0, frm, l, r, h, _, _, _, _, _ => by simp [dfsF] at h
  | f + 1, frm, l, r, h, hf, hr, hn, hs, hm => by
    rw [dfsF_succ] at h
    split at h
    · rename_i he
      cases h
      exact ⟨he, hr.1, fun x hx => ⟨(hr.2 x hx).1, hn x hx⟩, hm⟩
    · rename_i hne
      obtain ⟨y, y1, y2, y3, y4, _⟩ := tryX_some _ _ h
      refine dfs_sound f (y + 1) (l ++ [y]) r y4 (by omega) (risTo_snoc hr hf y1) (fun x hx => ?_) (by rw [snoc_len]; omega) (fun i hi => ?_)
      · rcases List.mem_append.1 hx with hx | hx
        · exact hn x hx
        · rw [List.mem_singleton.1 hx]; omega
      · rw [snoc_len] at hi
        by_cases he : i = l.length
        · subst he
          rw [List.take_append_of_le_length (Nat.le_refl _), List.take_length, List.getD_eq_getElem?_getD, List.getElem?_append_right (Nat.le_refl _), Nat.sub_self]
          exact y3
        · rw [List.take_append_of_le_length (by omega), List.getD_eq_getElem?_getD, List.getElem?_append_left (by omega), ← List.getD_eq_getElem?_getD]
          exact hm i (by omega)
theorem dfs_sound0 {may : List Int → Int → Bool} {n size : Int} (hs : 0 ≤ size) {f : Nat} {r : List Int} (h : dfsF may n size f 0 [] = some r) :
    (r.length : Int) = size ∧ ris r = true ∧ (∀ x ∈ r, 0 ≤ x ∧ x < n) ∧ ∀ i, i < r.length → may (r.take i) (r.getD i 0) = true :=
  dfs_sound f 0 [] r h (Int.le_refl _) ⟨rfl, fun x hx => nomatch hx⟩ (fun x hx => nomatch hx) (by simpa using hs) (fun i hi => by simp at hi)

theorem sr_sound {k L : Int} (hk : 1 ≤ k) {r : List Int} (h : srO k L = some r) : (r.length : Int) = k ∧ ris r = true ∧ (∀ x ∈ r, 0 ≤ x ∧ x < L + 1) ∧ r.getD 0 0 = 0 ∧ r.getD (r.length - 1) 0 = L ∧ nodK (difsR r) = true := by
  rw [srO_eq] at h
  obtain ⟨h1, h2, h3, h4⟩ := dfs_sound0 (by omega) h
  have a := h4 0 (by omega)
  have b := h4 (r.length - 1) (by omega)
  simp only [mayS, Bool.and_eq_true, Bool.or_eq_true, decide_eq_true_eq, ieq_iff, List.length_take] at a b
  have e : r.take (r.length - 1) ++ [r.getD (r.length - 1) 0] = r := by
    rw [← take_snoc (by omega), Nat.sub_add_cancel (by omega), List.take_length]
  rw [e] at b
  exact ⟨h1, h2, h3, by omega, by omega, b.2⟩

theorem shortL_some {Q : Int → Option (List Int)} {L : Int} (hL : Q L ≠ none) : ∀ (f : Nat) (x : Int), x ≤ L → L < x + f → ∃ y, x ≤ y ∧ y ≤ L ∧ Q y = some (shortL Q f x)
  | 0, x, h1, h2 => by omega
  | f + 1, x, h1, h2 => by
    simp only [shortL]
    cases hq : Q x with
    | some r => exact ⟨x, by omega, h1, hq⟩
    | none =>
      have : x ≠ L := fun e => by rw [e] at hq; exact hL hq
      obtain ⟨y, y1, y2, y3⟩ := shortL_some hL f (x + 1) (by omega) (by omega)
      exact ⟨y, by omega, y2, y3⟩

theorem sr_known' {K : Nat} (hK : K < 7) : srO ((K + 1 : Nat) : Int) (lastL.getD K 0) ≠ none := by
  obtain ⟨⟨k1, k2, k3, k4⟩, k5, k6⟩ := known_ok K (List.mem_range.2 hK)
  rw [srO_eq]
  have := dfs_ne (may := mayS ((K + 1 : Nat) : Int) (lastL.getD K 0)) (n := lastL.getD K 0 + 1) (size := ((K + 1 : Nat) : Int)) (w := knownR.getD K []) (by rw [k1]) k2 k3 62 0 0 (by omega) (by omega) (fun i _ hi => k4 i (List.mem_range.2 (by omega))) (fun h => (k3 _ (mem_at h)).1)
  rwa [List.take_zero] at this

/-- Short returns a ruler of the known length. -/
theorem short_is {K : Nat} (hK : K < 7) : ∃ s, shortX ((K + 1 : Nat) : Int) = (s, 0, ()) ∧ s.length = K + 1 ∧ s.getD K 0 = lastL.getD K 0 ∧ inR s = true ∧ rulF s = true := by
  have hk := sr_known' hK
  obtain ⟨_, k5, k6⟩ := known_ok K (List.mem_range.2 hK)
  obtain ⟨y, y1, y2, y3⟩ := shortL_some hk 40 0 k5 (by omega)
  obtain ⟨s1, s2, s3, s4, s5, s6⟩ := sr_sound (by omega) y3
  refine ⟨shortL (srO ((K + 1 : Nat) : Int)) 40 0, ?_, by omega, ?_, ?_, ?_⟩
  · unfold shortX
    rw [decide_eq_true (show (1 : Int) ≤ ((K + 1 : Nat) : Int) by omega), decide_eq_true (show ((K + 1 : Nat) : Int) ≤ 7 by omega)]
    rfl
  · have hge := rul_short s2 s6 (fun x hx => (s3 x hx).1) (by omega) (by omega)
    have e : (shortL (srO ((K + 1 : Nat) : Int)) 40 0).length - 1 = K := by omega
    rw [e] at hge s5
    omega
  · exact inR_iff.2 ⟨by omega, by omega, fun x hx => by have := s3 x hx; omega⟩
  · unfold rulF
    rw [s2, s4, s6]; rfl

/-! ### Backward, and modulo -/
def backR (l : List Int) : List Int := l.reverse.map fun x => l.getD (l.length - 1) 0 - x
theorem mem_back {l : List Int} {y : Int} : y ∈ backR l ↔ l.getD (l.length - 1) 0 - y ∈ l := by
  unfold backR
  simp only [List.mem_map, List.mem_reverse]
  constructor
  · rintro ⟨x, hx, rfl⟩
    rwa [show l.getD (l.length - 1) 0 - (l.getD (l.length - 1) 0 - x) = x by omega]
  · exact fun h => ⟨_, h, by omega⟩
theorem back_ok {l : List Int} (h1 : inR l = true) (h2 : rulF l = true) : inR (backR l) = true ∧ rulF (backR l) = true := by
  obtain ⟨i1, i2, i3⟩ := inR_spec h1
  unfold rulF at h2
  simp only [Bool.and_eq_true, ieq_iff] at h2
  obtain ⟨h0, hr, hd⟩ := h2
  have hlen : (backR l).length = l.length := by simp [backR]
  have hle : ∀ x ∈ l, x ≤ l.getD (l.length - 1) 0 := fun x hx => by
    obtain ⟨k, hk, rfl⟩ := List.getElem_of_mem hx
    have := le_last hr hk
    rwa [gd_at hk] at this
  have hlast := i3 _ (mem_at (l := l) (i := l.length - 1) (by omega))
  have hrb : ris (backR l) = true := by
    refine pw_ris ?_
    unfold backR
    rw [List.pairwise_map, List.pairwise_reverse]
    exact List.Pairwise.imp (fun {a b} h => by omega) (ris_pw hr)
  refine ⟨inR_iff.2 ⟨by omega, by omega, fun y hy => ?_⟩, ?_⟩
  · have hm := mem_back.1 hy
    have a := i3 _ hm
    have b := hle _ hm
    omega
  · unfold rulF
    simp only [Bool.and_eq_true, ieq_iff]
    refine ⟨?_, hrb, (difR_iff hrb).2 ?_⟩
    · unfold backR
      rw [gd_at (by simp; omega)]
      simp only [List.getElem_map, List.getElem_reverse, Nat.sub_zero]
      have e : l.getD (l.length - 1) 0 = l[l.length - 1] := gd_at (by omega)
      omega
    · intro a1 ha1 a2 ha2 b1 hb1 b2 hb2 h1 h2 h3 he
      have d := (difR_iff hr).1 hd
      have m1 := mem_back.1 ha1
      have m2 := mem_back.1 ha2
      have m3 := mem_back.1 hb1
      have m4 := mem_back.1 hb2
      exact d _ m4 _ m3 _ m2 _ m1 (by omega) (by omega) (by omega) (by omega)

theorem sums_ok {l : List Int} (h1 : inR l = true) (h2 : rulF l = true) {m : Int} (hm : m = 2 * l.getD (l.length - 1) 0 + 1) (hm2 : 2 ≤ m ∧ m ≤ 40) : sumsX m l = (true, 0, ()) := by
  obtain ⟨i1, i2, i3⟩ := inR_spec h1
  unfold rulF at h2
  simp only [Bool.and_eq_true, ieq_iff] at h2
  obtain ⟨h0, hr, hd⟩ := h2
  have hle : ∀ x ∈ l, x ≤ l.getD (l.length - 1) 0 := fun x hx => by
    obtain ⟨k, hk, rfl⟩ := List.getElem_of_mem hx
    have := le_last hr hk
    rwa [gd_at hk] at this
  have hok : okR m l = true := by
    unfold okR
    rw [hr]
    simp only [Bool.and_eq_true, decide_eq_true_eq, List.all_eq_true, inC]
    exact ⟨⟨hm2, trivial⟩, fun x hx => by have := i3 x hx; have := hle x hx; omega⟩
  unfold sumsX
  rw [if_pos hok]
  have : nodK (diffs m l) = true := (dif_iff hok).2 fun a1 ha1 a2 ha2 b1 hb1 b2 hb2 hne n1 n2 ⟨q, hq⟩ => by
    have d := (difR_iff hr).1 hd
    have k1 := i3 _ ha1
    have k2 := i3 _ ha2
    have k3 := i3 _ hb1
    have k4 := i3 _ hb2
    have e1 := hle _ ha1
    have e2 := hle _ ha2
    have e3 := hle _ hb1
    have e4 := hle _ hb2
    have hq0 : q = 0 := by
      rcases Int.lt_trichotomy q 0 with h | h | h
      · have : m * q ≤ m * (-1) := Int.mul_le_mul_of_nonneg_left (by omega) (by omega)
        omega
      · exact h
      · have : m * 1 ≤ m * q := Int.mul_le_mul_of_nonneg_left (by omega) (by omega)
        omega
    subst hq0
    have he : a1 - b1 = a2 - b2 := by omega
    rcases Int.lt_or_gt_of_ne n1 with h | h
    · rcases Int.lt_or_gt_of_ne hne with h' | h'
      · exact d a1 ha1 a2 ha2 b1 hb1 b2 hb2 h (by omega) h' he
      · exact d a2 ha2 a1 ha1 b2 hb2 b1 hb1 (by omega) h h' he.symm
    · rcases Int.lt_or_gt_of_ne hne with h' | h'
      · exact d b1 hb1 b2 hb2 a1 ha1 a2 ha2 h (by omega) (by omega) (by omega)
      · exact d b2 hb2 b1 hb1 a2 ha2 a1 ha1 (by omega) h (by omega) (by omega)
  rw [this]
end Go.Caps

set_option linter.unusedVariables false
set_option linter.unusedSimpArgs false
namespace Go.Caps
open Go Go.Ab Go.Proofs

theorem known_at {K : Nat} (hK : K < 7) : g11_c0 ((K + 1 : Nat) : Int) = lastL.getD K 0 := by
  have hn : K = 0 ∨ K = 1 ∨ K = 2 ∨ K = 3 ∨ K = 4 ∨ K = 5 ∨ K = 6 := by omega
  rcases hn with rfl | rfl | rfl | rfl | rfl | rfl | rfl <;> rfl
theorem known_len {l : List Int} (h1 : 1 ≤ l.length) (h7 : l.length ≤ 7) : g11_c4 l = lastL.getD (l.length - 1) 0 := by
  have hn : l.length = 1 ∨ l.length = 2 ∨ l.length = 3 ∨ l.length = 4 ∨ l.length = 5 ∨ l.length = 6 ∨ l.length = 7 := by omega
  unfold g11_c4
  rcases hn with hn | hn | hn | hn | hn | hn | hn <;> rw [hn] <;> rfl

theorem goal11 : con11.goal Try.prog (spOf [con19, con34, con35, con38, con23]) g11_sh [] lm30 := by
  have e : (∀ (l : List Int) (k : Int), small l → g11 l k = some (true, ())) = con11.goal Try.prog (spOf [con19, con34, con35, con38, con23]) g11_sh [] lm30 := by kernel_rfl
  rw [← e]
  intro l k hs
  have ta : small (l.take 90) := by unfold small; rw [List.length_take]; omega
  have i0 : ieq 0 0 = true := rfl
  have i2 : ieq 2 2 = true := rfl
  have i20 : ieq 2 0 = false := rfl
  have i02 : ieq 0 2 = false := rfl
  -- the loop
  have loop : ∀ (step : Int × List Int × Unit → Option (Lp (Int × List Int × Unit) (Bool × Unit))), 1 ≤ l.length → l.length ≤ 10 →
      (∀ j : Nat, j < l.length → step (((l.length - 1 - j : Nat) : Int), (backR l).take j, ()) = some (.go (((l.length - 1 - j : Nat) : Int) - 1, (backR l).take (j + 1), ()))) → step (-1, backR l, ()) = some (.out (true, ())) →
      whileO step (((l.length - 1 : Nat) : Int), [], ()) = some (true, ()) := fun step a b h1 h2 => by
    have hlen : (backR l).length = l.length := by simp [backR]
    have := whileO_nat (step := step) (st := fun j : Nat => (((l.length : Int) - 1 - j, (backR l).take j, ()) : Int × List Int × Unit)) (lo := 0) (hi := l.length) (x := ((true, ()) : Bool × Unit)) (Nat.zero_le _) (fun j _ hj => by
      have := h1 j hj
      have e1 : ((l.length - 1 - j : Nat) : Int) = (l.length : Int) - 1 - j := by omega
      rw [e1] at this
      rw [this]
      have e2 : (l.length : Int) - 1 - j - 1 = (l.length : Int) - 1 - ((j + 1 : Nat) : Int) := by omega
      rw [e2]) (by
      have e1 : (l.length : Int) - 1 - (l.length : Int) = -1 := by omega
      show step ((l.length : Int) - 1 - (l.length : Int), (backR l).take l.length, ()) = _
      rw [e1, List.take_of_length_le (by omega)]
      exact h2)
    have e1 : ((l.length - 1 : Nat) : Int) = (l.length : Int) - 1 - ((0 : Nat) : Int) := by omega
    rw [e1]
    simpa using this
  have hstep : ∀ j : Nat, j < l.length → inR l = true → wr .i64 (l.getD (l.length - 1) 0 - l.getD (l.length - 1 - j) 0) = (backR l).getD j 0 := fun j hj hr => by
    obtain ⟨r1, r2, r3⟩ := inR_spec hr
    have a := r3 _ (mem_at (l := l) (i := l.length - 1) (by omega))
    have b := r3 _ (mem_at (l := l) (i := l.length - 1 - j) (by omega))
    rw [wr_id (by omega)]
    unfold backR
    rw [gd_at (l := List.map _ _) (by simpa using hj)]
    simp only [List.getElem_map, List.getElem_reverse]
    rw [gd_at (l := l) (i := l.length - 1 - j) (by omega)]
  unfold g11
  rw [rulX_take]
  by_cases hk : 1 ≤ k ∧ k ≤ 7
  case' pos =>
    obtain ⟨K, hK, rfl⟩ : ∃ K : Nat, K < 7 ∧ k = ((K + 1 : Nat) : Int) := ⟨k.toNat - 1, by omega, by omega⟩
    obtain ⟨s, s1, s2, s3, s4, s5⟩ := short_is hK
    have hsm : small s := by unfold small; omega
    have hrs : rulX s = (true, 0, ()) := by unfold rulX; rw [if_pos s4, s5]
    have hw : wr .i64 (((K + 1 : Nat) : Int) - 1) = (K : Int) := by rw [wr_id (by omega)]; omega
    have c1 : g11_c1 ((K + 1 : Nat) : Int) = false := by
      unfold g11_c1
      rw [s1, known_at hK]
      simp only [hw, Int.toNat_natCast, s3, s2]
      rw [ilt_false.2 (by omega), ilt_false.2 (by omega), ieq_iff.2 rfl, ieq_iff.2 rfl]
      rfl
    have d1 : ilt ((K + 1 : Nat) : Int) 1 = false := ilt_false.2 (by omega)
    have d2 : ilt 7 ((K + 1 : Nat) : Int) = false := ilt_false.2 (by omega)
    have d3 : ieq ((K + 1 : Nat) : Int) ((K + 1 : Nat) : Int) = true := ieq_iff.2 rfl
    have d4 : ((0 : Int) ≤ (K : Int) ∧ (K : Int) < ((K + 1 : Nat) : Int)) = True := by simp; omega
    have d5 : ((0 : Int) ≤ ((K + 1 : Nat) : Int) ∧ ((K + 1 : Nat) : Int) < 8) = True := by simp; omega
    simp only [s1, i0, cond_true, c1, cond_false, gd_pos hsm, hrs, d1, d2, s2, d3, hw, d4, d5, Bool.not_true, Bool.not_false, gd_true, and_self, imp_self, forall_const, true_imp_iff, implies_true]
  case' neg =>
    have hx : shortX k = ([], 2, ()) := by
      unfold shortX
      rw [if_neg (by simp; omega)]
    simp only [hx, i20, i2, cond_false, Bool.not_true, Bool.not_false, cond_true, gd_true, imp_self, forall_const, true_imp_iff, implies_true]
  all_goals
    rw [gd_pos ta]
    cases hr : inR l with
    | false =>
      have hx : rulX l = (false, 2, ()) := by unfold rulX; rw [hr]; rfl
      have c2 : g11_c2 l = true := by unfold g11_c2; rw [rulX_take, hx]; rfl
      simp [hx, c2, i20, i2, gd_true]
    | true =>
      obtain ⟨r1, r2, r3⟩ := inR_spec hr
      have hx : rulX l = (rulF l, 0, ()) := by unfold rulX; rw [hr]; rfl
      have n0 : ieq (l.length : Int) 0 = false := ieq_false.2 (by omega)
      have c2 : g11_c2 l = false := by unfold g11_c2; rw [rulX_take, hx, n0, ilt_false.2 (by omega)]; rfl
      cases hf : rulF l with
      | false => simp [hx, c2, i0, hf, n0, gd_true]
      | true =>
        have hf0 := hf
        unfold rulF at hf0
        simp only [Bool.and_eq_true, ieq_iff] at hf0
        obtain ⟨h0, hris, hd⟩ := hf0
        have hlast := r3 _ (mem_at (l := l) (i := l.length - 1) (by omega))
        have w1 : wr .i64 ((l.length : Int) - 1) = ((l.length - 1 : Nat) : Int) := by rw [wr_id (by omega)]; omega
        have hmul : (l.length : Int) * ((l.length : Int) - 1) ≤ 10 * 10 := Int.mul_le_mul (by omega) (by omega) (by omega) (by omega)
        have hmul0 : 0 ≤ (l.length : Int) * ((l.length : Int) - 1) := Int.mul_nonneg (by omega) (by omega)
        have hrl := rul_len hris (fun x hx => (r3 x hx).1) r1 hd
        have c3 : g11_c3 l = false := by
          unfold g11_c3
          rw [wr_id (n := (l.length : Int) - 1) (by omega), wr_id (n := (l.length : Int) * ((l.length : Int) - 1)) (by omega), show ((l.length : Int) - 1).toNat = l.length - 1 by omega, Int.tdiv_eq_ediv_of_nonneg hmul0, wr_id (by omega)]
          rw [ilt_false]
          omega
        have c5 : g11_c5 l = false := by
          unfold g11_c5
          by_cases h7 : l.length ≤ 7
          · rw [known_len r1 h7, w1, Int.toNat_natCast, ile_iff.2 (by omega), cond_true, ilt_false]
            exact rul_short hris hd (fun x hx => (r3 x hx).1) r1 h7
          · rw [ile_false.2 (by omega)]; rfl
        obtain ⟨b1, b2⟩ := back_ok hr hf
        have hxb : rulX (backR l) = (true, 0, ()) := by unfold rulX; rw [if_pos b1, b2]
        have hblen : (backR l).length = l.length := by simp [backR]
        have hbs : small (backR l) := by unfold small; omega
        have c7 : g11_c7 l = 2 * l.getD (l.length - 1) 0 + 1 := by
          unfold g11_c7
          rw [w1, Int.toNat_natCast, wr_id (n := 2 * l.getD (l.length - 1) 0) (by omega), wr_id (by omega)]
        have t90 : l.take 90 = l := List.take_of_length_le (by omega)
        have e1 : ((0 : Int) ≤ ((l.length - 1 : Nat) : Int) ∧ ((l.length - 1 : Nat) : Int) < (l.length : Int)) = True := by simp; omega
        have e2 : (2 : Int) ≠ 0 := by decide
        have e3 : ile (l.length : Int) 7 = true → ((0 : Int) ≤ (l.length : Int) ∧ (l.length : Int) < 8) := fun h => by have := ile_iff.1 h; omega
        simp only [hx, c2, i0, hf, n0, w1, e1, c3, c5, Bool.not_true, Bool.not_false, gd_true, cond_true, cond_false, and_self, true_and, imp_self, forall_const, true_imp_iff, implies_true, gd_pos e2, Bool.true_and]
        rw [gd_pos (fun h => ⟨h, h, e3 h⟩)]
        try rw [gd_pos (fun h => h)]
        refine loop _ r1 r2 (fun j hj => ?_) ?_
        · have htl : ((backR l).take j).length = j := by rw [List.length_take]; omega
          simp only [htl, g11_c6, g11_c8, w1, Int.toNat_natCast, hstep j hj hr]
          rw [cond_t (ile_iff.2 (by omega)), gd_pos (by omega), gd_pos (Nat.le_refl _), gd_pos (by omega), List.take_take, Nat.min_self, gd_pos (by rw [snoc_len, htl]), ← take_snoc (by omega), wr_id (by omega)]
        · simp only [hblen]
          rw [cond_f (ile_false.2 (by omega)), gd_pos (by omega), List.drop_zero, List.take_of_length_le (by omega), gd_pos hbs]
          simp only [hxb, i0, c7, t90, Bool.not_true, Bool.not_false, cond_false, gd_true, imp_self, forall_const, true_imp_iff, implies_true]
          have hsx : ∀ m, m = 2 * l.getD (l.length - 1) 0 + 1 → 2 ≤ m ∧ m ≤ 40 → sumsX m l = (true, 0, ()) := fun m e h => sums_ok hr hf e h
          generalize 2 * l.getD (l.length - 1) 0 + 1 = m at hsx ⊢
          by_cases h2 : 2 ≤ m
          · by_cases h40 : m ≤ 40
            · rw [ile_iff.2 h2, ile_iff.2 h40, hsx m rfl ⟨h2, h40⟩]
              simp only [cond_true, gd_pos hs, i0, Bool.not_true, Bool.not_false, cond_false, gd_true, imp_self, forall_const, true_imp_iff, implies_true]
            · rw [ile_iff.2 h2, ile_false.2 (Int.not_le.1 h40)]
              simp only [cond_true, cond_false, gd_true, imp_self, forall_const, true_imp_iff, implies_true]
          · rw [ile_false.2 (Int.not_le.1 h2)]
            simp only [cond_true, cond_false, gd_true, imp_self, forall_const, true_imp_iff, implies_true, Bool.false_eq_true, false_imp_iff]
set_option maxRecDepth 100000 in
theorem ok11 : con11.Ok Try.prog := Con.of_goal mixed (okC ok19 (okC ok34 (okC ok35 (okC ok38 (okC ok23 okN))))) con11 goal11
end Go.Caps
