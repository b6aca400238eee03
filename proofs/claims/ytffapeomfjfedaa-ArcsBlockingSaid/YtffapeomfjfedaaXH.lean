/- Blocking: contracts that read a slice which is written to elsewhere, and the law's. -/
import Derived.Test.YtffapeomfjfedaaXG
import Derived.Test.YtffapeomfjfedaaAT
set_option linter.unusedVariables false
set_option linter.unusedSimpArgs false
namespace Go.Arcs
open Go Go.Ab Go.Proofs

abbrev AI : TB := .arr I64 true
noncomputable def con67s : SCon := mkS 67 [.v I64, .slf 0 1] [AI] [.v (.optr Plane), .v .bool] [AI] (fun (p : Int) (l : List Int) => [small l]) (fun (p : Int) (l : List Int) => ((readF p l).1, (readF p l).2.1, l, ()))
noncomputable def g67s (x0 : Int) (x1 : List Int) : Option (Option (Int × List (Int × Int × Int × Unit) × List ((Int × Int × Int × Unit) × Int) × Unit) × Bool × List Int × Unit) := gd (small ((2 : Int) :: (3 : Int) :: (5 : Int) :: (7 : Int) :: ([] : List Int))) (bif !List.contains ((2 : Int) :: (3 : Int) :: (5 : Int) :: (7 : Int) :: ([] : List Int)) x0 then some ((none, false, x1, ()) : Option (Int × List (Int × Int × Int × Unit) × List ((Int × Int × Int × Unit) × Int) × Unit) × Bool × List Int × Unit) else gd (List.length x1 = List.length x1) (gd ((0 : Nat) = (0 : Nat)) (whileO (fun (d2 : Int × List Int × Int × List (Int × Int × Int × Unit) × List ((Int × Int × Int × Unit) × Int) × Unit) => bif ilt d2.1 (wr IntKind.i64 (wr IntKind.i64 (x0 * x0) * x0)) then gd (x0 ≠ (0 : Int)) (gd (x0 ≠ (0 : Int)) (gd (x0 ≠ (0 : Int)) (gd (x0 ≠ (0 : Int)) (gd (x0 ≠ (0 : Int)) (gd ((3 : Nat) ≤ (3 : Nat)) (gd ((3 : Nat) ≤ (3 : Nat)) (gd ((0 : Nat) + List.length d2.2.2.2.1 ≤ List.length d2.2.2.2.1) (gd (isP d2.2.2.1) (gd (inR d2.2.2.1 ((wr IntKind.i64 (Int.tdiv (wr IntKind.i64 (Int.tdiv d2.1 x0)) x0), Int.tmod (wr IntKind.i64 (Int.tdiv d2.1 x0)) x0, Int.tmod d2.1 x0, ()) : Int × Int × Int × Unit)) (gd (notO ((wr IntKind.i64 (Int.tdiv (wr IntKind.i64 (Int.tdiv d2.1 x0)) x0), Int.tmod (wr IntKind.i64 (Int.tdiv d2.1 x0)) x0, Int.tmod d2.1 x0, ()) : Int × Int × Int × Unit)) (gd ((3 : Nat) ≤ (3 : Nat)) (bif deq (Ty.prod (Ty.int IntKind.i64) (Ty.prod (Ty.int IntKind.i64) (Ty.prod (Ty.int IntKind.i64) Ty.unit))) (lowF d2.2.2.1 ((wr IntKind.i64 (Int.tdiv (wr IntKind.i64 (Int.tdiv d2.1 x0)) x0), Int.tmod (wr IntKind.i64 (Int.tdiv d2.1 x0)) x0, Int.tmod d2.1 x0, ()) : Int × Int × Int × Unit) : TripD) (((wr IntKind.i64 (Int.tdiv (wr IntKind.i64 (Int.tdiv d2.1 x0)) x0), Int.tmod (wr IntKind.i64 (Int.tdiv d2.1 x0)) x0, Int.tmod d2.1 x0, ()) : Int × Int × Int × Unit) : Int × Int × Int × Unit) then gd ((3 : Nat) ≤ (3 : Nat)) (gd ((3 : Nat) ≤ (3 : Nat)) (gd (List.length d2.2.2.2.1 ≤ List.length d2.2.2.2.1) (gd ((List.length d2.2.2.2.1 + (1 : Nat)) * (24 : Nat) ≤ (1099511627776 : Nat)) (gd (List.length d2.2.1 = List.length d2.2.1) (gd (List.length d2.2.2.2.1 + (1 : Nat) = List.length (List.take (List.length d2.2.2.2.1) d2.2.2.2.1 ++ ((wr IntKind.i64 (Int.tdiv (wr IntKind.i64 (Int.tdiv d2.1 x0)) x0), Int.tmod (wr IntKind.i64 (Int.tdiv d2.1 x0)) x0, Int.tmod d2.1 x0, ()) : Int × Int × Int × Unit) :: ([] : List (Int × Int × Int × Unit)))) (some (Lp.go ((wr IntKind.i64 (d2.1 + (1 : Int)), d2.2.1, d2.2.2.1, List.take (List.length d2.2.2.2.1) d2.2.2.2.1 ++ ((wr IntKind.i64 (Int.tdiv (wr IntKind.i64 (Int.tdiv d2.1 x0)) x0), Int.tmod (wr IntKind.i64 (Int.tdiv d2.1 x0)) x0, Int.tmod d2.1 x0, ()) : Int × Int × Int × Unit) :: ([] : List (Int × Int × Int × Unit)), assocUp (Ty.prod (Ty.int IntKind.i64) (Ty.prod (Ty.int IntKind.i64) (Ty.prod (Ty.int IntKind.i64) Ty.unit))) (Ty.int IntKind.i64) (d2.2.2.2.2.1 : List ((Int × Int × Int × Unit) × Int)) (((wr IntKind.i64 (Int.tdiv (wr IntKind.i64 (Int.tdiv d2.1 x0)) x0), Int.tmod (wr IntKind.i64 (Int.tdiv d2.1 x0)) x0, Int.tmod d2.1 x0, ()) : Int × Int × Int × Unit) : Int × Int × Int × Unit) ((↑(List.length d2.2.2.2.1) : Int) : Int), ()) : Int × List Int × Int × List (Int × Int × Int × Unit) × List ((Int × Int × Int × Unit) × Int) × Unit)))))))) else gd (List.length d2.2.1 = List.length d2.2.1) (gd (List.length d2.2.2.2.1 = List.length d2.2.2.2.1) (some (Lp.go ((wr IntKind.i64 (d2.1 + (1 : Int)), d2.2.1, d2.2.2.1, d2.2.2.2.1, d2.2.2.2.2.1, ()) : Int × List Int × Int × List (Int × Int × Int × Unit) × List ((Int × Int × Int × Unit) × Int) × Unit)))))))))))))))) else gd ((0 : Nat) + List.length d2.2.1 ≤ List.length d2.2.1) (gd ((0 : Nat) + List.length d2.2.2.2.1 ≤ List.length d2.2.2.2.1) (gd (small (List.take (List.length d2.2.1) (List.drop (0 : Nat) d2.2.1))) (gd (true = true) (gd ((0 : Nat) + List.length d2.2.2.2.1 ≤ List.length d2.2.2.2.1) (some (Lp.out ((some ((d2.2.2.1, List.take (List.length d2.2.2.2.1) (List.drop (0 : Nat) d2.2.2.2.1), d2.2.2.2.2.1, ()) : Int × List (Int × Int × Int × Unit) × List ((Int × Int × Int × Unit) × Int) × Unit), !List.any (List.take (List.length d2.2.1) (List.drop (0 : Nat) d2.2.1)) (outOf (some ((d2.2.2.1, List.take (List.length d2.2.2.2.1) (List.drop (0 : Nat) d2.2.2.2.1), d2.2.2.2.2.1, ()) : Int × List (Int × Int × Int × Unit) × List ((Int × Int × Int × Unit) × Int) × Unit))), d2.2.1, ()) : Option (Int × List (Int × Int × Int × Unit) × List ((Int × Int × Int × Unit) × Int) × Unit) × Bool × List Int × Unit)))))))) (((1 : Int), x1, x0, ([] : List (Int × Int × Int × Unit)), ([] : List ((Int × Int × Int × Unit) × Int)), ()) : Int × List Int × Int × List (Int × Int × Int × Unit) × List ((Int × Int × Int × Unit) × Int) × Unit))))
noncomputable def g67s_sh : List LSh := LSh.mk3 (((1, TV.slf (0) (1)) : Nat × TV) :: ((6, TV.ref (1) (1 : Nat) (0 : Nat) (0 : Nat)) : Nat × TV) :: ((7, TV.v (Ty.int IntKind.i64)) : Nat × TV) :: ([] : List (Nat × TV))) (TB.arr (Ty.int IntKind.i64) true :: TB.cells (TV.ref (2) (1 : Nat) (0 : Nat) (0 : Nat) :: ([] : List TV)) :: TB.cells (TV.v (Ty.int IntKind.i64) :: TV.slf (3) (3) :: TV.mref (4) :: ([] : List TV)) :: TB.arr (Ty.prod (Ty.int IntKind.i64) (Ty.prod (Ty.int IntKind.i64) (Ty.prod (Ty.int IntKind.i64) Ty.unit))) true :: TB.map (Ty.prod (Ty.int IntKind.i64) (Ty.prod (Ty.int IntKind.i64) (Ty.prod (Ty.int IntKind.i64) Ty.unit))) (Ty.int IntKind.i64) :: ([] : List TB)) (1) :: ([] : List LSh)
noncomputable def con78s : SCon := mkS 78 [.v I64, .slf 0 1] [AI] [.v (.optr Plane), .v .bool] [AI] (fun (p : Int) (l : List Int) => [small l]) (fun (p : Int) (l : List Int) => ((setF p l).1, (setF p l).2.1, l, ()))
noncomputable def g78s (x0 : Int) (x1 : List Int) : Option (Option (Int × List (Int × Int × Int × Unit) × List ((Int × Int × Int × Unit) × Int) × Unit) × Bool × List Int × Unit) := gd (List.length x1 = List.length x1) (gd (small x1) (gd ((readF x0 x1).2.1 = true → (readF x0 x1).2.1 = true ∧ (0 : Nat) + List.length x1 ≤ List.length x1 ∧ small (List.take (List.length x1) (List.drop (0 : Nat) x1))) (gd ((readF x0 x1).2.1 = true → (readF x0 x1).2.1 = true) (some (((readF x0 x1).1, bif (readF x0 x1).2.1 then ris (List.take (List.length x1) (List.drop (0 : Nat) x1)) else false, x1, ()) : Option (Int × List (Int × Int × Int × Unit) × List ((Int × Int × Int × Unit) × Int) × Unit) × Bool × List Int × Unit)))))
noncomputable def g78s_sh : List LSh := ([] : List LSh)
noncomputable def con35s : SCon := mkS 35 [.v I64, .slf 0 1] [AI] [.v LI, .v I64] [AI] (fun (p : Int) (l : List Int) => [small l]) (fun (p : Int) (l : List Int) => ((missX p l).1, (missX p l).2.1, l, ()))
noncomputable def g35s (x0 : Int) (x1 : List Int) : Option (List Int × Int × List Int × Unit) := gd (List.length x1 = List.length x1) (gd (small x1) (bif !(setF x0 x1).2.1 then some ((([] : List Int), (2 : Int), x1, ()) : List Int × Int × List Int × Unit) else gd (Option.isSome (setF x0 x1).1 = true) (gd (List.length x1 = List.length x1) (gd ((0 : Nat) = (0 : Nat)) (whileO (fun (d2 : Int × List Int × List Int × Unit) => bif ilt d2.1 (↑(List.length (Option.getD (setF x0 x1).1 (((0 : Int), ([] : List (Int × Int × Int × Unit)), ([] : List ((Int × Int × Int × Unit) × Int)), ()) : Int × List (Int × Int × Int × Unit) × List ((Int × Int × Int × Unit) × Int) × Unit)).2.1) : Int) then gd (Option.isSome (setF x0 x1).1 = true) (gd ((0 : Nat) + List.length d2.2.1 ≤ List.length d2.2.1) (gd (isPl (Option.getD (setF x0 x1).1 (((0 : Int), ([] : List (Int × Int × Int × Unit)), ([] : List ((Int × Int × Int × Unit) × Int)), ()) : Int × List (Int × Int × Int × Unit) × List ((Int × Int × Int × Unit) × Int) × Unit))) (gd (List.all (List.take (List.length d2.2.1) (List.drop (0 : Nat) d2.2.1)) (inPt (Option.getD (setF x0 x1).1 (((0 : Int), ([] : List (Int × Int × Int × Unit)), ([] : List ((Int × Int × Int × Unit) × Int)), ()) : Int × List (Int × Int × Int × Unit) × List ((Int × Int × Int × Unit) × Int) × Unit)).1) = true) (gd (inPt (Option.getD (setF x0 x1).1 (((0 : Int), ([] : List (Int × Int × Int × Unit)), ([] : List ((Int × Int × Int × Unit) × Int)), ()) : Int × List (Int × Int × Int × Unit) × List ((Int × Int × Int × Unit) × Int) × Unit)).1 d2.1 = true) (gd (small (List.take (List.length d2.2.1) (List.drop (0 : Nat) d2.2.1))) (bif ieq (meetsF (Option.getD (setF x0 x1).1 (((0 : Int), ([] : List (Int × Int × Int × Unit)), ([] : List ((Int × Int × Int × Unit) × Int)), ()) : Int × List (Int × Int × Int × Unit) × List ((Int × Int × Int × Unit) × Int) × Unit)).1 (List.take (List.length d2.2.1) (List.drop (0 : Nat) d2.2.1)) d2.1) (0 : Int) then gd (List.length d2.2.2.1 ≤ List.length d2.2.2.1) (gd ((List.length d2.2.2.1 + (1 : Nat)) * (8 : Nat) ≤ (1099511627776 : Nat)) (gd (List.length d2.2.1 = List.length d2.2.1) (gd (List.length d2.2.2.1 + (1 : Nat) = List.length (List.take (List.length d2.2.2.1) d2.2.2.1 ++ d2.1 :: ([] : List Int))) (some (Lp.go ((wr IntKind.i64 (d2.1 + (1 : Int)), d2.2.1, List.take (List.length d2.2.2.1) d2.2.2.1 ++ d2.1 :: ([] : List Int), ()) : Int × List Int × List Int × Unit)))))) else gd (List.length d2.2.1 = List.length d2.2.1) (gd (List.length d2.2.2.1 = List.length d2.2.2.1) (some (Lp.go ((wr IntKind.i64 (d2.1 + (1 : Int)), d2.2.1, d2.2.2.1, ()) : Int × List Int × List Int × Unit)))))))))) else gd ((0 : Nat) + List.length d2.2.2.1 ≤ List.length d2.2.2.1) (some (Lp.out ((List.take (List.length d2.2.2.1) (List.drop (0 : Nat) d2.2.2.1), (0 : Int), d2.2.1, ()) : List Int × Int × List Int × Unit)))) (((0 : Int), x1, ([] : List Int), ()) : Int × List Int × List Int × Unit))))))
noncomputable def g35s_sh : List LSh := LSh.mk3 (((1, TV.slf (0) (1)) : Nat × TV) :: ((8, TV.slf (1) (1)) : Nat × TV) :: ((23, TV.v (Ty.int IntKind.i64)) : Nat × TV) :: ([] : List (Nat × TV))) (TB.arr (Ty.int IntKind.i64) true :: TB.arr (Ty.int IntKind.i64) true :: ([] : List TB)) (1) :: ([] : List LSh)
def restF (p : Int) (l : List Int) : List Int := flt (fun x => !l.contains (x : Int)) (p * p + p + 1).toNat
noncomputable def con7 : Con := mkC 7 [.d I64, .d LI] [.bool] (fun (p : Int) (l : List Int) => [small2 l]) (fun (p : Int) (l : List Int) => (true, ()))
noncomputable def g7_c0 (x0 : Int) (x1 : List Int) (d2 : Int × List Int × Unit) : Bool := bif bif !ieq (missX x0 d2.2.1).2.1 (0 : Int) then true else !ieq (missX x0 (List.take (60 : Nat) x1)).2.1 (0 : Int) then true else !ieq (blocksX x0 (List.take (List.length d2.2.1) (List.drop (0 : Nat) d2.2.1))).2.1 (0 : Int)
noncomputable def g7_c1 (x0 : Int) (x1 : List Int) (d2 : Int × List Int × Unit) : Bool := !beqB (blocksX x0 (List.take (60 : Nat) x1)).1 (bif ieq (↑(List.length (missX x0 (List.take (60 : Nat) x1)).1) : Int) (0 : Int) then ieq (↑(List.length (missX x0 d2.2.1).1) : Int) (0 : Int) else false)
noncomputable def g7_c2 (x0 : Int) (x1 : List Int) : Bool := !!(blocksX x0 (List.take (60 : Nat) x1)).1 && (!!(blocksX x0 (List.take (60 : Nat) x1)).1 && bif ilt (2 : Int) x0 then ilt (0 : Int) (wr IntKind.i64 ((↑(List.length x1) : Int) - x0)) else false)
noncomputable def g7_c3 (x0 : Int) (x1 : List Int) : Bool := bif bif ilt (2 : Int) x0 then ilt (0 : Int) (wr IntKind.i64 ((↑(List.length x1) : Int) - x0)) else false then ilt x0 (wr IntKind.i64 (wr IntKind.i64 ((↑(List.length x1) : Int) - x0) * wr IntKind.i64 ((↑(List.length x1) : Int) - x0))) else false
noncomputable def g7 (x0 : Int) (x1 : List Int) : Option (Bool × Unit) := gd (small (List.take (60 : Nat) x1)) (gd (small (List.take (60 : Nat) x1)) (gd ((!!ieq (blocksX x0 (List.take (60 : Nat) x1)).2.1 (0 : Int)) = true → (!!ieq (blocksX x0 (List.take (60 : Nat) x1)).2.1 (0 : Int)) = true ∧ (!!ieq (blocksX x0 (List.take (60 : Nat) x1)).2.1 (0 : Int)) = true ∧ small2 x1) (gd ((!!ieq (blocksX x0 (List.take (60 : Nat) x1)).2.1 (0 : Int)) = true → (!!ieq (blocksX x0 (List.take (60 : Nat) x1)).2.1 (0 : Int)) = true) (gd ((!ieq (blocksX x0 (List.take (60 : Nat) x1)).2.1 (0 : Int)) = false → (!!ieq (blocksX x0 (List.take (60 : Nat) x1)).2.1 (0 : Int)) = true) (bif bif !ieq (blocksX x0 (List.take (60 : Nat) x1)).2.1 (0 : Int) then true else !okSet x0 x1 then gd (ieq (blocksX x0 (List.take (60 : Nat) x1)).2.1 (2 : Int) = true → ieq (blocksX x0 (List.take (60 : Nat) x1)).2.1 (2 : Int) = true) (gd (ieq (blocksX x0 (List.take (60 : Nat) x1)).2.1 (2 : Int) = true → ieq (blocksX x0 (List.take (60 : Nat) x1)).2.1 (2 : Int) = true) (gd ((bif ieq (blocksX x0 (List.take (60 : Nat) x1)).2.1 (2 : Int) then ieq (missX x0 (List.take (60 : Nat) x1)).2.1 (2 : Int) else false) = true → (bif ieq (blocksX x0 (List.take (60 : Nat) x1)).2.1 (2 : Int) then ieq (missX x0 (List.take (60 : Nat) x1)).2.1 (2 : Int) else false) = true) (some ((bif bif ieq (blocksX x0 (List.take (60 : Nat) x1)).2.1 (2 : Int) then ieq (missX x0 (List.take (60 : Nat) x1)).2.1 (2 : Int) else false then true else false, ()) : Bool × Unit)))) else gd ((0 : Nat) = (0 : Nat)) (whileO (fun (d2 : Int × List Int × Unit) => bif ilt d2.1 (wr IntKind.i64 (wr IntKind.i64 (wr IntKind.i64 (x0 * x0) + x0) + (1 : Int))) then gd (small x1) (bif !List.contains x1 d2.1 then gd (List.length d2.2.1 ≤ List.length d2.2.1) (gd ((List.length d2.2.1 + (1 : Nat)) * (8 : Nat) ≤ (1099511627776 : Nat)) (gd (List.length d2.2.1 + (1 : Nat) = List.length (List.take (List.length d2.2.1) d2.2.1 ++ d2.1 :: ([] : List Int))) (some (Lp.go ((wr IntKind.i64 (d2.1 + (1 : Int)), List.take (List.length d2.2.1) d2.2.1 ++ d2.1 :: ([] : List Int), ()) : Int × List Int × Unit))))) else gd (List.length d2.2.1 = List.length d2.2.1) (some (Lp.go ((wr IntKind.i64 (d2.1 + (1 : Int)), d2.2.1, ()) : Int × List Int × Unit)))) else gd (List.length d2.2.1 = List.length d2.2.1) (gd (small d2.2.1) (gd ((0 : Nat) + List.length d2.2.1 ≤ List.length d2.2.1) (gd (List.length (List.take (List.length d2.2.1) (List.drop (0 : Nat) d2.2.1)) ≤ (100000 : Nat)) (gd (small (List.take (List.length d2.2.1) (List.drop (0 : Nat) d2.2.1))) (gd ((!!ieq (missX x0 d2.2.1).2.1 (0 : Int)) = true → (!!ieq (missX x0 d2.2.1).2.1 (0 : Int)) = true) (gd ((!ieq (missX x0 d2.2.1).2.1 (0 : Int)) = false → (!!ieq (missX x0 d2.2.1).2.1 (0 : Int)) = true) (gd ((!bif !ieq (missX x0 d2.2.1).2.1 (0 : Int) then true else !ieq (missX x0 (List.take (60 : Nat) x1)).2.1 (0 : Int)) = true → (!bif !ieq (missX x0 d2.2.1).2.1 (0 : Int) then true else !ieq (missX x0 (List.take (60 : Nat) x1)).2.1 (0 : Int)) = true) (gd ((bif !ieq (missX x0 d2.2.1).2.1 (0 : Int) then true else !ieq (missX x0 (List.take (60 : Nat) x1)).2.1 (0 : Int)) = false → (!bif !ieq (missX x0 d2.2.1).2.1 (0 : Int) then true else !ieq (missX x0 (List.take (60 : Nat) x1)).2.1 (0 : Int)) = true) (gd ((!g7_c0 x0 x1 d2) = true → (!g7_c0 x0 x1 d2) = true) (gd ((!g7_c0 x0 x1 d2) = true → (!g7_c0 x0 x1 d2) = true) (gd ((!g7_c0 x0 x1 d2 && (!g7_c0 x0 x1 d2 && ieq (↑(List.length (missX x0 (List.take (60 : Nat) x1)).1) : Int) (0 : Int))) = true → (!g7_c0 x0 x1 d2 && (!g7_c0 x0 x1 d2 && ieq (↑(List.length (missX x0 (List.take (60 : Nat) x1)).1) : Int) (0 : Int))) = true) (gd ((!g7_c0 x0 x1 d2 && (!g7_c0 x0 x1 d2 && ieq (↑(List.length (missX x0 (List.take (60 : Nat) x1)).1) : Int) (0 : Int))) = true → (!g7_c0 x0 x1 d2 && (!g7_c0 x0 x1 d2 && ieq (↑(List.length (missX x0 (List.take (60 : Nat) x1)).1) : Int) (0 : Int))) = true) (gd ((!g7_c0 x0 x1 d2) = true → (!g7_c0 x0 x1 d2) = true ∧ (!g7_c0 x0 x1 d2) = true ∧ (ieq (↑(List.length (missX x0 (List.take (60 : Nat) x1)).1) : Int) (0 : Int) = true → (!g7_c0 x0 x1 d2 && (!g7_c0 x0 x1 d2 && ieq (↑(List.length (missX x0 (List.take (60 : Nat) x1)).1) : Int) (0 : Int))) = true)) (gd ((!g7_c0 x0 x1 d2) = true → (!g7_c0 x0 x1 d2) = true ∧ (!g7_c0 x0 x1 d2) = true) (gd (g7_c0 x0 x1 d2 = false → (!g7_c0 x0 x1 d2) = true) (gd ((!bif g7_c0 x0 x1 d2 then true else g7_c1 x0 x1 d2) = true → (!bif g7_c0 x0 x1 d2 then true else g7_c1 x0 x1 d2) = true ∧ (!bif g7_c0 x0 x1 d2 then true else g7_c1 x0 x1 d2) = true) (gd ((bif g7_c0 x0 x1 d2 then true else g7_c1 x0 x1 d2) = false → (!bif g7_c0 x0 x1 d2 then true else g7_c1 x0 x1 d2) = true) (bif bif bif g7_c0 x0 x1 d2 then true else g7_c1 x0 x1 d2 then true else !beqB (blocksX x0 (List.take (List.length d2.2.1) (List.drop (0 : Nat) d2.2.1))).1 (blocksX x0 (List.take (60 : Nat) x1)).1 then some (Lp.out ((false, ()) : Bool × Unit)) else gd ((!!(blocksX x0 (List.take (60 : Nat) x1)).1) = true → (!!(blocksX x0 (List.take (60 : Nat) x1)).1) = true) (gd ((!!(blocksX x0 (List.take (60 : Nat) x1)).1 && (!!(blocksX x0 (List.take (60 : Nat) x1)).1 && ilt (2 : Int) x0)) = true → (!!(blocksX x0 (List.take (60 : Nat) x1)).1 && (!!(blocksX x0 (List.take (60 : Nat) x1)).1 && ilt (2 : Int) x0)) = true) (gd ((!!(blocksX x0 (List.take (60 : Nat) x1)).1) = true → (!!(blocksX x0 (List.take (60 : Nat) x1)).1) = true ∧ (!!(blocksX x0 (List.take (60 : Nat) x1)).1) = true ∧ (ilt (2 : Int) x0 = true → (!!(blocksX x0 (List.take (60 : Nat) x1)).1 && (!!(blocksX x0 (List.take (60 : Nat) x1)).1 && ilt (2 : Int) x0)) = true)) (gd ((!!(blocksX x0 (List.take (60 : Nat) x1)).1 && (!!(blocksX x0 (List.take (60 : Nat) x1)).1 && bif ilt (2 : Int) x0 then ilt (0 : Int) (wr IntKind.i64 ((↑(List.length x1) : Int) - x0)) else false)) = true → g7_c2 x0 x1 = true ∧ g7_c2 x0 x1 = true) (gd ((!!(blocksX x0 (List.take (60 : Nat) x1)).1 && (!!(blocksX x0 (List.take (60 : Nat) x1)).1 && bif ilt (2 : Int) x0 then ilt (0 : Int) (wr IntKind.i64 ((↑(List.length x1) : Int) - x0)) else false)) = true → g7_c2 x0 x1 = true ∧ g7_c2 x0 x1 = true) (gd ((!!(blocksX x0 (List.take (60 : Nat) x1)).1) = true → (!!(blocksX x0 (List.take (60 : Nat) x1)).1) = true ∧ (!!(blocksX x0 (List.take (60 : Nat) x1)).1) = true ∧ ((bif ilt (2 : Int) x0 then ilt (0 : Int) (wr IntKind.i64 ((↑(List.length x1) : Int) - x0)) else false) = true → g7_c2 x0 x1 = true)) (gd ((!(blocksX x0 (List.take (60 : Nat) x1)).1) = false → (!!(blocksX x0 (List.take (60 : Nat) x1)).1) = true) (gd ((bif !(blocksX x0 (List.take (60 : Nat) x1)).1 then true else g7_c3 x0 x1) = true → (bif !(blocksX x0 (List.take (60 : Nat) x1)).1 then true else g7_c3 x0 x1) = true) (some (Lp.out ((bif bif !(blocksX x0 (List.take (60 : Nat) x1)).1 then true else g7_c3 x0 x1 then true else false, ()) : Bool × Unit))))))))))))))))))))))))))))) (((0 : Int), ([] : List Int), ()) : Int × List Int × Unit)))))))
noncomputable def g7_sh : List LSh := LSh.mk (((9, TV.slf (0) (1)) : Nat × TV) :: ((52, TV.v (Ty.int IntKind.i64)) : Nat × TV) :: ([] : List (Nat × TV))) (TB.arr (Ty.int IntKind.i64) true :: ([] : List TB)) :: ([] : List LSh)



end Go.Arcs

set_option linter.unusedVariables false
set_option linter.unusedSimpArgs false
namespace Go.Arcs
open Go Go.Ab Go.Proofs

abbrev StR := Int × List Int × Int × List TripD × List (TripD × Int) × Unit
theorem goal67s : con67s.goal Try.prog (spS [] [con37, con111, conLow]) g67s_sh [] lm30 := by
  have e : (∀ (p : Int) (l : List Int), small l → g67s p l = some ((readF p l).1, (readF p l).2.1, l, ())) = con67s.goal Try.prog (spS [] [con37, con111, conLow]) g67s_sh [] lm30 := by kernel_rfl
  rw [← e]
  intro p l hs
  unfold g67s
  rw [gd_pos (by simp [small])]
  by_cases hpb : isPb p = true
  · have hp := isPb_iff.1 hpb
    have hb := isP_bd hp
    have h343 : p * p * p ≤ 343 := by rcases hp with rfl | rfl | rfl | rfl <;> decide
    have hmem : ([2, 3, 5, 7] : List Int).contains p = true := hpb
    rw [cond_f (by rw [hmem]; rfl), gd_pos rfl, gd_pos rfl, ppp hp]
    have hfin : ((readF p l).1, (readF p l).2.1, l, ()) = (some (planeF p), !l.any (outOf (some (planeF p))), l, ()) := by
      rw [readF, if_pos hpb]
      have hlen := plane_len p (isP_mem hp)
      have : l.all (inPt p) = !l.any (outOf (some (planeF p))) := by
        rw [List.all_eq_not_any_not]
        congr 2
        funext n
        simp only [outOf, Option.getD_some, hlen, inPt, ilt, ile]
        by_cases h1 : 0 ≤ n <;> by_cases h2 : n < p * p + p + 1 <;> simp [h1, h2] <;> omega
      rw [this]
    rw [hfin]
    refine whileO_rec (fun (d : StR) => d.2.1 = l ∧ d.2.2.1 = p ∧ 1 ≤ d.1 ∧ d.1 ≤ p * p * p ∧ (d.2.2.2.1.length : Int) ≤ d.1)
      (fun (d : StR) => (p * p * p - d.1).toNat)
      (fun (d : StR) => (some (p, (bldN p (p * p * p - d.1).toNat d.1 d.2.2.2.1 d.2.2.2.2.1).1, (bldN p (p * p * p - d.1).toNat d.1 d.2.2.2.1 d.2.2.2.2.1).2, ()),
        !l.any (outOf (some (p, (bldN p (p * p * p - d.1).toNat d.1 d.2.2.2.1 d.2.2.2.2.1).1, (bldN p (p * p * p - d.1).toNat d.1 d.2.2.2.1 d.2.2.2.2.1).2, ()))), l, ())) ?_ (((1 : Int), l, p, [], [], ()) : StR) ⟨rfl, rfl, by simp only; omega, by simp only; rcases hp with rfl | rfl | rfl | rfl <;> decide, by simp only [List.length_nil]; omega⟩
    rintro ⟨i, l', p', xs, m, _⟩ ⟨hll, hpp, h1, h2, h3⟩
    simp only at hll hpp h1 h2 h3 ⊢
    subst hpp
    subst hll
    have hk : p' ≠ 0 := by omega
    by_cases hlt : i < p' * p' * p'
    · right
      have hn : (p' * p' * p' - i).toNat = (p' * p' * p' - (i + 1)).toNat + 1 := by omega
      rw [cond_t (ilt_iff.2 hlt)]
      simp only [trip_eq hp (show 0 ≤ i by omega) hlt, gd_pos hk, Nat.le_refl, Nat.zero_add, gd_true, gd_pos hp, gd_pos (trip_in hp (show 0 ≤ i by omega) hlt), gd_pos (trip_ne hp h1 hlt), List.take_length]
      by_cases hq : deq Trip (lowF p' (tripN p' i)) (tripN p' i) = true
      · refine ⟨((i + 1, l', p', xs ++ [tripN p' i], assocUp Trip I64 m (tripN p' i) (xs.length : Int), ()) : StR), ?_, ⟨rfl, rfl, by simp only; omega, by simp only; omega, by simp only [List.length_append, List.length_singleton]; omega⟩, by simp only; omega, ?_⟩
        · rw [cond_t hq, gd_pos (by omega), gd_pos (by simp), wr_id (by omega)]
        · simp only [hn]
          rw [bldN, if_pos hq]
      · have hq' : deq Trip (lowF p' (tripN p' i)) (tripN p' i) = false := by simpa using hq
        refine ⟨((i + 1, l', p', xs, m, ()) : StR), ?_, ⟨rfl, rfl, by simp only; omega, by simp only; omega, by simp only; omega⟩, by simp only; omega, ?_⟩
        · rw [cond_f hq', wr_id (by omega)]
        · simp only [hn]
          rw [bldN, if_neg hq]
    · left
      have hi : (p' * p' * p' - i).toNat = 0 := by omega
      rw [cond_f (ilt_false.2 (by omega)), hi]
      simp only [Nat.zero_add, Nat.le_refl, gd_true, gd_pos hs, List.drop_zero, List.take_length, bldN]
  · have hmem : ([2, 3, 5, 7] : List Int).contains p = false := by simpa [isPb] using hpb
    rw [cond_t (by rw [hmem]; rfl), readF, if_neg hpb]
set_option maxRecDepth 100000 in
theorem ok67s : con67s.Ok Try.prog := SCon.of_goal mixed (okC ok37 (okC ok111 (okC okLow okN))) okS0 con67s goal67s

theorem goal78s : con78s.goal Try.prog (spS [con67s] [con115]) g78s_sh [] lm30 := by
  have e : (∀ (p : Int) (l : List Int), small l → g78s p l = some ((setF p l).1, (setF p l).2.1, l, ())) = con78s.goal Try.prog (spS [con67s] [con115]) g78s_sh [] lm30 := by kernel_rfl
  rw [← e]
  intro p l hl
  unfold g78s setF
  cases (readF p l).2.1 <;> simp [gd_true, hl]
set_option maxRecDepth 100000 in
theorem ok78s : con78s.Ok Try.prog := SCon.of_goal mixed (okC ok115 okN) (okS ok67s okS0) con78s goal78s

theorem goal35s : con35s.goal Try.prog (spS [con78s] [con79]) g35s_sh [] lm30 := by
  have e : (∀ (p : Int) (l : List Int), small l → g35s p l = some ((missX p l).1, (missX p l).2.1, l, ())) = con35s.goal Try.prog (spS [con78s] [con79]) g35s_sh [] lm30 := by kernel_rfl
  rw [← e]
  intro p l hs
  unfold g35s
  rw [gd_pos rfl, gd_pos hs]
  by_cases h : okSet p l = true
  · obtain ⟨hpb, hal, hr⟩ := okSet_all h
    have hp := isPb_iff.1 hpb
    have hX : missX p l = (missF p l, 0, ()) := by rw [missX, if_pos h]
    have h1 : (planeF p).1 = p := rfl
    have hpts : (planeF p).2.1 = ptsC p := plane_pts p (isP_mem hp)
    have hpl : isPl (planeF p) := ⟨hp, rfl⟩
    have h57 := pts_57 hp
    rw [hX]
    simp only [setF_ok h, Bool.not_true, Option.getD_some, Option.isSome_some, h1, hpts]
    refine (cond_f rfl).trans ?_
    rw [gd_pos trivial, gd_pos trivial, gd_pos trivial]
    refine whileO_nat (st := fun i : Nat => ((i : Int), l, flt (fun b => ieq (meetsF p l b) 0) i, ())) (lo := 0) (hi := (ptsC p).length) (Nat.zero_le _) ?_ ?_
    · intro i _ hi
      have hfl := flt_len (q := fun b => ieq (meetsF p l b) 0) (n := i)
      refine (cond_t (ilt_iff.2 (by simp only; omega))).trans ?_
      simp only [Nat.zero_add, Nat.le_refl, List.drop_zero, gd_true, hpl, hal, inPt_nat hp hi, hs, cast1 (i := i) (by omega), List.take_length, flt_succ]
      cases hq0 : ieq (meetsF p l i) 0
      · simp [gd_true]
      · rw [cond_t rfl, gd_pos (by omega), gd_pos (by simp)]
        simp
    · refine (cond_f (ilt_false.2 (by simp only; omega))).trans ?_
      simp only [Nat.zero_add, Nat.le_refl, gd_true, List.drop_zero, List.take_length]
      rfl
  · have hX : missX p l = ([], 2, ()) := by rw [missX, if_neg h]
    rw [hX, setF_no h]
    rfl
set_option maxRecDepth 100000 in
theorem ok35s : con35s.Ok Try.prog := SCon.of_goal mixed (okC ok79 okN) (okS ok78s okS0) con35s goal35s

end Go.Arcs

set_option linter.unusedVariables false
set_option linter.unusedSimpArgs false
namespace Go.Arcs
open Go Go.Ab Go.Proofs

/-! ### Sums -/
def sumN (f : Nat → Int) : Nat → Int
  | 0 => 0
  | n + 1 => sumN f n + f n
def sumL (f : Int → Int) : List Int → Int
  | [] => 0
  | x :: l => f x + sumL f l
def ind (b : Bool) : Int := if b = true then 1 else 0

theorem sumN_congr {f g : Nat → Int} : ∀ {n : Nat}, (∀ i, i < n → f i = g i) → sumN f n = sumN g n
  | 0, _ => rfl
  | n + 1, h => by rw [sumN, sumN, sumN_congr fun i hi => h i (by omega), h n (by omega)]
theorem sumN_add {f g : Nat → Int} : ∀ {n : Nat}, sumN (fun i => f i + g i) n = sumN f n + sumN g n
  | 0 => rfl
  | n + 1 => by rw [sumN, sumN, sumN, sumN_add]; omega
theorem sumN_mul {f : Nat → Int} {c : Int} : ∀ {n : Nat}, sumN (fun i => c * f i) n = c * sumN f n
  | 0 => by simp [sumN]
  | n + 1 => by rw [sumN, sumN, sumN_mul, Int.mul_add]
theorem sumN_const {c : Int} : ∀ {n : Nat}, sumN (fun _ => c) n = n * c
  | 0 => by simp [sumN]
  | n + 1 => by rw [sumN, sumN_const]; grind
theorem sumN_nonneg {f : Nat → Int} : ∀ {n : Nat}, (∀ i, i < n → 0 ≤ f i) → 0 ≤ sumN f n
  | 0, _ => Int.le_refl _
  | n + 1, h => by
    have h1 := sumN_nonneg (n := n) fun i hi => h i (by omega)
    have h2 := h n (by omega)
    rw [sumN]; omega
theorem sumN_ge {f : Nat → Int} {i : Nat} : ∀ {n : Nat}, i < n → (∀ k, k < n → 0 ≤ f k) → f i ≤ sumN f n
  | n + 1, hi, h => by
    rw [sumN]
    by_cases hn : i = n
    · subst hn
      have := sumN_nonneg (n := i) fun k hk => h k (by omega)
      omega
    · have := sumN_ge (f := f) (i := i) (n := n) (by omega) fun k hk => h k (by omega)
      have := h n (by omega)
      omega
theorem sumN_count {q : Nat → Bool} : ∀ {n : Nat}, sumN (fun i => ind (q i)) n = ((List.range n).countP q : Int)
  | 0 => rfl
  | n + 1 => by
    rw [sumN, sumN_count, List.range_succ, List.countP_append, List.countP_singleton]
    cases q n <;> simp [ind]
theorem sumL_count {q : Int → Bool} : ∀ {l : List Int}, sumL (fun x => ind (q x)) l = (l.countP q : Int)
  | [] => rfl
  | x :: l => by
    rw [sumL, sumL_count, List.countP_cons]
    cases q x <;> simp [ind] <;> omega
theorem sumL_congr {f g : Int → Int} : ∀ {l : List Int}, (∀ x ∈ l, f x = g x) → sumL f l = sumL g l
  | [], _ => rfl
  | x :: l, h => by rw [sumL, sumL, sumL_congr fun y hy => h y (by simp [hy]), h x (by simp)]
theorem sumL_const {c : Int} : ∀ {l : List Int}, sumL (fun _ => c) l = l.length * c
  | [] => by simp [sumL]
  | x :: l => by rw [sumL, sumL_const, List.length_cons]; grind
theorem sumL_mul {f : Int → Int} {c : Int} : ∀ {l : List Int}, sumL (fun x => c * f x) l = c * sumL f l
  | [] => by simp [sumL]
  | x :: l => by rw [sumL, sumL, sumL_mul, Int.mul_add]
theorem sum_swap {f : Nat → Int → Int} {n : Nat} : ∀ {l : List Int}, sumN (fun b => sumL (f b) l) n = sumL (fun x => sumN (fun b => f b x) n) l
  | [] => by simp only [sumL]; rw [sumN_const, Int.mul_zero]
  | x :: l => by simp only [sumL]; rw [sumN_add, sum_swap]
theorem sumL_sq {f : Int → Int} {l : List Int} : sumL f l * sumL f l = sumL (fun x => sumL (fun y => f x * f y) l) l := by
  have : sumL (fun x => sumL (fun y => f x * f y) l) l = sumL (fun x => sumL f l * f x) l := sumL_congr fun x _ => by rw [sumL_mul, Int.mul_comm]
  rw [this, sumL_mul]
theorem sumL_pick {x : Int} {A B : Int} : ∀ {l : List Int}, ris l = true → (x ∈ l → sumL (fun y => if x = y then A else B) l = A + (l.length - 1) * B) ∧ (x ∉ l → sumL (fun y => if x = y then A else B) l = l.length * B)
  | [], _ => ⟨fun h => (by cases h), fun _ => by simp [sumL]⟩
  | y :: l, hr => by
    obtain ⟨h1, h2⟩ := ris_cons hr
    obtain ⟨k1, k2⟩ := sumL_pick (x := x) (A := A) (B := B) h1
    rw [sumL, List.length_cons]
    constructor
    · intro hx
      by_cases e : x = y
      · subst e
        rw [if_pos rfl, k2 (fun hc => by have := h2 x hc; omega)]
        grind
      · rcases List.mem_cons.1 hx with h | h
        · exact absurd h e
        · rw [if_neg e, k1 h]; grind
    · intro hx
      rw [List.mem_cons, not_or] at hx
      rw [if_neg hx.1, k2 hx.2]; grind

/-! ### Two points are on one line -/
def mask : List Bool → Nat
  | [] => 0
  | b :: l => (if b = true then 1 else 0) + 2 * mask l
theorem mask_bit : ∀ {l : List Bool} {j : Nat}, (mask l).testBit j = l.getD j false
  | [], j => by simp [mask]
  | b :: l, 0 => by cases b <;> simp [mask, Nat.testBit_zero] <;> omega
  | b :: l, j + 1 => by
    rw [Nat.testBit_succ]
    have : mask (b :: l) / 2 = mask l := by cases b <;> simp [mask] <;> omega
    rw [this, mask_bit]; rfl
def pc : Nat → Nat → Nat
  | 0, _ => 0
  | k + 1, x => x % 2 + pc k (x / 2)
theorem pc_eq : ∀ (k x : Nat), (List.range k).countP (fun j => x.testBit j) = pc k x
  | 0, _ => rfl
  | k + 1, x => by
    rw [List.range_succ_eq_map, List.countP_cons, List.countP_map, pc, ← pc_eq k (x / 2), Nat.add_comm]
    congr 1
    · rw [Nat.testBit_zero]
      rcases Nat.mod_two_eq_zero_or_one x with h | h <;> rw [h] <;> rfl
    · congr 1
      funext j
      show x.testBit (j + 1) = _
      rw [Nat.testBit_succ]
def frcB (n : Nat) (f : Nat → Bool) : Bool := Nat.rec (f 0) (fun m _ => f (m + 1)) n
theorem frcB_eq {n : Nat} {f : Nat → Bool} : frcB n f = f n := by cases n <;> rfl
def pairsOk (k : Nat) : List (List Bool) → List Nat → Bool
  | [], _ => true
  | r :: rs, acc => frcB (mask r) fun m => acc.all (fun m' => Nat.beq (pc k (m &&& m')) 1) && pairsOk k rs (m :: acc)
theorem pairsOk_spec {k : Nat} : ∀ {rs : List (List Bool)} {acc : List Nat}, pairsOk k rs acc = true → (∀ i, ∀ m ∈ acc, i < rs.length → pc k (mask (rs.getD i []) &&& m) = 1) ∧ ∀ i j, j < i → i < rs.length → pc k (mask (rs.getD i []) &&& mask (rs.getD j [])) = 1
  | [], _, _ => ⟨fun i m _ h => by simp at h, fun i j _ h => by simp at h⟩
  | r :: rs, acc, h => by
    rw [pairsOk, frcB_eq, Bool.and_eq_true, List.all_eq_true] at h
    obtain ⟨h1, h2⟩ := h
    obtain ⟨k1, k2⟩ := pairsOk_spec h2
    constructor
    · intro i m hm hi
      cases i with
      | zero => exact Nat.eq_of_beq_eq_true (h1 m hm)
      | succ i => exact k1 i m (List.mem_cons_of_mem _ hm) (by simpa using hi)
    · intro i j hj hi
      cases i with
      | zero => omega
      | succ i =>
        cases j with
        | zero => exact k1 i _ (List.mem_cons_self ..) (by simpa using hi)
        | succ j => exact k2 i j (by omega) (by simpa using hi)
theorem pairs_all : ∀ p ∈ ([2, 3, 5, 7] : List Int), pairsOk (ptsC p).length (tabF p) [] = true := by decide +kernel

section
variable {p : Int}
theorem tab_len' : (tabF p).length = (ptsC p).length := by simp [tabF]
theorem tab_rowN {x b : Nat} (hp : isP p) (hx : x < (ptsC p).length) (hb : b < (ptsC p).length) : ((tabF p).getD x []).getD b false = onF p x b := by
  have := tat_on (p := p) (x := x) (b := b) hp (inPt_nat hp hx) (inPt_nat hp hb)
  rw [← this]
  unfold tAt
  rw [Int.toNat_natCast, Int.toNat_natCast]
/-- The lines through a point, and through two. -/
theorem through_one (hp : isP p) {x : Nat} (hx : x < (ptsC p).length) : sumN (fun b => ind (onF p x b)) (ptsC p).length = p + 1 := by
  rw [sumN_count]
  have := cnt_tab p (isP_mem hp) x (List.mem_range.2 hx)
  rw [← this]
  congr 2
  funext b
  exact onF_comm
theorem through_two (hp : isP p) {x y : Nat} (hx : x < (ptsC p).length) (hy : y < (ptsC p).length) (hne : x ≠ y) : sumN (fun b => ind (onF p x b) * ind (onF p y b)) (ptsC p).length = 1 := by
  have key : ∀ x y : Nat, y < x → x < (ptsC p).length → sumN (fun b => ind (onF p x b) * ind (onF p y b)) (ptsC p).length = 1 := fun x y hyx hx => by
    have h := (pairsOk_spec (pairs_all p (isP_mem hp))).2 x y hyx (by rw [tab_len']; exact hx)
    rw [← pc_eq] at h
    have e : sumN (fun b => ind (onF p x b) * ind (onF p y b)) (ptsC p).length = sumN (fun b => ind ((mask ((tabF p).getD x []) &&& mask ((tabF p).getD y [])).testBit b)) (ptsC p).length := sumN_congr fun b hb => by
      rw [Nat.testBit_and, mask_bit, mask_bit, tab_rowN hp hx hb, tab_rowN hp (by omega) hb]
      cases onF p x b <;> cases onF p y b <;> rfl
    rw [e, sumN_count, h]; rfl
  rcases Nat.lt_or_ge y x with h | h
  · exact key x y h hx
  · rw [← key y x (by omega) hy]
    exact sumN_congr fun b _ => Int.mul_comm _ _

variable {l : List Int}
theorem in_nat (hl : l.all (inPt p) = true) (hp : isP p) {x : Int} (hx : x ∈ l) : ∃ n : Nat, x = n ∧ n < (ptsC p).length := by
  rw [List.all_eq_true] at hl
  have := inPt_iff.1 (hl x hx)
  have hn := pts_len p (isP_mem hp)
  exact ⟨x.toNat, by omega, by omega⟩
theorem meets_sum {b : Int} : meetsF p l b = sumL (fun x => ind (onF p x b)) l := (sumL_count (q := fun x => onF p x b)).symm

theorem sum_meets (hp : isP p) (hl : l.all (inPt p) = true) : sumN (fun b => meetsF p l b) (ptsC p).length = l.length * (p + 1) := by
  rw [sumN_congr fun b _ => meets_sum, sum_swap, ← sumL_const]
  refine sumL_congr fun x hx => ?_
  obtain ⟨n, rfl, hn⟩ := in_nat hl hp hx
  exact through_one hp hn
theorem sum_meets2 (hp : isP p) (hl : l.all (inPt p) = true) (hr : ris l = true) : sumN (fun b => meetsF p l b * meetsF p l b) (ptsC p).length = l.length * (p + l.length) := by
  have e1 : sumN (fun b => meetsF p l b * meetsF p l b) (ptsC p).length = sumL (fun x => sumL (fun y => sumN (fun b => ind (onF p x b) * ind (onF p y b)) (ptsC p).length) l) l := by
    rw [sumN_congr (g := fun b => sumL (fun x => sumL (fun y => ind (onF p x b) * ind (onF p y b)) l) l) fun b _ => by rw [meets_sum, sumL_sq], sum_swap]
    exact sumL_congr fun x _ => sum_swap
  rw [e1, ← sumL_const]
  refine sumL_congr fun x hx => ?_
  have e2 : sumL (fun y => sumN (fun b => ind (onF p x b) * ind (onF p y b)) (ptsC p).length) l = sumL (fun y => if x = y then p + 1 else 1) l := sumL_congr fun y hy => by
    obtain ⟨n, rfl, hn⟩ := in_nat hl hp hx
    obtain ⟨m, rfl, hm⟩ := in_nat hl hp hy
    by_cases e : n = m
    · subst e
      rw [if_pos rfl, ← through_one hp hn]
      refine sumN_congr fun b _ => ?_
      cases onF p n b <;> rfl
    · rw [if_neg (by omega), through_two hp hn hm e]
  rw [e2, (sumL_pick hr).1 hx]
  omega
theorem sum_at (hp : isP p) (hl : l.all (inPt p) = true) {x : Nat} (hx : x < (ptsC p).length) (hn : (x : Int) ∉ l) : sumN (fun b => ind (onF p x b) * meetsF p l b) (ptsC p).length = l.length := by
  rw [sumN_congr (g := fun b => sumL (fun y => ind (onF p x b) * ind (onF p y b)) l) fun b _ => by rw [meets_sum, sumL_mul], sum_swap]
  have : (l.length : Int) = sumL (fun _ => 1) l := by rw [sumL_const, Int.mul_one]
  rw [this]
  refine sumL_congr fun y hy => ?_
  obtain ⟨m, rfl, hm⟩ := in_nat hl hp hy
  exact through_two hp hx hm fun e => hn (e ▸ hy)

/-! ### The points that are not in a set -/
theorem cnt_in {f : Int → Bool} : ∀ (n : Nat) (lo : Int) (l : List Int), ris l = true → (∀ x ∈ l, lo ≤ x ∧ x < lo + n) → l.countP f = (List.range n).countP (fun (i : Nat) => l.contains (lo + i) && f (lo + i))
  | 0, lo, [], _, _ => by simp
  | 0, lo, x :: l, _, h => by have := h x (by simp); omega
  | n + 1, lo, [], _, _ => by simp
  | n + 1, lo, x :: l, hr, h => by
    obtain ⟨hr', hlt⟩ := ris_cons hr
    have hx := h x (by simp)
    have e : ∀ g : Int → Bool, (List.range (n + 1)).countP (fun (i : Nat) => g (lo + i)) = (if g lo = true then 1 else 0) + (List.range n).countP (fun (i : Nat) => g (lo + 1 + i)) := fun g => by
      rw [List.range_succ_eq_map, List.countP_cons, List.countP_map, Nat.add_comm]
      have : ((fun i : Nat => g (lo + i)) ∘ Nat.succ) = fun i : Nat => g (lo + 1 + i) := by
        funext i
        show g (lo + ((i + 1 : Nat) : Int)) = g (lo + 1 + i)
        congr 1; omega
      rw [this]
      simp
    rw [e (fun z => (x :: l).contains z && f z)]
    by_cases hx0 : x = lo
    · subst hx0
      have ih := cnt_in (f := f) n (x + 1) l hr' (fun y hy => by have h1 := h y (by simp [hy]); have h2 := hlt y hy; omega)
      have e2 : (List.range n).countP (fun (i : Nat) => (x :: l).contains (x + 1 + i) && f (x + 1 + i)) = (List.range n).countP (fun (i : Nat) => l.contains (x + 1 + i) && f (x + 1 + i)) := by
        refine List.countP_congr fun i _ => ?_
        have : ((x :: l).contains (x + 1 + (i : Int))) = l.contains (x + 1 + (i : Int)) := by
          rw [List.contains_cons]
          have : ((x + 1 + (i : Int)) == x) = false := by simp; omega
          rw [this, Bool.false_or]
        rw [this]
      rw [e2, ← ih, List.countP_cons]
      have : (x :: l).contains x = true := by simp
      simp only [this, Bool.true_and]
      omega
    · have ih := cnt_in (f := f) n (lo + 1) (x :: l) hr (fun y hy => by
        rcases List.mem_cons.1 hy with rfl | hy'
        · omega
        · have h1 := h y (by simp [hy']); have h2 := hlt y hy'; omega)
      have hno : (x :: l).contains lo = false := by
        rw [Bool.eq_false_iff]
        intro hc
        rcases List.mem_cons.1 (List.contains_iff_mem.1 hc) with h1 | h1
        · exact hx0 h1.symm
        · have := hlt lo h1; omega
      simp only [hno, Bool.false_and, Bool.false_eq_true, if_false, Nat.zero_add]
      exact ih

theorem rest_N (hp : isP p) : (p * p + p + 1).toNat = (ptsC p).length := by
  have := pts_len p (isP_mem hp)
  omega
theorem rest_mem (hp : isP p) {x : Int} (hx : x ∈ restF p l) : ∃ n : Nat, x = n ∧ n < (ptsC p).length ∧ l.contains x = false := by
  unfold restF flt at hx
  rw [rest_N hp] at hx
  obtain ⟨n, hn, rfl⟩ := List.mem_map.1 hx
  rw [List.mem_filter] at hn
  exact ⟨n, rfl, List.mem_range.1 hn.1, by simpa using hn.2⟩
theorem flt_ris {q : Nat → Bool} : ∀ {n : Nat}, ris (flt q n) = true ∧ ∀ x ∈ flt q n, x < n
  | 0 => ⟨rfl, fun x hx => by simp [flt] at hx⟩
  | n + 1 => by
    obtain ⟨h1, h2⟩ := flt_ris (q := q) (n := n)
    rw [flt_succ]
    by_cases hq : q n = true
    · rw [if_pos hq]
      constructor
      · rw [ris_iff] at h1 ⊢
        intro i hi
        rw [List.length_append, List.length_singleton] at hi
        by_cases h3 : i + 1 < (flt q n).length
        · rw [gd_at (by rw [List.length_append]; omega), gd_at (by rw [List.length_append]; omega), List.getElem_append_left (by omega), List.getElem_append_left h3]
          have := h1 i h3
          rwa [gd_at (by omega), gd_at h3] at this
        · have h4 : i + 1 = (flt q n).length := by omega
          rw [gd_at (by rw [List.length_append]; omega), gd_at (by rw [List.length_append, List.length_singleton]; omega), List.getElem_append_left (by omega), List.getElem_append_right (by omega)]
          have := h2 _ (List.getElem_mem (l := flt q n) (n := i) (by omega))
          simpa [h4] using this
      · intro x hx
        rcases List.mem_append.1 hx with h | h
        · have := h2 x h; omega
        · simp at h; omega
    · rw [if_neg hq, List.append_nil]
      exact ⟨h1, fun x hx => by have := h2 x hx; omega⟩
theorem rest_ok (hp : isP p) : okSet p (restF p l) = true := by
  unfold okSet
  rw [isPb_iff.2 hp, Bool.true_and, Bool.and_eq_true]
  refine ⟨?_, flt_ris.1⟩
  rw [List.all_eq_true]
  intro x hx
  obtain ⟨n, rfl, hn, _⟩ := rest_mem hp hx
  exact inPt_nat hp hn
theorem cnt_split {q f : Nat → Bool} : ∀ {l : List Nat}, l.countP (fun i => q i && f i) + l.countP (fun i => !q i && f i) = l.countP f
  | [] => rfl
  | x :: l => by
    have := cnt_split (q := q) (f := f) (l := l)
    rw [List.countP_cons, List.countP_cons, List.countP_cons]
    cases q x <;> cases f x <;> simp <;> omega
theorem rest_count (hp : isP p) (hl : l.all (inPt p) = true) (hr : ris l = true) (f : Int → Bool) : l.countP f + (restF p l).countP f = (List.range (ptsC p).length).countP fun (i : Nat) => f i := by
  have hN := pts_len p (isP_mem hp)
  rw [List.all_eq_true] at hl
  have h1 := cnt_in (f := f) (ptsC p).length 0 l hr (fun x hx => by have := inPt_iff.1 (hl x hx); omega)
  have h2 : (restF p l).countP f = (List.range (ptsC p).length).countP (fun (i : Nat) => !l.contains (i : Int) && f i) := by
    unfold restF flt
    rw [rest_N hp, List.countP_map, List.countP_filter]
    refine List.countP_congr fun i _ => ?_
    rw [Bool.and_comm]; rfl
  rw [h1, h2]
  simp only [Int.zero_add]
  exact cnt_split (q := fun i => l.contains (i : Int)) (f := fun i => f i)
theorem rest_meets (hp : isP p) (hl : l.all (inPt p) = true) (hr : ris l = true) {b : Nat} (hb : b < (ptsC p).length) : meetsF p l b + meetsF p (restF p l) b = p + 1 := by
  have h := rest_count hp hl hr (fun x => onF p x b)
  have h2 := cnt_tab p (isP_mem hp) b (List.mem_range.2 hb)
  unfold meetsF
  omega
theorem rest_len (hp : isP p) (hl : l.all (inPt p) = true) (hr : ris l = true) : (l.length : Int) + (restF p l).length = p * p + p + 1 := by
  have h := rest_count hp hl hr (fun _ => true)
  have hN := pts_len p (isP_mem hp)
  simp at h
  omega

/-- The bound. -/
theorem block_bd (hp : isP p) (hl : l.all (inPt p) = true) (hr : ris l = true) (hb : blocksF p l = true) : 0 < (l.length : Int) - p ∧ p ≤ ((l.length : Int) - p - 1) * ((l.length : Int) - p - 1) := by
  have hN := pts_len p (isP_mem hp)
  have hbd := isP_bd hp
  have hb' : ∀ b : Nat, b < (ptsC p).length → meetsF p l b ≠ 0 ∧ meetsF p l b ≠ p + 1 := fun b hbl => by
    unfold blocksF at hb
    rw [List.all_eq_true] at hb
    have := hb b (List.mem_range.2 hbl)
    simpa only [Bool.and_eq_true, Bool.not_eq_true', ieq_d, decide_eq_false_iff_not, ne_eq] using this
  have pos : ∀ b : Nat, b < (ptsC p).length → 1 ≤ meetsF p l b := fun b hbl => by
    have := (hb' b hbl).1
    unfold meetsF at this ⊢
    omega
  have up : ∀ b : Nat, b < (ptsC p).length → meetsF p l b ≤ (l.length : Int) - p := fun b hbl => by
    have h1 := rest_meets hp hl hr hbl
    have h2 := (hb' b hbl).2
    have h3 : 0 < (restF p l).countP (fun x => onF p x b) := by
      unfold meetsF at h1 h2; omega
    obtain ⟨x, hx, hon⟩ := List.countP_pos_iff.1 h3
    obtain ⟨n, rfl, hn, hc⟩ := rest_mem hp hx
    have hnl : (n : Int) ∉ l := fun h => by rw [List.contains_iff_mem.2 h] at hc; cases hc
    have s1 := sum_at hp hl hn hnl
    have s2 := through_one hp hn
    have s3 : sumN (fun c => ind (onF p n c) * meetsF p l c + (-1) * ind (onF p n c)) (ptsC p).length = l.length - (p + 1) := by
      rw [sumN_add, s1, sumN_mul, s2]; omega
    have s4 := sumN_ge (f := fun c => ind (onF p n c) * meetsF p l c + (-1) * ind (onF p n c)) hbl (fun c hc => by
      have := pos c hc
      cases onF p n c <;> simp [ind] <;> omega)
    rw [s3] at s4
    simp only [hon, ind, if_true] at s4
    omega
  have hpp : 0 ≤ p * p := Int.mul_nonneg (by omega) (by omega)
  have h0 := pos 0 (by omega)
  have h1 := up 0 (by omega)
  have q1 := sum_meets hp hl
  have q2 := sum_meets2 hp hl hr
  generalize hn : (l.length : Int) - p = n at up h1 ⊢
  have hln : (l.length : Int) = p + n := by omega
  have q3 : 0 ≤ sumN (fun b => ((n + 1) * meetsF p l b + (-1) * (meetsF p l b * meetsF p l b)) + (-n)) (ptsC p).length := sumN_nonneg fun b hbl => by
    have a1 := pos b hbl
    have a2 := up b hbl
    generalize meetsF p l b = t at a1 a2
    have := Int.mul_nonneg (a := t - 1) (b := n - t) (by omega) (by omega)
    grind
  rw [sumN_add, sumN_add, sumN_mul, sumN_mul, q1, q2, sumN_const, hN, hln] at q3
  refine ⟨by omega, ?_⟩
  have q4 : 0 ≤ p * (n * n - 2 * n + 1 - p) := by grind
  have q5 : 0 ≤ n * n - 2 * n + 1 - p := by
    rcases Int.lt_or_le (n * n - 2 * n + 1 - p) 0 with h | h
    · have := Int.mul_neg_of_pos_of_neg (a := p) (by omega) h
      omega
    · exact h
  have : (n - 1) * (n - 1) = n * n - 2 * n + 1 := by grind
  omega
end

end Go.Arcs

set_option linter.unusedVariables false
set_option linter.unusedSimpArgs false
namespace Go.Arcs
open Go Go.Ab Go.Proofs

section
variable {p : Int} {l : List Int}
theorem blocks_iff : blocksF p l = true ↔ ∀ b : Nat, b < (ptsC p).length → meetsF p l b ≠ 0 ∧ meetsF p l b ≠ p + 1 := by
  unfold blocksF
  rw [List.all_eq_true]
  constructor
  · intro h b hb
    have := h b (List.mem_range.2 hb)
    simpa only [Bool.and_eq_true, Bool.not_eq_true', ieq_d, decide_eq_false_iff_not, ne_eq] using this
  · intro h b hb
    have := h b (List.mem_range.1 hb)
    simpa only [Bool.and_eq_true, Bool.not_eq_true', ieq_d, decide_eq_false_iff_not, ne_eq] using this
theorem blocks_rest (hp : isP p) (hl : l.all (inPt p) = true) (hr : ris l = true) : blocksF p (restF p l) = blocksF p l := by
  rw [Bool.eq_iff_iff, blocks_iff, blocks_iff]
  constructor
  · intro h b hb
    have h1 := h b hb
    have h2 := rest_meets hp hl hr hb
    omega
  · intro h b hb
    have h1 := h b hb
    have h2 := rest_meets hp hl hr hb
    omega
theorem miss_len {m : List Int} : (missF p m).length = 0 ↔ ∀ b : Nat, b < (ptsC p).length → meetsF p m b ≠ 0 := by
  have : ((missF p m).length = 0) ↔ ∀ b, b < (ptsC p).length → ieq (meetsF p m b) 0 = false := flt_nil
  rw [this]
  refine forall_congr' fun b => imp_congr_right fun _ => ?_
  rw [ieq_d, decide_eq_false_iff_not]
theorem blocks_miss (hp : isP p) (hl : l.all (inPt p) = true) (hr : ris l = true) : blocksF p l = (decide ((missF p l).length = 0) && decide ((missF p (restF p l)).length = 0)) := by
  rw [Bool.eq_iff_iff, blocks_iff, Bool.and_eq_true, decide_eq_true_eq, decide_eq_true_eq, miss_len, miss_len]
  constructor
  · intro h
    exact ⟨fun b hb => (h b hb).1, fun b hb => by have h1 := h b hb; have h2 := rest_meets hp hl hr hb; omega⟩
  · rintro ⟨h1, h2⟩ b hb
    have a1 := h1 b hb
    have a2 := h2 b hb
    have a3 := rest_meets hp hl hr hb
    omega
/-- Over 2 there is none. -/
theorem block_two (hp : isP p) (hl : l.all (inPt p) = true) (hr : ris l = true) (hb : blocksF p l = true) : 2 < p := by
  have hbd := isP_bd hp
  rcases Int.lt_or_le 2 p with h | h
  · exact h
  · exfalso
    have hp2 : p = 2 := by omega
    subst hp2
    obtain ⟨b1, b2⟩ := block_bd hp hl hr hb
    have ok := rest_ok (l := l) hp
    obtain ⟨_, hl', hr'⟩ := okSet_all ok
    obtain ⟨c1, c2⟩ := block_bd hp hl' hr' (by rw [blocks_rest hp hl hr]; exact hb)
    have hlen := rest_len hp hl hr
    have key : ∀ n : Int, 0 < n → (2 : Int) ≤ (n - 1) * (n - 1) → 3 ≤ n := fun n h1 h2 => by
      rcases Int.lt_or_le n 3 with h | h
      · exfalso
        have : n = 1 ∨ n = 2 := by omega
        rcases this with rfl | rfl <;> omega
      · exact h
    have k1 := key _ b1 b2
    have k2 := key _ c1 c2
    omega
theorem block_sq (hp : isP p) (hl : l.all (inPt p) = true) (hr : ris l = true) (hb : blocksF p l = true) : 0 < (l.length : Int) - p ∧ p < ((l.length : Int) - p) * ((l.length : Int) - p) := by
  obtain ⟨b1, b2⟩ := block_bd hp hl hr hb
  refine ⟨b1, ?_⟩
  generalize (l.length : Int) - p = n at b1 b2
  have : n * n = (n - 1) * (n - 1) + 2 * n - 1 := by grind
  omega
end

theorem goal7 : con7.goal Try.prog (spS [con35s] [con34, con33, con35, con36, con22, con37, con38]) g7_sh [] lm30 := by
  have e : (∀ (p : Int) (l : List Int), small2 l → g7 p l = some (true, ())) = con7.goal Try.prog (spS [con35s] [con34, con33, con35, con36, con22, con37, con38]) g7_sh [] lm30 := by kernel_rfl
  rw [← e]
  intro p l hs2
  have ht : small (l.take 60) := by
    unfold small
    rw [List.length_take]; omega
  unfold g7 g7_c3 g7_c2 g7_c1 g7_c0
  rw [gd_pos ht, gd_pos ht]
  by_cases h : okSet p l = true
  · obtain ⟨hpb, hal, hr⟩ := okSet_all h
    have hp := isPb_iff.1 hpb
    have hlen := ok_len h
    have hs : small l := by unfold small; omega
    have hbd := isP_bd hp
    have hN := pts_len p (isP_mem hp)
    have h57 := pts_57 hp
    have e1 : l.take 60 = l := List.take_of_length_le (by omega)
    have hB : blocksX p l = (blocksF p l, 0, ()) := by rw [blocksX, if_pos h]
    have hM : missX p l = (missF p l, 0, ()) := by rw [missX, if_pos h]
    have hr' := rest_ok (l := l) hp
    have hB' : blocksX p (restF p l) = (blocksF p l, 0, ()) := by rw [blocksX, if_pos hr', blocks_rest hp hal hr]
    have hM' : missX p (restF p l) = (missF p (restF p l), 0, ()) := by rw [missX, if_pos hr']
    have hrl : (restF p l).length ≤ 57 := by
      have := flt_len (q := fun x => !l.contains (x : Int)) (n := (p * p + p + 1).toNat)
      unfold restF; rw [rest_N hp] at this ⊢; omega
    have hrs : small (restF p l) := by unfold small; omega
    have hpp : 0 ≤ p * p := Int.mul_nonneg (by omega) (by omega)
    have hw : wr .i64 (wr .i64 (wr .i64 (p * p) + p) + 1) = ((ptsC p).length : Int) := by
      rw [hN]
      rcases hp with rfl | rfl | rfl | rfl <;> decide
    have w1 : wr .i64 ((l.length : Int) - p) = (l.length : Int) - p := wr_id (by omega)
    have hmi := blocks_miss hp hal hr
    have i00 : ieq 0 0 = true := rfl
    have hnat : ∀ m : List Int, ieq (m.length : Int) 0 = decide (m.length = 0) := fun m => by rw [ieq_d]; exact decide_eq_decide.2 (by omega)
    rw [e1, hB, hM, hw]
    simp only [i00, h, hs, hs2, gd_true, Bool.not_true, Bool.not_false, cond_false, cond_true, imp_self, and_self, forall_const, Bool.false_eq_true, Bool.true_eq_false, false_implies, Nat.le_refl, Nat.zero_add, List.drop_zero, List.take_length]
    refine whileO_nat (st := fun x : Nat => ((x : Int), flt (fun x => !l.contains (x : Int)) x, ())) (lo := 0) (hi := (ptsC p).length) (Nat.zero_le _) (fun x _ hx => ?_) ?_
    · have hfl := flt_len (q := fun x => !l.contains (x : Int)) (n := x)
      simp only
      rw [cond_t (ilt_iff.2 (by omega)), flt_succ, cast1 (by omega)]
      cases hc : l.contains (x : Int) with
      | true => simp [gd_true]
      | false => rw [Bool.not_false, cond_t rfl, gd_pos (by omega), gd_pos (by simp)]; simp
    · have hR : flt (fun x => !l.contains (x : Int)) (ptsC p).length = restF p l := by unfold restF; rw [rest_N hp]
      simp only [hR]
      rw [cond_f (ilt_false.2 (by omega)), gd_pos hrs, gd_pos (by omega), gd_pos hrs, hB', hM']
      simp only [i00, hnat, gd_true, Bool.not_true, Bool.not_false, cond_false, cond_true, imp_self, and_self, forall_const, Bool.false_eq_true, Bool.true_eq_false, false_implies, w1]
      generalize decide ((missF p l).length = 0) = A at hmi ⊢
      generalize decide ((missF p (restF p l)).length = 0) = B at hmi ⊢
      cases hb : blocksF p l with
      | true =>
        rw [hb] at hmi
        have t1 := block_two hp hal hr hb
        obtain ⟨t2, t3⟩ := block_sq hp hal hr hb
        have hle : ((l.length : Int) - p) * ((l.length : Int) - p) ≤ 57 * 57 := (mul_bd (c := 57) (by omega) (by omega)).2
        have w2 : wr .i64 (((l.length : Int) - p) * ((l.length : Int) - p)) = ((l.length : Int) - p) * ((l.length : Int) - p) := wr_id (by omega)
        cases A <;> cases B <;> first | exact absurd hmi (by decide) | simp [beqB, w2, ilt_iff.2 t1, ilt_iff.2 t2, ilt_iff.2 t3, gd_true]
      | false =>
        rw [hb] at hmi
        cases A <;> cases B <;> first | exact absurd hmi (by decide) | simp [beqB, gd_true]
  · have h' : okSet p l = false := by simpa using h
    have h2 : ¬ okSet p (l.take 60) = true := by rw [ok_take]; exact h
    have hB : blocksX p (l.take 60) = (false, 2, ()) := by rw [blocksX, if_neg h2]
    have hM : missX p (l.take 60) = ([], 2, ()) := by rw [missX, if_neg h2]
    simp [h', hB, hM, hs2, gd_true, ieq_d]
set_option maxRecDepth 100000 in
theorem ok7 : con7.Ok Try.prog := Con.of_goalS mixed (okC ok34 (okC ok33 (okC ok35 (okC ok36 (okC ok22 (okC ok37 (okC ok38 okN))))))) (okS ok35s okS0) con7 goal7

end Go.Arcs
