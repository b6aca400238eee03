/- Turned over, and products: contracts of the law. -/
import Derived.Test.YtibpopddoggnkaaXU
set_option linter.unusedVariables false
set_option linter.unusedSimpArgs false
namespace Go.Signs
open Go Go.Ab Go.Proofs

def overF (l : List Int) : List Int := madeF l.length (fun i j => isF l j i)
noncomputable def con41 : Con := mkC 41 [.d LI] [LI] (fun (l : List Int) => [isM l 16 = true]) (fun (l : List Int) => (overF l, ()))
noncomputable def g41_l0 (x0 : List Int) (d1 d2 : Int × List Int × Unit) : Option (Lp (Int × List Int × Unit) (Lp (Int × List Int × Unit) (List Int × Unit))) := bif ilt d2.1 (↑(List.length x0) : Int) then gd ((0 : Int) ≤ d2.1 ∧ d2.1 < (↑(List.length d2.2.1) : Int)) (gd ((0 : Nat) + Int.toNat d2.1 < List.length d2.2.1) (gd ((0 : Int) ≤ d2.1) (gd ((0 : Int) ≤ d1.1) (gd ((0 : Int) ≤ d2.1 ∧ d2.1 < (↑(List.length d2.2.1) : Int)) (gd ((0 : Nat) + Int.toNat d2.1 < List.length d2.2.1) (gd (List.length d2.2.1 = List.length (List.set d2.2.1 ((0 : Nat) + Int.toNat d2.1) (ior IntKind.i64 (List.getD d2.2.1 ((0 : Nat) + Int.toNat d2.1) (0 : Int)) (ishl IntKind.i64 (iand IntKind.i64 (ishr IntKind.i64 (List.getD x0 (Int.toNat d1.1) (0 : Int)) d2.1) (1 : Int)) d1.1)))) (some (Lp.go ((wr IntKind.i64 (d2.1 + (1 : Int)), List.set d2.2.1 ((0 : Nat) + Int.toNat d2.1) (ior IntKind.i64 (List.getD d2.2.1 ((0 : Nat) + Int.toNat d2.1) (0 : Int)) (ishl IntKind.i64 (iand IntKind.i64 (ishr IntKind.i64 (List.getD x0 (Int.toNat d1.1) (0 : Int)) d2.1) (1 : Int)) d1.1)), ()) : Int × List Int × Unit))))))))) else gd (List.length d2.2.1 = List.length d2.2.1) (some (Lp.out (Lp.go ((wr IntKind.i64 (d1.1 + (1 : Int)), d2.2.1, ()) : Int × List Int × Unit))))
noncomputable def g41 (x0 : List Int) : Option (List Int × Unit) := gd ((0 : Int) ≤ (↑(List.length x0) : Int) ∧ (↑(List.length x0) : Int) ≤ (↑(List.length x0) : Int) ∧ (↑(List.length x0) : Int) * (8 : Int) ≤ (1099511627776 : Int)) (gd (List.length x0 = List.length (List.replicate (List.length x0) (0 : Int))) (whileO (fun (d1 : Int × List Int × Unit) => bif ilt d1.1 (↑(List.length x0) : Int) then gd ((0 : Int) ≤ d1.1 ∧ d1.1 < (↑(List.length x0) : Int)) (gd (List.length d1.2.1 = List.length d1.2.1) (whileO (g41_l0 x0 d1) (((0 : Int), d1.2.1, ()) : Int × List Int × Unit))) else gd ((0 : Nat) + List.length d1.2.1 ≤ List.length d1.2.1) (some (Lp.out ((List.take (List.length d1.2.1) (List.drop (0 : Nat) d1.2.1), ()) : List Int × Unit)))) (((0 : Int), List.replicate (List.length x0) (0 : Int), ()) : Int × List Int × Unit)))
noncomputable def g41_sh : List LSh := LSh.mk (((3, TV.slf (0) (1)) : Nat × TV) :: ((12, TV.v (Ty.int IntKind.i64)) : Nat × TV) :: ([] : List (Nat × TV))) (TB.arr (Ty.int IntKind.i64) true :: ([] : List TB)) :: LSh.mk (((3, TV.slf (0) (1)) : Nat × TV) :: ((19, TV.v (Ty.int IntKind.i64)) : Nat × TV) :: ([] : List (Nat × TV))) (TB.arr (Ty.int IntKind.i64) true :: ([] : List TB)) :: ([] : List LSh)
noncomputable def con8 : Con := mkC 8 [.d LI, .d LI, .d I64, .d I64, .d I64] [.bool] (fun (l b : List Int) (r c k : Int) => [small l, small b]) (fun (l b : List Int) (r c k : Int) => (true, ()))
noncomputable def g8_c0 (x0 : List Int) : Bool := bif bif !ieq (normX (List.take (20 : Nat) x0)).2.1 (0 : Int) then true else !ieq (balX (normX (List.take (20 : Nat) x0)).1).2.1 (0 : Int) then true else !ieq (balX (overF x0)).2.1 (0 : Int)
noncomputable def g8_c1 (x0 : List Int) (x2 x3 : Int) : Bool := bif bif bif g8_c0 x0 then true else !ieq (balX (turnF x0 x2 x3)).2.1 (0 : Int) then true else !beqB (balX (normX (List.take (20 : Nat) x0)).1).1 (balX (List.take (20 : Nat) x0)).1 then true else !beqB (balX (overF x0)).1 (balX (List.take (20 : Nat) x0)).1
noncomputable def g8_c2 (x0 : List Int) (d5 : Int × Unit) : Bool := !!ieq (iand IntKind.i64 (List.getD (normX (List.take (20 : Nat) x0)).1 (Int.toNat d5.1) (0 : Int)) (1 : Int)) (0 : Int) && (!!ieq (iand IntKind.i64 (List.getD (normX (List.take (20 : Nat) x0)).1 (Int.toNat d5.1) (0 : Int)) (1 : Int)) (0 : Int) && ieq d5.1 (0 : Int))
noncomputable def g8_c3 (x0 : List Int) (d5 : Int × Unit) : Bool := bif !ieq (iand IntKind.i64 (List.getD (normX (List.take (20 : Nat) x0)).1 (Int.toNat d5.1) (0 : Int)) (1 : Int)) (0 : Int) then true else bif ieq d5.1 (0 : Int) then !ieq (List.getD (normX (List.take (20 : Nat) x0)).1 (Int.toNat d5.1) (0 : Int)) (0 : Int) else false
noncomputable def g8_c4 (x0 x1 : List Int) : Bool := !!ieq (balX (timX (List.take (20 : Nat) x0) (List.take (20 : Nat) x1)).1).2.1 (0 : Int) && (!!ieq (balX (timX (List.take (20 : Nat) x0) (List.take (20 : Nat) x1)).1).2.1 (0 : Int) && (balX (List.take (20 : Nat) x0)).1)
noncomputable def g8_c5 (x0 x1 : List Int) : Bool := !!ieq (balX (timX (List.take (20 : Nat) x0) (List.take (20 : Nat) x1)).1).2.1 (0 : Int) && (!!ieq (balX (timX (List.take (20 : Nat) x0) (List.take (20 : Nat) x1)).1).2.1 (0 : Int) && !beqB (balX (timX (List.take (20 : Nat) x0) (List.take (20 : Nat) x1)).1).1 (bif (balX (List.take (20 : Nat) x0)).1 then (balX (List.take (20 : Nat) x1)).1 else false))
noncomputable def g8_c6 (x0 x1 : List Int) : Bool := bif !beqB (balX (timX (List.take (20 : Nat) x0) (List.take (20 : Nat) x1)).1).1 (bif (balX (List.take (20 : Nat) x0)).1 then (balX (List.take (20 : Nat) x1)).1 else false) then ilt (0 : Int) (wr IntKind.i64 ((↑(List.length x0) : Int) * (↑(List.length x1) : Int))) else false
noncomputable def g8_c7 (x0 : List Int) : Bool := bif bif !(balX (List.take (20 : Nat) x0)).1 then true else ilt (↑(List.length x0) : Int) (3 : Int) then true else ieq (Int.tmod (↑(List.length x0) : Int) (4 : Int)) (0 : Int)
noncomputable def g8 (x0 x1 : List Int) (x2 x3 x4 : Int) : Option (Bool × Unit) := gd (small (List.take (20 : Nat) x0)) (gd ((!!ieq (balX (List.take (20 : Nat) x0)).2.1 (0 : Int)) = true → (!!ieq (balX (List.take (20 : Nat) x0)).2.1 (0 : Int)) = true ∧ small x0 ∧ (16 : Int) ≤ (16 : Int)) (gd ((!!ieq (balX (List.take (20 : Nat) x0)).2.1 (0 : Int)) = true → (!!ieq (balX (List.take (20 : Nat) x0)).2.1 (0 : Int)) = true) (gd ((!ieq (balX (List.take (20 : Nat) x0)).2.1 (0 : Int)) = false → (!!ieq (balX (List.take (20 : Nat) x0)).2.1 (0 : Int)) = true) (bif bif !ieq (balX (List.take (20 : Nat) x0)).2.1 (0 : Int) then true else !isM x0 (16 : Int) then gd (ieq (balX (List.take (20 : Nat) x0)).2.1 (2 : Int) = true → ieq (balX (List.take (20 : Nat) x0)).2.1 (2 : Int) = true) (some ((bif ieq (balX (List.take (20 : Nat) x0)).2.1 (2 : Int) then true else false, ()) : Bool × Unit)) else gd (small (List.take (20 : Nat) x0)) (gd (List.length (normX (List.take (20 : Nat) x0)).1 ≤ (100000 : Nat)) (gd (small (normX (List.take (20 : Nat) x0)).1) (gd (isM x0 (16 : Int) = true) (gd (small (overF x0)) (gd (isM x0 (16 : Int) = true) (gd (small (turnF x0 x2 x3)) (gd ((!!ieq (normX (List.take (20 : Nat) x0)).2.1 (0 : Int)) = true → (!!ieq (normX (List.take (20 : Nat) x0)).2.1 (0 : Int)) = true) (gd ((!ieq (normX (List.take (20 : Nat) x0)).2.1 (0 : Int)) = false → (!!ieq (normX (List.take (20 : Nat) x0)).2.1 (0 : Int)) = true) (gd ((!bif !ieq (normX (List.take (20 : Nat) x0)).2.1 (0 : Int) then true else !ieq (balX (normX (List.take (20 : Nat) x0)).1).2.1 (0 : Int)) = true → (!bif !ieq (normX (List.take (20 : Nat) x0)).2.1 (0 : Int) then true else !ieq (balX (normX (List.take (20 : Nat) x0)).1).2.1 (0 : Int)) = true) (gd ((bif !ieq (normX (List.take (20 : Nat) x0)).2.1 (0 : Int) then true else !ieq (balX (normX (List.take (20 : Nat) x0)).1).2.1 (0 : Int)) = false → (!bif !ieq (normX (List.take (20 : Nat) x0)).2.1 (0 : Int) then true else !ieq (balX (normX (List.take (20 : Nat) x0)).1).2.1 (0 : Int)) = true) (gd ((!g8_c0 x0) = true → (!g8_c0 x0) = true) (gd (g8_c0 x0 = false → (!g8_c0 x0) = true) (gd ((!bif g8_c0 x0 then true else !ieq (balX (turnF x0 x2 x3)).2.1 (0 : Int)) = true → (!bif g8_c0 x0 then true else !ieq (balX (turnF x0 x2 x3)).2.1 (0 : Int)) = true ∧ (!bif g8_c0 x0 then true else !ieq (balX (turnF x0 x2 x3)).2.1 (0 : Int)) = true) (gd ((bif g8_c0 x0 then true else !ieq (balX (turnF x0 x2 x3)).2.1 (0 : Int)) = false → (!bif g8_c0 x0 then true else !ieq (balX (turnF x0 x2 x3)).2.1 (0 : Int)) = true) (gd ((!bif bif g8_c0 x0 then true else !ieq (balX (turnF x0 x2 x3)).2.1 (0 : Int) then true else !beqB (balX (normX (List.take (20 : Nat) x0)).1).1 (balX (List.take (20 : Nat) x0)).1) = true → (!bif bif g8_c0 x0 then true else !ieq (balX (turnF x0 x2 x3)).2.1 (0 : Int) then true else !beqB (balX (normX (List.take (20 : Nat) x0)).1).1 (balX (List.take (20 : Nat) x0)).1) = true ∧ (!bif bif g8_c0 x0 then true else !ieq (balX (turnF x0 x2 x3)).2.1 (0 : Int) then true else !beqB (balX (normX (List.take (20 : Nat) x0)).1).1 (balX (List.take (20 : Nat) x0)).1) = true) (gd ((bif bif g8_c0 x0 then true else !ieq (balX (turnF x0 x2 x3)).2.1 (0 : Int) then true else !beqB (balX (normX (List.take (20 : Nat) x0)).1).1 (balX (List.take (20 : Nat) x0)).1) = false → (!bif bif g8_c0 x0 then true else !ieq (balX (turnF x0 x2 x3)).2.1 (0 : Int) then true else !beqB (balX (normX (List.take (20 : Nat) x0)).1).1 (balX (List.take (20 : Nat) x0)).1) = true) (gd ((!g8_c1 x0 x2 x3) = true → (!g8_c1 x0 x2 x3) = true ∧ (!g8_c1 x0 x2 x3) = true) (gd (g8_c1 x0 x2 x3 = false → (!g8_c1 x0 x2 x3) = true) (bif bif g8_c1 x0 x2 x3 then true else !beqB (balX (turnF x0 x2 x3)).1 (balX (List.take (20 : Nat) x0)).1 then some ((false, ()) : Bool × Unit) else whileO (fun (d5 : Int × Unit) => bif ilt d5.1 (↑(List.length (normX (List.take (20 : Nat) x0)).1) : Int) then gd ((0 : Int) ≤ d5.1 ∧ d5.1 < (↑(List.length (normX (List.take (20 : Nat) x0)).1) : Int)) (gd ((!!ieq (iand IntKind.i64 (List.getD (normX (List.take (20 : Nat) x0)).1 (Int.toNat d5.1) (0 : Int)) (1 : Int)) (0 : Int)) = true → (!!ieq (iand IntKind.i64 (List.getD (normX (List.take (20 : Nat) x0)).1 (Int.toNat d5.1) (0 : Int)) (1 : Int)) (0 : Int)) = true) (gd ((!!ieq (iand IntKind.i64 (List.getD (normX (List.take (20 : Nat) x0)).1 (Int.toNat d5.1) (0 : Int)) (1 : Int)) (0 : Int) && (!!ieq (iand IntKind.i64 (List.getD (normX (List.take (20 : Nat) x0)).1 (Int.toNat d5.1) (0 : Int)) (1 : Int)) (0 : Int) && ieq d5.1 (0 : Int))) = true → g8_c2 x0 d5 = true) (gd ((!!ieq (iand IntKind.i64 (List.getD (normX (List.take (20 : Nat) x0)).1 (Int.toNat d5.1) (0 : Int)) (1 : Int)) (0 : Int)) = true → (!!ieq (iand IntKind.i64 (List.getD (normX (List.take (20 : Nat) x0)).1 (Int.toNat d5.1) (0 : Int)) (1 : Int)) (0 : Int)) = true ∧ (!!ieq (iand IntKind.i64 (List.getD (normX (List.take (20 : Nat) x0)).1 (Int.toNat d5.1) (0 : Int)) (1 : Int)) (0 : Int)) = true ∧ (ieq d5.1 (0 : Int) = true → g8_c2 x0 d5 = true)) (gd ((!ieq (iand IntKind.i64 (List.getD (normX (List.take (20 : Nat) x0)).1 (Int.toNat d5.1) (0 : Int)) (1 : Int)) (0 : Int)) = false → (!!ieq (iand IntKind.i64 (List.getD (normX (List.take (20 : Nat) x0)).1 (Int.toNat d5.1) (0 : Int)) (1 : Int)) (0 : Int)) = true) (bif g8_c3 x0 d5 then some (Lp.out ((false, ()) : Bool × Unit)) else some (Lp.go ((wr IntKind.i64 (d5.1 + (1 : Int)), ()) : Int × Unit))))))) else gd (small (List.take (20 : Nat) x1)) (gd (small (List.take (20 : Nat) x0)) (gd (small (List.take (20 : Nat) x1)) (bif ieq (timX (List.take (20 : Nat) x0) (List.take (20 : Nat) x1)).2.1 (0 : Int) then gd (small (timX (List.take (20 : Nat) x0) (List.take (20 : Nat) x1)).1) (gd ((!!ieq (balX (timX (List.take (20 : Nat) x0) (List.take (20 : Nat) x1)).1).2.1 (0 : Int)) = true → (!!ieq (balX (timX (List.take (20 : Nat) x0) (List.take (20 : Nat) x1)).1).2.1 (0 : Int)) = true ∧ (!!ieq (balX (timX (List.take (20 : Nat) x0) (List.take (20 : Nat) x1)).1).2.1 (0 : Int)) = true ∧ ((balX (List.take (20 : Nat) x0)).1 = true → g8_c4 x0 x1 = true)) (gd ((!!ieq (balX (timX (List.take (20 : Nat) x0) (List.take (20 : Nat) x1)).1).2.1 (0 : Int)) = true → (!!ieq (balX (timX (List.take (20 : Nat) x0) (List.take (20 : Nat) x1)).1).2.1 (0 : Int)) = true ∧ (!!ieq (balX (timX (List.take (20 : Nat) x0) (List.take (20 : Nat) x1)).1).2.1 (0 : Int)) = true) (gd ((!!ieq (balX (timX (List.take (20 : Nat) x0) (List.take (20 : Nat) x1)).1).2.1 (0 : Int) && (!!ieq (balX (timX (List.take (20 : Nat) x0) (List.take (20 : Nat) x1)).1).2.1 (0 : Int) && !beqB (balX (timX (List.take (20 : Nat) x0) (List.take (20 : Nat) x1)).1).1 (bif (balX (List.take (20 : Nat) x0)).1 then (balX (List.take (20 : Nat) x1)).1 else false))) = true → g8_c5 x0 x1 = true) (gd ((!!ieq (balX (timX (List.take (20 : Nat) x0) (List.take (20 : Nat) x1)).1).2.1 (0 : Int) && (!!ieq (balX (timX (List.take (20 : Nat) x0) (List.take (20 : Nat) x1)).1).2.1 (0 : Int) && !beqB (balX (timX (List.take (20 : Nat) x0) (List.take (20 : Nat) x1)).1).1 (bif (balX (List.take (20 : Nat) x0)).1 then (balX (List.take (20 : Nat) x1)).1 else false))) = true → g8_c5 x0 x1 = true) (gd ((!!ieq (balX (timX (List.take (20 : Nat) x0) (List.take (20 : Nat) x1)).1).2.1 (0 : Int) && (!!ieq (balX (timX (List.take (20 : Nat) x0) (List.take (20 : Nat) x1)).1).2.1 (0 : Int) && !beqB (balX (timX (List.take (20 : Nat) x0) (List.take (20 : Nat) x1)).1).1 (bif (balX (List.take (20 : Nat) x0)).1 then (balX (List.take (20 : Nat) x1)).1 else false))) = true → g8_c5 x0 x1 = true ∧ g8_c5 x0 x1 = true) (gd ((!!ieq (balX (timX (List.take (20 : Nat) x0) (List.take (20 : Nat) x1)).1).2.1 (0 : Int) && (!!ieq (balX (timX (List.take (20 : Nat) x0) (List.take (20 : Nat) x1)).1).2.1 (0 : Int) && !beqB (balX (timX (List.take (20 : Nat) x0) (List.take (20 : Nat) x1)).1).1 (bif (balX (List.take (20 : Nat) x0)).1 then (balX (List.take (20 : Nat) x1)).1 else false))) = true → g8_c5 x0 x1 = true) (gd ((!!ieq (balX (timX (List.take (20 : Nat) x0) (List.take (20 : Nat) x1)).1).2.1 (0 : Int)) = true → (!!ieq (balX (timX (List.take (20 : Nat) x0) (List.take (20 : Nat) x1)).1).2.1 (0 : Int)) = true ∧ (!!ieq (balX (timX (List.take (20 : Nat) x0) (List.take (20 : Nat) x1)).1).2.1 (0 : Int)) = true ∧ ((!beqB (balX (timX (List.take (20 : Nat) x0) (List.take (20 : Nat) x1)).1).1 (bif (balX (List.take (20 : Nat) x0)).1 then (balX (List.take (20 : Nat) x1)).1 else false)) = true → g8_c5 x0 x1 = true)) (gd ((!ieq (balX (timX (List.take (20 : Nat) x0) (List.take (20 : Nat) x1)).1).2.1 (0 : Int)) = false → (!!ieq (balX (timX (List.take (20 : Nat) x0) (List.take (20 : Nat) x1)).1).2.1 (0 : Int)) = true) (bif bif !ieq (balX (timX (List.take (20 : Nat) x0) (List.take (20 : Nat) x1)).1).2.1 (0 : Int) then true else g8_c6 x0 x1 then some (Lp.out ((false, ()) : Bool × Unit)) else bif ieq (doubX x4).2.1 (0 : Int) then gd (small (doubX x4).1) (gd ((!!(balX (doubX x4).1).1) = true → (!!(balX (doubX x4).1).1) = true) (gd ((!(balX (doubX x4).1).1) = false → (!!(balX (doubX x4).1).1) = true) (bif bif !(balX (doubX x4).1).1 then true else !ieq (balX (doubX x4).1).2.1 (0 : Int) then some (Lp.out ((false, ()) : Bool × Unit)) else bif ieq (squaX x4).2.1 (0 : Int) then gd (small (squaX x4).1) (gd ((!!(balX (squaX x4).1).1) = true → (!!(balX (squaX x4).1).1) = true) (gd ((!(balX (squaX x4).1).1) = false → (!!(balX (squaX x4).1).1) = true) (bif bif !(balX (squaX x4).1).1 then true else !ieq (balX (squaX x4).1).2.1 (0 : Int) then some (Lp.out ((false, ()) : Bool × Unit)) else gd ((!!(balX (List.take (20 : Nat) x0)).1) = true → (!!(balX (List.take (20 : Nat) x0)).1) = true) (gd ((!!(balX (List.take (20 : Nat) x0)).1) = true → (!!(balX (List.take (20 : Nat) x0)).1) = true) (gd ((!(balX (List.take (20 : Nat) x0)).1) = false → (!!(balX (List.take (20 : Nat) x0)).1) = true) (gd ((!bif !(balX (List.take (20 : Nat) x0)).1 then true else ilt (↑(List.length x0) : Int) (3 : Int)) = true → (!bif !(balX (List.take (20 : Nat) x0)).1 then true else ilt (↑(List.length x0) : Int) (3 : Int)) = true) (gd ((!bif !(balX (List.take (20 : Nat) x0)).1 then true else ilt (↑(List.length x0) : Int) (3 : Int)) = true → (!bif !(balX (List.take (20 : Nat) x0)).1 then true else ilt (↑(List.length x0) : Int) (3 : Int)) = true ∧ (4 : Int) ≠ (0 : Int)) (gd ((!bif !(balX (List.take (20 : Nat) x0)).1 then true else ilt (↑(List.length x0) : Int) (3 : Int)) = true → (!bif !(balX (List.take (20 : Nat) x0)).1 then true else ilt (↑(List.length x0) : Int) (3 : Int)) = true) (gd ((bif !(balX (List.take (20 : Nat) x0)).1 then true else ilt (↑(List.length x0) : Int) (3 : Int)) = false → (!bif !(balX (List.take (20 : Nat) x0)).1 then true else ilt (↑(List.length x0) : Int) (3 : Int)) = true) (gd (g8_c7 x0 = true → g8_c7 x0 = true) (gd ((g8_c7 x0 && (g8_c7 x0 && !ieq (balX (List.take (20 : Nat) x1)).2.1 (0 : Int))) = true → (g8_c7 x0 && (g8_c7 x0 && !ieq (balX (List.take (20 : Nat) x1)).2.1 (0 : Int))) = true) (gd (g8_c7 x0 = true → g8_c7 x0 = true ∧ g8_c7 x0 = true ∧ (ieq (balX (List.take (20 : Nat) x1)).2.1 (0 : Int) = false → (g8_c7 x0 && (g8_c7 x0 && !ieq (balX (List.take (20 : Nat) x1)).2.1 (0 : Int))) = true)) (gd (g8_c7 x0 = true → g8_c7 x0 = true) (gd ((bif g8_c7 x0 then bif ieq (balX (List.take (20 : Nat) x1)).2.1 (0 : Int) then true else ieq (balX (List.take (20 : Nat) x1)).2.1 (2 : Int) else false) = true → (bif g8_c7 x0 then bif ieq (balX (List.take (20 : Nat) x1)).2.1 (0 : Int) then true else ieq (balX (List.take (20 : Nat) x1)).2.1 (2 : Int) else false) = true) (some (Lp.out ((bif bif g8_c7 x0 then bif ieq (balX (List.take (20 : Nat) x1)).2.1 (0 : Int) then true else ieq (balX (List.take (20 : Nat) x1)).2.1 (2 : Int) else false then true else false, ()) : Bool × Unit))))))))))))))))) else gd ((!!(balX (List.take (20 : Nat) x0)).1) = true → (!!(balX (List.take (20 : Nat) x0)).1) = true) (gd ((!!(balX (List.take (20 : Nat) x0)).1) = true → (!!(balX (List.take (20 : Nat) x0)).1) = true) (gd ((!(balX (List.take (20 : Nat) x0)).1) = false → (!!(balX (List.take (20 : Nat) x0)).1) = true) (gd ((!bif !(balX (List.take (20 : Nat) x0)).1 then true else ilt (↑(List.length x0) : Int) (3 : Int)) = true → (!bif !(balX (List.take (20 : Nat) x0)).1 then true else ilt (↑(List.length x0) : Int) (3 : Int)) = true) (gd ((!bif !(balX (List.take (20 : Nat) x0)).1 then true else ilt (↑(List.length x0) : Int) (3 : Int)) = true → (!bif !(balX (List.take (20 : Nat) x0)).1 then true else ilt (↑(List.length x0) : Int) (3 : Int)) = true ∧ (4 : Int) ≠ (0 : Int)) (gd ((!bif !(balX (List.take (20 : Nat) x0)).1 then true else ilt (↑(List.length x0) : Int) (3 : Int)) = true → (!bif !(balX (List.take (20 : Nat) x0)).1 then true else ilt (↑(List.length x0) : Int) (3 : Int)) = true) (gd ((bif !(balX (List.take (20 : Nat) x0)).1 then true else ilt (↑(List.length x0) : Int) (3 : Int)) = false → (!bif !(balX (List.take (20 : Nat) x0)).1 then true else ilt (↑(List.length x0) : Int) (3 : Int)) = true) (gd (g8_c7 x0 = true → g8_c7 x0 = true) (gd ((g8_c7 x0 && (g8_c7 x0 && !ieq (balX (List.take (20 : Nat) x1)).2.1 (0 : Int))) = true → (g8_c7 x0 && (g8_c7 x0 && !ieq (balX (List.take (20 : Nat) x1)).2.1 (0 : Int))) = true) (gd (g8_c7 x0 = true → g8_c7 x0 = true ∧ g8_c7 x0 = true ∧ (ieq (balX (List.take (20 : Nat) x1)).2.1 (0 : Int) = false → (g8_c7 x0 && (g8_c7 x0 && !ieq (balX (List.take (20 : Nat) x1)).2.1 (0 : Int))) = true)) (gd (g8_c7 x0 = true → g8_c7 x0 = true) (gd ((bif g8_c7 x0 then bif ieq (balX (List.take (20 : Nat) x1)).2.1 (0 : Int) then true else ieq (balX (List.take (20 : Nat) x1)).2.1 (2 : Int) else false) = true → (bif g8_c7 x0 then bif ieq (balX (List.take (20 : Nat) x1)).2.1 (0 : Int) then true else ieq (balX (List.take (20 : Nat) x1)).2.1 (2 : Int) else false) = true) (some (Lp.out ((bif bif g8_c7 x0 then bif ieq (balX (List.take (20 : Nat) x1)).2.1 (0 : Int) then true else ieq (balX (List.take (20 : Nat) x1)).2.1 (2 : Int) else false then true else false, ()) : Bool × Unit))))))))))))))))) else bif ieq (squaX x4).2.1 (0 : Int) then gd (small (squaX x4).1) (gd ((!!(balX (squaX x4).1).1) = true → (!!(balX (squaX x4).1).1) = true) (gd ((!(balX (squaX x4).1).1) = false → (!!(balX (squaX x4).1).1) = true) (bif bif !(balX (squaX x4).1).1 then true else !ieq (balX (squaX x4).1).2.1 (0 : Int) then some (Lp.out ((false, ()) : Bool × Unit)) else gd ((!!(balX (List.take (20 : Nat) x0)).1) = true → (!!(balX (List.take (20 : Nat) x0)).1) = true) (gd ((!!(balX (List.take (20 : Nat) x0)).1) = true → (!!(balX (List.take (20 : Nat) x0)).1) = true) (gd ((!(balX (List.take (20 : Nat) x0)).1) = false → (!!(balX (List.take (20 : Nat) x0)).1) = true) (gd ((!bif !(balX (List.take (20 : Nat) x0)).1 then true else ilt (↑(List.length x0) : Int) (3 : Int)) = true → (!bif !(balX (List.take (20 : Nat) x0)).1 then true else ilt (↑(List.length x0) : Int) (3 : Int)) = true) (gd ((!bif !(balX (List.take (20 : Nat) x0)).1 then true else ilt (↑(List.length x0) : Int) (3 : Int)) = true → (!bif !(balX (List.take (20 : Nat) x0)).1 then true else ilt (↑(List.length x0) : Int) (3 : Int)) = true ∧ (4 : Int) ≠ (0 : Int)) (gd ((!bif !(balX (List.take (20 : Nat) x0)).1 then true else ilt (↑(List.length x0) : Int) (3 : Int)) = true → (!bif !(balX (List.take (20 : Nat) x0)).1 then true else ilt (↑(List.length x0) : Int) (3 : Int)) = true) (gd ((bif !(balX (List.take (20 : Nat) x0)).1 then true else ilt (↑(List.length x0) : Int) (3 : Int)) = false → (!bif !(balX (List.take (20 : Nat) x0)).1 then true else ilt (↑(List.length x0) : Int) (3 : Int)) = true) (gd (g8_c7 x0 = true → g8_c7 x0 = true) (gd ((g8_c7 x0 && (g8_c7 x0 && !ieq (balX (List.take (20 : Nat) x1)).2.1 (0 : Int))) = true → (g8_c7 x0 && (g8_c7 x0 && !ieq (balX (List.take (20 : Nat) x1)).2.1 (0 : Int))) = true) (gd (g8_c7 x0 = true → g8_c7 x0 = true ∧ g8_c7 x0 = true ∧ (ieq (balX (List.take (20 : Nat) x1)).2.1 (0 : Int) = false → (g8_c7 x0 && (g8_c7 x0 && !ieq (balX (List.take (20 : Nat) x1)).2.1 (0 : Int))) = true)) (gd (g8_c7 x0 = true → g8_c7 x0 = true) (gd ((bif g8_c7 x0 then bif ieq (balX (List.take (20 : Nat) x1)).2.1 (0 : Int) then true else ieq (balX (List.take (20 : Nat) x1)).2.1 (2 : Int) else false) = true → (bif g8_c7 x0 then bif ieq (balX (List.take (20 : Nat) x1)).2.1 (0 : Int) then true else ieq (balX (List.take (20 : Nat) x1)).2.1 (2 : Int) else false) = true) (some (Lp.out ((bif bif g8_c7 x0 then bif ieq (balX (List.take (20 : Nat) x1)).2.1 (0 : Int) then true else ieq (balX (List.take (20 : Nat) x1)).2.1 (2 : Int) else false then true else false, ()) : Bool × Unit))))))))))))))))) else gd ((!!(balX (List.take (20 : Nat) x0)).1) = true → (!!(balX (List.take (20 : Nat) x0)).1) = true) (gd ((!!(balX (List.take (20 : Nat) x0)).1) = true → (!!(balX (List.take (20 : Nat) x0)).1) = true) (gd ((!(balX (List.take (20 : Nat) x0)).1) = false → (!!(balX (List.take (20 : Nat) x0)).1) = true) (gd ((!bif !(balX (List.take (20 : Nat) x0)).1 then true else ilt (↑(List.length x0) : Int) (3 : Int)) = true → (!bif !(balX (List.take (20 : Nat) x0)).1 then true else ilt (↑(List.length x0) : Int) (3 : Int)) = true) (gd ((!bif !(balX (List.take (20 : Nat) x0)).1 then true else ilt (↑(List.length x0) : Int) (3 : Int)) = true → (!bif !(balX (List.take (20 : Nat) x0)).1 then true else ilt (↑(List.length x0) : Int) (3 : Int)) = true ∧ (4 : Int) ≠ (0 : Int)) (gd ((!bif !(balX (List.take (20 : Nat) x0)).1 then true else ilt (↑(List.length x0) : Int) (3 : Int)) = true → (!bif !(balX (List.take (20 : Nat) x0)).1 then true else ilt (↑(List.length x0) : Int) (3 : Int)) = true) (gd ((bif !(balX (List.take (20 : Nat) x0)).1 then true else ilt (↑(List.length x0) : Int) (3 : Int)) = false → (!bif !(balX (List.take (20 : Nat) x0)).1 then true else ilt (↑(List.length x0) : Int) (3 : Int)) = true) (gd (g8_c7 x0 = true → g8_c7 x0 = true) (gd ((g8_c7 x0 && (g8_c7 x0 && !ieq (balX (List.take (20 : Nat) x1)).2.1 (0 : Int))) = true → (g8_c7 x0 && (g8_c7 x0 && !ieq (balX (List.take (20 : Nat) x1)).2.1 (0 : Int))) = true) (gd (g8_c7 x0 = true → g8_c7 x0 = true ∧ g8_c7 x0 = true ∧ (ieq (balX (List.take (20 : Nat) x1)).2.1 (0 : Int) = false → (g8_c7 x0 && (g8_c7 x0 && !ieq (balX (List.take (20 : Nat) x1)).2.1 (0 : Int))) = true)) (gd (g8_c7 x0 = true → g8_c7 x0 = true) (gd ((bif g8_c7 x0 then bif ieq (balX (List.take (20 : Nat) x1)).2.1 (0 : Int) then true else ieq (balX (List.take (20 : Nat) x1)).2.1 (2 : Int) else false) = true → (bif g8_c7 x0 then bif ieq (balX (List.take (20 : Nat) x1)).2.1 (0 : Int) then true else ieq (balX (List.take (20 : Nat) x1)).2.1 (2 : Int) else false) = true) (some (Lp.out ((bif bif g8_c7 x0 then bif ieq (balX (List.take (20 : Nat) x1)).2.1 (0 : Int) then true else ieq (balX (List.take (20 : Nat) x1)).2.1 (2 : Int) else false then true else false, ()) : Bool × Unit))))))))))))))))))))))) else bif ieq (doubX x4).2.1 (0 : Int) then gd (small (doubX x4).1) (gd ((!!(balX (doubX x4).1).1) = true → (!!(balX (doubX x4).1).1) = true) (gd ((!(balX (doubX x4).1).1) = false → (!!(balX (doubX x4).1).1) = true) (bif bif !(balX (doubX x4).1).1 then true else !ieq (balX (doubX x4).1).2.1 (0 : Int) then some (Lp.out ((false, ()) : Bool × Unit)) else bif ieq (squaX x4).2.1 (0 : Int) then gd (small (squaX x4).1) (gd ((!!(balX (squaX x4).1).1) = true → (!!(balX (squaX x4).1).1) = true) (gd ((!(balX (squaX x4).1).1) = false → (!!(balX (squaX x4).1).1) = true) (bif bif !(balX (squaX x4).1).1 then true else !ieq (balX (squaX x4).1).2.1 (0 : Int) then some (Lp.out ((false, ()) : Bool × Unit)) else gd ((!!(balX (List.take (20 : Nat) x0)).1) = true → (!!(balX (List.take (20 : Nat) x0)).1) = true) (gd ((!!(balX (List.take (20 : Nat) x0)).1) = true → (!!(balX (List.take (20 : Nat) x0)).1) = true) (gd ((!(balX (List.take (20 : Nat) x0)).1) = false → (!!(balX (List.take (20 : Nat) x0)).1) = true) (gd ((!bif !(balX (List.take (20 : Nat) x0)).1 then true else ilt (↑(List.length x0) : Int) (3 : Int)) = true → (!bif !(balX (List.take (20 : Nat) x0)).1 then true else ilt (↑(List.length x0) : Int) (3 : Int)) = true) (gd ((!bif !(balX (List.take (20 : Nat) x0)).1 then true else ilt (↑(List.length x0) : Int) (3 : Int)) = true → (!bif !(balX (List.take (20 : Nat) x0)).1 then true else ilt (↑(List.length x0) : Int) (3 : Int)) = true ∧ (4 : Int) ≠ (0 : Int)) (gd ((!bif !(balX (List.take (20 : Nat) x0)).1 then true else ilt (↑(List.length x0) : Int) (3 : Int)) = true → (!bif !(balX (List.take (20 : Nat) x0)).1 then true else ilt (↑(List.length x0) : Int) (3 : Int)) = true) (gd ((bif !(balX (List.take (20 : Nat) x0)).1 then true else ilt (↑(List.length x0) : Int) (3 : Int)) = false → (!bif !(balX (List.take (20 : Nat) x0)).1 then true else ilt (↑(List.length x0) : Int) (3 : Int)) = true) (gd (g8_c7 x0 = true → g8_c7 x0 = true) (gd ((g8_c7 x0 && (g8_c7 x0 && !ieq (balX (List.take (20 : Nat) x1)).2.1 (0 : Int))) = true → (g8_c7 x0 && (g8_c7 x0 && !ieq (balX (List.take (20 : Nat) x1)).2.1 (0 : Int))) = true) (gd (g8_c7 x0 = true → g8_c7 x0 = true ∧ g8_c7 x0 = true ∧ (ieq (balX (List.take (20 : Nat) x1)).2.1 (0 : Int) = false → (g8_c7 x0 && (g8_c7 x0 && !ieq (balX (List.take (20 : Nat) x1)).2.1 (0 : Int))) = true)) (gd (g8_c7 x0 = true → g8_c7 x0 = true) (gd ((bif g8_c7 x0 then bif ieq (balX (List.take (20 : Nat) x1)).2.1 (0 : Int) then true else ieq (balX (List.take (20 : Nat) x1)).2.1 (2 : Int) else false) = true → (bif g8_c7 x0 then bif ieq (balX (List.take (20 : Nat) x1)).2.1 (0 : Int) then true else ieq (balX (List.take (20 : Nat) x1)).2.1 (2 : Int) else false) = true) (some (Lp.out ((bif bif g8_c7 x0 then bif ieq (balX (List.take (20 : Nat) x1)).2.1 (0 : Int) then true else ieq (balX (List.take (20 : Nat) x1)).2.1 (2 : Int) else false then true else false, ()) : Bool × Unit))))))))))))))))) else gd ((!!(balX (List.take (20 : Nat) x0)).1) = true → (!!(balX (List.take (20 : Nat) x0)).1) = true) (gd ((!!(balX (List.take (20 : Nat) x0)).1) = true → (!!(balX (List.take (20 : Nat) x0)).1) = true) (gd ((!(balX (List.take (20 : Nat) x0)).1) = false → (!!(balX (List.take (20 : Nat) x0)).1) = true) (gd ((!bif !(balX (List.take (20 : Nat) x0)).1 then true else ilt (↑(List.length x0) : Int) (3 : Int)) = true → (!bif !(balX (List.take (20 : Nat) x0)).1 then true else ilt (↑(List.length x0) : Int) (3 : Int)) = true) (gd ((!bif !(balX (List.take (20 : Nat) x0)).1 then true else ilt (↑(List.length x0) : Int) (3 : Int)) = true → (!bif !(balX (List.take (20 : Nat) x0)).1 then true else ilt (↑(List.length x0) : Int) (3 : Int)) = true ∧ (4 : Int) ≠ (0 : Int)) (gd ((!bif !(balX (List.take (20 : Nat) x0)).1 then true else ilt (↑(List.length x0) : Int) (3 : Int)) = true → (!bif !(balX (List.take (20 : Nat) x0)).1 then true else ilt (↑(List.length x0) : Int) (3 : Int)) = true) (gd ((bif !(balX (List.take (20 : Nat) x0)).1 then true else ilt (↑(List.length x0) : Int) (3 : Int)) = false → (!bif !(balX (List.take (20 : Nat) x0)).1 then true else ilt (↑(List.length x0) : Int) (3 : Int)) = true) (gd (g8_c7 x0 = true → g8_c7 x0 = true) (gd ((g8_c7 x0 && (g8_c7 x0 && !ieq (balX (List.take (20 : Nat) x1)).2.1 (0 : Int))) = true → (g8_c7 x0 && (g8_c7 x0 && !ieq (balX (List.take (20 : Nat) x1)).2.1 (0 : Int))) = true) (gd (g8_c7 x0 = true → g8_c7 x0 = true ∧ g8_c7 x0 = true ∧ (ieq (balX (List.take (20 : Nat) x1)).2.1 (0 : Int) = false → (g8_c7 x0 && (g8_c7 x0 && !ieq (balX (List.take (20 : Nat) x1)).2.1 (0 : Int))) = true)) (gd (g8_c7 x0 = true → g8_c7 x0 = true) (gd ((bif g8_c7 x0 then bif ieq (balX (List.take (20 : Nat) x1)).2.1 (0 : Int) then true else ieq (balX (List.take (20 : Nat) x1)).2.1 (2 : Int) else false) = true → (bif g8_c7 x0 then bif ieq (balX (List.take (20 : Nat) x1)).2.1 (0 : Int) then true else ieq (balX (List.take (20 : Nat) x1)).2.1 (2 : Int) else false) = true) (some (Lp.out ((bif bif g8_c7 x0 then bif ieq (balX (List.take (20 : Nat) x1)).2.1 (0 : Int) then true else ieq (balX (List.take (20 : Nat) x1)).2.1 (2 : Int) else false then true else false, ()) : Bool × Unit))))))))))))))))) else bif ieq (squaX x4).2.1 (0 : Int) then gd (small (squaX x4).1) (gd ((!!(balX (squaX x4).1).1) = true → (!!(balX (squaX x4).1).1) = true) (gd ((!(balX (squaX x4).1).1) = false → (!!(balX (squaX x4).1).1) = true) (bif bif !(balX (squaX x4).1).1 then true else !ieq (balX (squaX x4).1).2.1 (0 : Int) then some (Lp.out ((false, ()) : Bool × Unit)) else gd ((!!(balX (List.take (20 : Nat) x0)).1) = true → (!!(balX (List.take (20 : Nat) x0)).1) = true) (gd ((!!(balX (List.take (20 : Nat) x0)).1) = true → (!!(balX (List.take (20 : Nat) x0)).1) = true) (gd ((!(balX (List.take (20 : Nat) x0)).1) = false → (!!(balX (List.take (20 : Nat) x0)).1) = true) (gd ((!bif !(balX (List.take (20 : Nat) x0)).1 then true else ilt (↑(List.length x0) : Int) (3 : Int)) = true → (!bif !(balX (List.take (20 : Nat) x0)).1 then true else ilt (↑(List.length x0) : Int) (3 : Int)) = true) (gd ((!bif !(balX (List.take (20 : Nat) x0)).1 then true else ilt (↑(List.length x0) : Int) (3 : Int)) = true → (!bif !(balX (List.take (20 : Nat) x0)).1 then true else ilt (↑(List.length x0) : Int) (3 : Int)) = true ∧ (4 : Int) ≠ (0 : Int)) (gd ((!bif !(balX (List.take (20 : Nat) x0)).1 then true else ilt (↑(List.length x0) : Int) (3 : Int)) = true → (!bif !(balX (List.take (20 : Nat) x0)).1 then true else ilt (↑(List.length x0) : Int) (3 : Int)) = true) (gd ((bif !(balX (List.take (20 : Nat) x0)).1 then true else ilt (↑(List.length x0) : Int) (3 : Int)) = false → (!bif !(balX (List.take (20 : Nat) x0)).1 then true else ilt (↑(List.length x0) : Int) (3 : Int)) = true) (gd (g8_c7 x0 = true → g8_c7 x0 = true) (gd ((g8_c7 x0 && (g8_c7 x0 && !ieq (balX (List.take (20 : Nat) x1)).2.1 (0 : Int))) = true → (g8_c7 x0 && (g8_c7 x0 && !ieq (balX (List.take (20 : Nat) x1)).2.1 (0 : Int))) = true) (gd (g8_c7 x0 = true → g8_c7 x0 = true ∧ g8_c7 x0 = true ∧ (ieq (balX (List.take (20 : Nat) x1)).2.1 (0 : Int) = false → (g8_c7 x0 && (g8_c7 x0 && !ieq (balX (List.take (20 : Nat) x1)).2.1 (0 : Int))) = true)) (gd (g8_c7 x0 = true → g8_c7 x0 = true) (gd ((bif g8_c7 x0 then bif ieq (balX (List.take (20 : Nat) x1)).2.1 (0 : Int) then true else ieq (balX (List.take (20 : Nat) x1)).2.1 (2 : Int) else false) = true → (bif g8_c7 x0 then bif ieq (balX (List.take (20 : Nat) x1)).2.1 (0 : Int) then true else ieq (balX (List.take (20 : Nat) x1)).2.1 (2 : Int) else false) = true) (some (Lp.out ((bif bif g8_c7 x0 then bif ieq (balX (List.take (20 : Nat) x1)).2.1 (0 : Int) then true else ieq (balX (List.take (20 : Nat) x1)).2.1 (2 : Int) else false then true else false, ()) : Bool × Unit))))))))))))))))) else gd ((!!(balX (List.take (20 : Nat) x0)).1) = true → (!!(balX (List.take (20 : Nat) x0)).1) = true) (gd ((!!(balX (List.take (20 : Nat) x0)).1) = true → (!!(balX (List.take (20 : Nat) x0)).1) = true) (gd ((!(balX (List.take (20 : Nat) x0)).1) = false → (!!(balX (List.take (20 : Nat) x0)).1) = true) (gd ((!bif !(balX (List.take (20 : Nat) x0)).1 then true else ilt (↑(List.length x0) : Int) (3 : Int)) = true → (!bif !(balX (List.take (20 : Nat) x0)).1 then true else ilt (↑(List.length x0) : Int) (3 : Int)) = true) (gd ((!bif !(balX (List.take (20 : Nat) x0)).1 then true else ilt (↑(List.length x0) : Int) (3 : Int)) = true → (!bif !(balX (List.take (20 : Nat) x0)).1 then true else ilt (↑(List.length x0) : Int) (3 : Int)) = true ∧ (4 : Int) ≠ (0 : Int)) (gd ((!bif !(balX (List.take (20 : Nat) x0)).1 then true else ilt (↑(List.length x0) : Int) (3 : Int)) = true → (!bif !(balX (List.take (20 : Nat) x0)).1 then true else ilt (↑(List.length x0) : Int) (3 : Int)) = true) (gd ((bif !(balX (List.take (20 : Nat) x0)).1 then true else ilt (↑(List.length x0) : Int) (3 : Int)) = false → (!bif !(balX (List.take (20 : Nat) x0)).1 then true else ilt (↑(List.length x0) : Int) (3 : Int)) = true) (gd (g8_c7 x0 = true → g8_c7 x0 = true) (gd ((g8_c7 x0 && (g8_c7 x0 && !ieq (balX (List.take (20 : Nat) x1)).2.1 (0 : Int))) = true → (g8_c7 x0 && (g8_c7 x0 && !ieq (balX (List.take (20 : Nat) x1)).2.1 (0 : Int))) = true) (gd (g8_c7 x0 = true → g8_c7 x0 = true ∧ g8_c7 x0 = true ∧ (ieq (balX (List.take (20 : Nat) x1)).2.1 (0 : Int) = false → (g8_c7 x0 && (g8_c7 x0 && !ieq (balX (List.take (20 : Nat) x1)).2.1 (0 : Int))) = true)) (gd (g8_c7 x0 = true → g8_c7 x0 = true) (gd ((bif g8_c7 x0 then bif ieq (balX (List.take (20 : Nat) x1)).2.1 (0 : Int) then true else ieq (balX (List.take (20 : Nat) x1)).2.1 (2 : Int) else false) = true → (bif g8_c7 x0 then bif ieq (balX (List.take (20 : Nat) x1)).2.1 (0 : Int) then true else ieq (balX (List.take (20 : Nat) x1)).2.1 (2 : Int) else false) = true) (some (Lp.out ((bif bif g8_c7 x0 then bif ieq (balX (List.take (20 : Nat) x1)).2.1 (0 : Int) then true else ieq (balX (List.take (20 : Nat) x1)).2.1 (2 : Int) else false then true else false, ()) : Bool × Unit)))))))))))))))))) (((0 : Int), ()) : Int × Unit))))))))))))))))))))))))
noncomputable def g8_sh : List LSh := LSh.mk (((111, TV.v (Ty.int IntKind.i64)) : Nat × TV) :: ([] : List (Nat × TV))) ([] : List TB) :: ([] : List LSh)



end Go.Signs

set_option linter.unusedVariables false
set_option linter.unusedSimpArgs false
namespace Go.Signs
open Go Go.Ab Go.Proofs

/-! ### Rows and columns -/
def orth (e : Nat → Nat → Int) (n : Nat) : Prop := ∀ i k, i < n → k < n → i ≠ k → sumN (fun j => e i j * e k j) n = 0
theorem sumN_zero_all {f : Nat → Int} {n : Nat} (h : ∀ i, i < n → 0 ≤ f i) (hs : sumN f n ≤ 0) : ∀ i, i < n → f i = 0 := by
  have ge : ∀ {n i : Nat}, i < n → (∀ k, k < n → 0 ≤ f k) → f i ≤ sumN f n := by
    intro n
    induction n with
    | zero => intro i hi; omega
    | succ n ih =>
      intro i hi h
      rw [sumN]
      by_cases hn : i = n
      · subst hn
        have : 0 ≤ sumN f i := by
          have := sumN_le (n := i) (f := fun _ => 0) (g := f) fun k hk => h k (by omega)
          rwa [sumN_zero] at this
        omega
      · have := ih (i := i) (by omega) fun k hk => h k (by omega)
        have := h n (by omega)
        omega
  intro i hi
  have h1 := ge hi h
  have h2 := h i hi
  omega
theorem sumN_diag {c : Int} {j n : Nat} (hj : j < n) : sumN (fun k => if k = j then c else 0) n = c := by
  rw [sumN_one (i := j) hj fun k _ hne => if_neg hne, if_pos rfl]
theorem sumN_sub {f g : Nat → Int} {n : Nat} : sumN (fun i => f i - g i) n = sumN f n - sumN g n := by
  have : sumN (fun i => f i - g i) n = sumN (fun i => f i + (-1) * g i) n := sumN_congr fun i _ => by omega
  rw [this, sumN_add, sumN_mul]; omega
/-- If the rows are orthogonal, the columns are, too. -/
theorem orth_over {e : Nat → Nat → Int} {n : Nat} (he : ∀ i j, e i j * e i j = 1) (h : orth e n) : orth (fun i j => e j i) n := by
  have hself : ∀ i, sumN (fun j => e i j * e i j) n = n := fun i => by rw [sumN_congr (g := fun _ => 1) fun j _ => he i j, sumN_const, Int.mul_one]
  have hself' : ∀ j, sumN (fun i => e i j * e i j) n = n := fun j => by rw [sumN_congr (g := fun _ => 1) fun i _ => he i j, sumN_const, Int.mul_one]
  -- all squares of the products of two columns
  have hsq : sumN (fun j => sumN (fun k => sumN (fun i => e i j * e i k) n * sumN (fun i => e i j * e i k) n) n) n = n * (n * n) := by
    have e1 : sumN (fun j => sumN (fun k => sumN (fun i => e i j * e i k) n * sumN (fun i => e i j * e i k) n) n) n = sumN (fun i => sumN (fun i' => sumN (fun j => e i j * e i' j) n * sumN (fun k => e i k * e i' k) n) n) n := by
      have a1 : sumN (fun j => sumN (fun k => sumN (fun i => e i j * e i k) n * sumN (fun i => e i j * e i k) n) n) n = sumN (fun j => sumN (fun k => sumN (fun i => sumN (fun i' => (e i j * e i k) * (e i' j * e i' k)) n) n) n) n :=
        sumN_congr fun j _ => sumN_congr fun k _ => sumN_sq
      have a2 : sumN (fun j => sumN (fun k => sumN (fun i => sumN (fun i' => (e i j * e i k) * (e i' j * e i' k)) n) n) n) n = sumN (fun j => sumN (fun i => sumN (fun i' => sumN (fun k => (e i j * e i k) * (e i' j * e i' k)) n) n) n) n :=
        sumN_congr fun j _ => by rw [sumN_swap]; exact sumN_congr fun i _ => sumN_swap
      have a3 : sumN (fun j => sumN (fun i => sumN (fun i' => sumN (fun k => (e i j * e i k) * (e i' j * e i' k)) n) n) n) n = sumN (fun i => sumN (fun i' => sumN (fun j => sumN (fun k => (e i j * e i k) * (e i' j * e i' k)) n) n) n) n := by
        rw [sumN_swap]
        exact sumN_congr fun i _ => sumN_swap
      rw [a1, a2, a3]
      refine sumN_congr fun i _ => sumN_congr fun i' _ => ?_
      have a4 : ∀ j, sumN (fun k => (e i j * e i k) * (e i' j * e i' k)) n = (e i j * e i' j) * sumN (fun k => e i k * e i' k) n := fun j => by
        rw [← sumN_mul]
        exact sumN_congr fun k _ => by grind
      rw [sumN_congr fun j _ => a4 j]
      have a5 : sumN (fun j => e i j * e i' j * sumN (fun k => e i k * e i' k) n) n = sumN (fun j => sumN (fun k => e i k * e i' k) n * (e i j * e i' j)) n := sumN_congr fun j _ => Int.mul_comm _ _
      rw [a5, sumN_mul]
    rw [e1]
    have e2 : ∀ i, i < n → sumN (fun i' => sumN (fun j => e i j * e i' j) n * sumN (fun k => e i k * e i' k) n) n = n * n := fun i hi => by
      rw [sumN_one hi fun k hk hne => by rw [h i k hi hk (fun e => hne e.symm), Int.mul_zero], hself i]
    rw [sumN_congr e2, sumN_const]
  have hF : sumN (fun j => sumN (fun k => sumN (fun i => e i j * e i k) n * sumN (fun i => e i j * e i k) n - (if k = j then ((n : Int) * n) else 0)) n) n ≤ 0 := by
    have : sumN (fun j => sumN (fun k => sumN (fun i => e i j * e i k) n * sumN (fun i => e i j * e i k) n - (if k = j then ((n : Int) * n) else 0)) n) n = n * (n * n) - n * (n * n) := by
      rw [sumN_congr fun j _ => sumN_sub, sumN_sub, hsq]
      congr 1
      rw [sumN_congr (g := fun _ => (n : Int) * n) fun j hj => sumN_diag hj, sumN_const]
    omega
  have hpos : ∀ j k, 0 ≤ sumN (fun i => e i j * e i k) n * sumN (fun i => e i j * e i k) n - (if k = j then ((n : Int) * n) else 0) := fun j k => by
    by_cases hk : k = j
    · subst hk
      rw [if_pos rfl, hself' k]; omega
    · rw [if_neg hk]
      have := sq_pos (x := sumN (fun i => e i j * e i k) n)
      omega
  intro j k hj hk hne
  have h1 := sumN_zero_all (fun j hj => by
    have := sumN_le (n := n) (f := fun _ => 0) (g := fun k => sumN (fun i => e i j * e i k) n * sumN (fun i => e i j * e i k) n - (if k = j then ((n : Int) * n) else 0)) fun k _ => hpos j k
    rwa [sumN_zero] at this) hF j hj
  have h2 := sumN_zero_all (fun k _ => hpos j k) (Int.le_of_eq h1) k hk
  rw [if_neg (fun e => hne e.symm), Int.sub_zero] at h2
  rcases Int.mul_eq_zero.1 h2 with h3 | h3 <;> exact h3

section
variable {l : List Int} {m : Int}
theorem bal_orth (h : isM l 16 = true) : balF l = true ↔ orth (ent l) l.length := bal_dot h
/-! ### Made matrices -/
theorem made_isM {n : Nat} {f : Int → Int → Bool} (h1 : 1 ≤ n) (h2 : n ≤ 16) : isM (madeF n f) 16 = true := by
  unfold isM
  simp only [Bool.and_eq_true, decide_eq_true_eq, List.all_eq_true, inM_d, made_len, Int.toNat_natCast]
  refine ⟨⟨by omega, by omega⟩, fun x hx => ?_⟩
  obtain ⟨i, hi, rfl⟩ := List.mem_map.1 hx
  have h3 := rowN_lt (g := f i) (j := n)
  have h5 : ((2 ^ n : Nat) : Int) = (2 : Int) ^ n := by rw [Int.natCast_pow]; rfl
  omega
theorem made_ent {n : Nat} {f : Int → Int → Bool} {i j : Nat} (hi : i < n) (hj : j < n) : ent (madeF n f) i j = sg (f i j) := by
  have : nx (madeF n f) i = rowN (f i) n := by
    unfold nx
    rw [gd_at (by rw [made_len]; exact hi)]
    simp [madeF]
  unfold ent
  rw [this, rowN_bit, decide_eq_true hj, Bool.true_and]
theorem orth_congr {e e' : Nat → Nat → Int} {n : Nat} (h : ∀ i j, i < n → j < n → e i j = e' i j) : orth e n ↔ orth e' n := by
  have key : ∀ i k, i < n → k < n → sumN (fun j => e i j * e k j) n = sumN (fun j => e' i j * e' k j) n := fun i k hi hk => sumN_congr fun j hj => by rw [h i j hi hj, h k j hk hj]
  constructor
  · intro ho i k hi hk hne; rw [← key i k hi hk]; exact ho i k hi hk hne
  · intro ho i k hi hk hne; rw [key i k hi hk]; exact ho i k hi hk hne
theorem bool_eq {a b : Bool} (h : a = true ↔ b = true) : a = b := Bool.eq_iff_iff.2 h
theorem over_bal (h : isM l 16 = true) : balF (overF l) = balF l := by
  have h16 := len16 (by omega) h
  have hM : isM (overF l) 16 = true := made_isM h16.2 h16.1
  have hlo : (overF l).length = l.length := made_len
  have he : ∀ i j, i < l.length → j < l.length → ent (overF l) i j = ent l j i := fun i j hi hj => by
    unfold overF
    rw [made_ent hi hj, isF_nx h hj]; rfl
  refine bool_eq ?_
  rw [bal_orth hM, bal_orth h, hlo, orth_congr he]
  exact ⟨fun ho => orth_over (e := fun i j => ent l j i) (fun i j => ent_sq) ho, fun ho => orth_over (fun i j => ent_sq) ho⟩
/-- Signs of rows and columns do not matter. -/
theorem orth_sgn {e : Nat → Nat → Int} {n : Nat} {r c : Nat → Int} (hr : ∀ i, r i * r i = 1) (hc : ∀ j, c j * c j = 1) : orth (fun i j => e i j * c j * r i) n ↔ orth e n := by
  have key : ∀ i k, sumN (fun j => (e i j * c j * r i) * (e k j * c j * r k)) n = (r i * r k) * sumN (fun j => e i j * e k j) n := fun i k => by
    rw [← sumN_mul]
    refine sumN_congr fun j _ => ?_
    have := hc j
    grind
  constructor
  · intro ho i k hi hk hne
    have h1 := ho i k hi hk hne
    rw [key] at h1
    rcases Int.mul_eq_zero.1 h1 with h2 | h2
    · exfalso
      have h3 := hr i
      have h4 := hr k
      rcases Int.mul_eq_zero.1 h2 with h5 | h5
      · rw [h5] at h3; simp at h3
      · rw [h5] at h4; simp at h4
    · exact h2
  · intro ho i k hi hk hne
    rw [key, ho i k hi hk hne, Int.mul_zero]
theorem turn_bal {r c : Int} (h : isM l 16 = true) : balF (turnF l r c) = balF l := by
  refine bool_eq ?_
  rw [bal_orth (turn_isM h), bal_orth h, turn_len, orth_congr (e' := fun i j => ent l i j * sg ((modP c l.length).testBit j) * sg (rbit r i)) fun i j hi hj => turn_ent hi hj]
  exact orth_sgn (fun i => sg_sq) (fun j => sg_sq)
theorem norm_isM (h : isM l 16 = true) : isM (normF l) 16 = true := by
  have h16 := len16 (by omega) h
  rw [← nor_made h]
  exact made_isM h16.2 h16.1
theorem norm_bal (h : isM l 16 = true) : balF (normF l) = balF l := by
  have h16 := len16 (by omega) h
  refine bool_eq ?_
  rw [bal_orth (norm_isM h), bal_orth h, norm_len]
  have he : ∀ i j, i < l.length → j < l.length → ent (normF l) i j = ent l i j * ent l 0 j * (ent l i 0 * ent l 0 0) := fun i j hi hj => by
    rw [← nor_made h, made_ent hi hj]
    unfold norB
    rw [Int.toNat_natCast, Int.toNat_natCast, norR_bit hj, Nat.testBit_xor, Nat.testBit_xor, sg_xor, sg_xor, sg_xor]
    rfl
  rw [orth_congr he]
  refine orth_sgn (r := fun i => ent l i 0 * ent l 0 0) (c := fun j => ent l 0 j) (fun i => ?_) (fun j => ent_sq)
  have h1 := ent_sq (l := l) (i := i) (j := 0)
  have h2 := ent_sq (l := l) (i := 0) (j := 0)
  grind
/-- The rows of a normal form are even, and row 0 is 0. -/
theorem norm_even (h : isM l 16 = true) {i : Nat} (hi : i < l.length) : (normF l).getD i 0 = (normR l.length (nx l 0) (nx l i) : Int) ∧ normR l.length (nx l 0) (nx l i) % 2 = 0 ∧ (i = 0 → normR l.length (nx l 0) (nx l i) = 0) := by
  refine ⟨?_, ?_, ?_⟩
  · rw [gd_at (by rw [norm_len]; exact hi)]
    simp only [normF, List.getElem_map]
    unfold nx
    rw [gd_at hi]
  · have := norR_bit (n := l.length) (h := nx l 0) (r := nx l i) (j := 0) (by omega)
    rw [Bool.xor_self, Nat.testBit_zero] at this
    simp at this
    omega
  · rintro rfl
    unfold normR
    rw [Nat.xor_self]
    rfl

/-! ### Four rows each -/
theorem sum_dvd {f : Nat → Int} : ∀ {n : Nat}, (∀ i, i < n → f i % 4 = 0) → sumN f n % 4 = 0
  | 0, _ => rfl
  | n + 1, h => by
    have h1 := sum_dvd (n := n) fun i hi => h i (by omega)
    have h2 := h n (by omega)
    rw [sumN]; omega
theorem bal_four (h : isM l 16 = true) (hb : balF l = true) (h3 : 3 ≤ l.length) : (l.length : Int) % 4 = 0 := by
  have ho := (bal_orth h).1 hb
  have e1 : sumN (fun j => (ent l 0 j + ent l 1 j) * (ent l 0 j + ent l 2 j)) l.length = l.length := by
    have e2 : sumN (fun j => (ent l 0 j + ent l 1 j) * (ent l 0 j + ent l 2 j)) l.length = sumN (fun j => (ent l 0 j * ent l 0 j + ent l 0 j * ent l 2 j) + (ent l 1 j * ent l 0 j + ent l 1 j * ent l 2 j)) l.length := sumN_congr fun j _ => by grind
    rw [e2, sumN_add, sumN_add, sumN_add, ho 0 2 (by omega) (by omega) (by omega), ho 1 0 (by omega) (by omega) (by omega), ho 1 2 (by omega) (by omega) (by omega)]
    have : sumN (fun j => ent l 0 j * ent l 0 j) l.length = l.length := dot_self (l := l) (i := 0)
    rw [this]; omega
  have e3 := sum_dvd (n := l.length) (f := fun j => (ent l 0 j + ent l 1 j) * (ent l 0 j + ent l 2 j)) fun j _ => by
    unfold ent
    cases (nx l 0).testBit j <;> cases (nx l 1).testBit j <;> cases (nx l 2).testBit j <;> rfl
  rw [e1] at e3
  exact e3

/-! ### Products -/
theorem sumN_append {f : Nat → Int} {a : Nat} : ∀ b, sumN f (a + b) = sumN f a + sumN (fun v => f (a + v)) b
  | 0 => by rw [Nat.add_zero, sumN]; omega
  | b + 1 => by
    rw [← Nat.add_assoc, sumN, sumN_append b, sumN]; omega
theorem sumN_prod {f : Nat → Int} {n : Nat} : ∀ m, sumN f (m * n) = sumN (fun u => sumN (fun v => f (u * n + v)) n) m
  | 0 => by rw [Nat.zero_mul]; rfl
  | m + 1 => by
    rw [Nat.succ_mul, sumN_append, sumN_prod m]; rfl
theorem sumN_mul2 {f g : Nat → Int} {m n : Nat} : sumN (fun u => sumN (fun v => f u * g v) n) m = sumN f m * sumN g n := by
  have : sumN (fun u => sumN (fun v => f u * g v) n) m = sumN (fun u => sumN g n * f u) m := sumN_congr fun u _ => by rw [sumN_mul, Int.mul_comm]
  rw [this, sumN_mul, Int.mul_comm]
theorem tim_bal {a b : List Int} (ha : isM a 16 = true) (hb : isM b 16 = true) (hle : a.length * b.length ≤ 16) : balF (timF a b) = (balF a && balF b) := by
  have la := len16 (by omega) ha
  have lb := len16 (by omega) hb
  have h1 : 1 ≤ a.length * b.length := Nat.mul_pos la.2 lb.2
  have hM : isM (timF a b) 16 = true := made_isM h1 hle
  have hlt : (timF a b).length = a.length * b.length := made_len
  have he : ∀ i j, i < a.length * b.length → j < a.length * b.length → ent (timF a b) i j = ent a (i / b.length) (j / b.length) * ent b (i % b.length) (j % b.length) := fun i j hi hj => by
    unfold timF
    rw [made_ent hi hj]
    unfold timB
    rw [tdiv_nat, tdiv_nat, tmod_nat, tmod_nat, isF_nx ha (div_rng (b := 0) lb.2 hi), isF_nx hb (Nat.mod_lt i lb.2), sg_xor]
    rfl
  have hdot : ∀ i k, i < a.length * b.length → k < a.length * b.length → sumN (fun j => ent (timF a b) i j * ent (timF a b) k j) (a.length * b.length) = dotR a (i / b.length) (k / b.length) * dotR b (i % b.length) (k % b.length) := fun i k hi hk => by
    rw [sumN_congr (g := fun j => (ent a (i / b.length) (j / b.length) * ent a (k / b.length) (j / b.length)) * (ent b (i % b.length) (j % b.length) * ent b (k % b.length) (j % b.length))) fun j hj => by rw [he i j hi hj, he k j hk hj]; grind]
    rw [sumN_prod]
    unfold dotR
    rw [← sumN_mul2]
    refine sumN_congr fun u _ => sumN_congr fun v hv => ?_
    have e1 : (u * b.length + v) / b.length = u := by
      rw [Nat.mul_comm, Nat.mul_add_div lb.2, Nat.div_eq_of_lt hv, Nat.add_zero]
    have e2 : (u * b.length + v) % b.length = v := by
      rw [Nat.mul_comm, Nat.mul_add_mod, Nat.mod_eq_of_lt hv]
    rw [e1, e2]
  refine bool_eq ?_
  rw [bal_orth hM, hlt, Bool.and_eq_true, bal_orth ha, bal_orth hb]
  constructor
  · intro ho
    constructor
    · intro i k hi hk hne
      have hi' : i * b.length < a.length * b.length := Nat.mul_lt_mul_of_pos_right hi lb.2
      have hk' : k * b.length < a.length * b.length := Nat.mul_lt_mul_of_pos_right hk lb.2
      have hne' : i * b.length ≠ k * b.length := fun e => hne (Nat.eq_of_mul_eq_mul_right lb.2 e)
      have h2 := ho _ _ hi' hk' hne'
      rw [hdot _ _ hi' hk', Nat.mul_div_cancel _ lb.2, Nat.mul_div_cancel _ lb.2, Nat.mul_mod_left, Nat.mul_mod_left, dot_self] at h2
      rcases Int.mul_eq_zero.1 h2 with h3 | h3
      · exact h3
      · omega
    · intro i k hi hk hne
      have hi' : i < a.length * b.length := Nat.lt_of_lt_of_le hi (Nat.le_mul_of_pos_left _ la.2)
      have hk' : k < a.length * b.length := Nat.lt_of_lt_of_le hk (Nat.le_mul_of_pos_left _ la.2)
      have h2 := ho _ _ hi' hk' hne
      rw [hdot _ _ hi' hk', Nat.div_eq_of_lt hi, Nat.div_eq_of_lt hk, Nat.mod_eq_of_lt hi, Nat.mod_eq_of_lt hk, dot_self] at h2
      rcases Int.mul_eq_zero.1 h2 with h3 | h3
      · omega
      · exact h3
  · rintro ⟨hoa, hob⟩ i k hi hk hne
    rw [hdot i k hi hk]
    have di := div_rng (b := 0) lb.2 hi
    have dk := div_rng (b := 0) lb.2 hk
    by_cases hd : i / b.length = k / b.length
    · have hmne : i % b.length ≠ k % b.length := fun e => hne (by rw [← Nat.div_add_mod i b.length, ← Nat.div_add_mod k b.length, hd, e])
      have : dotR b (i % b.length) (k % b.length) = 0 := hob _ _ (Nat.mod_lt i lb.2) (Nat.mod_lt k lb.2) hmne
      rw [this, Int.mul_zero]
    · have : dotR a (i / b.length) (k / b.length) = 0 := hoa _ _ di dk hd
      rw [this, Int.zero_mul]
end

/-! ### The documented ones -/
theorem dou_bal : ∀ k ∈ ([0, 1, 2, 3, 4] : List Int), isM (douF k) 16 = true ∧ balF (douF k) = true := by decide +kernel
theorem squ_bal : ∀ p ∈ ([3, 7, 11] : List Int), isM (squF p) 16 = true ∧ balF (squF p) = true := by decide +kernel

end Go.Signs

set_option linter.unusedVariables false
set_option linter.unusedSimpArgs false
namespace Go.Signs
open Go Go.Ab Go.Proofs

/-- The matrix while it is turned over: of the columns before i all is there, and of column i the rows before j. -/
def colR (f : Int → Int → Bool) (i j r : Nat) : Nat := if r < j then rowN (f r) (i + 1) else rowN (f r) i
def colL (n : Nat) (f : Int → Int → Bool) (i j : Nat) : List Int := (List.range n).map fun r => (colR f i j r : Int)
section
variable {n i j : Nat} {f : Int → Int → Bool}
theorem col_len : (colL n f i j).length = n := by simp [colL]
theorem col_at (hj : j < n) : (colL n f i j).getD j 0 = (rowN (f j) i : Int) := by
  rw [gd_at (by rw [col_len]; exact hj)]
  simp [colL, colR]
theorem col_set (hj : j < n) : (colL n f i j).set j (rowN (f j) (i + 1) : Int) = colL n f i (j + 1) := by
  refine List.ext_getElem (by simp [colL]) fun r h1 h2 => ?_
  rw [List.getElem_set]
  simp only [colL, List.getElem_map, List.getElem_range, colR]
  by_cases h : j = r
  · subst h; rw [if_pos rfl, if_pos (by omega)]
  · rw [if_neg h]
    by_cases h3 : r < j
    · rw [if_pos h3, if_pos (by omega)]
    · rw [if_neg h3, if_neg (by omega)]
theorem col_next : colL n f i n = colL n f (i + 1) 0 := by
  refine List.map_congr_left fun r hr => ?_
  have := List.mem_range.1 hr
  unfold colR
  rw [if_pos this, if_neg (by omega)]
theorem col_0 : colL n f 0 0 = List.replicate n 0 := by
  refine List.ext_getElem (by simp [colL]) fun r h1 h2 => ?_
  simp only [colL, List.getElem_map, List.getElem_range, colR, List.getElem_replicate]
  rw [if_neg (by omega)]
  rfl
theorem col_end : colL n f n 0 = madeF n f := by
  refine List.map_congr_left fun r hr => ?_
  unfold colR
  rw [if_neg (by omega)]
end

theorem in41 {l : List Int} (h : isM l 16 = true) {i : Nat} (hi : i < l.length) {f : Int → Int → Bool} (hf : f = fun i j => isF l j i) : whileO (g41_l0 l (((i : Int), colL l.length f i 0, ()) : Row)) (((0 : Int), colL l.length f i 0, ()) : Row) = some (.go ((((i + 1 : Nat) : Int), colL l.length f (i + 1) 0, ()) : Row)) := by
  have h16 := len16 (by omega) h
  have hp := pow16 (by omega) h
  refine whileO_nat (st := fun j => ((((j : Nat) : Int), colL l.length f i j, ()) : Row)) (lo := 0) (hi := l.length) (by omega) (fun j _ hj => ?_) ?_
  · unfold g41_l0
    dsimp only
    obtain ⟨a1, a2⟩ := nx_get h hi
    have hr := rowN_16 (g := f j) (j := i) (by omega)
    have h2 := pow_le16 (j := i) (by omega)
    have hfb : f j i = (nx l i).testBit j := by rw [hf]; exact isF_nx h hi
    have hbit : iand .i64 (ishr .i64 ((nx l i : Nat) : Int) (j : Int)) 1 = if (nx l i).testBit j = true then 1 else 0 := by
      have := (bit_nat (x := nx l i) (j := j) (by omega) (by omega)).2
      unfold bit at this
      rwa [Int.toNat_natCast, Int.toNat_natCast] at this
    have hset : (colL l.length f i j).set (0 + (j : Int).toNat) (ior .i64 ((colL l.length f i j).getD (0 + (j : Int).toNat) 0) (ishl .i64 (iand .i64 (ishr .i64 ((nx l i : Nat) : Int) (j : Int)) 1) (i : Int))) = colL l.length f i (j + 1) := by
      rw [Int.toNat_natCast, Nat.zero_add, col_at hj, hbit]
      have e : ior .i64 ((rowN (f j) i : Nat) : Int) (ishl .i64 (if (nx l i).testBit j = true then 1 else 0) (i : Int)) = ((rowN (f j) (i + 1) : Nat) : Int) := by
        rw [rowN, hfb]
        cases (nx l i).testBit j with
        | true => rw [if_pos rfl, if_pos rfl, ishl_one (by omega), ior_nat (by omega) (by omega)]
        | false =>
          have hz : ishl .i64 0 (i : Int) = ((0 : Nat) : Int) := by
            show IntKind.i64.wrap (0 * _) = _
            rw [Int.zero_mul]; rfl
          rw [if_neg (by simp), if_neg (by simp), hz, ior_nat (by omega) (by omega), Nat.or_zero]
      rw [e, col_set hj]
    rw [cond_t (ilt_iff.2 (by omega)), Int.toNat_natCast (n := i), a1]
    rw [gd_pos (by rw [col_len]; omega), gd_pos (by rw [col_len, Int.toNat_natCast]; omega), gd_pos (by omega), gd_pos (by omega), gd_pos (by rw [col_len]; omega), gd_pos (by rw [col_len, Int.toNat_natCast]; omega), gd_pos (by rw [List.length_set]), hset, cast1 (by omega)]
  · unfold g41_l0
    dsimp only
    rw [cond_f (ilt_false.2 (by omega)), gd_pos rfl, col_next, cast1 (by omega)]

theorem goal41 : con41.goal Try.prog (spOf []) g41_sh [] lm30 := by
  have e : (∀ (l : List Int), isM l 16 = true → g41 l = some (overF l, ())) = con41.goal Try.prog (spOf []) g41_sh [] lm30 := by kernel_rfl
  rw [← e]
  intro l h
  have h16 := len16 (by omega) h
  unfold g41
  rw [gd_pos (by omega), gd_pos (by simp), ← col_0 (f := fun i j => isF l j i)]
  refine whileO_nat (st := fun i => ((((i : Nat) : Int), colL l.length (fun i j => isF l j i) i 0, ()) : Row)) (lo := 0) (hi := l.length) (by omega) (fun i _ hi => ?_) ?_
  · simp only
    rw [cond_t (ilt_iff.2 (by omega)), gd_pos (by omega), gd_true, in41 h hi rfl]
  · simp only
    rw [cond_f (ilt_false.2 (by omega)), gd_pos (by omega), take_all, col_end]
    rfl
set_option maxRecDepth 100000 in
theorem ok41 : con41.Ok Try.prog := Con.of_goal mixed okN con41 goal41

theorem douX_cases (k : Int) : (doubX k = ([], 2, ()) ∨ ∃ d, doubX k = (d, 0, ()) ∧ small d ∧ balX d = (true, 0, ())) := by
  unfold doubX
  by_cases h : 0 ≤ k ∧ k ≤ 4
  · right
    rw [if_pos h]
    have hk : k = 0 ∨ k = 1 ∨ k = 2 ∨ k = 3 ∨ k = 4 := by omega
    obtain ⟨h1, h2⟩ := dou_bal k (by simp; exact hk)
    refine ⟨douF k, rfl, ?_, by rw [balX, if_pos h1, h2]⟩
    have := len16 (by omega) h1
    exact small16 (by omega)
  · left; rw [if_neg h]
theorem squX_cases (k : Int) : (squaX k = ([], 2, ()) ∨ ∃ d, squaX k = (d, 0, ()) ∧ small d ∧ balX d = (true, 0, ())) := by
  unfold squaX
  by_cases h : k = 3 ∨ k = 7 ∨ k = 11
  · right
    rw [if_pos h]
    obtain ⟨h1, h2⟩ := squ_bal k (by simp; exact h)
    refine ⟨squF k, rfl, ?_, by rw [balX, if_pos h1, h2]⟩
    have := len16 (by omega) h1
    exact small16 (by omega)
  · left; rw [if_neg h]

theorem goal8 : con8.goal Try.prog (spOf [con18, con30, con23, con24, con31, con40, con41, con34, con17, con16, con19]) g8_sh [] lm30 := by
  have e : (∀ (l b : List Int) (r c k : Int), small l → small b → g8 l b r c k = some (true, ())) = con8.goal Try.prog (spOf [con18, con30, con23, con24, con31, con40, con41, con34, con17, con16, con19]) g8_sh [] lm30 := by kernel_rfl
  rw [← e]
  intro l b r c k hs hsb
  have ta : small (l.take 20) := small16 (by rw [List.length_take]; omega)
  have tb : small (b.take 20) := small16 (by rw [List.length_take]; omega)
  have i00 : ieq 0 0 = true := rfl
  have i20 : ieq 2 0 = false := rfl
  have i60 : ieq 6 0 = false := rfl
  have i02 : ieq 0 2 = false := rfl
  have i22 : ieq 2 2 = true := rfl
  have hbb : ∀ x : Bool, beqB x x = true := fun x => by cases x <;> rfl
  unfold g8 g8_c7 g8_c6 g8_c5 g8_c4 g8_c3 g8_c2 g8_c1 g8_c0
  rw [gd_pos ta]
  cases h : isM l 16 with
  | false =>
    have h2 : isM (l.take 20) 16 = false := by rw [isM_take (by omega), h]
    have hB : balX (l.take 20) = (false, 2, ()) := by rw [balX, h2]; rfl
    simp [hB, i20, i22, gd_true, hs]
  | true =>
    have h16 := len16 (by omega) h
    have e1 : l.take 20 = l := List.take_of_length_le (by omega)
    have hB : balX l = (balF l, 0, ()) := by rw [balX, if_pos h]
    have hN : normX l = (normF l, 0, ()) := by rw [normX, if_pos h]
    have hNB : balX (normF l) = (balF l, 0, ()) := by rw [balX, if_pos (norm_isM h), norm_bal h]
    have hMo : isM (overF l) 16 = true := made_isM h16.2 h16.1
    have hO : balX (overF l) = (balF l, 0, ()) := by rw [balX, if_pos hMo, over_bal h]
    have hT : balX (turnF l r c) = (balF l, 0, ()) := by rw [balX, if_pos (turn_isM h), turn_bal h]
    have hsn : small (normF l) := small16 (by rw [norm_len]; omega)
    have hso : small (overF l) := small16 (by have : (overF l).length = l.length := made_len; omega)
    have hst : small (turnF l r c) := small16 (by rw [turn_len]; omega)
    have hnl : (normF l).length ≤ 100000 := by rw [norm_len]; omega
    rw [e1, hB, hN, hO, hT]
    simp only [hNB, i00, hs, hsn, hso, hst, hnl, h, hbb, gd_true, Bool.not_true, Bool.not_false, cond_true, cond_false, imp_self, and_self, forall_const, Bool.false_eq_true, Bool.true_eq_false, false_implies, Int.le_refl]
    refine whileO_nat (st := fun i : Nat => ((i : Int), ())) (lo := 0) (hi := l.length) (by omega) (fun i _ hi => ?_) ?_
    · obtain ⟨n1, n2, n3⟩ := norm_even h hi
      have hnlt := norR_lt (nx_get h (i := 0) (by omega)).2 (nx_get h hi).2
      have hp := pow16 (by omega) h
      have hand : iand .i64 ((normR l.length (nx l 0) (nx l i) : Nat) : Int) 1 = 0 := by
        rw [show (1 : Int) = ((1 : Nat) : Int) from rfl, iand_nat (by omega) (by omega), Nat.and_one_is_mod, n2]; rfl
      simp only [Int.toNat_natCast, n1, hand, i00, norm_len]
      rw [cond_t (ilt_iff.2 (by omega)), gd_pos (by omega), cast1 (by omega)]
      by_cases h0 : i = 0
      · have n4 := n3 h0
        rw [n4]
        simp [gd_true, i00, h0]
      · have : ieq (i : Int) 0 = false := ieq_false.2 (by omega)
        simp [gd_true, this]
    · have hb2 : ∃ o e2, balX (b.take 20) = (o, e2, ()) ∧ ((isM b 16 = true ∧ o = balF b ∧ e2 = 0) ∨ (isM b 16 = false ∧ o = false ∧ e2 = 2)) := by
        cases hM : isM b 16 with
        | true =>
          have lb := len16 (by omega) hM
          have e2 : b.take 20 = b := List.take_of_length_le (by omega)
          exact ⟨balF b, 0, by rw [e2, balX, if_pos hM], .inl ⟨rfl, rfl, rfl⟩⟩
        | false =>
          have h2 : isM (b.take 20) 16 = false := by rw [isM_take (by omega), hM]
          exact ⟨false, 2, by rw [balX, h2]; rfl, .inr ⟨rfl, rfl, rfl⟩⟩
      obtain ⟨o, e2, hb2, hcase⟩ := hb2
      -- the last row of the law
      have hlast : (bif bif !balF l then true else ilt (l.length : Int) 3 then true else ieq (Int.tmod (l.length : Int) 4) 0) = true := by
        cases hbl : balF l with
        | false => rfl
        | true =>
          by_cases h3 : l.length < 3
          · rw [ilt_iff.2 (by omega)]; rfl
          · have := bal_four h hbl (by omega)
            rw [ilt_false.2 (by omega), Int.tmod_eq_emod_of_nonneg (by omega), this]; rfl
      have hlast2 : (bif ieq e2 0 then true else ieq e2 2) = true := by
        rcases hcase with ⟨_, _, rfl⟩ | ⟨_, _, rfl⟩ <;> rfl
      have hmul : (timX l (b.take 20) = ([], 2, ()) ∨ timX l (b.take 20) = ([], 6, ()) ∨ ∃ t, timX l (b.take 20) = (t, 0, ()) ∧ small t ∧ balX t = ((bif balF l then o else false), 0, ())) := by
        unfold timX
        rw [isM_take (by omega), h]
        rcases hcase with ⟨hM, rfl, rfl⟩ | ⟨hM, rfl, rfl⟩
        · have lb := len16 (by omega) hM
          have e3 : b.take 20 = b := List.take_of_length_le (by omega)
          rw [hM, e3]
          simp only [Bool.and_self, if_true]
          by_cases hle : (l.length * b.length : Int) ≤ 16
          · right; right
            have hle' : l.length * b.length ≤ 16 := by exact_mod_cast hle
            have h1 : 1 ≤ l.length * b.length := Nat.mul_pos h16.2 lb.2
            rw [if_pos hle]
            have hMt : isM (timF l b) 16 = true := made_isM h1 hle'
            refine ⟨timF l b, rfl, small16 (by have : (timF l b).length = l.length * b.length := made_len; omega), ?_⟩
            rw [balX, if_pos hMt, tim_bal h hM hle']
            cases balF l <;> rfl
          · right; left; rw [if_neg hle]
        · left; rw [hM]; rfl
      simp only [norm_len]
      rw [cond_f (ilt_false.2 (by omega)), gd_pos tb, gd_pos tb]
      simp only [hb2, hlast, hlast2, cond_true]
      rcases hmul with ht | ht | ⟨t, ht, hst2, hbt⟩ <;> rcases douX_cases k with hd | ⟨d, hd, hsd, hbd⟩ <;> rcases squX_cases k with hq | ⟨q, hq, hsq, hbq⟩ <;>
        simp only [ht, hd, hq, i00, i20, i60, gd_true, cond_false, cond_true, Bool.not_true, Bool.not_false, imp_self, and_self, forall_const, Bool.false_eq_true, Bool.true_eq_false, false_implies, *] <;> first
          | rfl
          | (cases balF l <;> cases o <;> simp [gd_true, hbb, beqB])
set_option maxRecDepth 100000 in
theorem ok8 : con8.Ok Try.prog := Con.of_goal mixed (okC ok18 (okC ok30 (okC ok23 (okC ok24 (okC ok31 (okC ok40 (okC ok41 (okC ok34 (okC ok17 (okC ok16 (okC ok19 okN))))))))))) con8 goal8

end Go.Signs
