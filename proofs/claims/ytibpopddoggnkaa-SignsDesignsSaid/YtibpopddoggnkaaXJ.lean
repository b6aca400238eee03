/- Designs and words: contracts. -/
import Derived.Test.YtibpopddoggnkaaXW
import Derived.Test.YtibpopddoggnkaaSS
set_option linter.unusedVariables false
set_option linter.unusedSimpArgs false
namespace Go.Signs
open Go Go.Ab Go.Proofs

/-- The set of a row of the normal form. -/
def setR (n r : Nat) : Nat := ((2 ^ n - 1) ^^^ r) / 2
def desF (l : List Int) : List Int := (normF l).tail.map fun (r : Int) => (setR l.length r.toNat : Int)
def desX (l : List Int) : List Int × Int × Unit := if isM l 16 && decide (4 ≤ l.length) then (if balF l = true then (desF l, 0, ()) else ([], 5, ())) else ([], 2, ())
noncomputable def con52 : Con := mkC 52 [.d LI] [LI, I64] (fun (l : List Int) => [small l]) (fun (l : List Int) => desX l)
noncomputable def g52 (x0 : List Int) : Option (List Int × Int × Unit) := gd (small x0) (gd ((16 : Int) ≤ (16 : Int)) (gd ((!!isM x0 (16 : Int)) = true → (!!isM x0 (16 : Int)) = true) (gd ((!!isM x0 (16 : Int)) = true → (!!isM x0 (16 : Int)) = true) (gd ((!isM x0 (16 : Int)) = false → (!!isM x0 (16 : Int)) = true) (bif bif !isM x0 (16 : Int) then true else ilt (↑(List.length x0) : Int) (4 : Int) then some ((([] : List Int), (2 : Int), ()) : List Int × Int × Unit) else gd (isM x0 (16 : Int) = true) (bif !balF x0 then some ((([] : List Int), (5 : Int), ()) : List Int × Int × Unit) else gd (isM x0 (16 : Int) = true) (gd ((0 : Int) ≤ (1 : Int) ∧ (1 : Int) ≤ (↑(List.length (normF x0)) : Int)) (gd ((0 : Nat) = (0 : Nat)) (whileO (fun (d1 : Int × List Int × Unit) => bif ilt d1.1 (↑(List.length (List.drop (1 : Nat) (normF x0))) : Int) then gd ((0 : Int) ≤ d1.1 ∧ d1.1 < (↑(List.length (List.drop (1 : Nat) (normF x0))) : Int)) (gd (List.length x0 ≤ (16 : Nat)) (gd ((0 : Int) ≤ (1 : Int)) (gd (List.length d1.2.1 ≤ List.length d1.2.1) (gd ((List.length d1.2.1 + (1 : Nat)) * (8 : Nat) ≤ (1099511627776 : Nat)) (gd (List.length d1.2.1 + (1 : Nat) = List.length (List.take (List.length d1.2.1) d1.2.1 ++ ishr IntKind.i64 (iandn IntKind.i64 (allF x0) (List.getD (List.drop (1 : Nat) (normF x0)) (Int.toNat d1.1) (0 : Int))) (1 : Int) :: ([] : List Int))) (some (Lp.go ((wr IntKind.i64 (d1.1 + (1 : Int)), List.take (List.length d1.2.1) d1.2.1 ++ ishr IntKind.i64 (iandn IntKind.i64 (allF x0) (List.getD (List.drop (1 : Nat) (normF x0)) (Int.toNat d1.1) (0 : Int))) (1 : Int) :: ([] : List Int), ()) : Int × List Int × Unit)))))))) else gd ((0 : Nat) + List.length d1.2.1 ≤ List.length d1.2.1) (some (Lp.out ((List.take (List.length d1.2.1) (List.drop (0 : Nat) d1.2.1), (0 : Int), ()) : List Int × Int × Unit)))) (((0 : Int), ([] : List Int), ()) : Int × List Int × Unit))))))))))
noncomputable def g52_sh : List LSh := LSh.mk (((5, TV.slf (0) (1)) : Nat × TV) :: ((26, TV.v (Ty.int IntKind.i64)) : Nat × TV) :: ([] : List (Nat × TV))) (TB.arr (Ty.int IntKind.i64) true :: ([] : List TB)) :: ([] : List LSh)
def othR (n r : Nat) : Nat := (2 ^ n - 1) ^^^ r
def worL (l : List Int) : List Int := l.flatMap fun r => [r, (othR l.length r.toNat : Int)]
def worX (l : List Int) : List Int × Int × Unit := if isM l 16 = true then (if balF l = true then (sortL (worL l), 0, ()) else ([], 5, ())) else ([], 2, ())
noncomputable def con53 : Con := mkC 53 [.d LI] [LI, I64] (fun (l : List Int) => [small l]) (fun (l : List Int) => worX l)
noncomputable def g53 (x0 : List Int) : Option (List Int × Int × Unit) := gd (small x0) (gd ((16 : Int) ≤ (16 : Int)) (bif !isM x0 (16 : Int) then some ((([] : List Int), (2 : Int), ()) : List Int × Int × Unit) else gd (isM x0 (16 : Int) = true) (bif !balF x0 then some ((([] : List Int), (5 : Int), ()) : List Int × Int × Unit) else gd ((0 : Nat) = (0 : Nat)) (whileO (fun (d1 : Int × List Int × Unit) => bif ilt d1.1 (↑(List.length x0) : Int) then gd ((0 : Int) ≤ d1.1 ∧ d1.1 < (↑(List.length x0) : Int)) (gd (List.length x0 ≤ (16 : Nat)) (gd (List.length d1.2.1 ≤ List.length d1.2.1) (gd ((List.length d1.2.1 + (2 : Nat)) * (8 : Nat) ≤ (1099511627776 : Nat)) (gd (List.length d1.2.1 + (2 : Nat) = List.length (List.take (List.length d1.2.1) d1.2.1 ++ List.getD x0 (Int.toNat d1.1) (0 : Int) :: ixor IntKind.i64 (allF x0) (List.getD x0 (Int.toNat d1.1) (0 : Int)) :: ([] : List Int))) (some (Lp.go ((wr IntKind.i64 (d1.1 + (1 : Int)), List.take (List.length d1.2.1) d1.2.1 ++ List.getD x0 (Int.toNat d1.1) (0 : Int) :: ixor IntKind.i64 (allF x0) (List.getD x0 (Int.toNat d1.1) (0 : Int)) :: ([] : List Int), ()) : Int × List Int × Unit))))))) else gd (List.length d1.2.1 = List.length d1.2.1) (gd (List.length d1.2.1 < (4611686018427387904 : Nat)) (gd ((0 : Nat) + List.length d1.2.1 ≤ List.length (sortL d1.2.1)) (some (Lp.out ((List.take (List.length d1.2.1) (List.drop (0 : Nat) (sortL d1.2.1)), (0 : Int), ()) : List Int × Int × Unit)))))) (((0 : Int), ([] : List Int), ()) : Int × List Int × Unit)))))
noncomputable def g53_sh : List LSh := LSh.mk (((5, TV.slf (0) (1)) : Nat × TV) :: ((19, TV.v (Ty.int IntKind.i64)) : Nat × TV) :: ([] : List (Nat × TV))) (TB.arr (Ty.int IntKind.i64) true :: ([] : List TB)) :: ([] : List LSh)
noncomputable def con56 : Con := mkC 56 [.d I64] [I64] (fun (x : Int) => [is16 x]) (fun (x : Int) => (pop x, ()))
noncomputable def g56 (x0 : Int) : Option (Int × Unit) := whileO (fun (d1 : Int × Int × Unit) => bif ilt (0 : Int) d1.1 then some (Lp.go ((iand IntKind.i64 d1.1 (wr IntKind.i64 (d1.1 - (1 : Int))), wr IntKind.i64 (d1.2.1 + (1 : Int)), ()) : Int × Int × Unit)) else some (Lp.out ((d1.2.1, ()) : Int × Unit))) ((x0, (0 : Int), ()) : Int × Int × Unit)
noncomputable def g56_sh : List LSh := LSh.mk (((0, TV.v (Ty.int IntKind.i64)) : Nat × TV) :: ((3, TV.v (Ty.int IntKind.i64)) : Nat × TV) :: ([] : List (Nat × TV))) ([] : List TB) :: ([] : List LSh)
noncomputable def con14 : Con := mkC 14 [.d LI] [.bool] (fun (l : List Int) => [small l]) (fun (l : List Int) => (true, ()))
noncomputable def g14_c0 (x0 : List Int) : Bool := bif !ieq (↑(List.length (worX (List.take (20 : Nat) x0)).1) : Int) (wr IntKind.i64 ((2 : Int) * (↑(List.length x0) : Int))) then true else ilt (16 : Int) (↑(List.length x0) : Int)
noncomputable def g14_c1 (x0 : List Int) (d1 : Int × Unit) : Bool := bif ilt (List.getD (worX (List.take (20 : Nat) x0)).1 (Int.toNat d1.1) (0 : Int)) (0 : Int) then true else !ieq (ishr IntKind.i64 (List.getD (worX (List.take (20 : Nat) x0)).1 (Int.toNat d1.1) (0 : Int)) (↑(List.length x0) : Int)) (0 : Int)
noncomputable def g14_c2 (x0 : List Int) (d1 d2 : Int × Unit) : Bool := bif g14_c1 x0 d1 then true else ile (List.getD (worX (List.take (20 : Nat) x0)).1 (Int.toNat d1.1) (0 : Int)) (List.getD (List.take (Int.toNat d1.1) (worX (List.take (20 : Nat) x0)).1) (Int.toNat d2.1) (0 : Int))
noncomputable def g14_c3 (x0 : List Int) (d1 d2 : Int × Unit) : Int := pop (ixor IntKind.i64 (List.getD (worX (List.take (20 : Nat) x0)).1 (Int.toNat d1.1) (0 : Int)) (List.getD (List.take (Int.toNat d1.1) (worX (List.take (20 : Nat) x0)).1) (Int.toNat d2.1) (0 : Int)))
noncomputable def g14_c4 (x0 : List Int) (d1 d2 : Int × Unit) : Bool := bif g14_c2 x0 d1 d2 then true else bif !ieq (wr IntKind.i64 ((2 : Int) * g14_c3 x0 d1 d2)) (↑(List.length x0) : Int) then !ieq (g14_c3 x0 d1 d2) (↑(List.length x0) : Int) else false
noncomputable def g14_l5 (x0 : List Int) (d1 d2 : Int × Unit) : Option (Lp (Int × Unit) (Lp (Int × Unit) (Bool × Unit))) := bif ilt d2.1 (↑(List.length (List.take (Int.toNat d1.1) (worX (List.take (20 : Nat) x0)).1)) : Int) then gd ((0 : Int) ≤ d2.1 ∧ d2.1 < (↑(List.length (List.take (Int.toNat d1.1) (worX (List.take (20 : Nat) x0)).1)) : Int)) (gd ((!ilt (List.getD (worX (List.take (20 : Nat) x0)).1 (Int.toNat d1.1) (0 : Int)) (0 : Int)) = true → (!ilt (List.getD (worX (List.take (20 : Nat) x0)).1 (Int.toNat d1.1) (0 : Int)) (0 : Int)) = true) (gd ((!ilt (List.getD (worX (List.take (20 : Nat) x0)).1 (Int.toNat d1.1) (0 : Int)) (0 : Int)) = true → (!ilt (List.getD (worX (List.take (20 : Nat) x0)).1 (Int.toNat d1.1) (0 : Int)) (0 : Int)) = true ∧ (!ilt (List.getD (worX (List.take (20 : Nat) x0)).1 (Int.toNat d1.1) (0 : Int)) (0 : Int)) = true ∧ (0 : Int) ≤ (↑(List.length x0) : Int)) (gd ((!ilt (List.getD (worX (List.take (20 : Nat) x0)).1 (Int.toNat d1.1) (0 : Int)) (0 : Int)) = true → (!ilt (List.getD (worX (List.take (20 : Nat) x0)).1 (Int.toNat d1.1) (0 : Int)) (0 : Int)) = true) (gd (ilt (List.getD (worX (List.take (20 : Nat) x0)).1 (Int.toNat d1.1) (0 : Int)) (0 : Int) = false → (!ilt (List.getD (worX (List.take (20 : Nat) x0)).1 (Int.toNat d1.1) (0 : Int)) (0 : Int)) = true) (gd ((!g14_c1 x0 d1) = true → (!g14_c1 x0 d1) = true ∧ (!g14_c1 x0 d1) = true) (gd (g14_c1 x0 d1 = false → (!g14_c1 x0 d1) = true) (gd ((!g14_c2 x0 d1 d2) = true → (!g14_c2 x0 d1 d2) = true ∧ (!g14_c2 x0 d1 d2) = true) (gd ((!g14_c2 x0 d1 d2) = true → (!g14_c2 x0 d1 d2) = true ∧ is16 (ixor IntKind.i64 (List.getD (worX (List.take (20 : Nat) x0)).1 (Int.toNat d1.1) (0 : Int)) (List.getD (List.take (Int.toNat d1.1) (worX (List.take (20 : Nat) x0)).1) (Int.toNat d2.1) (0 : Int)))) (gd ((!g14_c2 x0 d1 d2) = true → (!g14_c2 x0 d1 d2) = true) (gd ((!g14_c2 x0 d1 d2) = true → (!g14_c2 x0 d1 d2) = true) (gd ((!g14_c2 x0 d1 d2) = true → (!g14_c2 x0 d1 d2) = true ∧ (!g14_c2 x0 d1 d2) = true) (gd ((!g14_c2 x0 d1 d2 && (!g14_c2 x0 d1 d2 && !ieq (wr IntKind.i64 ((2 : Int) * g14_c3 x0 d1 d2)) (↑(List.length x0) : Int))) = true → (!g14_c2 x0 d1 d2 && (!g14_c2 x0 d1 d2 && !ieq (wr IntKind.i64 ((2 : Int) * g14_c3 x0 d1 d2)) (↑(List.length x0) : Int))) = true ∧ (!g14_c2 x0 d1 d2 && (!g14_c2 x0 d1 d2 && !ieq (wr IntKind.i64 ((2 : Int) * g14_c3 x0 d1 d2)) (↑(List.length x0) : Int))) = true) (gd ((!g14_c2 x0 d1 d2 && (!g14_c2 x0 d1 d2 && !ieq (wr IntKind.i64 ((2 : Int) * g14_c3 x0 d1 d2)) (↑(List.length x0) : Int))) = true → (!g14_c2 x0 d1 d2 && (!g14_c2 x0 d1 d2 && !ieq (wr IntKind.i64 ((2 : Int) * g14_c3 x0 d1 d2)) (↑(List.length x0) : Int))) = true ∧ is16 (ixor IntKind.i64 (List.getD (worX (List.take (20 : Nat) x0)).1 (Int.toNat d1.1) (0 : Int)) (List.getD (List.take (Int.toNat d1.1) (worX (List.take (20 : Nat) x0)).1) (Int.toNat d2.1) (0 : Int)))) (gd ((!g14_c2 x0 d1 d2 && (!g14_c2 x0 d1 d2 && !ieq (wr IntKind.i64 ((2 : Int) * g14_c3 x0 d1 d2)) (↑(List.length x0) : Int))) = true → (!g14_c2 x0 d1 d2 && (!g14_c2 x0 d1 d2 && !ieq (wr IntKind.i64 ((2 : Int) * g14_c3 x0 d1 d2)) (↑(List.length x0) : Int))) = true) (gd ((!g14_c2 x0 d1 d2 && (!g14_c2 x0 d1 d2 && !ieq (wr IntKind.i64 ((2 : Int) * g14_c3 x0 d1 d2)) (↑(List.length x0) : Int))) = true → (!g14_c2 x0 d1 d2 && (!g14_c2 x0 d1 d2 && !ieq (wr IntKind.i64 ((2 : Int) * g14_c3 x0 d1 d2)) (↑(List.length x0) : Int))) = true ∧ (!g14_c2 x0 d1 d2 && (!g14_c2 x0 d1 d2 && !ieq (wr IntKind.i64 ((2 : Int) * g14_c3 x0 d1 d2)) (↑(List.length x0) : Int))) = true) (gd ((!g14_c2 x0 d1 d2) = true → (!g14_c2 x0 d1 d2) = true ∧ (!g14_c2 x0 d1 d2) = true ∧ ((!ieq (wr IntKind.i64 ((2 : Int) * g14_c3 x0 d1 d2)) (↑(List.length x0) : Int)) = true → (!g14_c2 x0 d1 d2 && (!g14_c2 x0 d1 d2 && !ieq (wr IntKind.i64 ((2 : Int) * g14_c3 x0 d1 d2)) (↑(List.length x0) : Int))) = true)) (gd (g14_c2 x0 d1 d2 = false → (!g14_c2 x0 d1 d2) = true) (bif g14_c4 x0 d1 d2 then some (Lp.out (Lp.out ((false, ()) : Bool × Unit))) else some (Lp.go ((wr IntKind.i64 (d2.1 + (1 : Int)), ()) : Int × Unit)))))))))))))))))))) else some (Lp.out (Lp.go ((wr IntKind.i64 (d1.1 + (1 : Int)), ()) : Int × Unit)))
noncomputable def g14_c6 (x0 : List Int) : Bool := (bif ieq (desX (List.take (20 : Nat) x0)).2.1 (2 : Int) then true else ieq (desX (List.take (20 : Nat) x0)).2.1 (5 : Int)) && ((bif ieq (desX (List.take (20 : Nat) x0)).2.1 (2 : Int) then true else ieq (desX (List.take (20 : Nat) x0)).2.1 (5 : Int)) && !ieq (worX (List.take (20 : Nat) x0)).2.1 (0 : Int))
noncomputable def g14_c7 (x0 : List Int) : Bool := (bif ieq (desX (List.take (20 : Nat) x0)).2.1 (2 : Int) then true else ieq (desX (List.take (20 : Nat) x0)).2.1 (5 : Int)) && ((bif ieq (desX (List.take (20 : Nat) x0)).2.1 (2 : Int) then true else ieq (desX (List.take (20 : Nat) x0)).2.1 (5 : Int)) && !bif ieq (worX (List.take (20 : Nat) x0)).2.1 (0 : Int) then true else ieq (worX (List.take (20 : Nat) x0)).2.1 (2 : Int))
noncomputable def g14_c8 (x0 : List Int) : Bool := bif bif ieq (worX (List.take (20 : Nat) x0)).2.1 (0 : Int) then true else ieq (worX (List.take (20 : Nat) x0)).2.1 (2 : Int) then true else ieq (worX (List.take (20 : Nat) x0)).2.1 (5 : Int)
noncomputable def g14_c9 (x0 : List Int) : Bool := bif !ieq (worX (List.take (20 : Nat) x0)).2.1 (0 : Int) then true else !ieq (↑(List.length (desX (List.take (20 : Nat) x0)).1) : Int) (wr IntKind.i64 ((↑(List.length x0) : Int) - (1 : Int)))
noncomputable def g14_c10 (x0 : List Int) (d2 : Int × Unit) : Bool := ile (ishl IntKind.i64 (1 : Int) (wr IntKind.i64 ((↑(List.length x0) : Int) - (1 : Int)))) (List.getD (desX (List.take (20 : Nat) x0)).1 (Int.toNat d2.1) (0 : Int))
noncomputable def g14_c11 (x0 : List Int) (d2 : Int × Unit) : Bool := !ieq (pop (List.getD (desX (List.take (20 : Nat) x0)).1 (Int.toNat d2.1) (0 : Int))) (wr IntKind.i64 (wr IntKind.i64 (Int.tdiv (↑(List.length x0) : Int) (2 : Int)) - (1 : Int)))
noncomputable def g14_c12 (x0 : List Int) (d2 d3 : Int × Unit) : Int := pop (iand IntKind.i64 (List.getD (desX (List.take (20 : Nat) x0)).1 (Int.toNat d2.1) (0 : Int)) (List.getD (List.take (Int.toNat d2.1) (desX (List.take (20 : Nat) x0)).1) (Int.toNat d3.1) (0 : Int)))
noncomputable def g14_l13 (x0 : List Int) (d2 d3 : Int × Unit) : Option (Lp (Int × Unit) (Lp (Int × Unit) (Lp (Int × Unit) (Bool × Unit)))) := bif ilt d3.1 (↑(List.length (List.take (Int.toNat d2.1) (desX (List.take (20 : Nat) x0)).1)) : Int) then gd ((0 : Int) ≤ d3.1 ∧ d3.1 < (↑(List.length (List.take (Int.toNat d2.1) (desX (List.take (20 : Nat) x0)).1)) : Int)) (gd (is16 (iand IntKind.i64 (List.getD (desX (List.take (20 : Nat) x0)).1 (Int.toNat d2.1) (0 : Int)) (List.getD (List.take (Int.toNat d2.1) (desX (List.take (20 : Nat) x0)).1) (Int.toNat d3.1) (0 : Int)))) (gd ((4 : Int) ≠ (0 : Int)) (bif !ieq (g14_c12 x0 d2 d3) (wr IntKind.i64 (wr IntKind.i64 (Int.tdiv (↑(List.length x0) : Int) (4 : Int)) - (1 : Int))) then some (Lp.out (Lp.out (Lp.out ((false, ()) : Bool × Unit)))) else some (Lp.go ((wr IntKind.i64 (d3.1 + (1 : Int)), ()) : Int × Unit))))) else some (Lp.out (Lp.go ((wr IntKind.i64 (d2.1 + (1 : Int)), ()) : Int × Unit)))
noncomputable def g14_c14 (x0 : List Int) (d3 d4 : Int × Unit) (d5 : Int × Int × Unit) : Int := wr IntKind.i64 (iand IntKind.i64 (ishr IntKind.i64 (List.getD (desX (List.take (20 : Nat) x0)).1 (Int.toNat d5.2.1) (0 : Int)) d3.1) (1 : Int) * iand IntKind.i64 (ishr IntKind.i64 (List.getD (desX (List.take (20 : Nat) x0)).1 (Int.toNat d5.2.1) (0 : Int)) d4.1) (1 : Int))
noncomputable def g14_l15 (x0 : List Int) (d3 d4 : Int × Unit) (d5 : Int × Int × Unit) : Option (Lp (Int × Int × Unit) (Lp (Int × Unit) (Lp (Int × Unit) (Lp (Int × Unit) (Lp (Int × Unit) (Bool × Unit)))))) := bif ilt d5.2.1 (↑(List.length (desX (List.take (20 : Nat) x0)).1) : Int) then gd ((0 : Int) ≤ d5.2.1 ∧ d5.2.1 < (↑(List.length (desX (List.take (20 : Nat) x0)).1) : Int)) (gd ((0 : Int) ≤ d3.1) (gd ((0 : Int) ≤ d4.1) (some (Lp.go ((wr IntKind.i64 (d5.1 + g14_c14 x0 d3 d4 d5), wr IntKind.i64 (d5.2.1 + (1 : Int)), ()) : Int × Int × Unit))))) else gd ((4 : Int) ≠ (0 : Int)) (bif !ieq d5.1 (wr IntKind.i64 (wr IntKind.i64 (Int.tdiv (↑(List.length x0) : Int) (4 : Int)) - (1 : Int))) then some (Lp.out (Lp.out (Lp.out (Lp.out (Lp.out ((false, ()) : Bool × Unit)))))) else some (Lp.out (Lp.go ((wr IntKind.i64 (d4.1 + (1 : Int)), ()) : Int × Unit))))
noncomputable def g14_l16 (x0 : List Int) (d3 d4 : Int × Unit) : Option (Lp (Int × Unit) (Lp (Int × Unit) (Lp (Int × Unit) (Lp (Int × Unit) (Bool × Unit))))) := bif ilt d4.1 d3.1 then whileO (g14_l15 x0 d3 d4) (((0 : Int), (0 : Int), ()) : Int × Int × Unit) else some (Lp.out (Lp.go ((wr IntKind.i64 (d3.1 + (1 : Int)), ()) : Int × Unit)))
noncomputable def g14_c17 (x0 : List Int) (d1 : Int × Unit) : Bool := ile (ishl IntKind.i64 (1 : Int) (wr IntKind.i64 ((↑(List.length x0) : Int) - (1 : Int)))) (List.getD (desX (List.take (20 : Nat) x0)).1 (Int.toNat d1.1) (0 : Int))
noncomputable def g14_c18 (x0 : List Int) (d1 : Int × Unit) : Bool := !ieq (pop (List.getD (desX (List.take (20 : Nat) x0)).1 (Int.toNat d1.1) (0 : Int))) (wr IntKind.i64 (wr IntKind.i64 (Int.tdiv (↑(List.length x0) : Int) (2 : Int)) - (1 : Int)))
noncomputable def g14_c19 (x0 : List Int) (d1 d2 : Int × Unit) : Int := pop (iand IntKind.i64 (List.getD (desX (List.take (20 : Nat) x0)).1 (Int.toNat d1.1) (0 : Int)) (List.getD (List.take (Int.toNat d1.1) (desX (List.take (20 : Nat) x0)).1) (Int.toNat d2.1) (0 : Int)))
noncomputable def g14_l20 (x0 : List Int) (d1 d2 : Int × Unit) : Option (Lp (Int × Unit) (Lp (Int × Unit) (Bool × Unit))) := bif ilt d2.1 (↑(List.length (List.take (Int.toNat d1.1) (desX (List.take (20 : Nat) x0)).1)) : Int) then gd ((0 : Int) ≤ d2.1 ∧ d2.1 < (↑(List.length (List.take (Int.toNat d1.1) (desX (List.take (20 : Nat) x0)).1)) : Int)) (gd (is16 (iand IntKind.i64 (List.getD (desX (List.take (20 : Nat) x0)).1 (Int.toNat d1.1) (0 : Int)) (List.getD (List.take (Int.toNat d1.1) (desX (List.take (20 : Nat) x0)).1) (Int.toNat d2.1) (0 : Int)))) (gd ((4 : Int) ≠ (0 : Int)) (bif !ieq (g14_c19 x0 d1 d2) (wr IntKind.i64 (wr IntKind.i64 (Int.tdiv (↑(List.length x0) : Int) (4 : Int)) - (1 : Int))) then some (Lp.out (Lp.out ((false, ()) : Bool × Unit))) else some (Lp.go ((wr IntKind.i64 (d2.1 + (1 : Int)), ()) : Int × Unit))))) else some (Lp.out (Lp.go ((wr IntKind.i64 (d1.1 + (1 : Int)), ()) : Int × Unit)))
noncomputable def g14_c21 (x0 : List Int) (d2 d3 : Int × Unit) (d4 : Int × Int × Unit) : Int := wr IntKind.i64 (iand IntKind.i64 (ishr IntKind.i64 (List.getD (desX (List.take (20 : Nat) x0)).1 (Int.toNat d4.2.1) (0 : Int)) d2.1) (1 : Int) * iand IntKind.i64 (ishr IntKind.i64 (List.getD (desX (List.take (20 : Nat) x0)).1 (Int.toNat d4.2.1) (0 : Int)) d3.1) (1 : Int))
noncomputable def g14_l22 (x0 : List Int) (d2 d3 : Int × Unit) (d4 : Int × Int × Unit) : Option (Lp (Int × Int × Unit) (Lp (Int × Unit) (Lp (Int × Unit) (Lp (Int × Unit) (Bool × Unit))))) := bif ilt d4.2.1 (↑(List.length (desX (List.take (20 : Nat) x0)).1) : Int) then gd ((0 : Int) ≤ d4.2.1 ∧ d4.2.1 < (↑(List.length (desX (List.take (20 : Nat) x0)).1) : Int)) (gd ((0 : Int) ≤ d2.1) (gd ((0 : Int) ≤ d3.1) (some (Lp.go ((wr IntKind.i64 (d4.1 + g14_c21 x0 d2 d3 d4), wr IntKind.i64 (d4.2.1 + (1 : Int)), ()) : Int × Int × Unit))))) else gd ((4 : Int) ≠ (0 : Int)) (bif !ieq d4.1 (wr IntKind.i64 (wr IntKind.i64 (Int.tdiv (↑(List.length x0) : Int) (4 : Int)) - (1 : Int))) then some (Lp.out (Lp.out (Lp.out (Lp.out ((false, ()) : Bool × Unit))))) else some (Lp.out (Lp.go ((wr IntKind.i64 (d3.1 + (1 : Int)), ()) : Int × Unit))))
noncomputable def g14_l23 (x0 : List Int) (d2 d3 : Int × Unit) : Option (Lp (Int × Unit) (Lp (Int × Unit) (Lp (Int × Unit) (Bool × Unit)))) := bif ilt d3.1 d2.1 then whileO (g14_l22 x0 d2 d3) (((0 : Int), (0 : Int), ()) : Int × Int × Unit) else some (Lp.out (Lp.go ((wr IntKind.i64 (d2.1 + (1 : Int)), ()) : Int × Unit)))
noncomputable def g14 (x0 : List Int) : Option (Bool × Unit) := gd (small (List.take (20 : Nat) x0)) (gd (small (List.take (20 : Nat) x0)) (bif ieq (worX (List.take (20 : Nat) x0)).2.1 (0 : Int) then gd ((!!ieq (↑(List.length (worX (List.take (20 : Nat) x0)).1) : Int) (wr IntKind.i64 ((2 : Int) * (↑(List.length x0) : Int)))) = true → (!!ieq (↑(List.length (worX (List.take (20 : Nat) x0)).1) : Int) (wr IntKind.i64 ((2 : Int) * (↑(List.length x0) : Int)))) = true) (gd ((!!ieq (↑(List.length (worX (List.take (20 : Nat) x0)).1) : Int) (wr IntKind.i64 ((2 : Int) * (↑(List.length x0) : Int)))) = true → (!!ieq (↑(List.length (worX (List.take (20 : Nat) x0)).1) : Int) (wr IntKind.i64 ((2 : Int) * (↑(List.length x0) : Int)))) = true) (gd ((!ieq (↑(List.length (worX (List.take (20 : Nat) x0)).1) : Int) (wr IntKind.i64 ((2 : Int) * (↑(List.length x0) : Int)))) = false → (!!ieq (↑(List.length (worX (List.take (20 : Nat) x0)).1) : Int) (wr IntKind.i64 ((2 : Int) * (↑(List.length x0) : Int)))) = true) (bif g14_c0 x0 then some ((false, ()) : Bool × Unit) else whileO (fun (d1 : Int × Unit) => bif ilt d1.1 (↑(List.length (worX (List.take (20 : Nat) x0)).1) : Int) then gd ((0 : Int) ≤ d1.1 ∧ d1.1 < (↑(List.length (worX (List.take (20 : Nat) x0)).1) : Int)) (gd ((0 : Int) ≤ d1.1 ∧ d1.1 ≤ (↑(List.length (worX (List.take (20 : Nat) x0)).1) : Int)) (whileO (g14_l5 x0 d1) (((0 : Int), ()) : Int × Unit))) else bif !ieq (desX (List.take (20 : Nat) x0)).2.1 (0 : Int) then gd ((!ieq (desX (List.take (20 : Nat) x0)).2.1 (2 : Int)) = true → (!ieq (desX (List.take (20 : Nat) x0)).2.1 (2 : Int)) = true) (gd (ieq (desX (List.take (20 : Nat) x0)).2.1 (2 : Int) = false → (!ieq (desX (List.take (20 : Nat) x0)).2.1 (2 : Int)) = true) (gd ((bif ieq (desX (List.take (20 : Nat) x0)).2.1 (2 : Int) then true else ieq (desX (List.take (20 : Nat) x0)).2.1 (5 : Int)) = true → (bif ieq (desX (List.take (20 : Nat) x0)).2.1 (2 : Int) then true else ieq (desX (List.take (20 : Nat) x0)).2.1 (5 : Int)) = true) (gd (((bif ieq (desX (List.take (20 : Nat) x0)).2.1 (2 : Int) then true else ieq (desX (List.take (20 : Nat) x0)).2.1 (5 : Int)) && ((bif ieq (desX (List.take (20 : Nat) x0)).2.1 (2 : Int) then true else ieq (desX (List.take (20 : Nat) x0)).2.1 (5 : Int)) && !ieq (worX (List.take (20 : Nat) x0)).2.1 (0 : Int))) = true → g14_c6 x0 = true) (gd ((bif ieq (desX (List.take (20 : Nat) x0)).2.1 (2 : Int) then true else ieq (desX (List.take (20 : Nat) x0)).2.1 (5 : Int)) = true → (bif ieq (desX (List.take (20 : Nat) x0)).2.1 (2 : Int) then true else ieq (desX (List.take (20 : Nat) x0)).2.1 (5 : Int)) = true ∧ (bif ieq (desX (List.take (20 : Nat) x0)).2.1 (2 : Int) then true else ieq (desX (List.take (20 : Nat) x0)).2.1 (5 : Int)) = true ∧ (ieq (worX (List.take (20 : Nat) x0)).2.1 (0 : Int) = false → g14_c6 x0 = true)) (gd (((bif ieq (desX (List.take (20 : Nat) x0)).2.1 (2 : Int) then true else ieq (desX (List.take (20 : Nat) x0)).2.1 (5 : Int)) && ((bif ieq (desX (List.take (20 : Nat) x0)).2.1 (2 : Int) then true else ieq (desX (List.take (20 : Nat) x0)).2.1 (5 : Int)) && !bif ieq (worX (List.take (20 : Nat) x0)).2.1 (0 : Int) then true else ieq (worX (List.take (20 : Nat) x0)).2.1 (2 : Int))) = true → g14_c7 x0 = true) (gd ((bif ieq (desX (List.take (20 : Nat) x0)).2.1 (2 : Int) then true else ieq (desX (List.take (20 : Nat) x0)).2.1 (5 : Int)) = true → (bif ieq (desX (List.take (20 : Nat) x0)).2.1 (2 : Int) then true else ieq (desX (List.take (20 : Nat) x0)).2.1 (5 : Int)) = true ∧ (bif ieq (desX (List.take (20 : Nat) x0)).2.1 (2 : Int) then true else ieq (desX (List.take (20 : Nat) x0)).2.1 (5 : Int)) = true ∧ ((bif ieq (worX (List.take (20 : Nat) x0)).2.1 (0 : Int) then true else ieq (worX (List.take (20 : Nat) x0)).2.1 (2 : Int)) = false → g14_c7 x0 = true)) (gd ((bif ieq (desX (List.take (20 : Nat) x0)).2.1 (2 : Int) then true else ieq (desX (List.take (20 : Nat) x0)).2.1 (5 : Int)) = true → (bif ieq (desX (List.take (20 : Nat) x0)).2.1 (2 : Int) then true else ieq (desX (List.take (20 : Nat) x0)).2.1 (5 : Int)) = true) (gd ((bif bif ieq (desX (List.take (20 : Nat) x0)).2.1 (2 : Int) then true else ieq (desX (List.take (20 : Nat) x0)).2.1 (5 : Int) then g14_c8 x0 else false) = true → (bif bif ieq (desX (List.take (20 : Nat) x0)).2.1 (2 : Int) then true else ieq (desX (List.take (20 : Nat) x0)).2.1 (5 : Int) then g14_c8 x0 else false) = true) (some (Lp.out ((bif bif bif ieq (desX (List.take (20 : Nat) x0)).2.1 (2 : Int) then true else ieq (desX (List.take (20 : Nat) x0)).2.1 (5 : Int) then g14_c8 x0 else false then true else false, ()) : Bool × Unit))))))))))) else gd ((!!ieq (worX (List.take (20 : Nat) x0)).2.1 (0 : Int)) = true → (!!ieq (worX (List.take (20 : Nat) x0)).2.1 (0 : Int)) = true) (gd ((!!ieq (worX (List.take (20 : Nat) x0)).2.1 (0 : Int)) = true → (!!ieq (worX (List.take (20 : Nat) x0)).2.1 (0 : Int)) = true) (gd ((!!ieq (worX (List.take (20 : Nat) x0)).2.1 (0 : Int)) = true → (!!ieq (worX (List.take (20 : Nat) x0)).2.1 (0 : Int)) = true ∧ (!!ieq (worX (List.take (20 : Nat) x0)).2.1 (0 : Int)) = true) (gd ((!ieq (worX (List.take (20 : Nat) x0)).2.1 (0 : Int)) = false → (!!ieq (worX (List.take (20 : Nat) x0)).2.1 (0 : Int)) = true) (gd ((!g14_c9 x0) = true → (!g14_c9 x0) = true ∧ (4 : Int) ≠ (0 : Int)) (gd ((!g14_c9 x0) = true → (!g14_c9 x0) = true) (gd (g14_c9 x0 = false → (!g14_c9 x0) = true) (bif bif g14_c9 x0 then true else !ieq (Int.tmod (↑(List.length x0) : Int) (4 : Int)) (0 : Int) then some (Lp.out ((false, ()) : Bool × Unit)) else whileO (fun (d2 : Int × Unit) => bif ilt d2.1 (↑(List.length (desX (List.take (20 : Nat) x0)).1) : Int) then gd ((0 : Int) ≤ d2.1 ∧ d2.1 < (↑(List.length (desX (List.take (20 : Nat) x0)).1) : Int)) (gd ((!ilt (List.getD (desX (List.take (20 : Nat) x0)).1 (Int.toNat d2.1) (0 : Int)) (0 : Int)) = true → (!ilt (List.getD (desX (List.take (20 : Nat) x0)).1 (Int.toNat d2.1) (0 : Int)) (0 : Int)) = true) (gd ((!ilt (List.getD (desX (List.take (20 : Nat) x0)).1 (Int.toNat d2.1) (0 : Int)) (0 : Int)) = true → (!ilt (List.getD (desX (List.take (20 : Nat) x0)).1 (Int.toNat d2.1) (0 : Int)) (0 : Int)) = true ∧ (0 : Int) ≤ wr IntKind.i64 ((↑(List.length x0) : Int) - (1 : Int))) (gd ((!ilt (List.getD (desX (List.take (20 : Nat) x0)).1 (Int.toNat d2.1) (0 : Int)) (0 : Int)) = true → (!ilt (List.getD (desX (List.take (20 : Nat) x0)).1 (Int.toNat d2.1) (0 : Int)) (0 : Int)) = true ∧ (!ilt (List.getD (desX (List.take (20 : Nat) x0)).1 (Int.toNat d2.1) (0 : Int)) (0 : Int)) = true) (gd (ilt (List.getD (desX (List.take (20 : Nat) x0)).1 (Int.toNat d2.1) (0 : Int)) (0 : Int) = false → (!ilt (List.getD (desX (List.take (20 : Nat) x0)).1 (Int.toNat d2.1) (0 : Int)) (0 : Int)) = true) (gd ((!bif ilt (List.getD (desX (List.take (20 : Nat) x0)).1 (Int.toNat d2.1) (0 : Int)) (0 : Int) then true else g14_c10 x0 d2) = true → (!bif ilt (List.getD (desX (List.take (20 : Nat) x0)).1 (Int.toNat d2.1) (0 : Int)) (0 : Int) then true else g14_c10 x0 d2) = true ∧ is16 (List.getD (desX (List.take (20 : Nat) x0)).1 (Int.toNat d2.1) (0 : Int))) (gd ((!bif ilt (List.getD (desX (List.take (20 : Nat) x0)).1 (Int.toNat d2.1) (0 : Int)) (0 : Int) then true else g14_c10 x0 d2) = true → (!bif ilt (List.getD (desX (List.take (20 : Nat) x0)).1 (Int.toNat d2.1) (0 : Int)) (0 : Int) then true else g14_c10 x0 d2) = true ∧ (2 : Int) ≠ (0 : Int)) (gd ((!bif ilt (List.getD (desX (List.take (20 : Nat) x0)).1 (Int.toNat d2.1) (0 : Int)) (0 : Int) then true else g14_c10 x0 d2) = true → (!bif ilt (List.getD (desX (List.take (20 : Nat) x0)).1 (Int.toNat d2.1) (0 : Int)) (0 : Int) then true else g14_c10 x0 d2) = true) (gd ((!bif ilt (List.getD (desX (List.take (20 : Nat) x0)).1 (Int.toNat d2.1) (0 : Int)) (0 : Int) then true else g14_c10 x0 d2) = true → (!bif ilt (List.getD (desX (List.take (20 : Nat) x0)).1 (Int.toNat d2.1) (0 : Int)) (0 : Int) then true else g14_c10 x0 d2) = true ∧ (!bif ilt (List.getD (desX (List.take (20 : Nat) x0)).1 (Int.toNat d2.1) (0 : Int)) (0 : Int) then true else g14_c10 x0 d2) = true) (gd ((bif ilt (List.getD (desX (List.take (20 : Nat) x0)).1 (Int.toNat d2.1) (0 : Int)) (0 : Int) then true else g14_c10 x0 d2) = false → (!bif ilt (List.getD (desX (List.take (20 : Nat) x0)).1 (Int.toNat d2.1) (0 : Int)) (0 : Int) then true else g14_c10 x0 d2) = true) (bif bif bif ilt (List.getD (desX (List.take (20 : Nat) x0)).1 (Int.toNat d2.1) (0 : Int)) (0 : Int) then true else g14_c10 x0 d2 then true else g14_c11 x0 d2 then some (Lp.out (Lp.out ((false, ()) : Bool × Unit))) else gd ((0 : Int) ≤ d2.1 ∧ d2.1 ≤ (↑(List.length (desX (List.take (20 : Nat) x0)).1) : Int)) (whileO (g14_l13 x0 d2) (((0 : Int), ()) : Int × Unit)))))))))))) else whileO (fun (d3 : Int × Unit) => bif ilt d3.1 (wr IntKind.i64 ((↑(List.length x0) : Int) - (1 : Int))) then whileO (g14_l16 x0 d3) (((0 : Int), ()) : Int × Unit) else some (Lp.out (Lp.out (Lp.out ((true, ()) : Bool × Unit))))) (((0 : Int), ()) : Int × Unit)) (((0 : Int), ()) : Int × Unit))))))))) (((0 : Int), ()) : Int × Unit)))) else bif !ieq (desX (List.take (20 : Nat) x0)).2.1 (0 : Int) then gd ((!ieq (desX (List.take (20 : Nat) x0)).2.1 (2 : Int)) = true → (!ieq (desX (List.take (20 : Nat) x0)).2.1 (2 : Int)) = true) (gd (ieq (desX (List.take (20 : Nat) x0)).2.1 (2 : Int) = false → (!ieq (desX (List.take (20 : Nat) x0)).2.1 (2 : Int)) = true) (gd ((bif ieq (desX (List.take (20 : Nat) x0)).2.1 (2 : Int) then true else ieq (desX (List.take (20 : Nat) x0)).2.1 (5 : Int)) = true → (bif ieq (desX (List.take (20 : Nat) x0)).2.1 (2 : Int) then true else ieq (desX (List.take (20 : Nat) x0)).2.1 (5 : Int)) = true) (gd (((bif ieq (desX (List.take (20 : Nat) x0)).2.1 (2 : Int) then true else ieq (desX (List.take (20 : Nat) x0)).2.1 (5 : Int)) && ((bif ieq (desX (List.take (20 : Nat) x0)).2.1 (2 : Int) then true else ieq (desX (List.take (20 : Nat) x0)).2.1 (5 : Int)) && !ieq (worX (List.take (20 : Nat) x0)).2.1 (0 : Int))) = true → g14_c6 x0 = true) (gd ((bif ieq (desX (List.take (20 : Nat) x0)).2.1 (2 : Int) then true else ieq (desX (List.take (20 : Nat) x0)).2.1 (5 : Int)) = true → (bif ieq (desX (List.take (20 : Nat) x0)).2.1 (2 : Int) then true else ieq (desX (List.take (20 : Nat) x0)).2.1 (5 : Int)) = true ∧ (bif ieq (desX (List.take (20 : Nat) x0)).2.1 (2 : Int) then true else ieq (desX (List.take (20 : Nat) x0)).2.1 (5 : Int)) = true ∧ (ieq (worX (List.take (20 : Nat) x0)).2.1 (0 : Int) = false → g14_c6 x0 = true)) (gd (((bif ieq (desX (List.take (20 : Nat) x0)).2.1 (2 : Int) then true else ieq (desX (List.take (20 : Nat) x0)).2.1 (5 : Int)) && ((bif ieq (desX (List.take (20 : Nat) x0)).2.1 (2 : Int) then true else ieq (desX (List.take (20 : Nat) x0)).2.1 (5 : Int)) && !bif ieq (worX (List.take (20 : Nat) x0)).2.1 (0 : Int) then true else ieq (worX (List.take (20 : Nat) x0)).2.1 (2 : Int))) = true → g14_c7 x0 = true) (gd ((bif ieq (desX (List.take (20 : Nat) x0)).2.1 (2 : Int) then true else ieq (desX (List.take (20 : Nat) x0)).2.1 (5 : Int)) = true → (bif ieq (desX (List.take (20 : Nat) x0)).2.1 (2 : Int) then true else ieq (desX (List.take (20 : Nat) x0)).2.1 (5 : Int)) = true ∧ (bif ieq (desX (List.take (20 : Nat) x0)).2.1 (2 : Int) then true else ieq (desX (List.take (20 : Nat) x0)).2.1 (5 : Int)) = true ∧ ((bif ieq (worX (List.take (20 : Nat) x0)).2.1 (0 : Int) then true else ieq (worX (List.take (20 : Nat) x0)).2.1 (2 : Int)) = false → g14_c7 x0 = true)) (gd ((bif ieq (desX (List.take (20 : Nat) x0)).2.1 (2 : Int) then true else ieq (desX (List.take (20 : Nat) x0)).2.1 (5 : Int)) = true → (bif ieq (desX (List.take (20 : Nat) x0)).2.1 (2 : Int) then true else ieq (desX (List.take (20 : Nat) x0)).2.1 (5 : Int)) = true) (gd ((bif bif ieq (desX (List.take (20 : Nat) x0)).2.1 (2 : Int) then true else ieq (desX (List.take (20 : Nat) x0)).2.1 (5 : Int) then g14_c8 x0 else false) = true → (bif bif ieq (desX (List.take (20 : Nat) x0)).2.1 (2 : Int) then true else ieq (desX (List.take (20 : Nat) x0)).2.1 (5 : Int) then g14_c8 x0 else false) = true) (some ((bif bif bif ieq (desX (List.take (20 : Nat) x0)).2.1 (2 : Int) then true else ieq (desX (List.take (20 : Nat) x0)).2.1 (5 : Int) then g14_c8 x0 else false then true else false, ()) : Bool × Unit)))))))))) else gd ((!!ieq (worX (List.take (20 : Nat) x0)).2.1 (0 : Int)) = true → (!!ieq (worX (List.take (20 : Nat) x0)).2.1 (0 : Int)) = true) (gd ((!!ieq (worX (List.take (20 : Nat) x0)).2.1 (0 : Int)) = true → (!!ieq (worX (List.take (20 : Nat) x0)).2.1 (0 : Int)) = true) (gd ((!!ieq (worX (List.take (20 : Nat) x0)).2.1 (0 : Int)) = true → (!!ieq (worX (List.take (20 : Nat) x0)).2.1 (0 : Int)) = true ∧ (!!ieq (worX (List.take (20 : Nat) x0)).2.1 (0 : Int)) = true) (gd ((!ieq (worX (List.take (20 : Nat) x0)).2.1 (0 : Int)) = false → (!!ieq (worX (List.take (20 : Nat) x0)).2.1 (0 : Int)) = true) (gd ((!g14_c9 x0) = true → (!g14_c9 x0) = true ∧ (4 : Int) ≠ (0 : Int)) (gd ((!g14_c9 x0) = true → (!g14_c9 x0) = true) (gd (g14_c9 x0 = false → (!g14_c9 x0) = true) (bif bif g14_c9 x0 then true else !ieq (Int.tmod (↑(List.length x0) : Int) (4 : Int)) (0 : Int) then some ((false, ()) : Bool × Unit) else whileO (fun (d1 : Int × Unit) => bif ilt d1.1 (↑(List.length (desX (List.take (20 : Nat) x0)).1) : Int) then gd ((0 : Int) ≤ d1.1 ∧ d1.1 < (↑(List.length (desX (List.take (20 : Nat) x0)).1) : Int)) (gd ((!ilt (List.getD (desX (List.take (20 : Nat) x0)).1 (Int.toNat d1.1) (0 : Int)) (0 : Int)) = true → (!ilt (List.getD (desX (List.take (20 : Nat) x0)).1 (Int.toNat d1.1) (0 : Int)) (0 : Int)) = true) (gd ((!ilt (List.getD (desX (List.take (20 : Nat) x0)).1 (Int.toNat d1.1) (0 : Int)) (0 : Int)) = true → (!ilt (List.getD (desX (List.take (20 : Nat) x0)).1 (Int.toNat d1.1) (0 : Int)) (0 : Int)) = true ∧ (0 : Int) ≤ wr IntKind.i64 ((↑(List.length x0) : Int) - (1 : Int))) (gd ((!ilt (List.getD (desX (List.take (20 : Nat) x0)).1 (Int.toNat d1.1) (0 : Int)) (0 : Int)) = true → (!ilt (List.getD (desX (List.take (20 : Nat) x0)).1 (Int.toNat d1.1) (0 : Int)) (0 : Int)) = true ∧ (!ilt (List.getD (desX (List.take (20 : Nat) x0)).1 (Int.toNat d1.1) (0 : Int)) (0 : Int)) = true) (gd (ilt (List.getD (desX (List.take (20 : Nat) x0)).1 (Int.toNat d1.1) (0 : Int)) (0 : Int) = false → (!ilt (List.getD (desX (List.take (20 : Nat) x0)).1 (Int.toNat d1.1) (0 : Int)) (0 : Int)) = true) (gd ((!bif ilt (List.getD (desX (List.take (20 : Nat) x0)).1 (Int.toNat d1.1) (0 : Int)) (0 : Int) then true else g14_c17 x0 d1) = true → (!bif ilt (List.getD (desX (List.take (20 : Nat) x0)).1 (Int.toNat d1.1) (0 : Int)) (0 : Int) then true else g14_c17 x0 d1) = true ∧ is16 (List.getD (desX (List.take (20 : Nat) x0)).1 (Int.toNat d1.1) (0 : Int))) (gd ((!bif ilt (List.getD (desX (List.take (20 : Nat) x0)).1 (Int.toNat d1.1) (0 : Int)) (0 : Int) then true else g14_c17 x0 d1) = true → (!bif ilt (List.getD (desX (List.take (20 : Nat) x0)).1 (Int.toNat d1.1) (0 : Int)) (0 : Int) then true else g14_c17 x0 d1) = true ∧ (2 : Int) ≠ (0 : Int)) (gd ((!bif ilt (List.getD (desX (List.take (20 : Nat) x0)).1 (Int.toNat d1.1) (0 : Int)) (0 : Int) then true else g14_c17 x0 d1) = true → (!bif ilt (List.getD (desX (List.take (20 : Nat) x0)).1 (Int.toNat d1.1) (0 : Int)) (0 : Int) then true else g14_c17 x0 d1) = true) (gd ((!bif ilt (List.getD (desX (List.take (20 : Nat) x0)).1 (Int.toNat d1.1) (0 : Int)) (0 : Int) then true else g14_c17 x0 d1) = true → (!bif ilt (List.getD (desX (List.take (20 : Nat) x0)).1 (Int.toNat d1.1) (0 : Int)) (0 : Int) then true else g14_c17 x0 d1) = true ∧ (!bif ilt (List.getD (desX (List.take (20 : Nat) x0)).1 (Int.toNat d1.1) (0 : Int)) (0 : Int) then true else g14_c17 x0 d1) = true) (gd ((bif ilt (List.getD (desX (List.take (20 : Nat) x0)).1 (Int.toNat d1.1) (0 : Int)) (0 : Int) then true else g14_c17 x0 d1) = false → (!bif ilt (List.getD (desX (List.take (20 : Nat) x0)).1 (Int.toNat d1.1) (0 : Int)) (0 : Int) then true else g14_c17 x0 d1) = true) (bif bif bif ilt (List.getD (desX (List.take (20 : Nat) x0)).1 (Int.toNat d1.1) (0 : Int)) (0 : Int) then true else g14_c17 x0 d1 then true else g14_c18 x0 d1 then some (Lp.out ((false, ()) : Bool × Unit)) else gd ((0 : Int) ≤ d1.1 ∧ d1.1 ≤ (↑(List.length (desX (List.take (20 : Nat) x0)).1) : Int)) (whileO (g14_l20 x0 d1) (((0 : Int), ()) : Int × Unit)))))))))))) else whileO (fun (d2 : Int × Unit) => bif ilt d2.1 (wr IntKind.i64 ((↑(List.length x0) : Int) - (1 : Int))) then whileO (g14_l23 x0 d2) (((0 : Int), ()) : Int × Unit) else some (Lp.out (Lp.out ((true, ()) : Bool × Unit)))) (((0 : Int), ()) : Int × Unit)) (((0 : Int), ()) : Int × Unit))))))))))
noncomputable def g14_sh : List LSh := LSh.mk (((48, TV.v (Ty.int IntKind.i64)) : Nat × TV) :: ([] : List (Nat × TV))) ([] : List TB) :: LSh.mk (((57, TV.v (Ty.int IntKind.i64)) : Nat × TV) :: ([] : List (Nat × TV))) ([] : List TB) :: LSh.mk (((137, TV.v (Ty.int IntKind.i64)) : Nat × TV) :: ([] : List (Nat × TV))) ([] : List TB) :: LSh.mk (((163, TV.v (Ty.int IntKind.i64)) : Nat × TV) :: ([] : List (Nat × TV))) ([] : List TB) :: LSh.mk (((179, TV.v (Ty.int IntKind.i64)) : Nat × TV) :: ([] : List (Nat × TV))) ([] : List TB) :: LSh.mk (((183, TV.v (Ty.int IntKind.i64)) : Nat × TV) :: ([] : List (Nat × TV))) ([] : List TB) :: LSh.mk (((18, TV.v (Ty.int IntKind.i64)) : Nat × TV) :: ((188, TV.v (Ty.int IntKind.i64)) : Nat × TV) :: ([] : List (Nat × TV))) ([] : List TB) :: ([] : List LSh)


end Go.Signs

set_option linter.unusedVariables false
set_option linter.unusedSimpArgs false
namespace Go.Signs
open Go Go.Ab Go.Proofs

theorem iandn_nat {a b : Nat} (ha : a < 9223372036854775808) (hb : b < 9223372036854775808) : iandn .i64 a b = ((a ^^^ (a &&& b) : Nat) : Int) := by
  have e : (BitVec.ofInt 64 (a : Int) &&& ~~~ BitVec.ofInt 64 (b : Int)) = BitVec.ofInt 64 (a : Int) ^^^ (BitVec.ofInt 64 (a : Int) &&& BitVec.ofInt 64 (b : Int)) := by
    ext i hi
    simp
    cases (BitVec.ofNat 64 a)[i] <;> cases (BitVec.ofNat 64 b)[i] <;> rfl
  have h1 : a ^^^ (a &&& b) < 2 ^ 63 := Nat.xor_lt_two_pow (by omega) (Nat.and_lt_two_pow _ (by omega))
  show IntKind.i64.wrap ((BitVec.ofInt 64 (a : Int) &&& ~~~ BitVec.ofInt 64 (b : Int)).toNat : Int) = _
  rw [e, BitVec.toNat_xor, BitVec.toNat_and, bv_nat (by omega), bv_nat (by omega), wrap_nat (by omega)]
theorem iandn_all {n b : Nat} (hn : n ≤ 16) (hb : b < 2 ^ n) : iandn .i64 ((2 ^ n - 1 : Nat) : Int) (b : Int) = (othR n b : Int) := by
  have hp := pow_le16 hn
  rw [iandn_nat (by omega) (by omega), Nat.and_comm, Nat.and_two_pow_sub_one_eq_mod, Nat.mod_eq_of_lt hb]
  rfl
theorem oth_lt {n b : Nat} (hb : b < 2 ^ n) : othR n b < 2 ^ n := xor_lt (by have := Nat.one_le_two_pow (n := n); omega) hb
theorem set_at {n b : Nat} (hn : n ≤ 16) (hb : b < 2 ^ n) : ishr .i64 (iandn .i64 ((2 ^ n - 1 : Nat) : Int) (b : Int)) 1 = (setR n b : Int) := by
  rw [iandn_all hn hb, show (1 : Int) = ((1 : Nat) : Int) from rfl, ishr_nat (by omega)]
  rfl
theorem des_len {l : List Int} : (desF l).length = l.length - 1 := by simp [desF, norm_len]
theorem des_at {l : List Int} {i : Nat} (hi : i + 1 < l.length) : (desF l).getD i 0 = (setR l.length (nx (normF l) (i + 1)) : Int) := by
  have h1 : i < (desF l).length := by rw [des_len]; omega
  have h2 : i + 1 < (normF l).length := by rw [norm_len]; omega
  have h3 : i < (normF l).tail.length := by rw [List.length_tail]; omega
  unfold nx
  rw [gd_at h2, List.getD_eq_getElem?_getD]
  unfold desF
  rw [List.getElem?_map, List.getElem?_eq_getElem h3, List.getElem_tail]
  rfl
theorem des_take {l : List Int} {i : Nat} (hi : i + 1 < l.length) : (desF l).take (i + 1) = (desF l).take i ++ [(setR l.length (nx (normF l) (i + 1)) : Int)] := by
  have h1 : i < (desF l).length := by rw [des_len]; omega
  rw [List.take_succ_eq_append_getElem h1, ← gd_at (d := 0) h1, des_at hi]
theorem drop1_at {l : List Int} {i : Nat} : (List.drop 1 l).getD i 0 = l.getD (i + 1) 0 := by
  rw [List.getD_eq_getElem?_getD, List.getD_eq_getElem?_getD, List.getElem?_drop, Nat.add_comm]
theorem drop1_len {l : List Int} : (List.drop 1 l).length = l.length - 1 := by simp

theorem goal52 : con52.goal Try.prog (spOf [con62, con71, con72, con84]) g52_sh [] lm30 := by
  have e : (∀ (l : List Int), small l → g52 l = some (desX l)) = con52.goal Try.prog (spOf [con62, con71, con72, con84]) g52_sh [] lm30 := by kernel_rfl
  rw [← e]
  intro l hs
  unfold g52 desX
  rw [gd_pos hs, gd_pos (Int.le_refl _)]
  cases h : isM l 16 with
  | false => simp [gd_true]
  | true =>
    have h16 := len16 (by omega) h
    have hN := norm_isM h
    have hp := pow16 (by omega) h
    by_cases h4 : l.length < 4
    · have c : ilt (l.length : Int) 4 = true := ilt_iff.2 (by omega)
      simp [gd_true, c, show ¬ 4 ≤ l.length by omega]
    · have c : ilt (l.length : Int) 4 = false := ilt_false.2 (by omega)
      cases hb : balF l with
      | false => simp [gd_true, c, show 4 ≤ l.length by omega]
      | true =>
        have hd : decide (4 ≤ l.length) = true := decide_eq_true (by omega)
        simp only [hd, c, Bool.not_true, Bool.not_false, Bool.and_self, if_true, cond_false, cond_true, gd_true, imp_self, Bool.false_eq_true, true_imp_iff, false_imp_iff, reduceCtorEq]
        rw [gd_pos (by rw [norm_len]; omega)]
        refine whileO_nat (st := fun i => ((((i : Nat) : Int), (desF l).take i, ()) : Row)) (lo := 0) (hi := l.length - 1) (by omega) (fun i _ hi => ?_) ?_
        · simp only [drop1_len, norm_len]
          obtain ⟨a1, a2⟩ := nx_get hN (i := i + 1) (by rw [norm_len]; omega)
          rw [norm_len] at a2
          have hl : ((desF l).take i).length = i := by rw [List.length_take, des_len]; omega
          have ht : List.take i ((desF l).take i) = (desF l).take i := by rw [List.take_take, Nat.min_self]
          have hal : allF l = ((2 ^ l.length - 1 : Nat) : Int) := rfl
          rw [Int.toNat_natCast, drop1_at, a1, hal, set_at h16.1 a2, des_take (by omega)]
          rw [cond_t (ilt_iff.2 (by omega)), gd_pos (by omega), gd_pos (by omega), gd_pos (by omega)]
          simp only [hl, ht, Nat.le_refl, gd_true, List.length_append, List.length_singleton]
          rw [gd_pos (by omega), cast1 (by omega)]
        · simp only [drop1_len, norm_len]
          have hl : (desF l).take (l.length - 1) = desF l := List.take_of_length_le (by rw [des_len]; omega)
          rw [cond_f (ilt_false.2 (by omega)), gd_pos (by omega), take_all, hl]
set_option maxRecDepth 100000 in
theorem ok52 : con52.Ok Try.prog := Con.of_goal mixed (okC ok62 (okC ok71 (okC ok72 (okC ok84 okN)))) con52 goal52

/-! ### Words -/
def worN (n : Nat) (l : List Int) : List Int := l.flatMap fun r => [r, (othR n r.toNat : Int)]
theorem worN_len {n : Nat} : ∀ {l : List Int}, (worN n l).length = 2 * l.length
  | [] => rfl
  | x :: l => by
    have := worN_len (n := n) (l := l)
    unfold worN at this ⊢
    rw [List.flatMap_cons, List.length_append, this]
    simp
    omega
theorem worN_take {n : Nat} {l : List Int} {i : Nat} (hi : i < l.length) : worN n (l.take (i + 1)) = worN n (l.take i) ++ [l.getD i 0, (othR n (nx l i) : Int)] := by
  unfold worN nx
  rw [List.take_succ_eq_append_getElem hi, List.flatMap_append, gd_at hi]
  simp
theorem goal53 : con53.goal Try.prog (spS [sortCon 57 true] [con62, con71, con84]) g53_sh [] lm30 := by
  have e : (∀ (l : List Int), small l → g53 l = some (worX l)) = con53.goal Try.prog (spS [sortCon 57 true] [con62, con71, con84]) g53_sh [] lm30 := by kernel_rfl
  rw [← e]
  intro l hs
  unfold g53 worX
  rw [gd_pos hs, gd_pos (Int.le_refl _)]
  cases h : isM l 16 with
  | false => simp [gd_true]
  | true =>
    have h16 := len16 (by omega) h
    have hp := pow16 (by omega) h
    cases hb : balF l with
    | false => simp [gd_true]
    | true =>
      simp only [Bool.not_true, Bool.not_false, if_true, cond_false, cond_true, gd_true]
      refine whileO_nat (st := fun i => ((((i : Nat) : Int), worN l.length (l.take i), ()) : Row)) (lo := 0) (hi := l.length) (by omega) (fun i _ hi => ?_) ?_
      · simp only
        obtain ⟨a1, a2⟩ := nx_get h hi
        have hl : (worN l.length (l.take i)).length = 2 * i := by rw [worN_len, List.length_take]; omega
        have hal : allF l = ((2 ^ l.length - 1 : Nat) : Int) := rfl
        rw [Int.toNat_natCast, worN_take hi, a1, hal, ixor_nat (by omega) (by omega)]
        rw [cond_t (ilt_iff.2 (by omega)), gd_pos (by omega), gd_pos (by omega)]
        simp only [hl, Nat.le_refl, gd_true]
        rw [List.take_of_length_le (by omega), gd_pos (by omega), gd_pos (by simp [hl]), cast1 (by omega)]
        rfl
      · have hl : (worN l.length l).length = 2 * l.length := worN_len
        simp only [List.take_length, hl, sortL_len, Nat.zero_add, List.drop_zero]
        rw [cond_f (ilt_false.2 (by omega)), gd_pos (by omega), gd_pos (Nat.le_refl _), List.take_of_length_le (by rw [sortL_len, hl]; omega)]
        rfl
set_option maxRecDepth 100000 in
theorem ok53 : con53.Ok Try.prog := Con.of_goalS mixed (okC ok62 (okC ok71 (okC ok84 okN))) (okS (ok57 true) okS0) con53 goal53

end Go.Signs

set_option linter.unusedVariables false
set_option linter.unusedSimpArgs false
namespace Go.Signs
open Go Go.Ab Go.Proofs

theorem pc_step : ∀ (k x : Nat), 0 < x → x < 2 ^ k → pc k (x &&& (x - 1)) + 1 = pc k x
  | 0, x, h0, h => by simp at h; omega
  | k + 1, x, h0, h => by
    have e2 : (x &&& (x - 1)) / 2 = (x / 2) &&& ((x - 1) / 2) := Nat.and_div_two
    have e1 : (x &&& (x - 1)) % 2 = (x % 2) &&& ((x - 1) % 2) := by
      have := Nat.and_mod_two_pow (a := x) (b := x - 1) (n := 1)
      simpa using this
    simp only [pc]
    rw [e1, e2]
    rcases Nat.mod_two_eq_zero_or_one x with hx | hx
    · have h1 : (x - 1) / 2 = x / 2 - 1 := by omega
      have h2 : (x - 1) % 2 = 1 := by omega
      have := pc_step k (x / 2) (by omega) (by rw [Nat.pow_succ] at h; omega)
      rw [hx, h1, h2, ← this]
      simp
    · have h1 : (x - 1) / 2 = x / 2 := by omega
      have h2 : (x - 1) % 2 = 0 := by omega
      rw [hx, h1, h2, Nat.and_self]
      simp
      omega
theorem pop_step2 {x : Nat} (h0 : 0 < x) (h : x < 65536) : (x &&& (x - 1)) < x ∧ popN (x &&& (x - 1)) + 1 = popN x := by
  refine ⟨Nat.lt_of_le_of_lt Nat.and_le_right (by omega), ?_⟩
  unfold popN
  rw [pc_eq, pc_eq]
  exact pc_step 16 x h0 h
theorem pop_zero : popN 0 = 0 := by decide
theorem goal56 : con56.goal Try.prog (spOf []) g56_sh [] lm30 := by
  have e : (∀ (x : Int), is16 x → g56 x = some (pop x, ())) = con56.goal Try.prog (spOf []) g56_sh [] lm30 := by kernel_rfl
  rw [← e]
  rintro x ⟨h0, h1⟩
  obtain ⟨y, rfl⟩ := Int.eq_ofNat_of_zero_le h0
  unfold g56
  have key : ∀ (m z c : Nat), z ≤ m → z < 65536 → c ≤ 100 → popN z + c ≤ 100 → whileO (fun (d1 : Int × Int × Unit) => bif ilt (0 : Int) d1.1 then some (Lp.go ((iand .i64 d1.1 (wr .i64 (d1.1 - (1 : Int))), wr .i64 (d1.2.1 + (1 : Int)), ()) : Int × Int × Unit)) else some (Lp.out ((d1.2.1, ()) : Int × Unit))) (((z : Int), (c : Int), ()) : Int × Int × Unit) = some (((popN z + c : Nat) : Int), ()) := by
    intro m
    induction m with
    | zero =>
      intro z c hz _ _ _
      have : z = 0 := by omega
      subst this
      refine whileO_out ?_
      simp [ilt, pop_zero]
    | succ m ih =>
      intro z c hz hz2 hc hp
      rcases Nat.eq_zero_or_pos z with rfl | hpos
      · refine whileO_out ?_
        simp [ilt, pop_zero]
      · obtain ⟨s1, s2⟩ := pop_step2 hpos hz2
        have ha : iand .i64 (z : Int) (wr .i64 ((z : Int) - 1)) = ((z &&& (z - 1) : Nat) : Int) := by
          rw [wr_id (by omega), show (z : Int) - 1 = ((z - 1 : Nat) : Int) by omega, iand_nat (by omega) (by omega)]
        refine (whileO_go (s' := (((z &&& (z - 1) : Nat) : Int), ((c + 1 : Nat) : Int), ())) ?_).trans ?_
        · dsimp only
          rw [cond_t (ilt_iff.2 (by omega)), ha, cast1 (by omega)]
        · rw [ih _ _ (by omega) (by omega) (by omega) (by omega), show popN (z &&& (z - 1)) + (c + 1) = popN z + c by omega]
  have hp : popN y ≤ 16 := by
    unfold popN
    have := List.countP_le_length (p := fun j => y.testBit j) (l := List.range 16)
    simpa using this
  have := key y y 0 (Nat.le_refl _) (by omega) (by omega) (by omega)
  rw [Nat.add_zero] at this
  exact this
set_option maxRecDepth 100000 in
theorem ok56 : con56.Ok Try.prog := Con.of_goal mixed okN con56 goal56

/-! ### Words in order -/
theorem mem_nx {l : List Int} {m r : Int} (h : isM l m = true) (hr : r ∈ l) : 0 ≤ r ∧ r.toNat < 2 ^ l.length ∧ (r.toNat : Int) = r := by
  obtain ⟨i, hi, rfl⟩ := List.getElem_of_mem hr
  obtain ⟨a1, a2⟩ := nx_get h hi
  rw [gd_at hi] at a1
  have e : l[i].toNat = nx l i := by rw [a1]; simp
  exact ⟨by omega, by rw [e]; exact a2, by rw [e]; exact a1.symm⟩
theorem take20 {l : List Int} : isM (l.take 20) 16 = isM l 16 := by
  by_cases hl : l.length ≤ 20
  · rw [List.take_of_length_le hl]
  · have h1 : isM l 16 = false := by
      unfold isM
      rw [decide_eq_false (show ¬ (l.length : Int) ≤ 16 by omega)]; simp
    have h2 : isM (l.take 20) 16 = false := by
      unfold isM
      rw [List.length_take, decide_eq_false (show ¬ ((min 20 l.length : Nat) : Int) ≤ 16 by omega)]; simp
    rw [h1, h2]
end Go.Signs

set_option linter.unusedVariables false
set_option linter.unusedSimpArgs false
namespace Go.Signs
open Go Go.Ab Go.Proofs

theorem pc_top : ∀ (k z : Nat), z < 2 ^ k → pc (k + 1) z = pc k z
  | 0, z, h => by
    have : z = 0 := by simpa using h
    subst this; rfl
  | k + 1, z, h => by
    have := pc_top k (z / 2) (by rw [Nat.pow_succ] at h; omega)
    rw [pc, this, pc]
theorem pop_half {y : Nat} (h : y < 65536) : popN (y / 2) + y % 2 = popN y := by
  unfold popN
  rw [pc_eq, pc_eq]
  have h1 : pc 16 (y / 2) = pc 15 (y / 2) := pc_top 15 (y / 2) (by omega)
  have h2 : pc 16 y = y % 2 + pc 15 (y / 2) := rfl
  omega
theorem oth_bit {n r j : Nat} (hj : j < n) : (othR n r).testBit j = !r.testBit j := by
  unfold othR
  rw [Nat.testBit_xor, Nat.testBit_two_pow_sub_one, decide_eq_true hj, Bool.true_xor]
theorem sg_not {b : Bool} : sg (!b) = -sg b := by cases b <;> rfl

section
variable {l : List Int}
theorem nrm (h : isM l 16 = true) (hb : balF l = true) : isM (normF l) 16 = true ∧ orth (ent (normF l)) l.length ∧ (∀ j, ent (normF l) 0 j = 1) ∧ (∀ i, i < l.length → ent (normF l) i 0 = 1 ∧ nx (normF l) i < 2 ^ l.length) := by
  have h16 := len16 (by omega) h
  have hN := norm_isM h
  have ho := (bal_orth hN).1 (by rw [norm_bal h]; exact hb)
  rw [norm_len] at ho
  refine ⟨hN, ho, fun j => ?_, fun i hi => ⟨?_, ?_⟩⟩
  · obtain ⟨e1, _, e3⟩ := norm_even h (i := 0) (by omega)
    have : nx (normF l) 0 = 0 := by unfold nx; rw [e1, e3 rfl]; rfl
    unfold ent
    rw [this]; simp [sg]
  · obtain ⟨e1, e2, _⟩ := norm_even h hi
    have : nx (normF l) i % 2 = 0 := by unfold nx; rw [e1, Int.toNat_natCast]; exact e2
    unfold ent
    rw [Nat.testBit_zero, this]; rfl
  · have := (nx_get hN (i := i) (by rw [norm_len]; exact hi)).2
    rwa [norm_len] at this
theorem row_sum (h : isM l 16 = true) (hb : balF l = true) {i : Nat} (hi : i < l.length) (h0 : 0 < i) : sumN (ent (normF l) i) l.length = 0 := by
  obtain ⟨hN, ho, h1, h2⟩ := nrm h hb
  have := ho i 0 hi (by omega) (by omega)
  rw [← this]
  exact sumN_congr fun j _ => by rw [h1 j, Int.mul_one]
theorem col_sum (h : isM l 16 = true) (hb : balF l = true) {j : Nat} (hj : j < l.length) (h0 : 0 < j) : sumN (fun i => ent (normF l) i j) l.length = 0 := by
  obtain ⟨hN, ho, h1, h2⟩ := nrm h hb
  have hc := orth_over (fun i j => ent_sq) ho
  have := hc j 0 hj (by omega) (by omega)
  rw [← this]
  exact sumN_congr fun i hi => by dsimp only; rw [(h2 i hi).1, Int.mul_one]
theorem set_half {n r : Nat} : setR n r = othR n r / 2 := rfl
theorem des_pop (h : isM l 16 = true) (hb : balF l = true) {i : Nat} (hi : i < l.length) (h0 : 0 < i) : 2 * (popN (setR l.length (nx (normF l) i)) + 1) = l.length ∧ setR l.length (nx (normF l) i) < 2 ^ (l.length - 1) := by
  have h16 := len16 (by omega) h
  have hp := pow16 (by omega) h
  obtain ⟨hN, ho, h1, h2⟩ := nrm h hb
  obtain ⟨h3, h4⟩ := h2 i hi
  have hx := oth_lt h4
  have hs := sum_pop h16.1 hx
  have he : sumN (fun j => sg ((othR l.length (nx (normF l) i)).testBit j)) l.length = 0 := by
    have hr := row_sum h hb hi h0
    rw [sumN_congr (g := fun j => (-1) * ent (normF l) i j) fun j hj => by rw [oth_bit hj, sg_not]; unfold ent; omega, sumN_mul, hr]
    rfl
  rw [he] at hs
  have hodd : othR l.length (nx (normF l) i) % 2 = 1 := by
    have hb0 : (othR l.length (nx (normF l) i)).testBit 0 = !(nx (normF l) i).testBit 0 := oth_bit (by omega)
    have hz : (nx (normF l) i).testBit 0 = false := by
      unfold ent at h3
      cases hc : (nx (normF l) i).testBit 0 with
      | false => rfl
      | true => rw [hc] at h3; simp [sg] at h3
    rw [hz, Nat.testBit_zero] at hb0
    simpa using hb0
  have hh := pop_half (y := othR l.length (nx (normF l) i)) (by omega)
  refine ⟨by rw [set_half]; omega, ?_⟩
  rw [set_half]
  have : 2 ^ l.length = 2 * 2 ^ (l.length - 1) := by
    rw [Nat.mul_comm, ← Nat.pow_succ]; congr 1; omega
  omega
theorem ind {a b : Bool} : (1 + sg a) * (1 + sg b) = 2 * (1 - sg (!a && !b)) := by cases a <;> cases b <;> rfl
theorem des_and (h : isM l 16 = true) (hb : balF l = true) {i k : Nat} (hi : i < l.length) (h0 : 0 < i) (hk : k < l.length) (h0' : 0 < k) (hne : i ≠ k) : 4 * (popN (setR l.length (nx (normF l) i) &&& setR l.length (nx (normF l) k)) + 1) = l.length := by
  have h16 := len16 (by omega) h
  have hp := pow16 (by omega) h
  obtain ⟨hN, ho, h1, h2⟩ := nrm h hb
  obtain ⟨h3, h4⟩ := h2 i hi
  obtain ⟨h5, h6⟩ := h2 k hk
  have hx := oth_lt h4
  have hy := oth_lt h6
  have hxy : othR l.length (nx (normF l) i) &&& othR l.length (nx (normF l) k) < 2 ^ l.length := Nat.and_lt_two_pow _ hy
  have hs := sum_pop h16.1 hxy
  have he : sumN (fun j => (1 + ent (normF l) i j) * (1 + ent (normF l) k j)) l.length = l.length := by
    have e1 : sumN (fun j => (1 + ent (normF l) i j) * (1 + ent (normF l) k j)) l.length = sumN (fun j => (1 + ent (normF l) i j) + (ent (normF l) k j + ent (normF l) i j * ent (normF l) k j)) l.length := sumN_congr fun j _ => by grind
    rw [e1, sumN_add, sumN_add, sumN_add, ho i k hi hk hne, row_sum h hb hi h0, row_sum h hb hk h0', sumN_const]
    omega
  have he2 : sumN (fun j => (1 + ent (normF l) i j) * (1 + ent (normF l) k j)) l.length = 2 * (l.length - sumN (fun j => sg ((othR l.length (nx (normF l) i) &&& othR l.length (nx (normF l) k)).testBit j)) l.length) := by
    have e1 : sumN (fun j => (1 + ent (normF l) i j) * (1 + ent (normF l) k j)) l.length = sumN (fun j => 2 * (1 - sg ((othR l.length (nx (normF l) i) &&& othR l.length (nx (normF l) k)).testBit j))) l.length := sumN_congr fun j hj => by
      unfold ent
      rw [Nat.testBit_and, oth_bit hj, oth_bit hj, ind]
    rw [e1, sumN_mul, sumN_sub, sumN_const]
    omega
  have odd : ∀ m, m < l.length → othR l.length (nx (normF l) m) % 2 = 1 := fun m hm => by
    have hb0 : (othR l.length (nx (normF l) m)).testBit 0 = !(nx (normF l) m).testBit 0 := oth_bit (by omega)
    have h3 := (h2 m hm).1
    have hz : (nx (normF l) m).testBit 0 = false := by
      unfold ent at h3
      cases hc : (nx (normF l) m).testBit 0 with
      | false => rfl
      | true => rw [hc] at h3; simp [sg] at h3
    rw [hz, Nat.testBit_zero] at hb0
    simpa using hb0
  have hodd : (othR l.length (nx (normF l) i) &&& othR l.length (nx (normF l) k)) % 2 = 1 := by
    have := Nat.and_mod_two_pow (a := othR l.length (nx (normF l) i)) (b := othR l.length (nx (normF l) k)) (n := 1)
    rw [show (2 : Nat) ^ 1 = 2 from rfl, odd i hi, odd k hk] at this
    exact this
  have hh := pop_half (y := othR l.length (nx (normF l) i) &&& othR l.length (nx (normF l) k)) (by omega)
  rw [set_half, set_half, ← Nat.and_div_two]
  omega
/-- Whether a set has an element, as a number. -/
def hasN (x j : Nat) : Int := if x.testBit j = true then 1 else 0
theorem des_col (h : isM l 16 = true) (hb : balF l = true) {a b : Nat} (ha : a + 1 < l.length) (hba : b < a) : 4 * (sumN (fun i => hasN (setR l.length (nx (normF l) (i + 1))) a * hasN (setR l.length (nx (normF l) (i + 1))) b) (l.length - 1) + 1) = l.length := by
  have h16 := len16 (by omega) h
  obtain ⟨hN, ho, h1, h2⟩ := nrm h hb
  have hc := orth_over (fun i j => ent_sq) ho
  have hbit : ∀ r c, c + 1 < l.length → (setR l.length r).testBit c = !r.testBit (c + 1) := fun r c hc => by
    rw [set_half, Nat.testBit_div_two, oth_bit hc]
  have e0 : ∀ i, 4 * (hasN (setR l.length (nx (normF l) i)) a * hasN (setR l.length (nx (normF l) i)) b) = (1 + ent (normF l) i (a + 1)) * (1 + ent (normF l) i (b + 1)) := fun i => by
    unfold hasN ent
    rw [hbit _ a ha, hbit _ b (by omega)]
    cases (nx (normF l) i).testBit (a + 1) <;> cases (nx (normF l) i).testBit (b + 1) <;> rfl
  have e1 : sumN (fun i => (1 + ent (normF l) i (a + 1)) * (1 + ent (normF l) i (b + 1))) l.length = l.length := by
    have e1 : sumN (fun i => (1 + ent (normF l) i (a + 1)) * (1 + ent (normF l) i (b + 1))) l.length = sumN (fun i => (1 + ent (normF l) i (a + 1)) + (ent (normF l) i (b + 1) + ent (normF l) i (a + 1) * ent (normF l) i (b + 1))) l.length := sumN_congr fun j _ => by grind
    have e2 : sumN (fun i => ent (normF l) i (a + 1) * ent (normF l) i (b + 1)) l.length = 0 := hc (a + 1) (b + 1) ha (by omega) (by omega)
    rw [e1, sumN_add, sumN_add, sumN_add, e2, col_sum h hb ha (by omega), col_sum h hb (show b + 1 < l.length by omega) (by omega), sumN_const]
    omega
  have e2 := sumN_append (f := fun i => (1 + ent (normF l) i (a + 1)) * (1 + ent (normF l) i (b + 1))) (a := 1) (l.length - 1)
  rw [show 1 + (l.length - 1) = l.length by omega, e1] at e2
  have e3 : sumN (fun i => (1 + ent (normF l) i (a + 1)) * (1 + ent (normF l) i (b + 1))) 1 = 4 := by
    show (0 : Int) + (1 + ent (normF l) 0 (a + 1)) * (1 + ent (normF l) 0 (b + 1)) = 4
    rw [h1, h1]; rfl
  have e4 : sumN (fun v => (1 + ent (normF l) (1 + v) (a + 1)) * (1 + ent (normF l) (1 + v) (b + 1))) (l.length - 1) = 4 * sumN (fun i => hasN (setR l.length (nx (normF l) (i + 1))) a * hasN (setR l.length (nx (normF l) (i + 1))) b) (l.length - 1) := by
    rw [← sumN_mul]
    exact sumN_congr fun i _ => by rw [e0 (i + 1), Nat.add_comm 1 i]
  omega

/-! ### Words -/
/-- Two words differ at half of the places, or at all. -/
def farW (n : Nat) (x y : Int) : Prop := 2 * popN (x.toNat ^^^ y.toNat) = n ∨ popN (x.toNat ^^^ y.toNat) = n
theorem oth_pop {n x : Nat} (hn : n ≤ 16) (hx : x < 2 ^ n) : popN (othR n x) + popN x = n := by
  have h1 := sum_pop hn (oth_lt hx)
  have h2 := sum_pop hn hx
  rw [sumN_congr (g := fun j => (-1) * sg (x.testBit j)) fun j hj => by rw [oth_bit hj, sg_not]; omega, sumN_mul] at h1
  omega
theorem oth_xor {n x y : Nat} : othR n x ^^^ y = othR n (x ^^^ y) := by unfold othR; rw [Nat.xor_assoc]
theorem oth_xor' {n x y : Nat} : x ^^^ othR n y = othR n (x ^^^ y) := by rw [Nat.xor_comm, oth_xor, Nat.xor_comm y x]
theorem oth_oth {n x y : Nat} : othR n x ^^^ othR n y = x ^^^ y := by
  rw [oth_xor, oth_xor']
  unfold othR
  rw [← Nat.xor_assoc, Nat.xor_self, Nat.zero_xor]
theorem word_far (h : isM l 16 = true) (hb : balF l = true) : (sortL (worL l)).Pairwise fun x y => farW l.length x y := by
  have h16 := len16 (by omega) h
  refine (sortL_perm.pairwise_iff (fun {x y} hxy => ?_)).2 ?_
  · unfold farW at hxy ⊢
    rwa [Nat.xor_comm]
  · unfold worL
    rw [List.pairwise_flatMap]
    refine ⟨fun r hr => ?_, ?_⟩
    · obtain ⟨m1, m2, m3⟩ := mem_nx h hr
      refine List.Pairwise.cons (fun y hy => ?_) (List.pairwise_singleton ..)
      rw [List.mem_singleton.1 hy]
      right
      rw [Int.toNat_natCast, oth_xor', Nat.xor_self]
      have := oth_pop (n := l.length) (x := 0) h16.1 (Nat.two_pow_pos _)
      rw [pop_zero] at this
      exact this
    · rw [List.pairwise_iff_getElem]
      intro i k hi hk hik x hx y hy
      have key : 2 * popN (l[i].toNat ^^^ l[k].toNat) = l.length := by
        unfold balF at hb
        have := (all_chk.1 ((all_chk.1 hb) k (Nat.zero_le _) hk)) i (Nat.zero_le _) hik
        simp only [decide_eq_true_eq] at this
        unfold nx at this
        rw [gd_at hi, gd_at hk, Nat.xor_comm] at this
        exact this
      obtain ⟨_, m2, _⟩ := mem_nx h (List.getElem_mem hi)
      obtain ⟨_, m2', _⟩ := mem_nx h (List.getElem_mem hk)
      have key2 : 2 * popN (othR l.length (l[i].toNat ^^^ l[k].toNat)) = l.length := by
        have := oth_pop (n := l.length) h16.1 (xor_lt m2 m2')
        omega
      left
      simp only [List.mem_cons, List.not_mem_nil, or_false] at hx hy
      rcases hx with rfl | rfl <;> rcases hy with rfl | rfl
      · exact key
      · rw [Int.toNat_natCast, oth_xor']; exact key2
      · rw [Int.toNat_natCast, oth_xor]; exact key2
      · rw [Int.toNat_natCast, Int.toNat_natCast, oth_oth]; exact key
theorem word_lt (h : isM l 16 = true) {x : Int} (hx : x ∈ sortL (worL l)) : 0 ≤ x ∧ x.toNat < 2 ^ l.length := by
  have hx := (sortL_perm (l := worL l)).mem_iff.1 hx
  unfold worL at hx
  obtain ⟨r, hr, hx⟩ := List.mem_flatMap.1 hx
  obtain ⟨m1, m2, m3⟩ := mem_nx h hr
  simp only [List.mem_cons, List.not_mem_nil, or_false] at hx
  rcases hx with rfl | rfl
  · exact ⟨m1, m2⟩
  · exact ⟨by omega, by rw [Int.toNat_natCast]; exact oth_lt m2⟩
/-- The words, one after the other. -/
theorem word_at (h : isM l 16 = true) (hb : balF l = true) {i j : Nat} (hi : i < (sortL (worL l)).length) (hj : j < i) : ∃ x y : Nat, (sortL (worL l)).getD i 0 = (x : Int) ∧ (sortL (worL l)).getD j 0 = (y : Int) ∧ x < 2 ^ l.length ∧ y < 2 ^ l.length ∧ y < x ∧ (2 * popN (x ^^^ y) = l.length ∨ popN (x ^^^ y) = l.length) := by
  have h16 := len16 (by omega) h
  have hj' : j < (sortL (worL l)).length := by omega
  have a := word_lt h (List.getElem_mem hi)
  have b := word_lt h (List.getElem_mem hj')
  have c := List.pairwise_iff_getElem.1 (word_far h hb) j i hj' hi hj
  have d := List.pairwise_iff_getElem.1 (sortL_pw (l := worL l)) j i hj' hi hj
  rw [gd_at hi, gd_at hj']
  refine ⟨_, _, (Int.toNat_of_nonneg a.1).symm, (Int.toNat_of_nonneg b.1).symm, a.2, b.2, ?_, ?_⟩
  · rcases Nat.lt_or_ge (sortL (worL l))[j].toNat (sortL (worL l))[i].toNat with hlt | hge
    · exact hlt
    · exfalso
      have e : (sortL (worL l))[j].toNat = (sortL (worL l))[i].toNat := by omega
      unfold farW at c
      rw [e, Nat.xor_self, pop_zero] at c
      omega
  · unfold farW at c
    rw [Nat.xor_comm]
    exact c
end
end Go.Signs

set_option linter.unusedVariables false
set_option linter.unusedSimpArgs false
namespace Go.Signs
open Go Go.Ab Go.Proofs

theorem take_getD {l : List Int} {i j : Nat} (h : j < i) : (l.take i).getD j 0 = l.getD j 0 := by
  rw [List.getD_eq_getElem?_getD, List.getElem?_take_of_lt h, ← List.getD_eq_getElem?_getD]
section
variable {l : List Int}
theorem bal_wor (h : isM l 16 = true) (hb : balF l = true) : worX (l.take 20) = (sortL (worL l), 0, ()) := by
  have h16 := len16 (by omega) h
  rw [List.take_of_length_le (by omega)]
  unfold worX
  rw [h, hb]; rfl
theorem bal_des (h : isM l 16 = true) (hb : balF l = true) (h4 : 4 ≤ l.length) : desX (l.take 20) = (desF l, 0, ()) := by
  have h16 := len16 (by omega) h
  rw [List.take_of_length_le (by omega)]
  unfold desX
  rw [h, hb, decide_eq_true h4]; rfl
theorem in5 (h : isM l 16 = true) (hb : balF l = true) {i : Nat} (hi : i < (sortL (worL l)).length) : whileO (g14_l5 l ((i : Int), ())) (((0 : Int), ()) : Int × Unit) = some (.go (((i + 1 : Nat) : Int), ())) := by
  have h16 := len16 (by omega) h
  have hp := pow16 (by omega) h
  have hw := bal_wor h hb
  have hwl : (sortL (worL l)).length = 2 * l.length := by rw [sortL_len]; exact worN_len
  refine whileO_nat (st := fun j => (((j : Int), ()) : Int × Unit)) (lo := 0) (hi := i) (Nat.zero_le _) (fun j _ hj => ?_) ?_
  · obtain ⟨x, y, e1, e2, b1, b2, b3, b4⟩ := word_at h hb hi hj
    have hx := xor_lt b1 b2
    have t1 : (List.take i (sortL (worL l))).getD j 0 = (y : Int) := by rw [take_getD hj]; exact e2
    have t2 : (List.take i (sortL (worL l))).length = i := by rw [List.length_take]; omega
    have p1 : ilt (x : Int) 0 = false := ilt_false.2 (by omega)
    have p2 : ieq (ishr .i64 (x : Int) (l.length : Int)) 0 = true := by
      rw [ishr_nat (by omega), Nat.div_eq_of_lt b1]; rfl
    have p3 : ile (x : Int) (y : Int) = false := ile_false.2 (by omega)
    have p4 : ixor .i64 (x : Int) (y : Int) = ((x ^^^ y : Nat) : Int) := ixor_nat (by omega) (by omega)
    have p5 : is16 ((x ^^^ y : Nat) : Int) := nat16 (by omega)
    have c1 : g14_c1 l ((i : Int), ()) = false := by
      unfold g14_c1
      simp only [hw, Int.toNat_natCast, e1, p1, p2]; rfl
    have c2 : g14_c2 l ((i : Int), ()) ((j : Int), ()) = false := by
      unfold g14_c2
      simp only [hw, Int.toNat_natCast, e1, c1, t1, p3]; rfl
    have c3 : g14_c3 l ((i : Int), ()) ((j : Int), ()) = (popN (x ^^^ y) : Int) := by
      unfold g14_c3
      simp only [hw, Int.toNat_natCast, e1, t1, p4]
      unfold pop
      rw [Int.toNat_natCast]
    have hpl : popN (x ^^^ y) ≤ 16 := Nat.le_trans (pop_le h16.1 hx) h16.1
    have c4 : g14_c4 l ((i : Int), ()) ((j : Int), ()) = false := by
      unfold g14_c4
      simp only [c2, c3]
      rw [wr_id (by omega)]
      rcases b4 with b4 | b4
      · rw [ieq_iff.2 (by omega)]; rfl
      · have q : ieq (popN (x ^^^ y) : Int) (l.length : Int) = true := ieq_iff.2 (by omega)
        rw [q]
        cases ieq (2 * (popN (x ^^^ y) : Int)) (l.length : Int) <;> rfl
    unfold g14_l5
    simp only [hw, Int.toNat_natCast, e1, t1, t2, p1, c1, c2, c4, p4, p5, Bool.not_false, Bool.not_true, true_imp_iff, and_self, Bool.true_and, imp_self, gd_true, cond_false, Bool.false_eq_true, reduceCtorEq, and_true]
    rw [cond_t (ilt_iff.2 (by omega)), gd_pos (by omega)]
    simp only [show (0 : Int) ≤ (l.length : Int) from by omega, gd_true, imp_self]
    rw [cast1 (by omega)]
    exact gd_pos ⟨trivial, trivial, trivial⟩
  · have t2 : (List.take i (sortL (worL l))).length = i := by rw [List.length_take]; omega
    unfold g14_l5
    simp only [hw, Int.toNat_natCast, t2]
    rw [cond_f (ilt_false.2 (by omega)), cast1 (by omega)]

/-- The numbers of a design. -/
theorem des_get (h : isM l 16 = true) (hb : balF l = true) (h4 : 4 ≤ l.length) {i : Nat} (hi : i < l.length - 1) : (desF l).getD i 0 = (setR l.length (nx (normF l) (i + 1)) : Int) ∧ setR l.length (nx (normF l) (i + 1)) < 2 ^ (l.length - 1) ∧ 2 ^ (l.length - 1) ≤ 32768 ∧ 2 * (popN (setR l.length (nx (normF l) (i + 1))) + 1) = l.length := by
  have h16 := len16 (by omega) h
  obtain ⟨q1, q2⟩ := des_pop h hb (i := i + 1) (by omega) (by omega)
  exact ⟨des_at (by omega), q2, (Nat.pow_le_pow_right (n := 2) (by omega) (show l.length - 1 ≤ 15 by omega) : 2 ^ (l.length - 1) ≤ 2 ^ 15), q1⟩
theorem four_at (h : isM l 16 = true) (hb : balF l = true) (h4 : 4 ≤ l.length) : wr .i64 (wr .i64 (Int.tdiv (l.length : Int) 4) - 1) = ((l.length / 4 : Nat) : Int) - 1 ∧ l.length % 4 = 0 ∧ wr .i64 (wr .i64 (Int.tdiv (l.length : Int) 2) - 1) = ((l.length / 2 : Nat) : Int) - 1 := by
  have h16 := len16 (by omega) h
  have := bal_four h hb (by omega)
  refine ⟨?_, by omega, ?_⟩
  · rw [show Int.tdiv (l.length : Int) 4 = ((l.length / 4 : Nat) : Int) from rfl, wr_id (n := ((l.length / 4 : Nat) : Int)) (by omega), wr_id (by omega)]
  · rw [show Int.tdiv (l.length : Int) 2 = ((l.length / 2 : Nat) : Int) from rfl, wr_id (n := ((l.length / 2 : Nat) : Int)) (by omega), wr_id (by omega)]
theorem in13 (h : isM l 16 = true) (hb : balF l = true) (h4 : 4 ≤ l.length) {i : Nat} (hi : i < l.length - 1) : whileO (g14_l13 l ((i : Int), ())) (((0 : Int), ()) : Int × Unit) = some (.go (((i + 1 : Nat) : Int), ())) := by
  have h16 := len16 (by omega) h
  have hd := bal_des h hb h4
  have hdl := des_len (l := l)
  obtain ⟨f1, f2, _⟩ := four_at h hb h4
  obtain ⟨a1, a2, a3, _⟩ := des_get h hb h4 hi
  have t2 : (List.take i (desF l)).length = i := by rw [List.length_take]; omega
  refine whileO_nat (st := fun j => (((j : Int), ()) : Int × Unit)) (lo := 0) (hi := i) (Nat.zero_le _) (fun k _ hk => ?_) ?_
  · obtain ⟨b1, b2, b3, _⟩ := des_get h hb h4 (i := k) (by omega)
    have t1 : (List.take i (desF l)).getD k 0 = (setR l.length (nx (normF l) (k + 1)) : Int) := by rw [take_getD hk]; exact b1
    have p4 : iand .i64 (setR l.length (nx (normF l) (i + 1)) : Int) (setR l.length (nx (normF l) (k + 1)) : Int) = ((setR l.length (nx (normF l) (i + 1)) &&& setR l.length (nx (normF l) (k + 1)) : Nat) : Int) := iand_nat (by omega) (by omega)
    have hlt : setR l.length (nx (normF l) (i + 1)) &&& setR l.length (nx (normF l) (k + 1)) < 65536 := Nat.lt_of_le_of_lt Nat.and_le_left (by omega)
    have hq := des_and h hb (i := i + 1) (k := k + 1) (by omega) (by omega) (by omega) (by omega) (by omega)
    have c3 : g14_c12 l ((i : Int), ()) ((k : Int), ()) = ((l.length / 4 : Nat) : Int) - 1 := by
      unfold g14_c12
      simp only [hd, Int.toNat_natCast, a1, t1, p4]
      unfold pop
      rw [Int.toNat_natCast]
      omega
    unfold g14_l13
    simp only [hd, Int.toNat_natCast, a1, t1, t2, p4, c3, f1]
    rw [cond_t (ilt_iff.2 (by omega)), gd_pos (by omega), gd_pos (nat16 hlt), gd_pos (by decide), ieq_iff.2 rfl, cast1 (by omega)]
    rfl
  · unfold g14_l13
    simp only [hd, Int.toNat_natCast, t2]
    rw [cond_f (ilt_false.2 (by omega)), cast1 (by omega)]
theorem in15 (h : isM l 16 = true) (hb : balF l = true) (h4 : 4 ≤ l.length) {a b : Nat} (ha : a < l.length - 1) (hba : b < a) : whileO (g14_l15 l ((a : Int), ()) ((b : Int), ())) (((0 : Int), (0 : Int), ()) : Int × Int × Unit) = some (.go (((b + 1 : Nat) : Int), ())) := by
  have h16 := len16 (by omega) h
  have hd := bal_des h hb h4
  have hdl := des_len (l := l)
  obtain ⟨f1, f2, _⟩ := four_at h hb h4
  have hbd : ∀ i : Nat, -((i : Int) * 1) ≤ sumN (fun i => hasN (setR l.length (nx (normF l) (i + 1))) a * hasN (setR l.length (nx (normF l) (i + 1))) b) i ∧ sumN (fun i => hasN (setR l.length (nx (normF l) (i + 1))) a * hasN (setR l.length (nx (normF l) (i + 1))) b) i ≤ (i : Int) * 1 := fun i => sumN_bd fun i _ => by
    unfold hasN
    split <;> split <;> decide
  have hs := des_col h hb (a := a) (b := b) (by omega) hba
  refine whileO_nat (st := fun i => ((sumN (fun i => hasN (setR l.length (nx (normF l) (i + 1))) a * hasN (setR l.length (nx (normF l) (i + 1))) b) i, (i : Int), ()) : Int × Int × Unit)) (lo := 0) (hi := l.length - 1) (Nat.zero_le _) (fun i _ hi => ?_) ?_
  · obtain ⟨a1, a2, a3, _⟩ := des_get h hb h4 hi
    have c14 : g14_c14 l ((a : Int), ()) ((b : Int), ()) ((sumN (fun i => hasN (setR l.length (nx (normF l) (i + 1))) a * hasN (setR l.length (nx (normF l) (i + 1))) b) i, (i : Int), ()) : Int × Int × Unit) = hasN (setR l.length (nx (normF l) (i + 1))) a * hasN (setR l.length (nx (normF l) (i + 1))) b := by
      unfold g14_c14
      simp only [hd, Int.toNat_natCast, a1]
      rw [(bit_nat (x := setR l.length (nx (normF l) (i + 1))) (j := a) (by omega) (by omega)).2, (bit_nat (x := setR l.length (nx (normF l) (i + 1))) (j := b) (by omega) (by omega)).2]
      unfold bit hasN
      simp only [Int.toNat_natCast]
      split <;> split <;> decide
    have b1 := hbd (i + 1)
    unfold g14_l15
    simp only [hd, c14]
    rw [cond_t (ilt_iff.2 (by omega)), gd_pos (by omega), gd_pos (by omega), gd_pos (by omega), cast1 (by omega)]
    have e : sumN (fun i => hasN (setR l.length (nx (normF l) (i + 1))) a * hasN (setR l.length (nx (normF l) (i + 1))) b) (i + 1) = sumN (fun i => hasN (setR l.length (nx (normF l) (i + 1))) a * hasN (setR l.length (nx (normF l) (i + 1))) b) i + hasN (setR l.length (nx (normF l) (i + 1))) a * hasN (setR l.length (nx (normF l) (i + 1))) b := rfl
    rw [wr_id (by omega), ← e]
  · unfold g14_l15
    simp only [hd, f1]
    rw [cond_f (ilt_false.2 (by omega)), gd_pos (by decide), ieq_iff.2 (by omega), cast1 (by omega)]
    rfl
theorem in16 (h : isM l 16 = true) (hb : balF l = true) (h4 : 4 ≤ l.length) {a : Nat} (ha : a < l.length - 1) : whileO (g14_l16 l ((a : Int), ())) (((0 : Int), ()) : Int × Unit) = some (.go (((a + 1 : Nat) : Int), ())) := by
  have h16 := len16 (by omega) h
  refine whileO_nat (st := fun j => (((j : Int), ()) : Int × Unit)) (lo := 0) (hi := a) (Nat.zero_le _) (fun b _ hb2 => ?_) ?_
  · unfold g14_l16
    dsimp only
    rw [cond_t (ilt_iff.2 (by omega)), in15 h hb h4 ha hb2]
  · unfold g14_l16
    dsimp only
    rw [cond_f (ilt_false.2 (by omega)), cast1 (by omega)]
end
set_option maxRecDepth 100000 in
theorem goal14 : con14.goal Try.prog (spOf [con18, con52, con53, con24, con56]) g14_sh [] lm30 := by
  have e : (∀ (l : List Int), small l → g14 l = some (true, ())) = con14.goal Try.prog (spOf [con18, con52, con53, con24, con56]) g14_sh [] lm30 := by kernel_rfl
  rw [← e]
  intro l hs
  have ta : small (l.take 20) := by unfold small; rw [List.length_take]; omega
  have iq : ∀ x : Int, ieq x x = true := fun x => ieq_iff.2 rfl
  have i02 : ieq 0 2 = false := rfl
  have i05 : ieq 0 5 = false := rfl
  have i20 : ieq 2 0 = false := rfl
  have i50 : ieq 5 0 = false := rfl
  have i52 : ieq 5 2 = false := rfl
  have i25 : ieq 2 5 = false := rfl
  unfold g14
  rw [gd_pos ta, gd_pos ta]
  cases h : isM l 16 with
  | false =>
    have h' := take20 (l := l)
    rw [h] at h'
    have d1 : desX (l.take 20) = ([], 2, ()) := by unfold desX; rw [h']; rfl
    have d2 : worX (l.take 20) = ([], 2, ()) := by unfold worX; rw [h']; rfl
    simp [d1, d2, gd_true, iq, i20, g14_c6, g14_c7, g14_c8]
  | true =>
    have h16 := len16 (by omega) h
    have ht : l.take 20 = l := List.take_of_length_le (by omega)
    cases hb : balF l with
    | false =>
      have d2 : worX (l.take 20) = ([], 5, ()) := by rw [ht]; unfold worX; rw [h, hb]; rfl
      by_cases h4 : l.length < 4
      · have d1 : desX (l.take 20) = ([], 2, ()) := by rw [ht]; unfold desX; rw [h, decide_eq_false (by omega)]; rfl
        simp [d1, d2, gd_true, iq, i20, i50, i52, g14_c6, g14_c7, g14_c8]
      · have d1 : desX (l.take 20) = ([], 5, ()) := by rw [ht]; unfold desX; rw [h, hb, decide_eq_true (by omega)]; rfl
        simp [d1, d2, gd_true, iq, i20, i50, i52, g14_c6, g14_c7, g14_c8]
    | true =>
      have d2 := bal_wor h hb
      have hwl : (sortL (worL l)).length = 2 * l.length := by rw [sortL_len]; exact worN_len
      have c0 : g14_c0 l = false := by
        unfold g14_c0
        simp only [d2, hwl]
        rw [wr_id (by omega), ieq_iff.2 (by omega), ilt_false.2 (by omega)]; rfl
      simp only [d2, c0, iq, cond_true, cond_false, imp_self, gd_true, Bool.not_true, Bool.not_false]
      refine (gd_pos (fun h => ?_)).trans ?_
      · simp only [hwl] at h ⊢
        rw [wr_id (by omega), ieq_iff.2 (by omega)] at h ⊢
        simp at h ⊢
      refine whileO_nat (st := fun i => (((i : Int), ()) : Int × Unit)) (lo := 0) (hi := 2 * l.length) (Nat.zero_le _) (fun i _ hi => ?_) ?_
      · dsimp only
        rw [hwl, cond_t (ilt_iff.2 (by omega)), gd_pos (by omega), gd_pos (by omega), in5 h hb (by omega)]
      · dsimp only
        rw [hwl, cond_f (ilt_false.2 (by omega))]
        by_cases h4 : l.length < 4
        · have d1 : desX (l.take 20) = ([], 2, ()) := by rw [ht]; unfold desX; rw [h, decide_eq_false (by omega)]; rfl
          simp [d1, d2, gd_true, iq, i20, i50, i52, g14_c6, g14_c7, g14_c8]
        · have d1 := bal_des h hb (by omega)
          obtain ⟨f1, f2, f3⟩ := four_at h hb (by omega)
          have hdl := des_len (l := l)
          have c9 : g14_c9 l = false := by
            unfold g14_c9
            simp only [d1, d2, hdl]
            rw [wr_id (by omega), ieq_iff.2 rfl, ieq_iff.2 (by omega)]; rfl
          have hmod : ieq (Int.tmod (l.length : Int) 4) 0 = true := by
            rw [ieq_iff, show Int.tmod (l.length : Int) 4 = ((l.length % 4 : Nat) : Int) from rfl, f2]; rfl
          have h40 : (4 : Int) ≠ 0 := by decide
          have h20 : (2 : Int) ≠ 0 := by decide
          simp only [d1, c9, hmod, i02, i05, iq, h40, h20, cond_true, cond_false, imp_self, gd_true, Bool.not_true, Bool.not_false, true_imp_iff, and_self, ne_eq, not_false_eq_true, Bool.false_eq_true, false_imp_iff, reduceCtorEq]
          have inner : whileO (fun (d3 : Int × Unit) => bif ilt d3.1 (wr .i64 ((l.length : Int) - (1 : Int))) then whileO (g14_l16 l d3) (((0 : Int), ()) : Int × Unit) else some (Lp.out (Lp.out (Lp.out ((true, ()) : Bool × Unit))))) (((0 : Int), ()) : Int × Unit) = some (Lp.out (Lp.out ((true, ()) : Bool × Unit))) := by
            refine whileO_nat (st := fun i => (((i : Int), ()) : Int × Unit)) (lo := 0) (hi := l.length - 1) (Nat.zero_le _) (fun i _ hi => ?_) ?_
            · dsimp only
              rw [wr_id (by omega), cond_t (ilt_iff.2 (by omega)), in16 h hb (by omega) hi]
            · dsimp only
              rw [wr_id (by omega), cond_f (ilt_false.2 (by omega))]
          refine whileO_nat (st := fun i => (((i : Int), ()) : Int × Unit)) (lo := 0) (hi := l.length - 1) (Nat.zero_le _) (fun i _ hi => ?_) ?_
          · obtain ⟨a1, a2, a3, a4⟩ := des_get h hb (by omega) hi
            have p1 : ilt (setR l.length (nx (normF l) (i + 1)) : Int) 0 = false := ilt_false.2 (by omega)
            have c10 : g14_c10 l ((i : Int), ()) = false := by
              unfold g14_c10
              simp only [d1, Int.toNat_natCast, a1]
              rw [wr_id (by omega), show (l.length : Int) - 1 = ((l.length - 1 : Nat) : Int) by omega, ishl_one (by omega)]
              exact ile_false.2 (by omega)
            have c11 : g14_c11 l ((i : Int), ()) = false := by
              unfold g14_c11
              simp only [d1, Int.toNat_natCast, a1, f3]
              unfold pop
              rw [Int.toNat_natCast, ieq_iff.2 (by omega)]; rfl
            have hk : is16 (setR l.length (nx (normF l) (i + 1)) : Int) := nat16 (by omega)
            have hw0 : 0 ≤ wr .i64 ((l.length : Int) - 1) := by rw [wr_id (by omega)]; omega
            have r1 : (0 : Int) ≤ (i : Int) ∧ (i : Int) < (((desF l).length : Nat) : Int) := by omega
            have r2 : (0 : Int) ≤ (i : Int) ∧ (i : Int) ≤ (((desF l).length : Nat) : Int) := by omega
            have r3 : ilt (i : Int) (((desF l).length : Nat) : Int) = true := ilt_iff.2 (by omega)
            simp only [Int.toNat_natCast, a1, p1, c10, c11, hk, hw0, r3, gd_pos r1, gd_pos r2, cond_true, cond_false, imp_self, gd_true, Bool.not_true, Bool.not_false, true_imp_iff, and_self, Bool.false_eq_true, false_imp_iff, reduceCtorEq]
            exact in13 h hb (by omega) hi
          · have r3 : ilt ((l.length - 1 : Nat) : Int) (((desF l).length : Nat) : Int) = false := ilt_false.2 (by omega)
            simp only [r3, cond_false]
            exact inner
set_option maxRecDepth 100000 in
theorem ok14 : con14.Ok Try.prog := Con.of_goal mixed (okC ok18 (okC ok52 (okC ok53 (okC ok24 (okC ok56 okN))))) con14 goal14
end Go.Signs
