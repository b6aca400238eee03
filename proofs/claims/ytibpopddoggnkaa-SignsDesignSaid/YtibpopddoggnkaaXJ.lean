/- Designs and words: contracts. -/
import Derived.Test.YtibpopddoggnkaaXW
import Derived.Test.YtibpopddoggnkaaSS
set_option linter.unusedVariables false
set_option linter.unusedSimpArgs false
namespace Go.Signs
open Go Go.Ab Go.Proofs

/-- The set of a row of the normal form. -/
def setR (n r : Nat) : Nat := ((2 ^ n - 1) ^^^ r) / 2
def desF (l : List Int) : List Int := (normF l).tail.map fun (r : Int) => (setR l.length r.toNat : Int)
def desX (l : List Int) : List Int × Int × Unit := if isM l 16 && decide (4 ≤ l.length) then (if balF l = true then (desF l, 0, ()) else ([], 5, ())) else ([], 2, ())
noncomputable def con52 : Con := mkC 52 [.d LI] [LI, I64] (fun (l : List Int) => [small l]) (fun (l : List Int) => desX l)
noncomputable def g52 (x0 : List Int) : Option (List Int × Int × Unit) := gd (small x0) (gd ((16 : Int) ≤ (16 : Int)) (gd ((!!isM x0 (16 : Int)) = true → (!!isM x0 (16 : Int)) = true) (gd ((!!isM x0 (16 : Int)) = true → (!!isM x0 (16 : Int)) = true) (gd ((!isM x0 (16 : Int)) = false → (!!isM x0 (16 : Int)) = true) (bif bif !isM x0 (16 : Int) then true else ilt (↑(List.length x0) : Int) (4 : Int) then some ((([] : List Int), (2 : Int), ()) : List Int × Int × Unit) else gd (isM x0 (16 : Int) = true) (bif !balF x0 then some ((([] : List Int), (5 : Int), ()) : List Int × Int × Unit) else gd (isM x0 (16 : Int) = true) (gd ((0 : Int) ≤ (1 : Int) ∧ (1 : Int) ≤ (↑(List.length (normF x0)) : Int)) (gd ((0 : Nat) = (0 : Nat)) (whileO (fun (d1 : Int × List Int × Unit) => bif ilt d1.1 (↑(List.length (List.drop (1 : Nat) (normF x0))) : Int) then gd ((0 : Int) ≤ d1.1 ∧ d1.1 < (↑(List.length (List.drop (1 : Nat) (normF x0))) : Int)) (gd (List.length x0 ≤ (16 : Nat)) (gd ((0 : Int) ≤ (1 : Int)) (gd (List.length d1.2.1 ≤ List.length d1.2.1) (gd ((List.length d1.2.1 + (1 : Nat)) * (8 : Nat) ≤ (1099511627776 : Nat)) (gd (List.length d1.2.1 + (1 : Nat) = List.length (List.take (List.length d1.2.1) d1.2.1 ++ ishr IntKind.i64 (iandn IntKind.i64 (allF x0) (List.getD (List.drop (1 : Nat) (normF x0)) (Int.toNat d1.1) (0 : Int))) (1 : Int) :: ([] : List Int))) (some (Lp.go ((wr IntKind.i64 (d1.1 + (1 : Int)), List.take (List.length d1.2.1) d1.2.1 ++ ishr IntKind.i64 (iandn IntKind.i64 (allF x0) (List.getD (List.drop (1 : Nat) (normF x0)) (Int.toNat d1.1) (0 : Int))) (1 : Int) :: ([] : List Int), ()) : Int × List Int × Unit)))))))) else gd ((0 : Nat) + List.length d1.2.1 ≤ List.length d1.2.1) (some (Lp.out ((List.take (List.length d1.2.1) (List.drop (0 : Nat) d1.2.1), (0 : Int), ()) : List Int × Int × Unit)))) (((0 : Int), ([] : List Int), ()) : Int × List Int × Unit))))))))))
noncomputable def g52_sh : List LSh := LSh.mk (((5, TV.slf (0) (1)) : Nat × TV) :: ((26, TV.v (Ty.int IntKind.i64)) : Nat × TV) :: ([] : List (Nat × TV))) (TB.arr (Ty.int IntKind.i64) true :: ([] : List TB)) :: ([] : List LSh)
def othR (n r : Nat) : Nat := (2 ^ n - 1) ^^^ r
def worL (l : List Int) : List Int := l.flatMap fun r => [r, (othR l.length r.toNat : Int)]
def worX (l : List Int) : List Int × Int × Unit := if isM l 16 = true then (if balF l = true then (sortL (worL l), 0, ()) else ([], 5, ())) else ([], 2, ())
noncomputable def con53 : Con := mkC 53 [.d LI] [LI, I64] (fun (l : List Int) => [small l]) (fun (l : List Int) => worX l)
noncomputable def g53 (x0 : List Int) : Option (List Int × Int × Unit) := gd (small x0) (gd ((16 : Int) ≤ (16 : Int)) (bif !isM x0 (16 : Int) then some ((([] : List Int), (2 : Int), ()) : List Int × Int × Unit) else gd (isM x0 (16 : Int) = true) (bif !balF x0 then some ((([] : List Int), (5 : Int), ()) : List Int × Int × Unit) else gd ((0 : Nat) = (0 : Nat)) (whileO (fun (d1 : Int × List Int × Unit) => bif ilt d1.1 (↑(List.length x0) : Int) then gd ((0 : Int) ≤ d1.1 ∧ d1.1 < (↑(List.length x0) : Int)) (gd (List.length x0 ≤ (16 : Nat)) (gd (List.length d1.2.1 ≤ List.length d1.2.1) (gd ((List.length d1.2.1 + (2 : Nat)) * (8 : Nat) ≤ (1099511627776 : Nat)) (gd (List.length d1.2.1 + (2 : Nat) = List.length (List.take (List.length d1.2.1) d1.2.1 ++ List.getD x0 (Int.toNat d1.1) (0 : Int) :: ixor IntKind.i64 (allF x0) (List.getD x0 (Int.toNat d1.1) (0 : Int)) :: ([] : List Int))) (some (Lp.go ((wr IntKind.i64 (d1.1 + (1 : Int)), List.take (List.length d1.2.1) d1.2.1 ++ List.getD x0 (Int.toNat d1.1) (0 : Int) :: ixor IntKind.i64 (allF x0) (List.getD x0 (Int.toNat d1.1) (0 : Int)) :: ([] : List Int), ()) : Int × List Int × Unit))))))) else gd (List.length d1.2.1 = List.length d1.2.1) (gd (List.length d1.2.1 < (4611686018427387904 : Nat)) (gd ((0 : Nat) + List.length d1.2.1 ≤ List.length (sortL d1.2.1)) (some (Lp.out ((List.take (List.length d1.2.1) (List.drop (0 : Nat) (sortL d1.2.1)), (0 : Int), ()) : List Int × Int × Unit)))))) (((0 : Int), ([] : List Int), ()) : Int × List Int × Unit)))))
noncomputable def g53_sh : List LSh := LSh.mk (((5, TV.slf (0) (1)) : Nat × TV) :: ((19, TV.v (Ty.int IntKind.i64)) : Nat × TV) :: ([] : List (Nat × TV))) (TB.arr (Ty.int IntKind.i64) true :: ([] : List TB)) :: ([] : List LSh)
noncomputable def con54 : Con := mkC 54 [.d LI] [LI] (fun (l : List Int) => [isM l 16 = true]) (fun (l : List Int) => (desF l, ()))
noncomputable def g54 (x0 : List Int) : Option (List Int × Unit) := gd (isM x0 (16 : Int) = true) (gd ((0 : Int) ≤ (1 : Int) ∧ (1 : Int) ≤ (↑(List.length (normF x0)) : Int)) (gd ((0 : Nat) = (0 : Nat)) (whileO (fun (d1 : Int × List Int × Unit) => bif ilt d1.1 (↑(List.length (List.drop (1 : Nat) (normF x0))) : Int) then gd ((0 : Int) ≤ d1.1 ∧ d1.1 < (↑(List.length (List.drop (1 : Nat) (normF x0))) : Int)) (gd ((0 : Int) ≤ (↑(List.length x0) : Int)) (gd ((0 : Int) ≤ (1 : Int)) (gd (List.length d1.2.1 ≤ List.length d1.2.1) (gd ((List.length d1.2.1 + (1 : Nat)) * (8 : Nat) ≤ (1099511627776 : Nat)) (gd (List.length d1.2.1 + (1 : Nat) = List.length (List.take (List.length d1.2.1) d1.2.1 ++ ishr IntKind.i64 (iandn IntKind.i64 (wr IntKind.i64 (ishl IntKind.i64 (1 : Int) (↑(List.length x0) : Int) - (1 : Int))) (List.getD (List.drop (1 : Nat) (normF x0)) (Int.toNat d1.1) (0 : Int))) (1 : Int) :: ([] : List Int))) (some (Lp.go ((wr IntKind.i64 (d1.1 + (1 : Int)), List.take (List.length d1.2.1) d1.2.1 ++ ishr IntKind.i64 (iandn IntKind.i64 (wr IntKind.i64 (ishl IntKind.i64 (1 : Int) (↑(List.length x0) : Int) - (1 : Int))) (List.getD (List.drop (1 : Nat) (normF x0)) (Int.toNat d1.1) (0 : Int))) (1 : Int) :: ([] : List Int), ()) : Int × List Int × Unit)))))))) else gd ((0 : Nat) + List.length d1.2.1 ≤ List.length d1.2.1) (some (Lp.out ((List.take (List.length d1.2.1) (List.drop (0 : Nat) d1.2.1), ()) : List Int × Unit)))) (((0 : Int), ([] : List Int), ()) : Int × List Int × Unit))))
noncomputable def g54_sh : List LSh := LSh.mk (((3, TV.slf (0) (1)) : Nat × TV) :: ((10, TV.v (Ty.int IntKind.i64)) : Nat × TV) :: ([] : List (Nat × TV))) (TB.arr (Ty.int IntKind.i64) true :: ([] : List TB)) :: ([] : List LSh)
def refW (l : List Int) : List Int := (List.range (2 ^ l.length)).flatMap fun (x : Nat) => (l.filter fun r => ieq (x : Int) r || ieq (x : Int) (othR l.length r.toNat : Int)).map fun _ => (x : Int)
noncomputable def con55 : Con := mkC 55 [.d LI] [LI] (fun (l : List Int) => [isM l 16 = true]) (fun (l : List Int) => (refW l, ()))
noncomputable def g55_l0 (x0 : List Int) (d1 d2 : Int × List Int × Unit) : Option (Lp (Int × List Int × Unit) (Lp (Int × List Int × Unit) (List Int × Unit))) := bif ilt d2.1 (↑(List.length x0) : Int) then gd ((0 : Int) ≤ d2.1 ∧ d2.1 < (↑(List.length x0) : Int)) (gd ((!ieq d1.1 (List.getD x0 (Int.toNat d2.1) (0 : Int))) = true → (!ieq d1.1 (List.getD x0 (Int.toNat d2.1) (0 : Int))) = true) (gd ((!ieq d1.1 (List.getD x0 (Int.toNat d2.1) (0 : Int))) = true → (!ieq d1.1 (List.getD x0 (Int.toNat d2.1) (0 : Int))) = true ∧ (0 : Int) ≤ (↑(List.length x0) : Int)) (gd ((!ieq d1.1 (List.getD x0 (Int.toNat d2.1) (0 : Int))) = true → (!ieq d1.1 (List.getD x0 (Int.toNat d2.1) (0 : Int))) = true) (gd ((!ieq d1.1 (List.getD x0 (Int.toNat d2.1) (0 : Int))) = true → (!ieq d1.1 (List.getD x0 (Int.toNat d2.1) (0 : Int))) = true ∧ (!ieq d1.1 (List.getD x0 (Int.toNat d2.1) (0 : Int))) = true) (gd ((!ieq d1.1 (List.getD x0 (Int.toNat d2.1) (0 : Int))) = true → (!ieq d1.1 (List.getD x0 (Int.toNat d2.1) (0 : Int))) = true ∧ (!ieq d1.1 (List.getD x0 (Int.toNat d2.1) (0 : Int))) = true) (gd (ieq d1.1 (List.getD x0 (Int.toNat d2.1) (0 : Int)) = false → (!ieq d1.1 (List.getD x0 (Int.toNat d2.1) (0 : Int))) = true) (bif bif ieq d1.1 (List.getD x0 (Int.toNat d2.1) (0 : Int)) then true else ieq d1.1 (iandn IntKind.i64 (wr IntKind.i64 (ishl IntKind.i64 (1 : Int) (↑(List.length x0) : Int) - (1 : Int))) (List.getD x0 (Int.toNat d2.1) (0 : Int))) then gd (List.length d2.2.1 ≤ List.length d2.2.1) (gd ((List.length d2.2.1 + (1 : Nat)) * (8 : Nat) ≤ (1099511627776 : Nat)) (gd (List.length d2.2.1 + (1 : Nat) = List.length (List.take (List.length d2.2.1) d2.2.1 ++ d1.1 :: ([] : List Int))) (some (Lp.go ((wr IntKind.i64 (d2.1 + (1 : Int)), List.take (List.length d2.2.1) d2.2.1 ++ d1.1 :: ([] : List Int), ()) : Int × List Int × Unit))))) else gd (List.length d2.2.1 = List.length d2.2.1) (some (Lp.go ((wr IntKind.i64 (d2.1 + (1 : Int)), d2.2.1, ()) : Int × List Int × Unit)))))))))) else gd (List.length d2.2.1 = List.length d2.2.1) (some (Lp.out (Lp.go ((wr IntKind.i64 (d1.1 + (1 : Int)), d2.2.1, ()) : Int × List Int × Unit))))
noncomputable def g55 (x0 : List Int) : Option (List Int × Unit) := gd ((0 : Int) ≤ (↑(List.length x0) : Int)) (gd ((0 : Nat) = (0 : Nat)) (whileO (fun (d1 : Int × List Int × Unit) => bif ilt d1.1 (ishl IntKind.i64 (1 : Int) (↑(List.length x0) : Int)) then gd (List.length d1.2.1 = List.length d1.2.1) (whileO (g55_l0 x0 d1) (((0 : Int), d1.2.1, ()) : Int × List Int × Unit)) else gd ((0 : Nat) + List.length d1.2.1 ≤ List.length d1.2.1) (some (Lp.out ((List.take (List.length d1.2.1) (List.drop (0 : Nat) d1.2.1), ()) : List Int × Unit)))) (((0 : Int), ([] : List Int), ()) : Int × List Int × Unit)))
noncomputable def g55_sh : List LSh := LSh.mk (((3, TV.slf (0) (1)) : Nat × TV) :: ((10, TV.v (Ty.int IntKind.i64)) : Nat × TV) :: ([] : List (Nat × TV))) (TB.arr (Ty.int IntKind.i64) true :: ([] : List TB)) :: LSh.mk (((3, TV.slf (0) (1)) : Nat × TV) :: ((15, TV.v (Ty.int IntKind.i64)) : Nat × TV) :: ([] : List (Nat × TV))) (TB.arr (Ty.int IntKind.i64) true :: ([] : List TB)) :: ([] : List LSh)
noncomputable def con13 : Con := mkC 13 [.d LI] [.bool] (fun (l : List Int) => [small l]) (fun (l : List Int) => (true, ()))
noncomputable def g13 (x0 : List Int) : Option (Bool × Unit) := gd (small (List.take (20 : Nat) x0)) (gd (small (List.take (20 : Nat) x0)) (gd (small x0) (gd ((16 : Int) ≤ (16 : Int)) (bif !isM x0 (16 : Int) then gd (ieq (wr IntKind.i64 ((↑(List.length (desX (List.take (20 : Nat) x0)).1) : Int) + (↑(List.length (worX (List.take (20 : Nat) x0)).1) : Int))) (0 : Int) = true → ieq (wr IntKind.i64 ((↑(List.length (desX (List.take (20 : Nat) x0)).1) : Int) + (↑(List.length (worX (List.take (20 : Nat) x0)).1) : Int))) (0 : Int) = true) (gd (ieq (wr IntKind.i64 ((↑(List.length (desX (List.take (20 : Nat) x0)).1) : Int) + (↑(List.length (worX (List.take (20 : Nat) x0)).1) : Int))) (0 : Int) = true → ieq (wr IntKind.i64 ((↑(List.length (desX (List.take (20 : Nat) x0)).1) : Int) + (↑(List.length (worX (List.take (20 : Nat) x0)).1) : Int))) (0 : Int) = true) (gd ((bif ieq (wr IntKind.i64 ((↑(List.length (desX (List.take (20 : Nat) x0)).1) : Int) + (↑(List.length (worX (List.take (20 : Nat) x0)).1) : Int))) (0 : Int) then ieq (desX (List.take (20 : Nat) x0)).2.1 (2 : Int) else false) = true → (bif ieq (wr IntKind.i64 ((↑(List.length (desX (List.take (20 : Nat) x0)).1) : Int) + (↑(List.length (worX (List.take (20 : Nat) x0)).1) : Int))) (0 : Int) then ieq (desX (List.take (20 : Nat) x0)).2.1 (2 : Int) else false) = true) (gd ((bif ieq (wr IntKind.i64 ((↑(List.length (desX (List.take (20 : Nat) x0)).1) : Int) + (↑(List.length (worX (List.take (20 : Nat) x0)).1) : Int))) (0 : Int) then ieq (desX (List.take (20 : Nat) x0)).2.1 (2 : Int) else false) = true → (bif ieq (wr IntKind.i64 ((↑(List.length (desX (List.take (20 : Nat) x0)).1) : Int) + (↑(List.length (worX (List.take (20 : Nat) x0)).1) : Int))) (0 : Int) then ieq (desX (List.take (20 : Nat) x0)).2.1 (2 : Int) else false) = true) (gd ((bif bif ieq (wr IntKind.i64 ((↑(List.length (desX (List.take (20 : Nat) x0)).1) : Int) + (↑(List.length (worX (List.take (20 : Nat) x0)).1) : Int))) (0 : Int) then ieq (desX (List.take (20 : Nat) x0)).2.1 (2 : Int) else false then ieq (worX (List.take (20 : Nat) x0)).2.1 (2 : Int) else false) = true → (bif bif ieq (wr IntKind.i64 ((↑(List.length (desX (List.take (20 : Nat) x0)).1) : Int) + (↑(List.length (worX (List.take (20 : Nat) x0)).1) : Int))) (0 : Int) then ieq (desX (List.take (20 : Nat) x0)).2.1 (2 : Int) else false then ieq (worX (List.take (20 : Nat) x0)).2.1 (2 : Int) else false) = true) (some ((bif bif bif ieq (wr IntKind.i64 ((↑(List.length (desX (List.take (20 : Nat) x0)).1) : Int) + (↑(List.length (worX (List.take (20 : Nat) x0)).1) : Int))) (0 : Int) then ieq (desX (List.take (20 : Nat) x0)).2.1 (2 : Int) else false then ieq (worX (List.take (20 : Nat) x0)).2.1 (2 : Int) else false then true else false, ()) : Bool × Unit)))))) else gd (isM x0 (16 : Int) = true) (bif ilt (↑(List.length x0) : Int) (4 : Int) then gd ((!!ieq (↑(List.length (desX (List.take (20 : Nat) x0)).1) : Int) (0 : Int)) = true → (!!ieq (↑(List.length (desX (List.take (20 : Nat) x0)).1) : Int) (0 : Int)) = true) (gd ((!ieq (↑(List.length (desX (List.take (20 : Nat) x0)).1) : Int) (0 : Int)) = false → (!!ieq (↑(List.length (desX (List.take (20 : Nat) x0)).1) : Int) (0 : Int)) = true) (bif bif !ieq (↑(List.length (desX (List.take (20 : Nat) x0)).1) : Int) (0 : Int) then true else !ieq (desX (List.take (20 : Nat) x0)).2.1 (2 : Int) then some ((false, ()) : Bool × Unit) else bif !balF x0 then gd (ieq (↑(List.length (worX (List.take (20 : Nat) x0)).1) : Int) (0 : Int) = true → ieq (↑(List.length (worX (List.take (20 : Nat) x0)).1) : Int) (0 : Int) = true) (gd (ieq (↑(List.length (worX (List.take (20 : Nat) x0)).1) : Int) (0 : Int) = true → ieq (↑(List.length (worX (List.take (20 : Nat) x0)).1) : Int) (0 : Int) = true) (gd ((bif ieq (↑(List.length (worX (List.take (20 : Nat) x0)).1) : Int) (0 : Int) then ieq (worX (List.take (20 : Nat) x0)).2.1 (5 : Int) else false) = true → (bif ieq (↑(List.length (worX (List.take (20 : Nat) x0)).1) : Int) (0 : Int) then ieq (worX (List.take (20 : Nat) x0)).2.1 (5 : Int) else false) = true) (some ((bif bif ieq (↑(List.length (worX (List.take (20 : Nat) x0)).1) : Int) (0 : Int) then ieq (worX (List.take (20 : Nat) x0)).2.1 (5 : Int) else false then true else false, ()) : Bool × Unit)))) else gd (isM x0 (16 : Int) = true) (gd (small (worX (List.take (20 : Nat) x0)).1) (gd (small (refW x0)) (gd (eqLf ieq (worX (List.take (20 : Nat) x0)).1 (refW x0) = true → eqLf ieq (worX (List.take (20 : Nat) x0)).1 (refW x0) = true) (gd (eqLf ieq (worX (List.take (20 : Nat) x0)).1 (refW x0) = true → eqLf ieq (worX (List.take (20 : Nat) x0)).1 (refW x0) = true) (gd ((bif eqLf ieq (worX (List.take (20 : Nat) x0)).1 (refW x0) then ieq (worX (List.take (20 : Nat) x0)).2.1 (0 : Int) else false) = true → (bif eqLf ieq (worX (List.take (20 : Nat) x0)).1 (refW x0) then ieq (worX (List.take (20 : Nat) x0)).2.1 (0 : Int) else false) = true) (some ((bif bif eqLf ieq (worX (List.take (20 : Nat) x0)).1 (refW x0) then ieq (worX (List.take (20 : Nat) x0)).2.1 (0 : Int) else false then true else false, ()) : Bool × Unit))))))))) else bif !balF x0 then gd ((!!ieq (↑(List.length (desX (List.take (20 : Nat) x0)).1) : Int) (0 : Int)) = true → (!!ieq (↑(List.length (desX (List.take (20 : Nat) x0)).1) : Int) (0 : Int)) = true) (gd ((!ieq (↑(List.length (desX (List.take (20 : Nat) x0)).1) : Int) (0 : Int)) = false → (!!ieq (↑(List.length (desX (List.take (20 : Nat) x0)).1) : Int) (0 : Int)) = true) (bif bif !ieq (↑(List.length (desX (List.take (20 : Nat) x0)).1) : Int) (0 : Int) then true else !ieq (desX (List.take (20 : Nat) x0)).2.1 (5 : Int) then some ((false, ()) : Bool × Unit) else bif !balF x0 then gd (ieq (↑(List.length (worX (List.take (20 : Nat) x0)).1) : Int) (0 : Int) = true → ieq (↑(List.length (worX (List.take (20 : Nat) x0)).1) : Int) (0 : Int) = true) (gd (ieq (↑(List.length (worX (List.take (20 : Nat) x0)).1) : Int) (0 : Int) = true → ieq (↑(List.length (worX (List.take (20 : Nat) x0)).1) : Int) (0 : Int) = true) (gd ((bif ieq (↑(List.length (worX (List.take (20 : Nat) x0)).1) : Int) (0 : Int) then ieq (worX (List.take (20 : Nat) x0)).2.1 (5 : Int) else false) = true → (bif ieq (↑(List.length (worX (List.take (20 : Nat) x0)).1) : Int) (0 : Int) then ieq (worX (List.take (20 : Nat) x0)).2.1 (5 : Int) else false) = true) (some ((bif bif ieq (↑(List.length (worX (List.take (20 : Nat) x0)).1) : Int) (0 : Int) then ieq (worX (List.take (20 : Nat) x0)).2.1 (5 : Int) else false then true else false, ()) : Bool × Unit)))) else gd (isM x0 (16 : Int) = true) (gd (small (worX (List.take (20 : Nat) x0)).1) (gd (small (refW x0)) (gd (eqLf ieq (worX (List.take (20 : Nat) x0)).1 (refW x0) = true → eqLf ieq (worX (List.take (20 : Nat) x0)).1 (refW x0) = true) (gd (eqLf ieq (worX (List.take (20 : Nat) x0)).1 (refW x0) = true → eqLf ieq (worX (List.take (20 : Nat) x0)).1 (refW x0) = true) (gd ((bif eqLf ieq (worX (List.take (20 : Nat) x0)).1 (refW x0) then ieq (worX (List.take (20 : Nat) x0)).2.1 (0 : Int) else false) = true → (bif eqLf ieq (worX (List.take (20 : Nat) x0)).1 (refW x0) then ieq (worX (List.take (20 : Nat) x0)).2.1 (0 : Int) else false) = true) (some ((bif bif eqLf ieq (worX (List.take (20 : Nat) x0)).1 (refW x0) then ieq (worX (List.take (20 : Nat) x0)).2.1 (0 : Int) else false then true else false, ()) : Bool × Unit))))))))) else gd (isM x0 (16 : Int) = true) (gd (small (desX (List.take (20 : Nat) x0)).1) (gd (small (desF x0)) (gd ((!!eqLf ieq (desX (List.take (20 : Nat) x0)).1 (desF x0)) = true → (!!eqLf ieq (desX (List.take (20 : Nat) x0)).1 (desF x0)) = true) (gd ((!eqLf ieq (desX (List.take (20 : Nat) x0)).1 (desF x0)) = false → (!!eqLf ieq (desX (List.take (20 : Nat) x0)).1 (desF x0)) = true) (bif bif !eqLf ieq (desX (List.take (20 : Nat) x0)).1 (desF x0) then true else !ieq (desX (List.take (20 : Nat) x0)).2.1 (0 : Int) then some ((false, ()) : Bool × Unit) else bif !balF x0 then gd (ieq (↑(List.length (worX (List.take (20 : Nat) x0)).1) : Int) (0 : Int) = true → ieq (↑(List.length (worX (List.take (20 : Nat) x0)).1) : Int) (0 : Int) = true) (gd (ieq (↑(List.length (worX (List.take (20 : Nat) x0)).1) : Int) (0 : Int) = true → ieq (↑(List.length (worX (List.take (20 : Nat) x0)).1) : Int) (0 : Int) = true) (gd ((bif ieq (↑(List.length (worX (List.take (20 : Nat) x0)).1) : Int) (0 : Int) then ieq (worX (List.take (20 : Nat) x0)).2.1 (5 : Int) else false) = true → (bif ieq (↑(List.length (worX (List.take (20 : Nat) x0)).1) : Int) (0 : Int) then ieq (worX (List.take (20 : Nat) x0)).2.1 (5 : Int) else false) = true) (some ((bif bif ieq (↑(List.length (worX (List.take (20 : Nat) x0)).1) : Int) (0 : Int) then ieq (worX (List.take (20 : Nat) x0)).2.1 (5 : Int) else false then true else false, ()) : Bool × Unit)))) else gd (isM x0 (16 : Int) = true) (gd (small (worX (List.take (20 : Nat) x0)).1) (gd (small (refW x0)) (gd (eqLf ieq (worX (List.take (20 : Nat) x0)).1 (refW x0) = true → eqLf ieq (worX (List.take (20 : Nat) x0)).1 (refW x0) = true) (gd (eqLf ieq (worX (List.take (20 : Nat) x0)).1 (refW x0) = true → eqLf ieq (worX (List.take (20 : Nat) x0)).1 (refW x0) = true) (gd ((bif eqLf ieq (worX (List.take (20 : Nat) x0)).1 (refW x0) then ieq (worX (List.take (20 : Nat) x0)).2.1 (0 : Int) else false) = true → (bif eqLf ieq (worX (List.take (20 : Nat) x0)).1 (refW x0) then ieq (worX (List.take (20 : Nat) x0)).2.1 (0 : Int) else false) = true) (some ((bif bif eqLf ieq (worX (List.take (20 : Nat) x0)).1 (refW x0) then ieq (worX (List.take (20 : Nat) x0)).2.1 (0 : Int) else false then true else false, ()) : Bool × Unit)))))))))))))))))
noncomputable def g13_sh : List LSh := ([] : List LSh)
end Go.Signs

set_option linter.unusedVariables false
set_option linter.unusedSimpArgs false
namespace Go.Signs
open Go Go.Ab Go.Proofs

theorem iandn_nat {a b : Nat} (ha : a < 9223372036854775808) (hb : b < 9223372036854775808) : iandn .i64 a b = ((a ^^^ (a &&& b) : Nat) : Int) := by
  have e : (BitVec.ofInt 64 (a : Int) &&& ~~~ BitVec.ofInt 64 (b : Int)) = BitVec.ofInt 64 (a : Int) ^^^ (BitVec.ofInt 64 (a : Int) &&& BitVec.ofInt 64 (b : Int)) := by
    ext i hi
    simp
    cases (BitVec.ofNat 64 a)[i] <;> cases (BitVec.ofNat 64 b)[i] <;> rfl
  have h1 : a ^^^ (a &&& b) < 2 ^ 63 := Nat.xor_lt_two_pow (by omega) (Nat.and_lt_two_pow _ (by omega))
  show IntKind.i64.wrap ((BitVec.ofInt 64 (a : Int) &&& ~~~ BitVec.ofInt 64 (b : Int)).toNat : Int) = _
  rw [e, BitVec.toNat_xor, BitVec.toNat_and, bv_nat (by omega), bv_nat (by omega), wrap_nat (by omega)]
theorem iandn_all {n b : Nat} (hn : n ≤ 16) (hb : b < 2 ^ n) : iandn .i64 ((2 ^ n - 1 : Nat) : Int) (b : Int) = (othR n b : Int) := by
  have hp := pow_le16 hn
  rw [iandn_nat (by omega) (by omega), Nat.and_comm, Nat.and_two_pow_sub_one_eq_mod, Nat.mod_eq_of_lt hb]
  rfl
theorem oth_lt {n b : Nat} (hb : b < 2 ^ n) : othR n b < 2 ^ n := xor_lt (by have := Nat.one_le_two_pow (n := n); omega) hb
theorem all_wr {n : Nat} (hn : n ≤ 16) : wr .i64 (ishl .i64 1 (n : Int) - 1) = ((2 ^ n - 1 : Nat) : Int) := by
  have hp := pow_le16 hn
  have h1 : 1 ≤ 2 ^ n := Nat.one_le_two_pow
  rw [ishl_one hn, wr_id (by omega)]
  omega
theorem set_at {n b : Nat} (hn : n ≤ 16) (hb : b < 2 ^ n) : ishr .i64 (iandn .i64 ((2 ^ n - 1 : Nat) : Int) (b : Int)) 1 = (setR n b : Int) := by
  rw [iandn_all hn hb, show (1 : Int) = ((1 : Nat) : Int) from rfl, ishr_nat (by omega)]
  rfl
theorem des_len {l : List Int} : (desF l).length = l.length - 1 := by simp [desF, norm_len]
theorem des_at {l : List Int} {i : Nat} (hi : i + 1 < l.length) : (desF l).getD i 0 = (setR l.length (nx (normF l) (i + 1)) : Int) := by
  have h1 : i < (desF l).length := by rw [des_len]; omega
  have h2 : i + 1 < (normF l).length := by rw [norm_len]; omega
  have h3 : i < (normF l).tail.length := by rw [List.length_tail]; omega
  unfold nx
  rw [gd_at h2, List.getD_eq_getElem?_getD]
  unfold desF
  rw [List.getElem?_map, List.getElem?_eq_getElem h3, List.getElem_tail]
  rfl
theorem des_take {l : List Int} {i : Nat} (hi : i + 1 < l.length) : (desF l).take (i + 1) = (desF l).take i ++ [(setR l.length (nx (normF l) (i + 1)) : Int)] := by
  have h1 : i < (desF l).length := by rw [des_len]; omega
  rw [List.take_succ_eq_append_getElem h1, ← gd_at (d := 0) h1, des_at hi]
theorem drop1_at {l : List Int} {i : Nat} : (List.drop 1 l).getD i 0 = l.getD (i + 1) 0 := by
  rw [List.getD_eq_getElem?_getD, List.getD_eq_getElem?_getD, List.getElem?_drop, Nat.add_comm]
theorem drop1_len {l : List Int} : (List.drop 1 l).length = l.length - 1 := by simp

theorem goal54 : con54.goal Try.prog (spOf [con33]) g54_sh [] lm30 := by
  have e : (∀ (l : List Int), isM l 16 = true → g54 l = some (desF l, ())) = con54.goal Try.prog (spOf [con33]) g54_sh [] lm30 := by kernel_rfl
  rw [← e]
  intro l h
  have h16 := len16 (by omega) h
  have hN := norm_isM h
  have hp := pow16 (by omega) h
  unfold g54
  rw [gd_pos h, gd_pos (by rw [norm_len]; omega), gd_pos rfl]
  refine whileO_nat (st := fun i => ((((i : Nat) : Int), (desF l).take i, ()) : Row)) (lo := 0) (hi := l.length - 1) (by omega) (fun i _ hi => ?_) ?_
  · simp only [drop1_len, norm_len]
    obtain ⟨a1, a2⟩ := nx_get hN (i := i + 1) (by rw [norm_len]; omega)
    rw [norm_len] at a2
    have hl : ((desF l).take i).length = i := by rw [List.length_take, des_len]; omega
    have ht : List.take i ((desF l).take i) = (desF l).take i := by rw [List.take_take, Nat.min_self]
    rw [Int.toNat_natCast, drop1_at, a1, all_wr h16.1, set_at h16.1 a2, des_take (by omega)]
    rw [cond_t (ilt_iff.2 (by omega)), gd_pos (by omega), gd_pos (by omega), gd_pos (by omega)]
    simp only [hl, ht, Nat.le_refl, gd_true, List.length_append, List.length_singleton]
    rw [gd_pos (by omega), cast1 (by omega)]
  · simp only [drop1_len, norm_len]
    have hl : (desF l).take (l.length - 1) = desF l := List.take_of_length_le (by rw [des_len]; omega)
    rw [cond_f (ilt_false.2 (by omega)), gd_pos (by omega), take_all, hl]
set_option maxRecDepth 100000 in
theorem ok54 : con54.Ok Try.prog := Con.of_goal mixed (okC ok33 okN) con54 goal54

theorem goal52 : con52.goal Try.prog (spOf [con62, con71, con72, con84]) g52_sh [] lm30 := by
  have e : (∀ (l : List Int), small l → g52 l = some (desX l)) = con52.goal Try.prog (spOf [con62, con71, con72, con84]) g52_sh [] lm30 := by kernel_rfl
  rw [← e]
  intro l hs
  unfold g52 desX
  rw [gd_pos hs, gd_pos (Int.le_refl _)]
  cases h : isM l 16 with
  | false => simp [gd_true]
  | true =>
    have h16 := len16 (by omega) h
    have hN := norm_isM h
    have hp := pow16 (by omega) h
    by_cases h4 : l.length < 4
    · have c : ilt (l.length : Int) 4 = true := ilt_iff.2 (by omega)
      simp [gd_true, c, show ¬ 4 ≤ l.length by omega]
    · have c : ilt (l.length : Int) 4 = false := ilt_false.2 (by omega)
      cases hb : balF l with
      | false => simp [gd_true, c, show 4 ≤ l.length by omega]
      | true =>
        have hd : decide (4 ≤ l.length) = true := decide_eq_true (by omega)
        simp only [hd, c, Bool.not_true, Bool.not_false, Bool.and_self, if_true, cond_false, cond_true, gd_true, imp_self, Bool.false_eq_true, true_imp_iff, false_imp_iff, reduceCtorEq]
        rw [gd_pos (by rw [norm_len]; omega)]
        refine whileO_nat (st := fun i => ((((i : Nat) : Int), (desF l).take i, ()) : Row)) (lo := 0) (hi := l.length - 1) (by omega) (fun i _ hi => ?_) ?_
        · simp only [drop1_len, norm_len]
          obtain ⟨a1, a2⟩ := nx_get hN (i := i + 1) (by rw [norm_len]; omega)
          rw [norm_len] at a2
          have hl : ((desF l).take i).length = i := by rw [List.length_take, des_len]; omega
          have ht : List.take i ((desF l).take i) = (desF l).take i := by rw [List.take_take, Nat.min_self]
          have hal : allF l = ((2 ^ l.length - 1 : Nat) : Int) := rfl
          rw [Int.toNat_natCast, drop1_at, a1, hal, set_at h16.1 a2, des_take (by omega)]
          rw [cond_t (ilt_iff.2 (by omega)), gd_pos (by omega), gd_pos (by omega), gd_pos (by omega)]
          simp only [hl, ht, Nat.le_refl, gd_true, List.length_append, List.length_singleton]
          rw [gd_pos (by omega), cast1 (by omega)]
        · simp only [drop1_len, norm_len]
          have hl : (desF l).take (l.length - 1) = desF l := List.take_of_length_le (by rw [des_len]; omega)
          rw [cond_f (ilt_false.2 (by omega)), gd_pos (by omega), take_all, hl]
set_option maxRecDepth 100000 in
theorem ok52 : con52.Ok Try.prog := Con.of_goal mixed (okC ok62 (okC ok71 (okC ok72 (okC ok84 okN)))) con52 goal52

/-! ### Words -/
def worN (n : Nat) (l : List Int) : List Int := l.flatMap fun r => [r, (othR n r.toNat : Int)]
theorem worN_len {n : Nat} : ∀ {l : List Int}, (worN n l).length = 2 * l.length
  | [] => rfl
  | x :: l => by
    have := worN_len (n := n) (l := l)
    unfold worN at this ⊢
    rw [List.flatMap_cons, List.length_append, this]
    simp
    omega
theorem worN_take {n : Nat} {l : List Int} {i : Nat} (hi : i < l.length) : worN n (l.take (i + 1)) = worN n (l.take i) ++ [l.getD i 0, (othR n (nx l i) : Int)] := by
  unfold worN nx
  rw [List.take_succ_eq_append_getElem hi, List.flatMap_append, gd_at hi]
  simp
theorem goal53 : con53.goal Try.prog (spS [sortCon 57 true] [con62, con71, con84]) g53_sh [] lm30 := by
  have e : (∀ (l : List Int), small l → g53 l = some (worX l)) = con53.goal Try.prog (spS [sortCon 57 true] [con62, con71, con84]) g53_sh [] lm30 := by kernel_rfl
  rw [← e]
  intro l hs
  unfold g53 worX
  rw [gd_pos hs, gd_pos (Int.le_refl _)]
  cases h : isM l 16 with
  | false => simp [gd_true]
  | true =>
    have h16 := len16 (by omega) h
    have hp := pow16 (by omega) h
    cases hb : balF l with
    | false => simp [gd_true]
    | true =>
      simp only [Bool.not_true, Bool.not_false, if_true, cond_false, cond_true, gd_true]
      refine whileO_nat (st := fun i => ((((i : Nat) : Int), worN l.length (l.take i), ()) : Row)) (lo := 0) (hi := l.length) (by omega) (fun i _ hi => ?_) ?_
      · simp only
        obtain ⟨a1, a2⟩ := nx_get h hi
        have hl : (worN l.length (l.take i)).length = 2 * i := by rw [worN_len, List.length_take]; omega
        have hal : allF l = ((2 ^ l.length - 1 : Nat) : Int) := rfl
        rw [Int.toNat_natCast, worN_take hi, a1, hal, ixor_nat (by omega) (by omega)]
        rw [cond_t (ilt_iff.2 (by omega)), gd_pos (by omega), gd_pos (by omega)]
        simp only [hl, Nat.le_refl, gd_true]
        rw [List.take_of_length_le (by omega), gd_pos (by omega), gd_pos (by simp [hl]), cast1 (by omega)]
        rfl
      · have hl : (worN l.length l).length = 2 * l.length := worN_len
        simp only [List.take_length, hl, sortL_len, Nat.zero_add, List.drop_zero]
        rw [cond_f (ilt_false.2 (by omega)), gd_pos (by omega), gd_pos (Nat.le_refl _), List.take_of_length_le (by rw [sortL_len, hl]; omega)]
        rfl
set_option maxRecDepth 100000 in
theorem ok53 : con53.Ok Try.prog := Con.of_goalS mixed (okC ok62 (okC ok71 (okC ok84 okN))) (okS (ok57 true) okS0) con53 goal53

def refQ (n : Nat) (x : Nat) (r : Int) : Bool := ieq (x : Int) r || ieq (x : Int) (othR n r.toNat : Int)
def refR (l : List Int) (x i : Nat) : List Int := ((l.take i).filter (refQ l.length x)).map fun _ => (x : Int)
def refN (l : List Int) (x : Nat) : List Int := (List.range x).flatMap fun (x : Nat) => refR l x l.length
theorem refR_len {l : List Int} {x i : Nat} : (refR l x i).length ≤ l.length := by
  unfold refR
  rw [List.length_map]
  have := List.length_filter_le (refQ l.length x) (l.take i)
  rw [List.length_take] at this
  omega
theorem refN_succ {l : List Int} {x : Nat} : refN l (x + 1) = refN l x ++ refR l x l.length := by
  unfold refN
  rw [List.range_succ, List.flatMap_append]
  simp
theorem refN_len {l : List Int} : ∀ {x : Nat}, (refN l x).length ≤ x * l.length
  | 0 => by simp [refN]
  | x + 1 => by
    have h1 := refN_len (l := l) (x := x)
    have h2 := refR_len (l := l) (x := x) (i := l.length)
    rw [refN_succ, List.length_append, Nat.succ_mul]
    omega
theorem refR_succ {l : List Int} {x i : Nat} (hi : i < l.length) : refR l x (i + 1) = refR l x i ++ if refQ l.length x (l.getD i 0) = true then [(x : Int)] else [] := by
  unfold refR
  rw [List.take_succ_eq_append_getElem hi, List.filter_append, List.map_append, gd_at hi]
  congr 1
  by_cases hq : refQ l.length x l[i] = true
  · rw [if_pos hq, List.filter_cons_of_pos hq]; rfl
  · rw [if_neg hq, List.filter_cons_of_neg hq]; rfl
theorem refW_eq {l : List Int} : refW l = refN l (2 ^ l.length) := by
  unfold refW refN refR
  rw [List.take_length]
  rfl
theorem in55 {l : List Int} (h : isM l 16 = true) {x : Nat} (hx : x < 2 ^ l.length) : whileO (g55_l0 l (((x : Int), refN l x, ()) : Row)) (((0 : Int), refN l x, ()) : Row) = some (.go (((x + 1 : Nat) : Int), refN l (x + 1), ())) := by
  have h16 := len16 (by omega) h
  have hp := pow16 (by omega) h
  have hlen := refN_len (l := l) (x := x)
  have hm : x * l.length ≤ 65536 * 16 := Nat.mul_le_mul (by omega) h16.1
  have key : ∀ i : Nat, (refN l x ++ refR l x i).length ≤ 65536 * 16 + 16 := fun i => by
    have := refR_len (l := l) (x := x) (i := i)
    rw [List.length_append]; omega
  have := whileO_nat (step := g55_l0 l (((x : Int), refN l x, ()) : Row)) (st := fun i : Nat => (((i : Int), refN l x ++ refR l x i, ()) : Row)) (lo := 0) (hi := l.length) (x := Lp.go ((((x + 1 : Nat) : Int), refN l (x + 1), ()) : Row)) (by omega) (fun i _ hi => ?_) ?_
  · have e0 : refR l x 0 = [] := by simp [refR]
    simp only [e0, List.append_nil] at this
    exact this
  · unfold g55_l0
    dsimp only
    obtain ⟨a1, a2⟩ := nx_get h hi
    have hk := key i
    rw [Int.toNat_natCast, a1, all_wr h16.1, iandn_all h16.1 a2, refR_succ hi, a1]
    rw [cond_t (ilt_iff.2 (by omega)), gd_pos (by omega)]
    have hq : refQ l.length x (nx l i : Int) = (ieq (x : Int) (nx l i : Int) || ieq (x : Int) (othR l.length (nx l i) : Int)) := by
      unfold refQ; rw [Int.toNat_natCast]
    rw [hq]
    have hc : (l.length : Nat) ≤ 16 := h16.1
    cases ieq (x : Int) (nx l i : Int) <;> cases ieq (x : Int) (othR l.length (nx l i) : Int) <;> simp [gd_true, cast1 (i := i) (by omega)] <;> (try simp at hk) <;> (try omega) <;> (try rw [gd_pos (by omega)]) <;> rw [List.take_of_length_le (by simp), List.append_assoc]
  · unfold g55_l0
    dsimp only
    rw [cond_f (ilt_false.2 (by omega)), gd_pos rfl, cast1 (by omega), refN_succ]
theorem goal55 : con55.goal Try.prog (spOf []) g55_sh [] lm30 := by
  have e : (∀ (l : List Int), isM l 16 = true → g55 l = some (refW l, ())) = con55.goal Try.prog (spOf []) g55_sh [] lm30 := by kernel_rfl
  rw [← e]
  intro l h
  have h16 := len16 (by omega) h
  have hp := pow16 (by omega) h
  unfold g55
  rw [gd_pos (by omega), gd_pos rfl, refW_eq]
  refine whileO_nat (st := fun x : Nat => (((x : Int), refN l x, ()) : Row)) (lo := 0) (hi := 2 ^ l.length) (Nat.zero_le _) (fun x _ hx => ?_) ?_
  · dsimp only
    rw [ishl_one h16.1, cond_t (ilt_iff.2 (Int.ofNat_lt.2 hx)), gd_pos rfl, in55 h hx]
  · dsimp only
    rw [ishl_one h16.1, cond_f (ilt_false.2 (Int.le_refl _)), gd_pos (by omega), take_all]
set_option maxRecDepth 100000 in
theorem ok55 : con55.Ok Try.prog := Con.of_goal mixed okN con55 goal55
end Go.Signs

set_option linter.unusedVariables false
set_option linter.unusedSimpArgs false
namespace Go.Signs
open Go Go.Ab Go.Proofs

/-! ### Words in order -/
theorem oth_ne {n r : Nat} (h1 : 1 ≤ n) : othR n r ≠ r := fun he => by
  have h := congrArg (fun z => z ^^^ r) he
  unfold othR at h
  simp only [Nat.xor_assoc, Nat.xor_self, Nat.xor_zero] at h
  have : 2 ≤ 2 ^ n := Nat.pow_le_pow_right (n := 2) (by omega) h1
  omega
theorem cnt_app {a : Int} {n : Nat} : ∀ {l : List Int}, List.count a (worN n l) = l.countP (fun r => decide (a = r)) + l.countP (fun r => decide (a = (othR n r.toNat : Int)))
  | [] => rfl
  | x :: l => by
    have ih := cnt_app (a := a) (n := n) (l := l)
    unfold worN at ih ⊢
    rw [List.flatMap_cons, List.count_append, ih, List.countP_cons, List.countP_cons, List.count_cons, List.count_cons, List.count_nil]
    have e1 : ∀ y : Int, (y == a) = decide (a = y) := fun y => by
      rw [Bool.eq_iff_iff, beq_iff_eq, decide_eq_true_eq]; exact eq_comm
    rw [e1, e1]
    omega
theorem cnt_or {p q : Int → Bool} : ∀ {l : List Int}, (∀ r ∈ l, ¬ (p r = true ∧ q r = true)) → l.countP p + l.countP q = l.countP (fun r => p r || q r)
  | [], _ => rfl
  | x :: l, h => by
    have ih := cnt_or (p := p) (q := q) (l := l) fun r hr => h r (List.mem_cons_of_mem _ hr)
    have hx := h x (List.mem_cons_self ..)
    rw [List.countP_cons, List.countP_cons, List.countP_cons]
    cases hp : p x <;> cases hq : q x <;> simp [hp, hq] at hx ⊢ <;> omega
theorem cnt_map {a : Int} {x : Int} : ∀ {l : List Int}, List.count a (l.map fun _ => x) = if x = a then l.length else 0
  | [] => by simp
  | y :: l => by
    rw [List.map_cons, List.count_cons, cnt_map (l := l)]
    by_cases h : x = a <;> simp [h]
theorem cnt_ref {l : List Int} {a : Int} : ∀ {X : Nat}, List.count a (refN l X) = if 0 ≤ a ∧ a < X then l.countP (refQ l.length a.toNat) else 0
  | 0 => by
    rw [if_neg (by omega)]; rfl
  | X + 1 => by
    rw [refN_succ, List.count_append, cnt_ref (X := X)]
    unfold refR
    rw [cnt_map, List.take_length, ← List.countP_eq_length_filter]
    by_cases h : (X : Int) = a
    · subst h
      rw [if_neg (by omega), if_pos rfl, if_pos (by omega), Int.toNat_natCast, Nat.zero_add]
    · rw [if_neg h, Nat.add_zero]
      by_cases h2 : 0 ≤ a ∧ a < (X : Int)
      · rw [if_pos h2, if_pos (by omega)]
      · rw [if_neg h2, if_neg (by omega)]
theorem mem_nx {l : List Int} {m r : Int} (h : isM l m = true) (hr : r ∈ l) : 0 ≤ r ∧ r.toNat < 2 ^ l.length ∧ (r.toNat : Int) = r := by
  obtain ⟨i, hi, rfl⟩ := List.getElem_of_mem hr
  obtain ⟨a1, a2⟩ := nx_get h hi
  rw [gd_at hi] at a1
  have e : l[i].toNat = nx l i := by rw [a1]; simp
  exact ⟨by omega, by rw [e]; exact a2, by rw [e]; exact a1.symm⟩
theorem word_perm {l : List Int} (h : isM l 16 = true) : (worL l).Perm (refW l) := by
  have h16 := len16 (by omega) h
  rw [List.perm_iff_count]
  intro a
  rw [refW_eq, cnt_ref]
  show List.count a (worN l.length l) = _
  rw [cnt_app, cnt_or fun r hr => by
    obtain ⟨m1, m2, m3⟩ := mem_nx h hr
    simp only [decide_eq_true_eq]
    rintro ⟨e1, e2⟩
    rw [e1] at e2
    exact oth_ne (n := l.length) (r := r.toNat) h16.2 (by omega)]
  by_cases ha : 0 ≤ a ∧ a < ((2 ^ l.length : Nat) : Int)
  · rw [if_pos ha]
    refine List.countP_congr fun r hr => ?_
    unfold refQ
    rw [Int.toNat_of_nonneg ha.1]
    simp only [Bool.or_eq_true, decide_eq_true_eq, ieq_iff]
  · rw [if_neg ha, List.countP_eq_zero]
    intro r hr
    obtain ⟨m1, m2, m3⟩ := mem_nx h hr
    have m4 := oth_lt m2
    simp only [Bool.or_eq_true, decide_eq_true_eq, not_or]
    refine ⟨fun e => ha ?_, fun e => ha ?_⟩ <;> subst e
    · exact ⟨by omega, by have := Int.ofNat_lt.2 m2; omega⟩
    · exact ⟨by omega, Int.ofNat_lt.2 m4⟩
theorem ref_sorted {l : List Int} : (refW l).Pairwise (· ≤ ·) := by
  rw [refW_eq]
  unfold refN
  rw [List.pairwise_flatMap]
  refine ⟨fun x _ => ?_, ?_⟩
  · unfold refR
    rw [List.pairwise_map]
    exact List.pairwise_of_forall fun _ _ => Int.le_refl _
  · refine List.Pairwise.imp (fun {a b} hab x hx y hy => ?_) List.pairwise_lt_range
    unfold refR at hx hy
    obtain ⟨_, _, rfl⟩ := List.mem_map.1 hx
    obtain ⟨_, _, rfl⟩ := List.mem_map.1 hy
    omega
theorem words_eq {l : List Int} (h : isM l 16 = true) : sortL (worL l) = refW l :=
  (sortL_perm.trans (word_perm h)).eq_of_pairwise (fun a b _ _ h1 h2 => Int.le_antisymm h1 h2) sortL_pw ref_sorted

theorem take20 {l : List Int} : isM (l.take 20) 16 = isM l 16 := by
  by_cases hl : l.length ≤ 20
  · rw [List.take_of_length_le hl]
  · have h1 : isM l 16 = false := by
      unfold isM
      rw [decide_eq_false (show ¬ (l.length : Int) ≤ 16 by omega)]; simp
    have h2 : isM (l.take 20) 16 = false := by
      unfold isM
      rw [List.length_take, decide_eq_false (show ¬ ((min 20 l.length : Nat) : Int) ≤ 16 by omega)]; simp
    rw [h1, h2]
theorem des_small {l : List Int} (h : isM l 16 = true) : small (desF l) := by
  have h16 := len16 (by omega) h
  unfold small; rw [des_len]; omega
theorem ref_small {l : List Int} (h : isM l 16 = true) : small (refW l) := by
  have h16 := len16 (by omega) h
  have := (word_perm h).length_eq
  have h2 : (worL l).length = 2 * l.length := worN_len
  unfold small; omega
set_option maxRecDepth 100000 in
theorem goal13 : con13.goal Try.prog (spOf [con18, con52, con53, con23, con24, con32, con54, con55, con20]) g13_sh [] lm30 := by
  have e : (∀ (l : List Int), small l → g13 l = some (true, ())) = con13.goal Try.prog (spOf [con18, con52, con53, con23, con24, con32, con54, con55, con20]) g13_sh [] lm30 := by kernel_rfl
  rw [← e]
  intro l hs
  have ta : small (l.take 20) := by unfold small; rw [List.length_take]; omega
  have hq : ∀ l : List Int, eqLf ieq l l = true := fun l => (eqLf_iff (fun x y => ieq_iff)).2 rfl
  have iq : ∀ x : Int, ieq x x = true := fun x => ieq_iff.2 rfl
  have w0 : wr .i64 0 = 0 := by decide
  have hs0 : small ([] : List Int) := by unfold small; simp
  unfold g13
  rw [gd_pos ta, gd_pos ta, gd_pos hs, gd_pos (Int.le_refl _)]
  cases h : isM l 16 with
  | false =>
    have h' := take20 (l := l)
    rw [h] at h'
    have d1 : desX (l.take 20) = ([], 2, ()) := by unfold desX; rw [h']; rfl
    have d2 : worX (l.take 20) = ([], 2, ()) := by unfold worX; rw [h']; rfl
    simp [d1, d2, gd_true, iq, w0]
  | true =>
    have h16 := len16 (by omega) h
    have ht : l.take 20 = l := List.take_of_length_le (by omega)
    rw [ht]
    have sd := des_small h
    have sr := ref_small h
    have wq := words_eq h
    cases hb : balF l with
    | false =>
      have d2 : worX l = ([], 5, ()) := by unfold worX; rw [h, hb]; rfl
      by_cases h4 : l.length < 4
      · have c : ilt (l.length : Int) 4 = true := ilt_iff.2 (by omega)
        have d1 : desX l = ([], 2, ()) := by unfold desX; rw [h, decide_eq_false (by omega)]; rfl
        simp [d1, d2, gd_true, iq, w0, c]
      · have c : ilt (l.length : Int) 4 = false := ilt_false.2 (by omega)
        have d1 : desX l = ([], 5, ()) := by unfold desX; rw [h, hb, decide_eq_true (by omega)]; rfl
        simp [d1, d2, gd_true, iq, w0, c]
    | true =>
      have d2 : worX l = (refW l, 0, ()) := by unfold worX; rw [h, hb, ← wq]; rfl
      by_cases h4 : l.length < 4
      · have c : ilt (l.length : Int) 4 = true := ilt_iff.2 (by omega)
        have d1 : desX l = ([], 2, ()) := by unfold desX; rw [h, decide_eq_false (by omega)]; rfl
        simp [d1, d2, gd_true, iq, w0, c, hq, gd_pos sr]
      · have c : ilt (l.length : Int) 4 = false := ilt_false.2 (by omega)
        have d1 : desX l = (desF l, 0, ()) := by unfold desX; rw [h, hb, decide_eq_true (by omega)]; rfl
        simp [d1, d2, gd_true, iq, w0, c, hq, gd_pos sr, gd_pos sd]
set_option maxRecDepth 100000 in
theorem ok13 : con13.Ok Try.prog := Con.of_goal mixed (okC ok18 (okC ok52 (okC ok53 (okC ok23 (okC ok24 (okC ok32 (okC ok54 (okC ok55 (okC ok20 okN))))))))) con13 goal13
end Go.Signs
