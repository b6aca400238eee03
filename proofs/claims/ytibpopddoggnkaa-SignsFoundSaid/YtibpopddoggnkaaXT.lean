/- Sums and balance: contracts. -/
import Derived.Test.YtibpopddoggnkaaXS
set_option linter.unusedVariables false
set_option linter.unusedSimpArgs false
namespace Go.Signs
open Go Go.Ab Go.Proofs

def nx (l : List Int) (i : Nat) : Nat := (l.getD i 0).toNat
def balF (l : List Int) : Bool := (List.range l.length).all fun i => (List.range i).all fun k => decide (2 * popN (nx l i ^^^ nx l k) = l.length)
noncomputable def con71 : Con := mkC 71 [.d LI] [.bool] (fun (l : List Int) => [isM l 16 = true]) (fun (l : List Int) => (balF l, ()))
noncomputable def g71_l0 (x0 : List Int) (d1 d2 : Int × Unit) : Option (Lp (Int × Unit) (Lp (Int × Unit) (Bool × Unit))) := bif ilt d2.1 (↑(List.length (List.take (Int.toNat d1.1) x0)) : Int) then gd ((0 : Int) ≤ d2.1 ∧ d2.1 < (↑(List.length (List.take (Int.toNat d1.1) x0)) : Int)) (gd (is16 (ixor IntKind.i64 (List.getD x0 (Int.toNat d1.1) (0 : Int)) (List.getD (List.take (Int.toNat d1.1) x0) (Int.toNat d2.1) (0 : Int)))) (bif !ieq (wr IntKind.i64 ((2 : Int) * pop (ixor IntKind.i64 (List.getD x0 (Int.toNat d1.1) (0 : Int)) (List.getD (List.take (Int.toNat d1.1) x0) (Int.toNat d2.1) (0 : Int))))) (↑(List.length x0) : Int) then some (Lp.out (Lp.out ((false, ()) : Bool × Unit))) else some (Lp.go ((wr IntKind.i64 (d2.1 + (1 : Int)), ()) : Int × Unit)))) else some (Lp.out (Lp.go ((wr IntKind.i64 (d1.1 + (1 : Int)), ()) : Int × Unit)))
noncomputable def g71 (x0 : List Int) : Option (Bool × Unit) := whileO (fun (d1 : Int × Unit) => bif ilt d1.1 (↑(List.length x0) : Int) then gd ((0 : Int) ≤ d1.1 ∧ d1.1 < (↑(List.length x0) : Int)) (gd ((0 : Int) ≤ d1.1 ∧ d1.1 ≤ (↑(List.length x0) : Int)) (whileO (g71_l0 x0 d1) (((0 : Int), ()) : Int × Unit))) else some (Lp.out ((true, ()) : Bool × Unit))) (((0 : Int), ()) : Int × Unit)
noncomputable def g71_sh : List LSh := LSh.mk (((9, TV.v (Ty.int IntKind.i64)) : Nat × TV) :: ([] : List (Nat × TV))) ([] : List TB) :: LSh.mk (((18, TV.v (Ty.int IntKind.i64)) : Nat × TV) :: ([] : List (Nat × TV))) ([] : List TB) :: ([] : List LSh)
def balX (l : List Int) : Bool × Int × Unit := if isM l 16 = true then (balF l, 0, ()) else (false, 2, ())
noncomputable def con30 : Con := mkC 30 [.d LI] [.bool, I64] (fun (l : List Int) => [small l]) (fun (l : List Int) => balX l)
noncomputable def g30 (x0 : List Int) : Option (Bool × Int × Unit) := gd (small x0) (gd ((16 : Int) ≤ (16 : Int)) (bif !isM x0 (16 : Int) then some ((false, (2 : Int), ()) : Bool × Int × Unit) else gd (isM x0 (16 : Int) = true) (some ((balF x0, (0 : Int), ()) : Bool × Int × Unit))))
noncomputable def g30_sh : List LSh := ([] : List LSh)
def allF (l : List Int) : Int := ((2 ^ l.length - 1 : Nat) : Int)
noncomputable def con84 : Con := mkC 84 [.d LI] [I64] (fun (l : List Int) => [l.length ≤ 16]) (fun (l : List Int) => (allF l, ()))
noncomputable def g84 (x0 : List Int) : Option (Int × Unit) := gd ((0 : Int) ≤ (↑(List.length x0) : Int)) (some ((wr IntKind.i64 (ishl IntKind.i64 (1 : Int) (↑(List.length x0) : Int) - (1 : Int)), ()) : Int × Unit))
noncomputable def g84_sh : List LSh := ([] : List LSh)
def normR (n h r : Nat) : Nat := if (r ^^^ h).testBit 0 = true then (r ^^^ h) ^^^ (2 ^ n - 1) else r ^^^ h
def normF (l : List Int) : List Int := l.map fun (r : Int) => (normR l.length (nx l 0) r.toNat : Int)
noncomputable def con72 : Con := mkC 72 [.d LI] [LI] (fun (l : List Int) => [isM l 16 = true]) (fun (l : List Int) => (normF l, ()))
noncomputable def g72 (x0 : List Int) : Option (List Int × Unit) := gd ((0 : Nat) = (0 : Nat)) (whileO (fun (d1 : Int × List Int × Unit) => bif ilt d1.1 (↑(List.length x0) : Int) then gd ((0 : Int) ≤ d1.1 ∧ d1.1 < (↑(List.length x0) : Int)) (gd ((0 : Int) ≤ (0 : Int) ∧ (0 : Int) < (↑(List.length x0) : Int)) (bif ieq (iand IntKind.i64 (ixor IntKind.i64 (List.getD x0 (Int.toNat d1.1) (0 : Int)) (List.getD x0 (0 : Nat) (0 : Int))) (1 : Int)) (1 : Int) then gd (List.length x0 ≤ (16 : Nat)) (gd (List.length d1.2.1 ≤ List.length d1.2.1) (gd ((List.length d1.2.1 + (1 : Nat)) * (8 : Nat) ≤ (1099511627776 : Nat)) (gd (List.length d1.2.1 + (1 : Nat) = List.length (List.take (List.length d1.2.1) d1.2.1 ++ ixor IntKind.i64 (ixor IntKind.i64 (List.getD x0 (Int.toNat d1.1) (0 : Int)) (List.getD x0 (0 : Nat) (0 : Int))) (allF x0) :: ([] : List Int))) (some (Lp.go ((wr IntKind.i64 (d1.1 + (1 : Int)), List.take (List.length d1.2.1) d1.2.1 ++ ixor IntKind.i64 (ixor IntKind.i64 (List.getD x0 (Int.toNat d1.1) (0 : Int)) (List.getD x0 (0 : Nat) (0 : Int))) (allF x0) :: ([] : List Int), ()) : Int × List Int × Unit)))))) else gd (List.length d1.2.1 ≤ List.length d1.2.1) (gd ((List.length d1.2.1 + (1 : Nat)) * (8 : Nat) ≤ (1099511627776 : Nat)) (gd (List.length d1.2.1 + (1 : Nat) = List.length (List.take (List.length d1.2.1) d1.2.1 ++ ixor IntKind.i64 (List.getD x0 (Int.toNat d1.1) (0 : Int)) (List.getD x0 (0 : Nat) (0 : Int)) :: ([] : List Int))) (some (Lp.go ((wr IntKind.i64 (d1.1 + (1 : Int)), List.take (List.length d1.2.1) d1.2.1 ++ ixor IntKind.i64 (List.getD x0 (Int.toNat d1.1) (0 : Int)) (List.getD x0 (0 : Nat) (0 : Int)) :: ([] : List Int), ()) : Int × List Int × Unit))))))) else gd ((0 : Nat) + List.length d1.2.1 ≤ List.length d1.2.1) (some (Lp.out ((List.take (List.length d1.2.1) (List.drop (0 : Nat) d1.2.1), ()) : List Int × Unit)))) (((0 : Int), ([] : List Int), ()) : Int × List Int × Unit))
noncomputable def g72_sh : List LSh := LSh.mk (((3, TV.slf (0) (1)) : Nat × TV) :: ((8, TV.v (Ty.int IntKind.i64)) : Nat × TV) :: ([] : List (Nat × TV))) (TB.arr (Ty.int IntKind.i64) true :: ([] : List TB)) :: ([] : List LSh)
def normX (l : List Int) : List Int × Int × Unit := if isM l 16 = true then (normF l, 0, ()) else ([], 2, ())
noncomputable def con31 : Con := mkC 31 [.d LI] [LI, I64] (fun (l : List Int) => [small l]) (fun (l : List Int) => normX l)
noncomputable def g31 (x0 : List Int) : Option (List Int × Int × Unit) := gd (small x0) (gd ((16 : Int) ≤ (16 : Int)) (bif !isM x0 (16 : Int) then some ((([] : List Int), (2 : Int), ()) : List Int × Int × Unit) else gd (isM x0 (16 : Int) = true) (some ((normF x0, (0 : Int), ()) : List Int × Int × Unit))))
noncomputable def g31_sh : List LSh := ([] : List LSh)
noncomputable def con32 : Con := mkC 32 [.d LI] [.bool] (fun (l : List Int) => [isM l 16 = true]) (fun (l : List Int) => (balF l, ()))
noncomputable def g32_l0 (x0 : List Int) (d1 d2 : Int × Unit) (d3 : Int × Int × Unit) : Option (Lp (Int × Int × Unit) (Lp (Int × Unit) (Lp (Int × Unit) (Bool × Unit)))) := bif ilt d3.2.1 (↑(List.length x0) : Int) then gd (okE x0 d1.1 d3.2.1) (gd (okE x0 d2.1 d3.2.1) (some (Lp.go ((wr IntKind.i64 (d3.1 + wr IntKind.i64 (atF x0 d1.1 d3.2.1 * atF x0 d2.1 d3.2.1)), wr IntKind.i64 (d3.2.1 + (1 : Int)), ()) : Int × Int × Unit)))) else bif !ieq d3.1 (0 : Int) then some (Lp.out (Lp.out (Lp.out ((false, ()) : Bool × Unit)))) else some (Lp.out (Lp.go ((wr IntKind.i64 (d2.1 + (1 : Int)), ()) : Int × Unit)))
noncomputable def g32_l1 (x0 : List Int) (d1 d2 : Int × Unit) : Option (Lp (Int × Unit) (Lp (Int × Unit) (Bool × Unit))) := bif ilt d2.1 d1.1 then whileO (g32_l0 x0 d1 d2) (((0 : Int), (0 : Int), ()) : Int × Int × Unit) else some (Lp.out (Lp.go ((wr IntKind.i64 (d1.1 + (1 : Int)), ()) : Int × Unit)))
noncomputable def g32 (x0 : List Int) : Option (Bool × Unit) := whileO (fun (d1 : Int × Unit) => bif ilt d1.1 (↑(List.length x0) : Int) then whileO (g32_l1 x0 d1) (((0 : Int), ()) : Int × Unit) else some (Lp.out ((true, ()) : Bool × Unit))) (((0 : Int), ()) : Int × Unit)
noncomputable def g32_sh : List LSh := LSh.mk (((9, TV.v (Ty.int IntKind.i64)) : Nat × TV) :: ([] : List (Nat × TV))) ([] : List TB) :: LSh.mk (((13, TV.v (Ty.int IntKind.i64)) : Nat × TV) :: ([] : List (Nat × TV))) ([] : List TB) :: LSh.mk (((5, TV.v (Ty.int IntKind.i64)) : Nat × TV) :: ((18, TV.v (Ty.int IntKind.i64)) : Nat × TV) :: ([] : List (Nat × TV))) ([] : List TB) :: ([] : List LSh)
noncomputable def con33 : Con := mkC 33 [.d LI] [LI] (fun (l : List Int) => [isM l 16 = true]) (fun (l : List Int) => (normF l, ()))
noncomputable def g33_l0 (x0 : List Int) (d1 d2 : Int × List Int × Unit) : Option (Lp (Int × List Int × Unit) (Lp (Int × List Int × Unit) (List Int × Unit))) := bif ilt d2.1 (↑(List.length x0) : Int) then gd (okE x0 d1.1 d2.1) (gd (okE x0 (0 : Int) d2.1) (gd (okE x0 d1.1 (0 : Int)) (gd (okE x0 (0 : Int) (0 : Int)) (gd (List.length d2.2.1 = List.length d2.2.1) (gd (okE d2.2.1 d1.1 d2.1) (gd (List.length d2.2.1 = List.length (putF d2.2.1 d1.1 d2.1 (wr IntKind.i64 (wr IntKind.i64 (wr IntKind.i64 (atF x0 d1.1 d2.1 * atF x0 (0 : Int) d2.1) * atF x0 d1.1 (0 : Int)) * atF x0 (0 : Int) (0 : Int))))) (some (Lp.go ((wr IntKind.i64 (d2.1 + (1 : Int)), putF d2.2.1 d1.1 d2.1 (wr IntKind.i64 (wr IntKind.i64 (wr IntKind.i64 (atF x0 d1.1 d2.1 * atF x0 (0 : Int) d2.1) * atF x0 d1.1 (0 : Int)) * atF x0 (0 : Int) (0 : Int))), ()) : Int × List Int × Unit))))))))) else gd (List.length d2.2.1 = List.length d2.2.1) (some (Lp.out (Lp.go ((wr IntKind.i64 (d1.1 + (1 : Int)), d2.2.1, ()) : Int × List Int × Unit))))
noncomputable def g33 (x0 : List Int) : Option (List Int × Unit) := gd ((0 : Int) ≤ (↑(List.length x0) : Int) ∧ (↑(List.length x0) : Int) ≤ (↑(List.length x0) : Int) ∧ (↑(List.length x0) : Int) * (8 : Int) ≤ (1099511627776 : Int)) (gd (List.length x0 = List.length (List.replicate (List.length x0) (0 : Int))) (whileO (fun (d1 : Int × List Int × Unit) => bif ilt d1.1 (↑(List.length x0) : Int) then gd (List.length d1.2.1 = List.length d1.2.1) (whileO (g33_l0 x0 d1) (((0 : Int), d1.2.1, ()) : Int × List Int × Unit)) else gd ((0 : Nat) + List.length d1.2.1 ≤ List.length d1.2.1) (some (Lp.out ((List.take (List.length d1.2.1) (List.drop (0 : Nat) d1.2.1), ()) : List Int × Unit)))) (((0 : Int), List.replicate (List.length x0) (0 : Int), ()) : Int × List Int × Unit)))
noncomputable def g33_sh : List LSh := LSh.mk (((3, TV.slf (0) (1)) : Nat × TV) :: ((11, TV.v (Ty.int IntKind.i64)) : Nat × TV) :: ([] : List (Nat × TV))) (TB.arr (Ty.int IntKind.i64) true :: ([] : List TB)) :: LSh.mk (((3, TV.slf (0) (1)) : Nat × TV) :: ((16, TV.v (Ty.int IntKind.i64)) : Nat × TV) :: ([] : List (Nat × TV))) (TB.arr (Ty.int IntKind.i64) true :: ([] : List TB)) :: ([] : List LSh)
noncomputable def con5 : Con := mkC 5 [.d LI] [.bool] (fun (l : List Int) => [small l]) (fun (l : List Int) => (true, ()))
noncomputable def g5 (x0 : List Int) : Option (Bool × Unit) := gd (small (List.take (20 : Nat) x0)) (gd (small (List.take (20 : Nat) x0)) (gd (small x0) (gd ((16 : Int) ≤ (16 : Int)) (bif !isM x0 (16 : Int) then gd ((!(balX (List.take (20 : Nat) x0)).1) = true → (!(balX (List.take (20 : Nat) x0)).1) = true) (gd ((!(balX (List.take (20 : Nat) x0)).1) = true → (!(balX (List.take (20 : Nat) x0)).1) = true) (gd ((!(balX (List.take (20 : Nat) x0)).1) = true → (!(balX (List.take (20 : Nat) x0)).1) = true) (gd ((bif !(balX (List.take (20 : Nat) x0)).1 then ieq (↑(List.length (normX (List.take (20 : Nat) x0)).1) : Int) (0 : Int) else false) = true → (bif !(balX (List.take (20 : Nat) x0)).1 then ieq (↑(List.length (normX (List.take (20 : Nat) x0)).1) : Int) (0 : Int) else false) = true) (gd ((bif !(balX (List.take (20 : Nat) x0)).1 then ieq (↑(List.length (normX (List.take (20 : Nat) x0)).1) : Int) (0 : Int) else false) = true → (bif !(balX (List.take (20 : Nat) x0)).1 then ieq (↑(List.length (normX (List.take (20 : Nat) x0)).1) : Int) (0 : Int) else false) = true) (gd ((bif bif !(balX (List.take (20 : Nat) x0)).1 then ieq (↑(List.length (normX (List.take (20 : Nat) x0)).1) : Int) (0 : Int) else false then ieq (balX (List.take (20 : Nat) x0)).2.1 (2 : Int) else false) = true → (bif bif !(balX (List.take (20 : Nat) x0)).1 then ieq (↑(List.length (normX (List.take (20 : Nat) x0)).1) : Int) (0 : Int) else false then ieq (balX (List.take (20 : Nat) x0)).2.1 (2 : Int) else false) = true) (gd ((bif bif !(balX (List.take (20 : Nat) x0)).1 then ieq (↑(List.length (normX (List.take (20 : Nat) x0)).1) : Int) (0 : Int) else false then ieq (balX (List.take (20 : Nat) x0)).2.1 (2 : Int) else false) = true → (bif bif !(balX (List.take (20 : Nat) x0)).1 then ieq (↑(List.length (normX (List.take (20 : Nat) x0)).1) : Int) (0 : Int) else false then ieq (balX (List.take (20 : Nat) x0)).2.1 (2 : Int) else false) = true) (gd ((bif bif bif !(balX (List.take (20 : Nat) x0)).1 then ieq (↑(List.length (normX (List.take (20 : Nat) x0)).1) : Int) (0 : Int) else false then ieq (balX (List.take (20 : Nat) x0)).2.1 (2 : Int) else false then ieq (normX (List.take (20 : Nat) x0)).2.1 (2 : Int) else false) = true → (bif bif bif !(balX (List.take (20 : Nat) x0)).1 then ieq (↑(List.length (normX (List.take (20 : Nat) x0)).1) : Int) (0 : Int) else false then ieq (balX (List.take (20 : Nat) x0)).2.1 (2 : Int) else false then ieq (normX (List.take (20 : Nat) x0)).2.1 (2 : Int) else false) = true) (some ((bif bif bif bif !(balX (List.take (20 : Nat) x0)).1 then ieq (↑(List.length (normX (List.take (20 : Nat) x0)).1) : Int) (0 : Int) else false then ieq (balX (List.take (20 : Nat) x0)).2.1 (2 : Int) else false then ieq (normX (List.take (20 : Nat) x0)).2.1 (2 : Int) else false then true else false, ()) : Bool × Unit))))))))) else gd (isM x0 (16 : Int) = true) (gd (beqB (balX (List.take (20 : Nat) x0)).1 (balF x0) = true → beqB (balX (List.take (20 : Nat) x0)).1 (balF x0) = true ∧ isM x0 (16 : Int) = true) (gd (beqB (balX (List.take (20 : Nat) x0)).1 (balF x0) = true → beqB (balX (List.take (20 : Nat) x0)).1 (balF x0) = true ∧ beqB (balX (List.take (20 : Nat) x0)).1 (balF x0) = true ∧ small (normX (List.take (20 : Nat) x0)).1 ∧ small (normF x0)) (gd (beqB (balX (List.take (20 : Nat) x0)).1 (balF x0) = true → beqB (balX (List.take (20 : Nat) x0)).1 (balF x0) = true) (gd ((bif beqB (balX (List.take (20 : Nat) x0)).1 (balF x0) then eqLf ieq (normX (List.take (20 : Nat) x0)).1 (normF x0) else false) = true → (bif beqB (balX (List.take (20 : Nat) x0)).1 (balF x0) then eqLf ieq (normX (List.take (20 : Nat) x0)).1 (normF x0) else false) = true) (gd ((bif beqB (balX (List.take (20 : Nat) x0)).1 (balF x0) then eqLf ieq (normX (List.take (20 : Nat) x0)).1 (normF x0) else false) = true → (bif beqB (balX (List.take (20 : Nat) x0)).1 (balF x0) then eqLf ieq (normX (List.take (20 : Nat) x0)).1 (normF x0) else false) = true) (gd ((bif bif beqB (balX (List.take (20 : Nat) x0)).1 (balF x0) then eqLf ieq (normX (List.take (20 : Nat) x0)).1 (normF x0) else false then ieq (balX (List.take (20 : Nat) x0)).2.1 (0 : Int) else false) = true → (bif bif beqB (balX (List.take (20 : Nat) x0)).1 (balF x0) then eqLf ieq (normX (List.take (20 : Nat) x0)).1 (normF x0) else false then ieq (balX (List.take (20 : Nat) x0)).2.1 (0 : Int) else false) = true) (gd ((bif bif beqB (balX (List.take (20 : Nat) x0)).1 (balF x0) then eqLf ieq (normX (List.take (20 : Nat) x0)).1 (normF x0) else false then ieq (balX (List.take (20 : Nat) x0)).2.1 (0 : Int) else false) = true → (bif bif beqB (balX (List.take (20 : Nat) x0)).1 (balF x0) then eqLf ieq (normX (List.take (20 : Nat) x0)).1 (normF x0) else false then ieq (balX (List.take (20 : Nat) x0)).2.1 (0 : Int) else false) = true) (gd ((bif bif bif beqB (balX (List.take (20 : Nat) x0)).1 (balF x0) then eqLf ieq (normX (List.take (20 : Nat) x0)).1 (normF x0) else false then ieq (balX (List.take (20 : Nat) x0)).2.1 (0 : Int) else false then ieq (normX (List.take (20 : Nat) x0)).2.1 (0 : Int) else false) = true → (bif bif bif beqB (balX (List.take (20 : Nat) x0)).1 (balF x0) then eqLf ieq (normX (List.take (20 : Nat) x0)).1 (normF x0) else false then ieq (balX (List.take (20 : Nat) x0)).2.1 (0 : Int) else false then ieq (normX (List.take (20 : Nat) x0)).2.1 (0 : Int) else false) = true) (some ((bif bif bif bif beqB (balX (List.take (20 : Nat) x0)).1 (balF x0) then eqLf ieq (normX (List.take (20 : Nat) x0)).1 (normF x0) else false then ieq (balX (List.take (20 : Nat) x0)).2.1 (0 : Int) else false then ieq (normX (List.take (20 : Nat) x0)).2.1 (0 : Int) else false then true else false, ()) : Bool × Unit))))))))))))))
noncomputable def g5_sh : List LSh := ([] : List LSh)
noncomputable def con69 : Con := mkC 69 [.d I64] [I64] (fun (x : Int) => []) (fun (x : Int) => (x, ()))
noncomputable def g69 (x0 : Int) : Option (Int × Unit) := some ((x0, ()) : Int × Unit)
noncomputable def g69_sh : List LSh := ([] : List LSh)
def idI (x : Int) : Int := x
def absI (x : Int) : Int := if x < 0 then -x else x
noncomputable def con70 : Con := mkC 70 [.d I64] [I64] (fun (x : Int) => [-100 ≤ x, x ≤ 100]) (fun (x : Int) => (absI x, ()))
noncomputable def g70 (x0 : Int) : Option (Int × Unit) := some ((imax x0 (wr IntKind.i64 ((0 : Int) - x0)), ()) : Int × Unit)
noncomputable def g70_sh : List LSh := ([] : List LSh)
/-- A choice of columns. -/
def okT (l : List Int) (t : Int) : Prop := 0 ≤ t ∧ t.toNat < 2 ^ l.length
/-- The sum of a row when the columns of t are turned. -/
def rowS (n r t : Nat) : Int := n - 2 * popN (r ^^^ t)
def sumG (g : Int → Int) (l : List Int) (t : Nat) : Nat → Int
  | 0 => 0
  | i + 1 => sumG g l t i + g (rowS l.length (nx l i) t)
noncomputable def con68a : Con := mkC 68 [.d LI, .d I64, .fn 69 []] [I64] (fun (l : List Int) (t : Int) => [isM l 16 = true, okT l t]) (fun (l : List Int) (t : Int) => (sumG idI l t.toNat l.length, ()))
noncomputable def g68a (x0 : List Int) (x1 : Int) : Option (Int × Unit) := whileO (fun (d2 : Int × Int × Unit) => bif ilt d2.2.1 (↑(List.length x0) : Int) then gd ((0 : Int) ≤ d2.2.1 ∧ d2.2.1 < (↑(List.length x0) : Int)) (gd (is16 (ixor IntKind.i64 (List.getD x0 (Int.toNat d2.2.1) (0 : Int)) x1)) (some (Lp.go ((wr IntKind.i64 (d2.1 + wr IntKind.i64 ((↑(List.length x0) : Int) - wr IntKind.i64 ((2 : Int) * pop (ixor IntKind.i64 (List.getD x0 (Int.toNat d2.2.1) (0 : Int)) x1)))), wr IntKind.i64 (d2.2.1 + (1 : Int)), ()) : Int × Int × Unit)))) else some (Lp.out ((d2.1, ()) : Int × Unit))) (((0 : Int), (0 : Int), ()) : Int × Int × Unit)
noncomputable def g68a_sh : List LSh := LSh.mk (((2, TV.fn (69) TV.nil) : Nat × TV) :: ((7, TV.v (Ty.int IntKind.i64)) : Nat × TV) :: ((12, TV.v (Ty.int IntKind.i64)) : Nat × TV) :: ([] : List (Nat × TV))) ([] : List TB) :: ([] : List LSh)
noncomputable def con68b : Con := mkC 68 [.d LI, .d I64, .fn 70 []] [I64] (fun (l : List Int) (t : Int) => [isM l 16 = true, okT l t]) (fun (l : List Int) (t : Int) => (sumG absI l t.toNat l.length, ()))
noncomputable def g68b (x0 : List Int) (x1 : Int) : Option (Int × Unit) := whileO (fun (d2 : Int × Int × Unit) => bif ilt d2.2.1 (↑(List.length x0) : Int) then gd ((0 : Int) ≤ d2.2.1 ∧ d2.2.1 < (↑(List.length x0) : Int)) (gd (is16 (ixor IntKind.i64 (List.getD x0 (Int.toNat d2.2.1) (0 : Int)) x1)) (gd ((-100 : Int) ≤ wr IntKind.i64 ((↑(List.length x0) : Int) - wr IntKind.i64 ((2 : Int) * pop (ixor IntKind.i64 (List.getD x0 (Int.toNat d2.2.1) (0 : Int)) x1)))) (gd (wr IntKind.i64 ((↑(List.length x0) : Int) - wr IntKind.i64 ((2 : Int) * pop (ixor IntKind.i64 (List.getD x0 (Int.toNat d2.2.1) (0 : Int)) x1))) ≤ (100 : Int)) (some (Lp.go ((wr IntKind.i64 (d2.1 + absI (wr IntKind.i64 ((↑(List.length x0) : Int) - wr IntKind.i64 ((2 : Int) * pop (ixor IntKind.i64 (List.getD x0 (Int.toNat d2.2.1) (0 : Int)) x1))))), wr IntKind.i64 (d2.2.1 + (1 : Int)), ()) : Int × Int × Unit)))))) else some (Lp.out ((d2.1, ()) : Int × Unit))) (((0 : Int), (0 : Int), ()) : Int × Int × Unit)
noncomputable def g68b_sh : List LSh := LSh.mk (((2, TV.fn (70) TV.nil) : Nat × TV) :: ((7, TV.v (Ty.int IntKind.i64)) : Nat × TV) :: ((12, TV.v (Ty.int IntKind.i64)) : Nat × TV) :: ([] : List (Nat × TV))) ([] : List TB) :: ([] : List LSh)
def sumX (l : List Int) : Int × Int × Unit := if isM l 16 = true then (sumG idI l 0 l.length, 0, ()) else (0, 2, ())
noncomputable def con26 : Con := mkC 26 [.d LI] [I64, I64] (fun (l : List Int) => [small l]) (fun (l : List Int) => sumX l)
noncomputable def g26 (x0 : List Int) : Option (Int × Int × Unit) := gd (small x0) (gd ((16 : Int) ≤ (16 : Int)) (bif !isM x0 (16 : Int) then some (((0 : Int), (2 : Int), ()) : Int × Int × Unit) else gd (isM x0 (16 : Int) = true) (gd (okT x0 (0 : Int)) (some ((sumG idI x0 (0 : Nat) (List.length x0), (0 : Int), ()) : Int × Int × Unit)))))
noncomputable def g26_sh : List LSh := ([] : List LSh)
def maxN (f : Nat → Int) : Nat → Int
  | 0 => 0
  | t + 1 => imax (maxN f t) (f t)
def bestF (l : List Int) : Int := maxN (fun t => sumG absI l t l.length) (2 ^ l.length)
def bestX (l : List Int) : Int × Int × Unit := if isM l 12 = true then (bestF l, 0, ()) else (0, 2, ())
noncomputable def con27 : Con := mkC 27 [.d LI] [I64, I64] (fun (l : List Int) => [small l]) (fun (l : List Int) => bestX l)
noncomputable def g27 (x0 : List Int) : Option (Int × Int × Unit) := gd (small x0) (gd ((12 : Int) ≤ (16 : Int)) (bif !isM x0 (12 : Int) then some (((0 : Int), (2 : Int), ()) : Int × Int × Unit) else gd ((0 : Int) ≤ (↑(List.length x0) : Int)) (whileO (fun (d1 : Int × Int × Unit) => bif ilt d1.2.1 (ishl IntKind.i64 (1 : Int) (↑(List.length x0) : Int)) then gd (isM x0 (16 : Int) = true) (gd (okT x0 d1.2.1) (some (Lp.go ((imax d1.1 (sumG absI x0 (Int.toNat d1.2.1) (List.length x0)), wr IntKind.i64 (d1.2.1 + (1 : Int)), ()) : Int × Int × Unit)))) else some (Lp.out ((d1.1, (0 : Int), ()) : Int × Int × Unit))) (((0 : Int), (0 : Int), ()) : Int × Int × Unit))))
noncomputable def g27_sh : List LSh := LSh.mk (((5, TV.v (Ty.int IntKind.i64)) : Nat × TV) :: ((14, TV.v (Ty.int IntKind.i64)) : Nat × TV) :: ([] : List (Nat × TV))) ([] : List TB) :: ([] : List LSh)
noncomputable def con28 : Con := mkC 28 [.d LI] [I64] (fun (l : List Int) => [isM l 16 = true]) (fun (l : List Int) => (sumG idI l 0 l.length, ()))
noncomputable def g28_l0 (x0 : List Int) (d1 d2 : Int × Int × Unit) : Option (Lp (Int × Int × Unit) (Lp (Int × Int × Unit) (Int × Unit))) := bif ilt d2.2.1 (↑(List.length x0) : Int) then gd (okE x0 d1.2.1 d2.2.1) (some (Lp.go ((wr IntKind.i64 (d2.1 + atF x0 d1.2.1 d2.2.1), wr IntKind.i64 (d2.2.1 + (1 : Int)), ()) : Int × Int × Unit))) else some (Lp.out (Lp.go ((d2.1, wr IntKind.i64 (d1.2.1 + (1 : Int)), ()) : Int × Int × Unit)))
noncomputable def g28 (x0 : List Int) : Option (Int × Unit) := whileO (fun (d1 : Int × Int × Unit) => bif ilt d1.2.1 (↑(List.length x0) : Int) then whileO (g28_l0 x0 d1) ((d1.1, (0 : Int), ()) : Int × Int × Unit) else some (Lp.out ((d1.1, ()) : Int × Unit))) (((0 : Int), (0 : Int), ()) : Int × Int × Unit)
noncomputable def g28_sh : List LSh := LSh.mk (((3, TV.v (Ty.int IntKind.i64)) : Nat × TV) :: ((8, TV.v (Ty.int IntKind.i64)) : Nat × TV) :: ([] : List (Nat × TV))) ([] : List TB) :: LSh.mk (((3, TV.v (Ty.int IntKind.i64)) : Nat × TV) :: ((13, TV.v (Ty.int IntKind.i64)) : Nat × TV) :: ([] : List (Nat × TV))) ([] : List TB) :: ([] : List LSh)
noncomputable def con29 : Con := mkC 29 [.d LI] [I64] (fun (l : List Int) => [isM l 12 = true]) (fun (l : List Int) => (bestF l, ()))
noncomputable def g29_l0 (x0 : List Int) (d1 d2 d3 : Int × Int × Unit) : Option (Lp (Int × Int × Unit) (Lp (Int × Int × Unit) (Lp (Int × Int × Unit) (Int × Unit)))) := bif ilt d3.2.1 (↑(List.length x0) : Int) then gd (okE x0 d3.2.1 d2.2.1) (gd ((0 : Int) ≤ d3.2.1) (some (Lp.go ((wr IntKind.i64 (d3.1 + wr IntKind.i64 (atF x0 d3.2.1 d2.2.1 * wr IntKind.i64 ((1 : Int) - wr IntKind.i64 ((2 : Int) * iand IntKind.i64 (ishr IntKind.i64 d1.2.1 d3.2.1) (1 : Int))))), wr IntKind.i64 (d3.2.1 + (1 : Int)), ()) : Int × Int × Unit)))) else some (Lp.out (Lp.go ((wr IntKind.i64 (d2.1 + imax d3.1 (wr IntKind.i64 ((0 : Int) - d3.1))), wr IntKind.i64 (d2.2.1 + (1 : Int)), ()) : Int × Int × Unit)))
noncomputable def g29_l1 (x0 : List Int) (d1 d2 : Int × Int × Unit) : Option (Lp (Int × Int × Unit) (Lp (Int × Int × Unit) (Int × Unit))) := bif ilt d2.2.1 (↑(List.length x0) : Int) then whileO (g29_l0 x0 d1 d2) (((0 : Int), (0 : Int), ()) : Int × Int × Unit) else some (Lp.out (Lp.go ((imax d1.1 d2.1, wr IntKind.i64 (d1.2.1 + (1 : Int)), ()) : Int × Int × Unit)))
noncomputable def g29 (x0 : List Int) : Option (Int × Unit) := gd ((0 : Int) ≤ (↑(List.length x0) : Int)) (whileO (fun (d1 : Int × Int × Unit) => bif ilt d1.2.1 (ishl IntKind.i64 (1 : Int) (↑(List.length x0) : Int)) then whileO (g29_l1 x0 d1) (((0 : Int), (0 : Int), ()) : Int × Int × Unit) else some (Lp.out ((d1.1, ()) : Int × Unit))) (((0 : Int), (0 : Int), ()) : Int × Int × Unit))
noncomputable def g29_sh : List LSh := LSh.mk (((3, TV.v (Ty.int IntKind.i64)) : Nat × TV) :: ((12, TV.v (Ty.int IntKind.i64)) : Nat × TV) :: ([] : List (Nat × TV))) ([] : List TB) :: LSh.mk (((5, TV.v (Ty.int IntKind.i64)) : Nat × TV) :: ((17, TV.v (Ty.int IntKind.i64)) : Nat × TV) :: ([] : List (Nat × TV))) ([] : List TB) :: LSh.mk (((7, TV.v (Ty.int IntKind.i64)) : Nat × TV) :: ((22, TV.v (Ty.int IntKind.i64)) : Nat × TV) :: ([] : List (Nat × TV))) ([] : List TB) :: ([] : List LSh)
noncomputable def con4 : Con := mkC 4 [.d LI] [.bool] (fun (l : List Int) => [small l]) (fun (l : List Int) => (true, ()))
noncomputable def g4 (x0 : List Int) : Option (Bool × Unit) := gd (small (List.take (20 : Nat) x0)) (gd (small (List.take (20 : Nat) x0)) (gd (small x0) (gd ((16 : Int) ≤ (16 : Int)) (bif !isM x0 (16 : Int) then gd (ieq (sumX (List.take (20 : Nat) x0)).1 (0 : Int) = true → ieq (sumX (List.take (20 : Nat) x0)).1 (0 : Int) = true) (gd (ieq (sumX (List.take (20 : Nat) x0)).1 (0 : Int) = true → ieq (sumX (List.take (20 : Nat) x0)).1 (0 : Int) = true) (gd ((bif ieq (sumX (List.take (20 : Nat) x0)).1 (0 : Int) then ieq (bestX (List.take (20 : Nat) x0)).1 (0 : Int) else false) = true → (bif ieq (sumX (List.take (20 : Nat) x0)).1 (0 : Int) then ieq (bestX (List.take (20 : Nat) x0)).1 (0 : Int) else false) = true) (gd ((bif ieq (sumX (List.take (20 : Nat) x0)).1 (0 : Int) then ieq (bestX (List.take (20 : Nat) x0)).1 (0 : Int) else false) = true → (bif ieq (sumX (List.take (20 : Nat) x0)).1 (0 : Int) then ieq (bestX (List.take (20 : Nat) x0)).1 (0 : Int) else false) = true) (gd ((bif bif ieq (sumX (List.take (20 : Nat) x0)).1 (0 : Int) then ieq (bestX (List.take (20 : Nat) x0)).1 (0 : Int) else false then ieq (sumX (List.take (20 : Nat) x0)).2.1 (2 : Int) else false) = true → (bif bif ieq (sumX (List.take (20 : Nat) x0)).1 (0 : Int) then ieq (bestX (List.take (20 : Nat) x0)).1 (0 : Int) else false then ieq (sumX (List.take (20 : Nat) x0)).2.1 (2 : Int) else false) = true) (gd ((bif bif ieq (sumX (List.take (20 : Nat) x0)).1 (0 : Int) then ieq (bestX (List.take (20 : Nat) x0)).1 (0 : Int) else false then ieq (sumX (List.take (20 : Nat) x0)).2.1 (2 : Int) else false) = true → (bif bif ieq (sumX (List.take (20 : Nat) x0)).1 (0 : Int) then ieq (bestX (List.take (20 : Nat) x0)).1 (0 : Int) else false then ieq (sumX (List.take (20 : Nat) x0)).2.1 (2 : Int) else false) = true) (gd ((bif bif bif ieq (sumX (List.take (20 : Nat) x0)).1 (0 : Int) then ieq (bestX (List.take (20 : Nat) x0)).1 (0 : Int) else false then ieq (sumX (List.take (20 : Nat) x0)).2.1 (2 : Int) else false then ieq (bestX (List.take (20 : Nat) x0)).2.1 (2 : Int) else false) = true → (bif bif bif ieq (sumX (List.take (20 : Nat) x0)).1 (0 : Int) then ieq (bestX (List.take (20 : Nat) x0)).1 (0 : Int) else false then ieq (sumX (List.take (20 : Nat) x0)).2.1 (2 : Int) else false then ieq (bestX (List.take (20 : Nat) x0)).2.1 (2 : Int) else false) = true) (some ((bif bif bif bif ieq (sumX (List.take (20 : Nat) x0)).1 (0 : Int) then ieq (bestX (List.take (20 : Nat) x0)).1 (0 : Int) else false then ieq (sumX (List.take (20 : Nat) x0)).2.1 (2 : Int) else false then ieq (bestX (List.take (20 : Nat) x0)).2.1 (2 : Int) else false then true else false, ()) : Bool × Unit)))))))) else gd (isM x0 (16 : Int) = true) (gd ((!!ieq (sumX (List.take (20 : Nat) x0)).1 (sumG idI x0 (0 : Nat) (List.length x0))) = true → (!!ieq (sumX (List.take (20 : Nat) x0)).1 (sumG idI x0 (0 : Nat) (List.length x0))) = true) (gd ((!ieq (sumX (List.take (20 : Nat) x0)).1 (sumG idI x0 (0 : Nat) (List.length x0))) = false → (!!ieq (sumX (List.take (20 : Nat) x0)).1 (sumG idI x0 (0 : Nat) (List.length x0))) = true) (gd ((!bif !ieq (sumX (List.take (20 : Nat) x0)).1 (sumG idI x0 (0 : Nat) (List.length x0)) then true else !ieq (sumX (List.take (20 : Nat) x0)).2.1 (0 : Int)) = true → (!bif !ieq (sumX (List.take (20 : Nat) x0)).1 (sumG idI x0 (0 : Nat) (List.length x0)) then true else !ieq (sumX (List.take (20 : Nat) x0)).2.1 (0 : Int)) = true) (gd ((bif !ieq (sumX (List.take (20 : Nat) x0)).1 (sumG idI x0 (0 : Nat) (List.length x0)) then true else !ieq (sumX (List.take (20 : Nat) x0)).2.1 (0 : Int)) = false → (!bif !ieq (sumX (List.take (20 : Nat) x0)).1 (sumG idI x0 (0 : Nat) (List.length x0)) then true else !ieq (sumX (List.take (20 : Nat) x0)).2.1 (0 : Int)) = true) (bif bif bif !ieq (sumX (List.take (20 : Nat) x0)).1 (sumG idI x0 (0 : Nat) (List.length x0)) then true else !ieq (sumX (List.take (20 : Nat) x0)).2.1 (0 : Int) then true else false then some ((false, ()) : Bool × Unit) else bif ilt (12 : Int) (↑(List.length x0) : Int) then gd (ieq (bestX (List.take (20 : Nat) x0)).1 (0 : Int) = true → ieq (bestX (List.take (20 : Nat) x0)).1 (0 : Int) = true) (gd (ieq (bestX (List.take (20 : Nat) x0)).1 (0 : Int) = true → ieq (bestX (List.take (20 : Nat) x0)).1 (0 : Int) = true) (some ((bif ieq (bestX (List.take (20 : Nat) x0)).1 (0 : Int) then ieq (bestX (List.take (20 : Nat) x0)).2.1 (2 : Int) else false, ()) : Bool × Unit))) else gd (isM x0 (12 : Int) = true) (gd (ieq (bestX (List.take (20 : Nat) x0)).1 (bestF x0) = true → ieq (bestX (List.take (20 : Nat) x0)).1 (bestF x0) = true) (gd (ieq (bestX (List.take (20 : Nat) x0)).1 (bestF x0) = true → ieq (bestX (List.take (20 : Nat) x0)).1 (bestF x0) = true) (some ((bif ieq (bestX (List.take (20 : Nat) x0)).1 (bestF x0) then ieq (bestX (List.take (20 : Nat) x0)).2.1 (0 : Int) else false, ()) : Bool × Unit)))))))))))))
noncomputable def g4_sh : List LSh := ([] : List LSh)



end Go.Signs

set_option linter.unusedVariables false
set_option linter.unusedSimpArgs false
namespace Go.Signs
open Go Go.Ab Go.Proofs

def sumN (f : Nat → Int) : Nat → Int
  | 0 => 0
  | n + 1 => sumN f n + f n
def sg (b : Bool) : Int := if b = true then -1 else 1

theorem sumN_congr {f g : Nat → Int} : ∀ {n : Nat}, (∀ i, i < n → f i = g i) → sumN f n = sumN g n
  | 0, _ => rfl
  | n + 1, h => by rw [sumN, sumN, sumN_congr fun i hi => h i (by omega), h n (by omega)]
theorem sumN_add {f g : Nat → Int} : ∀ {n : Nat}, sumN (fun i => f i + g i) n = sumN f n + sumN g n
  | 0 => rfl
  | n + 1 => by rw [sumN, sumN, sumN, sumN_add]; omega
theorem sumN_mul {f : Nat → Int} {c : Int} : ∀ {n : Nat}, sumN (fun i => c * f i) n = c * sumN f n
  | 0 => by simp [sumN]
  | n + 1 => by rw [sumN, sumN, sumN_mul, Int.mul_add]
theorem sumN_zero : ∀ {n : Nat}, sumN (fun _ => 0) n = 0
  | 0 => rfl
  | n + 1 => by rw [sumN, sumN_zero]; rfl
theorem sumN_swap {f : Nat → Nat → Int} {m : Nat} : ∀ {n : Nat}, sumN (fun i => sumN (fun j => f i j) m) n = sumN (fun j => sumN (fun i => f i j) n) m
  | 0 => by simp only [sumN, sumN_zero]
  | n + 1 => by simp only [sumN]; rw [sumN_swap, ← sumN_add]
theorem sumN_le {f g : Nat → Int} : ∀ {n : Nat}, (∀ i, i < n → f i ≤ g i) → sumN f n ≤ sumN g n
  | 0, _ => Int.le_refl _
  | n + 1, h => by
    have h1 := sumN_le (n := n) fun i hi => h i (by omega)
    have h2 := h n (by omega)
    rw [sumN, sumN]; omega
theorem sumN_bd {f : Nat → Int} {c : Int} : ∀ {n : Nat}, (∀ i, i < n → -c ≤ f i ∧ f i ≤ c) → -(n * c) ≤ sumN f n ∧ sumN f n ≤ n * c
  | 0, _ => by simp [sumN]
  | n + 1, h => by
    have h1 := sumN_bd (n := n) fun i hi => h i (by omega)
    have h2 := h n (by omega)
    have e : ((n + 1 : Nat) : Int) * c = n * c + c := by rw [Int.natCast_add, Int.add_mul]; simp
    rw [sumN, e]; omega

theorem sg_bd {b : Bool} : -1 ≤ sg b ∧ sg b ≤ 1 := by cases b <;> decide
theorem sg_xor {a b : Bool} : sg (xor a b) = sg a * sg b := by cases a <;> cases b <;> rfl
theorem sg_sq {a : Bool} : sg a * sg a = 1 := by cases a <;> rfl

/-- The signs of a row sum to what the number of its bits tells. -/
theorem sum_bits {x : Nat} : ∀ {n : Nat}, sumN (fun j => sg (x.testBit j)) n = n - 2 * (((List.range n).countP fun j => x.testBit j : Nat) : Int)
  | 0 => rfl
  | n + 1 => by
    rw [sumN, sum_bits, List.range_succ, List.countP_append, List.countP_singleton]
    cases x.testBit n <;> simp [sg] <;> omega
theorem count_all {x n : Nat} (h : x < 2 ^ n) : ∀ k, ((List.range (n + k)).countP fun j => x.testBit j) = (List.range n).countP fun j => x.testBit j
  | 0 => rfl
  | k + 1 => by
    have hf : x.testBit (n + k) = false := Nat.testBit_lt_two_pow (Nat.lt_of_lt_of_le h (Nat.pow_le_pow_right (by omega) (by omega)))
    rw [← Nat.add_assoc, List.range_succ, List.countP_append, List.countP_singleton, hf, count_all h k]
    rfl
theorem pop_count {x n : Nat} (hn : n ≤ 16) (h : x < 2 ^ n) : ((List.range n).countP fun j => x.testBit j) = popN x := by
  have := count_all h (16 - n)
  rw [show n + (16 - n) = 16 by omega] at this
  exact this.symm
theorem sum_pop {x n : Nat} (hn : n ≤ 16) (h : x < 2 ^ n) : sumN (fun j => sg (x.testBit j)) n = n - 2 * (popN x : Int) := by rw [sum_bits, pop_count hn h]
theorem pop_le {x n : Nat} (hn : n ≤ 16) (h : x < 2 ^ n) : popN x ≤ n := by
  rw [← pop_count hn h]
  exact Nat.le_trans (List.countP_le_length) (by simp)

theorem rowN_bit {g : Int → Bool} {i : Nat} : ∀ {n : Nat}, (rowN g n).testBit i = (decide (i < n) && g i)
  | 0 => by simp [rowN]
  | n + 1 => by
    rw [rowN]
    by_cases h : g n = true
    · rw [if_pos h, Nat.testBit_or, rowN_bit, Nat.testBit_two_pow]
      by_cases h1 : i < n
      · simp [h1, show i < n + 1 by omega, show n ≠ i by omega]
      · by_cases h2 : i = n
        · subst h2; simp [h]
        · simp [h1, show ¬ i < n + 1 by omega, show n ≠ i by omega]
    · rw [if_neg h, rowN_bit]
      by_cases h1 : i < n
      · simp [h1, show i < n + 1 by omega]
      · by_cases h2 : i = n
        · subst h2; simp [h]
        · simp [h1, show ¬ i < n + 1 by omega]
theorem rowN_eq {g : Int → Bool} {x n : Nat} (hx : x < 2 ^ n) (h : ∀ j, j < n → g j = x.testBit j) : rowN g n = x := by
  refine Nat.eq_of_testBit_eq fun i => ?_
  rw [rowN_bit]
  by_cases hi : i < n
  · simp [hi, h i hi]
  · rw [decide_eq_false hi, Bool.false_and, Nat.testBit_lt_two_pow (Nat.lt_of_lt_of_le hx (Nat.pow_le_pow_right (by omega) (by omega)))]

/-! ### Rows -/
section
variable {l : List Int} {m : Int}
theorem nx_get {i : Nat} (h : isM l m = true) (hi : i < l.length) : l.getD i 0 = (nx l i : Int) ∧ nx l i < 2 ^ l.length := by
  have := (isM_spec h).2.2 (l.getD i 0) (by rw [gd_at hi]; exact List.getElem_mem hi)
  have h5 : ((2 ^ l.length : Nat) : Int) = (2 : Int) ^ l.length := by rw [Int.natCast_pow]; rfl
  unfold nx
  omega
theorem len16 (hm : m ≤ 16) (h : isM l m = true) : l.length ≤ 16 ∧ 1 ≤ l.length := by
  obtain ⟨h1, h2, _⟩ := isM_spec h
  omega
theorem pow16 (hm : m ≤ 16) (h : isM l m = true) : 2 ^ l.length ≤ 65536 := pow_le16 (len16 hm h).1
theorem isF_nx {i j : Nat} (h : isM l m = true) (hi : i < l.length) : isF l i j = (nx l i).testBit j := by
  unfold isF bit
  rw [Int.toNat_natCast, (nx_get h hi).1, Int.toNat_natCast, Int.toNat_natCast]
theorem atF_nx {i j : Nat} (h : isM l m = true) (hi : i < l.length) : atF l i j = sg ((nx l i).testBit j) := by
  unfold atF sg
  rw [isF_nx h hi]
theorem okE_nx {i j : Nat} (hm : m ≤ 16) (h : isM l m = true) (hi : i < l.length) (hj : j < l.length) : okE l i j :=
  ⟨by omega, by omega, by omega, by have := (len16 hm h).1; omega, (isM_16 hm h).2⟩
theorem xor_lt {a b n : Nat} (ha : a < 2 ^ n) (hb : b < 2 ^ n) : a ^^^ b < 2 ^ n := Nat.xor_lt_two_pow ha hb
end

/-! ### The greatest sum -/
def absSum (e : Nat → Nat → Int) (n t : Nat) : Int := sumN (fun i => absI (sumN (fun j => e i j * sg (t.testBit j)) n)) n
theorem le_abs {x : Int} : x ≤ absI x ∧ -x ≤ absI x ∧ 0 ≤ absI x := by unfold absI; split <;> omega
theorem dual (e : Nat → Nat → Int) (n s : Nat) : ∃ t, t < 2 ^ n ∧ absSum (fun i j => e j i) n s ≤ absSum e n t := by
  refine ⟨rowN (fun j => decide (sumN (fun i => e i j.toNat * sg (s.testBit i)) n < 0)) n, rowN_lt, ?_⟩
  generalize ht : rowN (fun j => decide (sumN (fun i => e i j.toNat * sg (s.testBit i)) n < 0)) n = t
  have hb : ∀ j, j < n → t.testBit j = decide (sumN (fun i => e i j * sg (s.testBit i)) n < 0) := fun j hj => by
    rw [← ht, rowN_bit, decide_eq_true hj, Bool.true_and, Int.toNat_natCast]
  have h1 : absSum (fun i j => e j i) n s = sumN (fun j => sumN (fun i => sg (s.testBit i) * (e i j * sg (t.testBit j))) n) n := by
    unfold absSum
    refine sumN_congr fun j hj => ?_
    have : sumN (fun i => sg (s.testBit i) * (e i j * sg (t.testBit j))) n = sg (t.testBit j) * sumN (fun i => e i j * sg (s.testBit i)) n := by
      rw [← sumN_mul]
      refine sumN_congr fun i hi => ?_
      generalize sg (s.testBit i) = a
      generalize sg (t.testBit j) = b
      rw [Int.mul_comm a, Int.mul_assoc, Int.mul_comm b a, ← Int.mul_assoc, Int.mul_comm b]
    rw [this, hb j hj]
    generalize sumN (fun i => e i j * sg (s.testBit i)) n = x
    unfold absI sg
    by_cases hx : x < 0
    · rw [if_pos hx, decide_eq_true hx, if_pos rfl]; omega
    · rw [if_neg hx, decide_eq_false hx, if_neg (by simp)]; omega
  rw [h1, sumN_swap]
  unfold absSum
  refine sumN_le fun i hi => ?_
  rw [sumN_mul]
  generalize sumN (fun j => e i j * sg (t.testBit j)) n = x
  obtain ⟨a1, a2, a3⟩ := le_abs (x := x)
  unfold sg
  split <;> omega

theorem maxN_le {f : Nat → Int} {c : Int} (hc : 0 ≤ c) : ∀ {n : Nat}, (∀ t, t < n → f t ≤ c) → maxN f n ≤ c
  | 0, _ => hc
  | n + 1, h => by
    have h1 := maxN_le hc (n := n) fun t ht => h t (by omega)
    have h2 := h n (by omega)
    rw [maxN]; unfold imax; split <;> omega
theorem le_maxN {f : Nat → Int} : ∀ {n t : Nat}, t < n → f t ≤ maxN f n
  | n + 1, t, h => by
    rw [maxN]
    by_cases ht : t = n
    · subst ht; unfold imax; split <;> omega
    · have := le_maxN (f := f) (n := n) (t := t) (by omega)
      unfold imax; split <;> omega
theorem maxN_pos {f : Nat → Int} : ∀ {n : Nat}, 0 ≤ maxN f n
  | 0 => Int.le_refl _
  | n + 1 => by
    have := maxN_pos (f := f) (n := n)
    rw [maxN]; unfold imax; split <;> omega
theorem max_dual (e : Nat → Nat → Int) (n : Nat) : maxN (absSum (fun i j => e j i) n) (2 ^ n) = maxN (absSum e n) (2 ^ n) := by
  refine Int.le_antisymm (maxN_le maxN_pos fun s hs => ?_) (maxN_le maxN_pos fun s hs => ?_)
  · obtain ⟨t, ht, h⟩ := dual e n s
    exact Int.le_trans h (le_maxN ht)
  · obtain ⟨t, ht, h⟩ := dual (fun i j => e j i) n s
    exact Int.le_trans h (le_maxN ht)

end Go.Signs

set_option linter.unusedVariables false
set_option linter.unusedSimpArgs false
namespace Go.Signs
open Go Go.Ab Go.Proofs

theorem all_chk {n : Nat} {Q : Nat → Bool} : (List.range n).all Q = true ↔ ∀ i, 0 ≤ i → i < n → Q i = true := by
  rw [List.all_eq_true]
  exact ⟨fun h i _ hi => h i (List.mem_range.2 hi), fun h i hi => h i (Nat.zero_le _) (List.mem_range.1 hi)⟩

def balQ (l : List Int) (i k : Nat) : Bool := decide (2 * popN (nx l i ^^^ nx l k) = l.length)

theorem in71 {l : List Int} (h : isM l 16 = true) {i : Nat} (hi : i < l.length) : whileO (g71_l0 l (((i : Nat) : Int), ())) ((0 : Int), ()) = some (cond ((List.range i).all (balQ l i)) (.go ((((i + 1 : Nat) : Int), ()) : Int × Unit)) (.out ((false, ()) : Bool × Unit))) := by
  have h16 := len16 (by omega) h
  have hp := pow16 (by omega) h
  refine whileO_chk (st := fun k : Nat => ((k : Int), ())) (lo := 0) (hi := i) (Q := balQ l i) (x := Lp.out ((false, ()) : Bool × Unit)) (y := Lp.go ((((i + 1 : Nat) : Int), ()) : Int × Unit)) (by omega) all_chk (fun k _ hk => ?_) ?_
  · unfold g71_l0
    dsimp only
    have hl : (List.take ((i : Int).toNat) l).length = i := by rw [List.length_take, Int.toNat_natCast]; omega
    have hg : (List.take ((i : Int).toNat) l).getD k 0 = l.getD k 0 := by
      rw [gd_at (by rw [hl]; exact hk), gd_at (by omega), List.getElem_take]
    obtain ⟨a1, a2⟩ := nx_get h hi
    obtain ⟨b1, b2⟩ := nx_get h (i := k) (by omega)
    have hx := xor_lt a2 b2
    rw [hl]
    rw [Int.toNat_natCast (n := k), hg, Int.toNat_natCast (n := i), a1, b1, ixor_nat (by omega) (by omega)]
    rw [cond_t (ilt_iff.2 (by omega)), gd_pos (by omega), gd_pos (nat16 (by omega)), cast1 (by omega)]
    have hpl := pop_le h16.1 hx
    have hc : pop ((nx l i ^^^ nx l k : Nat) : Int) = (popN (nx l i ^^^ nx l k) : Int) := rfl
    rw [hc, wr_id (by omega)]
    unfold balQ
    by_cases hb : 2 * popN (nx l i ^^^ nx l k) = l.length
    · rw [ieq_iff.2 (by omega), decide_eq_true hb]; rfl
    · rw [ieq_false.2 (by omega), decide_eq_false hb]; rfl
  · unfold g71_l0
    dsimp only
    have hl : (List.take ((i : Int).toNat) l).length = i := by rw [List.length_take, Int.toNat_natCast]; omega
    rw [hl, cond_f (ilt_false.2 (by omega)), cast1 (by omega)]

theorem cond_eta {b : Bool} : (cond b ((true, ()) : Bool × Unit) (false, ())) = (b, ()) := by cases b <;> rfl

theorem goal71 : con71.goal Try.prog (spOf [con61]) g71_sh [] lm30 := by
  have e : (∀ (l : List Int), isM l 16 = true → g71 l = some (balF l, ())) = con71.goal Try.prog (spOf [con61]) g71_sh [] lm30 := by kernel_rfl
  rw [← e]
  intro l h
  have h16 := len16 (by omega) h
  unfold g71
  refine (whileO_chk (st := fun i : Nat => ((i : Int), ())) (lo := 0) (hi := l.length) (b := balF l) (Q := fun i => (List.range i).all (balQ l i)) (x := ((false, ()) : Bool × Unit)) (y := ((true, ()) : Bool × Unit)) (by omega) all_chk (fun i _ hi => ?_) ?_).trans (by rw [cond_eta])
  · simp only
    rw [cond_t (ilt_iff.2 (by omega)), gd_pos (by omega), gd_pos (by omega), in71 h hi]
  · simp only
    rw [cond_f (ilt_false.2 (by omega))]
set_option maxRecDepth 100000 in
theorem ok71 : con71.Ok Try.prog := Con.of_goal mixed (okC ok61 okN) con71 goal71

theorem goal30 : con30.goal Try.prog (spOf [con62, con71]) g30_sh [] lm30 := by
  have e : (∀ (l : List Int), small l → g30 l = some (balX l)) = con30.goal Try.prog (spOf [con62, con71]) g30_sh [] lm30 := by kernel_rfl
  rw [← e]
  intro l hs
  unfold g30 balX
  cases h : isM l 16 <;> simp [hs, gd_true]
set_option maxRecDepth 100000 in
theorem ok30 : con30.Ok Try.prog := Con.of_goal mixed (okC ok62 (okC ok71 okN)) con30 goal30

theorem goal84 : con84.goal Try.prog (spOf []) g84_sh [] lm30 := by
  have e : (∀ (l : List Int), l.length ≤ 16 → g84 l = some (allF l, ())) = con84.goal Try.prog (spOf []) g84_sh [] lm30 := by kernel_rfl
  rw [← e]
  intro l h
  have hp := pow_le16 h
  have h1 : 1 ≤ 2 ^ l.length := Nat.one_le_two_pow
  unfold g84 allF
  rw [ishl_one h, wr_id (by omega)]
  rw [gd_pos (by omega)]
  congr 2
  omega
set_option maxRecDepth 100000 in
theorem ok84 : con84.Ok Try.prog := Con.of_goal mixed okN con84 goal84

theorem norm_take {l : List Int} {i : Nat} (hi : i < l.length) : (normF l).take (i + 1) = (normF l).take i ++ [(normR l.length (nx l 0) (nx l i) : Int)] := by
  have hl : i < (normF l).length := by simp [normF]; exact hi
  rw [List.take_succ_eq_append_getElem hl]
  congr 2
  simp only [normF, List.getElem_map]
  unfold nx
  rw [gd_at hi]
theorem norm_len {l : List Int} : (normF l).length = l.length := by simp [normF]

theorem goal72 : con72.goal Try.prog (spOf [con84]) g72_sh [] lm30 := by
  have e : (∀ (l : List Int), isM l 16 = true → g72 l = some (normF l, ())) = con72.goal Try.prog (spOf [con84]) g72_sh [] lm30 := by kernel_rfl
  rw [← e]
  intro l h
  have h16 := len16 (by omega) h
  have hp := pow16 (by omega) h
  have h1 : 1 ≤ 2 ^ l.length := Nat.one_le_two_pow
  unfold g72
  rw [gd_pos rfl]
  refine whileO_nat (st := fun i => ((((i : Nat) : Int), (normF l).take i, ()) : Row)) (lo := 0) (hi := l.length) (by omega) (fun i _ hi => ?_) ?_
  · simp only
    obtain ⟨a1, a2⟩ := nx_get h hi
    obtain ⟨b1, b2⟩ := nx_get h (i := 0) (by omega)
    have hx := xor_lt a2 b2
    have hy := xor_lt hx (show 2 ^ l.length - 1 < 2 ^ l.length by omega)
    have hl : ((normF l).take i).length = i := by rw [List.length_take, norm_len]; omega
    have ht : List.take i ((normF l).take i) = (normF l).take i := by rw [List.take_take, Nat.min_self]
    have hand : iand .i64 ((nx l i ^^^ nx l 0 : Nat) : Int) 1 = (((nx l i ^^^ nx l 0) % 2 : Nat) : Int) := by
      rw [show (1 : Int) = ((1 : Nat) : Int) from rfl, iand_nat (by omega) (by omega), Nat.and_one_is_mod]
    rw [Int.toNat_natCast, a1, b1, ixor_nat (by omega) (by omega), hand, norm_take hi]
    rw [cond_t (ilt_iff.2 (by omega)), gd_pos (by omega), gd_pos (by omega)]
    simp only [hl, ht, Nat.le_refl, gd_true, List.length_append, List.length_singleton]
    unfold normR
    by_cases hb : (nx l i ^^^ nx l 0) % 2 = 1
    · have hb' : (nx l i ^^^ nx l 0).testBit 0 = true := by rw [Nat.testBit_zero]; exact decide_eq_true hb
      rw [cond_t (ieq_iff.2 (by omega)), gd_pos (by omega), gd_pos (by omega), if_pos hb', allF, ixor_nat (by omega) (by omega), cast1 (by omega)]
    · have hb' : ¬ (nx l i ^^^ nx l 0).testBit 0 = true := by rw [Nat.testBit_zero]; simpa using hb
      rw [cond_f (ieq_false.2 (by omega)), gd_pos (by omega), if_neg hb', cast1 (by omega)]
  · simp only
    have hl : (normF l).take l.length = normF l := by rw [List.take_of_length_le (by rw [norm_len]; omega)]
    rw [cond_f (ilt_false.2 (by omega)), gd_pos (by omega), take_all, hl]
set_option maxRecDepth 100000 in
theorem ok72 : con72.Ok Try.prog := Con.of_goal mixed (okC ok84 okN) con72 goal72

theorem goal31 : con31.goal Try.prog (spOf [con62, con72]) g31_sh [] lm30 := by
  have e : (∀ (l : List Int), small l → g31 l = some (normX l)) = con31.goal Try.prog (spOf [con62, con72]) g31_sh [] lm30 := by kernel_rfl
  rw [← e]
  intro l hs
  unfold g31 normX
  cases h : isM l 16 <;> simp [hs, gd_true]
set_option maxRecDepth 100000 in
theorem ok31 : con31.Ok Try.prog := Con.of_goal mixed (okC ok62 (okC ok72 okN)) con31 goal31

/-! ### The reference -/
theorem sg_mul_bd {a b : Bool} : -1 ≤ sg a * sg b ∧ sg a * sg b ≤ 1 := by cases a <;> cases b <;> decide

theorem in32a {l : List Int} (h : isM l 16 = true) {i k : Nat} (hi : i < l.length) (hk : k < i) : whileO (g32_l0 l (((i : Nat) : Int), ()) (((k : Nat) : Int), ())) ((0 : Int), (0 : Int), ()) = some (cond (balQ l i k) (.go ((((k + 1 : Nat) : Int), ()) : Int × Unit)) (.out (Lp.out ((false, ()) : Bool × Unit)))) := by
  have h16 := len16 (by omega) h
  have hbd : ∀ j : Nat, -(j * 1 : Int) ≤ sumN (fun j => sg ((nx l i).testBit j) * sg ((nx l k).testBit j)) j ∧ sumN (fun j => sg ((nx l i).testBit j) * sg ((nx l k).testBit j)) j ≤ (j : Int) * 1 := fun j => sumN_bd fun i _ => sg_mul_bd
  refine whileO_nat (st := fun j => ((sumN (fun j => sg ((nx l i).testBit j) * sg ((nx l k).testBit j)) j, ((j : Nat) : Int), ()) : Int × Int × Unit)) (lo := 0) (hi := l.length) (by omega) (fun j _ hj => ?_) ?_
  · unfold g32_l0
    dsimp only
    have b := hbd j
    have b' := sg_mul_bd (a := (nx l i).testBit j) (b := (nx l k).testBit j)
    rw [cond_t (ilt_iff.2 (by omega)), gd_pos (okE_nx (by omega) h hi hj), gd_pos (okE_nx (by omega) h (by omega) hj), atF_nx h hi, atF_nx h (by omega)]
    rw [wr_id (n := sg _ * sg _) (by omega), wr_id (n := sumN _ _ + _) (by omega), cast1 (by omega)]
    rfl
  · unfold g32_l0
    dsimp only
    have hx := xor_lt (nx_get h hi).2 (nx_get h (i := k) (by omega)).2
    have hs : sumN (fun j => sg ((nx l i).testBit j) * sg ((nx l k).testBit j)) l.length = l.length - 2 * (popN (nx l i ^^^ nx l k) : Int) := by
      rw [← sum_pop h16.1 hx]
      refine sumN_congr fun j _ => ?_
      rw [Nat.testBit_xor, sg_xor]
    rw [cond_f (ilt_false.2 (by omega)), hs, cast1 (by omega)]
    unfold balQ
    by_cases hb : 2 * popN (nx l i ^^^ nx l k) = l.length
    · rw [ieq_iff.2 (by omega), decide_eq_true hb]; rfl
    · rw [ieq_false.2 (by omega), decide_eq_false hb]; rfl

theorem in32b {l : List Int} (h : isM l 16 = true) {i : Nat} (hi : i < l.length) : whileO (g32_l1 l (((i : Nat) : Int), ())) ((0 : Int), ()) = some (cond ((List.range i).all (balQ l i)) (.go ((((i + 1 : Nat) : Int), ()) : Int × Unit)) (.out ((false, ()) : Bool × Unit))) := by
  have h16 := len16 (by omega) h
  refine whileO_chk (st := fun k : Nat => ((k : Int), ())) (lo := 0) (hi := i) (Q := balQ l i) (x := Lp.out ((false, ()) : Bool × Unit)) (y := Lp.go ((((i + 1 : Nat) : Int), ()) : Int × Unit)) (by omega) all_chk (fun k _ hk => ?_) ?_
  · unfold g32_l1
    dsimp only
    rw [cond_t (ilt_iff.2 (by omega)), in32a h hi hk]
  · unfold g32_l1
    dsimp only
    rw [cond_f (ilt_false.2 (by omega)), cast1 (by omega)]

theorem goal32 : con32.goal Try.prog (spOf [con67]) g32_sh [] lm30 := by
  have e : (∀ (l : List Int), isM l 16 = true → g32 l = some (balF l, ())) = con32.goal Try.prog (spOf [con67]) g32_sh [] lm30 := by kernel_rfl
  rw [← e]
  intro l h
  unfold g32
  refine (whileO_chk (st := fun i : Nat => ((i : Int), ())) (lo := 0) (hi := l.length) (b := balF l) (Q := fun i => (List.range i).all (balQ l i)) (x := ((false, ()) : Bool × Unit)) (y := ((true, ()) : Bool × Unit)) (by omega) all_chk (fun i _ hi => ?_) ?_).trans (by rw [cond_eta])
  · simp only
    rw [cond_t (ilt_iff.2 (by omega)), in32b h hi]
  · simp only
    rw [cond_f (ilt_false.2 (by omega))]
set_option maxRecDepth 100000 in
theorem ok32 : con32.Ok Try.prog := Con.of_goal mixed (okC ok67 okN) con32 goal32

def norB (l : List Int) (i j : Int) : Bool := (normR l.length (nx l 0) (nx l i.toNat)).testBit j.toNat
theorem norR_bit {n h r j : Nat} (hj : j < n) : (normR n h r).testBit j = xor ((r ^^^ h).testBit j) ((r ^^^ h).testBit 0) := by
  unfold normR
  by_cases h0 : (r ^^^ h).testBit 0 = true
  · rw [if_pos h0, Nat.testBit_xor, Nat.testBit_two_pow_sub_one, decide_eq_true hj, h0]
  · rw [if_neg h0]
    have : (r ^^^ h).testBit 0 = false := by simpa using h0
    rw [this, Bool.xor_false]
theorem norR_lt {n h r : Nat} (hh : h < 2 ^ n) (hr : r < 2 ^ n) : normR n h r < 2 ^ n := by
  have h1 := xor_lt hr hh
  unfold normR
  split
  · exact xor_lt h1 (by have := Nat.one_le_two_pow (n := n); omega)
  · exact h1
theorem nor_sgn {a b c d : Bool} : decide (wr .i64 (wr .i64 (wr .i64 (sg a * sg b) * sg c) * sg d) < 0) = xor (xor a b) (xor c d) := by
  cases a <;> cases b <;> cases c <;> cases d <;> decide

theorem in33 {l : List Int} (h : isM l 16 = true) {i : Nat} (hi : i < l.length) : whileO (g33_l0 l (((i : Int), partL l.length (norB l) i 0, ()) : Row)) (((0 : Int), partL l.length (norB l) i 0, ()) : Row) = some (.go ((((i + 1 : Nat) : Int), partL l.length (norB l) (i + 1) 0, ()) : Row)) := by
  have h16 := len16 (by omega) h
  refine whileO_nat (st := fun j => ((((j : Nat) : Int), partL l.length (norB l) i j, ()) : Row)) (lo := 0) (hi := l.length) (by omega) (fun j _ hj => ?_) ?_
  · unfold g33_l0
    dsimp only
    have h0 : 0 < l.length := by omega
    have e1 := okE_nx (by omega) h hi hj
    have e2 : okE l 0 j := okE_nx (i := 0) (by omega) h h0 hj
    have e3 : okE l i 0 := okE_nx (j := 0) (by omega) h hi h0
    have e4 : okE l 0 0 := okE_nx (i := 0) (j := 0) (by omega) h h0 h0
    have f2 : atF l 0 j = sg ((nx l 0).testBit j) := atF_nx (i := 0) h h0
    have f3 : atF l i 0 = sg ((nx l i).testBit 0) := atF_nx (j := 0) h hi
    have f4 : atF l 0 0 = sg ((nx l 0).testBit 0) := atF_nx (i := 0) (j := 0) h h0
    rw [cond_t (ilt_iff.2 (by omega)), gd_pos e1, gd_pos e2, gd_pos e3, gd_pos e4, gd_pos rfl, gd_pos (part_ok h16.1 hi hj), atF_nx h hi, f2, f3, f4]
    rw [part_put h16.1 hi hj (by
      rw [nor_sgn]
      unfold norB
      rw [Int.toNat_natCast, Int.toNat_natCast, norR_bit hj, Nat.testBit_xor, Nat.testBit_xor])]
    simp only [part_len, gd_true]
    rw [cast1 (by omega)]
  · unfold g33_l0
    dsimp only
    rw [cond_f (ilt_false.2 (by omega)), gd_pos rfl, part_next, cast1 (by omega)]

theorem nor_made {l : List Int} (h : isM l 16 = true) : madeF l.length (norB l) = normF l := by
  have h16 := len16 (by omega) h
  refine List.ext_getElem (by simp [madeF, normF]) fun i h1 h2 => ?_
  have hi : i < l.length := by simpa [madeF] using h1
  simp only [madeF, normF, List.getElem_map, List.getElem_range]
  have hr : nx l i = l[i].toNat := by unfold nx; rw [gd_at hi]
  rw [← hr]
  congr 1
  refine rowN_eq (norR_lt (nx_get h (by omega)).2 (nx_get h hi).2) fun j _ => ?_
  unfold norB
  rw [Int.toNat_natCast, Int.toNat_natCast]

theorem goal33 : con33.goal Try.prog (spS [con66] [con67]) g33_sh [] lm30 := by
  have e : (∀ (l : List Int), isM l 16 = true → g33 l = some (normF l, ())) = con33.goal Try.prog (spS [con66] [con67]) g33_sh [] lm30 := by kernel_rfl
  rw [← e]
  intro l h
  have h16 := len16 (by omega) h
  unfold g33
  rw [gd_pos (by omega), gd_pos (by simp), ← part_0 (f := norB l), ← nor_made h]
  refine whileO_nat (st := fun i => ((((i : Nat) : Int), partL l.length (norB l) i 0, ()) : Row)) (lo := 0) (hi := l.length) (by omega) (fun i _ hi => ?_) ?_
  · simp only
    rw [cond_t (ilt_iff.2 (by omega)), gd_true, in33 h hi]
  · simp only
    rw [cond_f (ilt_false.2 (by omega)), gd_pos (by omega), take_all, part_end]
set_option maxRecDepth 100000 in
theorem ok33 : con33.Ok Try.prog := Con.of_goalS mixed (okC ok67 okN) (okS ok66 okS0) con33 goal33

theorem goal5 : con5.goal Try.prog (spOf [con18, con30, con31, con23, con24, con32, con33, con20]) g5_sh [] lm30 := by
  have e : (∀ (l : List Int), small l → g5 l = some (true, ())) = con5.goal Try.prog (spOf [con18, con30, con31, con23, con24, con32, con33, con20]) g5_sh [] lm30 := by kernel_rfl
  rw [← e]
  intro l hs
  have ta : small (l.take 20) := small16 (by rw [List.length_take]; omega)
  have hq : ∀ l : List Int, eqLf ieq l l = true := fun l => (eqLf_iff (fun x y => ieq_iff)).2 rfl
  unfold g5
  rw [gd_pos ta, gd_pos ta, gd_pos hs, gd_pos (by omega)]
  cases h : isM l 16 with
  | true =>
    have h16 := len16 (by omega) h
    have e1 : l.take 20 = l := List.take_of_length_le (by omega)
    have hB : balX l = (balF l, 0, ()) := by rw [balX, if_pos h]
    have hN : normX l = (normF l, 0, ()) := by rw [normX, if_pos h]
    have hsn : small (normF l) := small16 (by rw [norm_len]; omega)
    simp [e1, h, hB, hN, hs, hsn, gd_true, hq, ieq_d, beqB]
  | false =>
    have h2 : isM (l.take 20) 16 = false := by rw [isM_take (by omega), h]
    have hB : balX (l.take 20) = (false, 2, ()) := by rw [balX, h2]; rfl
    have hN : normX (l.take 20) = ([], 2, ()) := by rw [normX, h2]; rfl
    simp [h, hB, hN, hs, gd_true, ieq_d]
set_option maxRecDepth 100000 in
theorem ok5 : con5.Ok Try.prog := Con.of_goal mixed (okC ok18 (okC ok30 (okC ok31 (okC ok23 (okC ok24 (okC ok32 (okC ok33 (okC ok20 okN)))))))) con5 goal5

end Go.Signs

set_option linter.unusedVariables false
set_option linter.unusedSimpArgs false
namespace Go.Signs
open Go Go.Ab Go.Proofs

theorem goal69 : con69.goal Try.prog (spOf []) g69_sh [] lm30 := by
  have e : (∀ (x : Int), g69 x = some (x, ())) = con69.goal Try.prog (spOf []) g69_sh [] lm30 := by kernel_rfl
  rw [← e]
  intro x
  rfl
set_option maxRecDepth 100000 in
theorem ok69 : con69.Ok Try.prog := Con.of_goal mixed okN con69 goal69

theorem imax_abs {x : Int} : imax x (-x) = absI x := by unfold imax absI; split <;> split <;> omega
theorem goal70 : con70.goal Try.prog (spOf []) g70_sh [] lm30 := by
  have e : (∀ (x : Int), -100 ≤ x → x ≤ 100 → g70 x = some (absI x, ())) = con70.goal Try.prog (spOf []) g70_sh [] lm30 := by kernel_rfl
  rw [← e]
  intro x h1 h2
  unfold g70
  rw [wr_id (by omega), Int.zero_sub, imax_abs]
set_option maxRecDepth 100000 in
theorem ok70 : con70.Ok Try.prog := Con.of_goal mixed okN con70 goal70

section
variable {l : List Int} {t : Nat}
theorem rowS_bd (h : isM l 16 = true) {i : Nat} (hi : i < l.length) (ht : t < 2 ^ l.length) : -16 ≤ rowS l.length (nx l i) t ∧ rowS l.length (nx l i) t ≤ 16 := by
  have h16 := len16 (by omega) h
  have := pop_le h16.1 (xor_lt (nx_get h hi).2 ht)
  unfold rowS
  omega
theorem sumG_bd {g : Int → Int} (hg : ∀ x, -16 ≤ x → x ≤ 16 → -16 ≤ g x ∧ g x ≤ 16) (h : isM l 16 = true) (ht : t < 2 ^ l.length) : ∀ i, i ≤ l.length → -(i * 16 : Int) ≤ sumG g l t i ∧ sumG g l t i ≤ i * 16
  | 0, _ => by simp [sumG]
  | i + 1, hi => by
    have h1 := sumG_bd hg h ht i (by omega)
    have h2 := rowS_bd h (i := i) (t := t) (by omega) ht
    have h3 := hg _ h2.1 h2.2
    rw [sumG]
    omega
end
theorem id_bd : ∀ x : Int, -16 ≤ x → x ≤ 16 → -16 ≤ idI x ∧ idI x ≤ 16 := fun x h1 h2 => ⟨h1, h2⟩
theorem abs_bd : ∀ x : Int, -16 ≤ x → x ≤ 16 → -16 ≤ absI x ∧ absI x ≤ 16 := fun x h1 h2 => by unfold absI; split <;> omega

theorem row_wr {l : List Int} {t i : Nat} (h : isM l 16 = true) (hi : i < l.length) (ht : t < 2 ^ l.length) :
    ixor .i64 (l.getD i 0) (t : Int) = ((nx l i ^^^ t : Nat) : Int) ∧ nx l i ^^^ t < 65536 ∧ wr .i64 ((l.length : Int) - wr .i64 (2 * pop ((nx l i ^^^ t : Nat) : Int))) = rowS l.length (nx l i) t := by
  have h16 := len16 (by omega) h
  have hp := pow16 (by omega) h
  obtain ⟨a1, a2⟩ := nx_get h hi
  have hx := xor_lt a2 ht
  have hpl := pop_le h16.1 hx
  have hc : pop ((nx l i ^^^ t : Nat) : Int) = (popN (nx l i ^^^ t) : Int) := rfl
  rw [a1, ixor_nat (by omega) (by omega), hc, wr_id (n := 2 * _) (by omega), wr_id (by omega)]
  exact ⟨rfl, by omega, rfl⟩

abbrev Two := Int × Int × Unit
theorem goal68a' {l : List Int} {t : Nat} (h : isM l 16 = true) (ht : t < 2 ^ l.length) : g68a l (t : Int) = some (sumG idI l t l.length, ()) := by
  have h16 := len16 (by omega) h
  unfold g68a
  refine whileO_nat (st := fun i => ((sumG idI l t i, ((i : Nat) : Int), ()) : Two)) (lo := 0) (hi := l.length) (by omega) (fun i _ hi => ?_) ?_
  · dsimp only
    obtain ⟨r1, r2, r3⟩ := row_wr h hi ht
    have b := sumG_bd id_bd h ht i (by omega)
    have b2 := rowS_bd h hi ht
    rw [cond_t (ilt_iff.2 (by omega)), gd_pos (by omega), Int.toNat_natCast, r1, gd_pos (nat16 r2), r3, wr_id (by omega), cast1 (by omega)]
    rfl
  · dsimp only
    rw [cond_f (ilt_false.2 (by omega))]
theorem goal68b' {l : List Int} {t : Nat} (h : isM l 16 = true) (ht : t < 2 ^ l.length) : g68b l (t : Int) = some (sumG absI l t l.length, ()) := by
  have h16 := len16 (by omega) h
  unfold g68b
  refine whileO_nat (st := fun i => ((sumG absI l t i, ((i : Nat) : Int), ()) : Two)) (lo := 0) (hi := l.length) (by omega) (fun i _ hi => ?_) ?_
  · dsimp only
    obtain ⟨r1, r2, r3⟩ := row_wr h hi ht
    have b := sumG_bd abs_bd h ht i (by omega)
    have b2 := rowS_bd h hi ht
    have b3 := abs_bd _ b2.1 b2.2
    rw [cond_t (ilt_iff.2 (by omega)), gd_pos (by omega), Int.toNat_natCast, r1, gd_pos (nat16 r2), r3, gd_pos (by omega), gd_pos (by omega), wr_id (by omega), cast1 (by omega)]
    rfl
  · dsimp only
    rw [cond_f (ilt_false.2 (by omega))]

theorem tpre {l : List Int} {t : Int} (h : okT l t) : ∃ n : Nat, t = n ∧ n < 2 ^ l.length := by
  obtain ⟨h1, h2⟩ := h
  exact ⟨t.toNat, by omega, h2⟩
theorem goal68a : con68a.goal Try.prog (spOf [con61, con69]) g68a_sh [] lm30 := by
  have e : (∀ (l : List Int) (t : Int), isM l 16 = true → okT l t → g68a l t = some (sumG idI l t.toNat l.length, ())) = con68a.goal Try.prog (spOf [con61, con69]) g68a_sh [] lm30 := by kernel_rfl
  rw [← e]
  intro l t h ht
  obtain ⟨t, rfl, ht'⟩ := tpre ht
  exact goal68a' h ht'
set_option maxRecDepth 100000 in
theorem ok68a : con68a.Ok Try.prog := Con.of_goal mixed (okC ok61 (okC ok69 okN)) con68a goal68a
theorem goal68b : con68b.goal Try.prog (spOf [con61, con70]) g68b_sh [] lm30 := by
  have e : (∀ (l : List Int) (t : Int), isM l 16 = true → okT l t → g68b l t = some (sumG absI l t.toNat l.length, ())) = con68b.goal Try.prog (spOf [con61, con70]) g68b_sh [] lm30 := by kernel_rfl
  rw [← e]
  intro l t h ht
  obtain ⟨t, rfl, ht'⟩ := tpre ht
  exact goal68b' h ht'
set_option maxRecDepth 100000 in
theorem ok68b : con68b.Ok Try.prog := Con.of_goal mixed (okC ok61 (okC ok70 okN)) con68b goal68b

theorem goal26 : con26.goal Try.prog (spOf [con62, con68a]) g26_sh [] lm30 := by
  have e : (∀ (l : List Int), small l → g26 l = some (sumX l)) = con26.goal Try.prog (spOf [con62, con68a]) g26_sh [] lm30 := by kernel_rfl
  rw [← e]
  intro l hs
  have h0 : okT l 0 := ⟨by omega, Nat.two_pow_pos _⟩
  unfold g26 sumX
  cases h : isM l 16 <;> simp [hs, h0, gd_true]
set_option maxRecDepth 100000 in
theorem ok26 : con26.Ok Try.prog := Con.of_goal mixed (okC ok62 (okC ok68a okN)) con26 goal26

theorem isM_12 {l : List Int} (h : isM l 12 = true) : isM l 16 = true ∧ l.length ≤ 12 := by
  obtain ⟨h1, h2, h3⟩ := isM_spec h
  refine ⟨?_, by omega⟩
  unfold isM at h ⊢
  simp only [Bool.and_eq_true, decide_eq_true_eq] at h ⊢
  exact ⟨⟨h.1.1, by omega⟩, h.2⟩

theorem maxN_bd {f : Nat → Int} {c : Int} : ∀ {n : Nat}, 0 ≤ c → (∀ t, t < n → f t ≤ c) → 0 ≤ maxN f n ∧ maxN f n ≤ c := fun hc h => ⟨maxN_pos, maxN_le hc h⟩

theorem goal27 : con27.goal Try.prog (spOf [con62, con68b]) g27_sh [] lm30 := by
  have e : (∀ (l : List Int), small l → g27 l = some (bestX l)) = con27.goal Try.prog (spOf [con62, con68b]) g27_sh [] lm30 := by kernel_rfl
  rw [← e]
  intro l hs
  unfold g27
  rw [gd_pos hs, gd_pos (by omega)]
  cases h : isM l 12 with
  | false => rw [bestX, h]; rfl
  | true =>
    obtain ⟨hM, h12⟩ := isM_12 h
    have hp : 2 ^ l.length ≤ 65536 := pow_le16 (by omega)
    rw [Bool.not_true, cond_f rfl, gd_pos (by omega), ishl_one (by omega), bestX, if_pos h, bestF]
    refine whileO_nat (st := fun t => ((maxN (fun t => sumG absI l t l.length) t, ((t : Nat) : Int), ()) : Two)) (lo := 0) (hi := 2 ^ l.length) (Nat.zero_le _) (fun t _ ht => ?_) ?_
    · dsimp only
      rw [cond_t (ilt_iff.2 (by omega)), gd_pos hM, gd_pos ⟨by omega, by simpa using ht⟩, Int.toNat_natCast, cast1 (by omega)]
      rfl
    · dsimp only
      rw [cond_f (ilt_false.2 (by omega))]
set_option maxRecDepth 100000 in
theorem ok27 : con27.Ok Try.prog := Con.of_goal mixed (okC ok62 (okC ok68b okN)) con27 goal27

/-! ### The reference -/
def ent (l : List Int) (i j : Nat) : Int := sg ((nx l i).testBit j)
theorem row_ent {l : List Int} (h : isM l 16 = true) {i t : Nat} (hi : i < l.length) (ht : t < 2 ^ l.length) : rowS l.length (nx l i) t = sumN (fun j => ent l i j * sg (t.testBit j)) l.length := by
  have h16 := len16 (by omega) h
  unfold rowS
  rw [← sum_pop h16.1 (xor_lt (nx_get h hi).2 ht)]
  refine sumN_congr fun j _ => ?_
  rw [Nat.testBit_xor, sg_xor]; rfl
theorem sumG_sumN {g : Int → Int} {l : List Int} {t : Nat} : ∀ n, sumG g l t n = sumN (fun i => g (rowS l.length (nx l i) t)) n
  | 0 => rfl
  | n + 1 => by rw [sumG, sumN, sumG_sumN]
theorem best_ent {l : List Int} (h : isM l 16 = true) {t : Nat} (ht : t < 2 ^ l.length) : sumG absI l t l.length = absSum (ent l) l.length t := by
  rw [sumG_sumN]
  exact sumN_congr fun i hi => by rw [row_ent h hi ht]

theorem in28 {l : List Int} (h : isM l 16 = true) {i : Nat} (hi : i < l.length) : whileO (g28_l0 l ((sumG idI l 0 i, ((i : Nat) : Int), ()) : Two)) ((sumG idI l 0 i, (0 : Int), ()) : Two) = some (.go ((sumG idI l 0 (i + 1), ((i + 1 : Nat) : Int), ()) : Two)) := by
  have h16 := len16 (by omega) h
  have b := sumG_bd id_bd h (t := 0) (Nat.two_pow_pos _) i (by omega)
  have hbd : ∀ j : Nat, -(j * 1 : Int) ≤ sumN (ent l i) j ∧ sumN (ent l i) j ≤ (j : Int) * 1 := fun j => sumN_bd fun j _ => sg_bd
  have hz : sumG idI l 0 i + sumN (ent l i) 0 = sumG idI l 0 i := by rw [sumN]; omega
  have := whileO_nat (step := g28_l0 l ((sumG idI l 0 i, ((i : Nat) : Int), ()) : Two)) (st := fun j => ((sumG idI l 0 i + sumN (ent l i) j, ((j : Nat) : Int), ()) : Two)) (lo := 0) (hi := l.length) (x := Lp.go ((sumG idI l 0 (i + 1), ((i + 1 : Nat) : Int), ()) : Two)) (by omega) (fun j _ hj => ?_) ?_
  · simp only [hz] at this
    exact this
  · unfold g28_l0
    dsimp only
    have b2 := hbd j
    have b3 : -1 ≤ sg ((nx l i).testBit j) ∧ sg ((nx l i).testBit j) ≤ 1 := sg_bd
    rw [cond_t (ilt_iff.2 (by omega)), gd_pos (okE_nx (by omega) h hi hj), atF_nx h hi, wr_id (by omega), cast1 (by omega), sumN, ← Int.add_assoc]
    rfl
  · unfold g28_l0
    dsimp only
    have hr := row_ent h hi (t := 0) (Nat.two_pow_pos _)
    have hs : sumN (fun j => ent l i j * sg ((0 : Nat).testBit j)) l.length = sumN (ent l i) l.length := sumN_congr fun j _ => by
      rw [Nat.zero_testBit]; exact Int.mul_one _
    rw [cond_f (ilt_false.2 (by omega)), cast1 (by omega), sumG, hr, hs]
    rfl

theorem goal28 : con28.goal Try.prog (spOf [con67]) g28_sh [] lm30 := by
  have e : (∀ (l : List Int), isM l 16 = true → g28 l = some (sumG idI l 0 l.length, ())) = con28.goal Try.prog (spOf [con67]) g28_sh [] lm30 := by kernel_rfl
  rw [← e]
  intro l h
  unfold g28
  refine whileO_nat (st := fun i => ((sumG idI l 0 i, ((i : Nat) : Int), ()) : Two)) (lo := 0) (hi := l.length) (by omega) (fun i _ hi => ?_) ?_
  · dsimp only
    rw [cond_t (ilt_iff.2 (by omega)), in28 h hi]
  · dsimp only
    rw [cond_f (ilt_false.2 (by omega))]
set_option maxRecDepth 100000 in
theorem ok28 : con28.Ok Try.prog := Con.of_goal mixed (okC ok67 okN) con28 goal28

theorem in29a {l : List Int} (h : isM l 16 = true) {s j : Nat} (hs : s < 65536) (hj : j < l.length) {A S : Int} (hS : 0 ≤ S ∧ S ≤ 1000) : whileO (g29_l0 l ((A, ((s : Nat) : Int), ()) : Two) ((S, ((j : Nat) : Int), ()) : Two)) (((0 : Int), (0 : Int), ()) : Two) =
    some (.go ((S + absI (sumN (fun i => ent l i j * sg (s.testBit i)) l.length), ((j + 1 : Nat) : Int), ()) : Two)) := by
  have h16 := len16 (by omega) h
  have hbd : ∀ n : Nat, -(n * 1 : Int) ≤ sumN (fun i => ent l i j * sg (s.testBit i)) n ∧ sumN (fun i => ent l i j * sg (s.testBit i)) n ≤ (n : Int) * 1 := fun n => sumN_bd fun i _ => sg_mul_bd
  refine whileO_nat (st := fun i => ((sumN (fun i => ent l i j * sg (s.testBit i)) i, ((i : Nat) : Int), ()) : Two)) (lo := 0) (hi := l.length) (by omega) (fun i _ hi => ?_) ?_
  · unfold g29_l0
    dsimp only
    have b2 := hbd i
    have b3 := sg_mul_bd (a := (nx l i).testBit j) (b := s.testBit i)
    have hb : wr .i64 (1 - wr .i64 (2 * iand .i64 (ishr .i64 (s : Int) (i : Int)) 1)) = sg (s.testBit i) := by
      rw [(bit_nat hs (by omega)).2]
      unfold bit
      rw [Int.toNat_natCast, Int.toNat_natCast]
      cases s.testBit i <;> rfl
    rw [cond_t (ilt_iff.2 (by omega)), gd_pos (okE_nx (by omega) h hi hj), gd_pos (by omega), hb, atF_nx h hi, wr_id (n := sg _ * sg _) (by omega), wr_id (by omega), cast1 (by omega)]
    rfl
  · unfold g29_l0
    dsimp only
    have b2 := hbd l.length
    generalize sumN (fun i => ent l i j * sg (s.testBit i)) l.length = x at b2
    have b3 : -16 ≤ absI x ∧ absI x ≤ 16 := abs_bd x (by omega) (by omega)
    have b4 := (le_abs (x := x)).2.2
    rw [cond_f (ilt_false.2 (by omega)), wr_id (n := 0 - x) (by omega), Int.zero_sub, imax_abs, wr_id (by omega), cast1 (by omega)]

theorem in29b {l : List Int} (h : isM l 16 = true) {s : Nat} (hs : s < 65536) {A : Int} : whileO (g29_l1 l ((A, ((s : Nat) : Int), ()) : Two)) (((0 : Int), (0 : Int), ()) : Two) = some (.go ((imax A (absSum (fun i j => ent l j i) l.length s), ((s + 1 : Nat) : Int), ()) : Two)) := by
  have h16 := len16 (by omega) h
  have hbd : ∀ n : Nat, 0 ≤ sumN (fun j => absI (sumN (fun i => ent l i j * sg (s.testBit i)) l.length)) n ∧ sumN (fun j => absI (sumN (fun i => ent l i j * sg (s.testBit i)) l.length)) n ≤ (n : Int) * 16 := fun n => by
    have hb : ∀ j, absI (sumN (fun i => ent l i j * sg (s.testBit i)) l.length) ≤ 16 := fun j => by
      have := sumN_bd (f := fun i => ent l i j * sg (s.testBit i)) (c := 1) (n := l.length) fun i _ => sg_mul_bd
      exact (abs_bd _ (by omega) (by omega)).2
    constructor
    · have := sumN_le (n := n) (f := fun _ => 0) (g := fun j => absI (sumN (fun i => ent l i j * sg (s.testBit i)) l.length)) fun j _ => le_abs.2.2
      rwa [sumN_zero] at this
    · exact (sumN_bd (c := 16) (n := n) fun j _ => ⟨by have := (le_abs (x := sumN (fun i => ent l i j * sg (s.testBit i)) l.length)).2.2; omega, hb j⟩).2
  refine whileO_nat (st := fun j => ((sumN (fun j => absI (sumN (fun i => ent l i j * sg (s.testBit i)) l.length)) j, ((j : Nat) : Int), ()) : Two)) (lo := 0) (hi := l.length) (by omega) (fun j _ hj => ?_) ?_
  · unfold g29_l1
    dsimp only
    have b := hbd j
    rw [cond_t (ilt_iff.2 (by omega)), in29a h hs hj (by omega)]
    rfl
  · unfold g29_l1
    dsimp only
    rw [cond_f (ilt_false.2 (by omega)), cast1 (by omega)]
    rfl

theorem goal29 : con29.goal Try.prog (spOf [con67]) g29_sh [] lm30 := by
  have e : (∀ (l : List Int), isM l 12 = true → g29 l = some (bestF l, ())) = con29.goal Try.prog (spOf [con67]) g29_sh [] lm30 := by kernel_rfl
  rw [← e]
  intro l h
  obtain ⟨hM, h12⟩ := isM_12 h
  have hp : 2 ^ l.length ≤ 65536 := pow_le16 (by omega)
  have hb : bestF l = maxN (absSum (fun i j => ent l j i) l.length) (2 ^ l.length) := by
    rw [max_dual]
    unfold bestF
    have : ∀ n, n ≤ 2 ^ l.length → maxN (fun t => sumG absI l t l.length) n = maxN (absSum (ent l) l.length) n := by
      intro n
      induction n with
      | zero => intro _; rfl
      | succ n ih => intro hn; rw [maxN, maxN, ih (by omega), best_ent hM (by omega)]
    exact this _ (Nat.le_refl _)
  rw [hb]
  unfold g29
  rw [gd_pos (by omega), ishl_one (by omega)]
  refine whileO_nat (st := fun s => ((maxN (absSum (fun i j => ent l j i) l.length) s, ((s : Nat) : Int), ()) : Two)) (lo := 0) (hi := 2 ^ l.length) (Nat.zero_le _) (fun s _ hs => ?_) ?_
  · dsimp only
    rw [cond_t (ilt_iff.2 (by omega)), in29b hM (by omega)]
    rfl
  · dsimp only
    rw [cond_f (ilt_false.2 (by omega))]
set_option maxRecDepth 100000 in
theorem ok29 : con29.Ok Try.prog := Con.of_goal mixed (okC ok67 okN) con29 goal29

theorem goal4 : con4.goal Try.prog (spOf [con18, con26, con27, con23, con24, con28, con29]) g4_sh [] lm30 := by
  have e : (∀ (l : List Int), small l → g4 l = some (true, ())) = con4.goal Try.prog (spOf [con18, con26, con27, con23, con24, con28, con29]) g4_sh [] lm30 := by kernel_rfl
  rw [← e]
  intro l hs
  have ta : small (l.take 20) := small16 (by rw [List.length_take]; omega)
  have i00 : ieq 0 0 = true := rfl
  have i22 : ieq 2 2 = true := rfl
  unfold g4
  rw [gd_pos ta, gd_pos ta, gd_pos hs, gd_pos (by omega)]
  have hB : bestX (l.take 20) = if isM l 12 = true then (bestF l, 0, ()) else (0, 2, ()) := by
    unfold bestX
    rw [isM_take (by omega)]
    by_cases h : isM l 12 = true
    · have := (isM_12 h).2
      rw [List.take_of_length_le (by omega)]
    · rw [if_neg h, if_neg h]
  cases h : isM l 16 with
  | true =>
    have h16 := len16 (by omega) h
    have e1 : l.take 20 = l := List.take_of_length_le (by omega)
    have hS : sumX (l.take 20) = (sumG idI l 0 l.length, 0, ()) := by rw [e1, sumX, if_pos h]
    by_cases h12 : (12 : Int) < l.length
    · have hn : isM l 12 = false := by
        rw [Bool.eq_false_iff]; intro hc; have := isM_len hc; omega
      rw [hn] at hB
      simp [h, hB, hS, hs, gd_true, ieq_d, ilt_iff.2 h12]
    · have hy : isM l 12 = true := by
        unfold isM at h ⊢
        simp only [Bool.and_eq_true, decide_eq_true_eq] at h ⊢
        exact ⟨⟨h.1.1, by omega⟩, h.2⟩
      rw [hy, if_pos rfl] at hB
      simp [h, hB, hS, hs, hy, gd_true, ieq_d, ilt_false.2 (Int.not_lt.1 h12)]
  | false =>
    have hn : isM l 12 = false := by
      rw [Bool.eq_false_iff]; intro hc; have := (isM_12 hc).1; rw [h] at this; cases this
    have h2 : isM (l.take 20) 16 = false := by rw [isM_take (by omega), h]
    have hS : sumX (l.take 20) = (0, 2, ()) := by rw [sumX, h2]; rfl
    rw [hn] at hB
    simp [h, hB, hS, hs, gd_true, ieq_d]
set_option maxRecDepth 100000 in
theorem ok4 : con4.Ok Try.prog := Con.of_goal mixed (okC ok18 (okC ok26 (okC ok27 (okC ok23 (okC ok24 (okC ok28 (okC ok29 okN))))))) con4 goal4

end Go.Signs
