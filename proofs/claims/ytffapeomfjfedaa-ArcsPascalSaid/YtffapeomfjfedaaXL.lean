/- The law Pascal: contracts. -/
import Derived.Test.YtffapeomfjfedaaXI
import Derived.Test.YtffapeomfjfedaaXE
set_option linter.unusedVariables false
set_option linter.unusedSimpArgs false
namespace Go.Arcs
open Go Go.Ab Go.Proofs

abbrev A6 : Ty := .prod I64 (.prod I64 (.prod I64 (.prod I64 (.prod I64 (.prod I64 .unit)))))
abbrev A6D := Int × Int × Int × Int × Int × Int × Unit
def powF (x : TripD) : A6D := (x.1 * x.1, x.2.1 * x.2.1, x.2.2.1 * x.2.2.1, x.1 * x.2.1, x.1 * x.2.2.1, x.2.1 * x.2.2.1, ())
noncomputable def con105 : Con := mkC 105 [.d Trip] [A6] (fun (x : TripD) => [inR 7 x]) (fun (x : TripD) => (powF x, ()))
noncomputable def g105 (x0 : Int × Int × Int × Unit) : Option ((Int × Int × Int × Int × Int × Int × Unit) × Unit) := gd ((0 : Nat) < (3 : Nat)) (gd ((0 : Nat) < (3 : Nat)) (gd ((1 : Nat) < (3 : Nat)) (gd ((1 : Nat) < (3 : Nat)) (gd ((2 : Nat) < (3 : Nat)) (gd ((2 : Nat) < (3 : Nat)) (gd ((0 : Nat) < (3 : Nat)) (gd ((1 : Nat) < (3 : Nat)) (gd ((0 : Nat) < (3 : Nat)) (gd ((2 : Nat) < (3 : Nat)) (gd ((1 : Nat) < (3 : Nat)) (gd ((2 : Nat) < (3 : Nat)) (gd ((6 : Nat) ≤ (6 : Nat)) (gd ((6 : Nat) ≤ (6 : Nat)) (some ((((wr IntKind.i64 (x0.1 * x0.1), wr IntKind.i64 (x0.2.1 * x0.2.1), wr IntKind.i64 (x0.2.2.1 * x0.2.2.1), wr IntKind.i64 (x0.1 * x0.2.1), wr IntKind.i64 (x0.1 * x0.2.2.1), wr IntKind.i64 (x0.2.1 * x0.2.2.1), ()) : Int × Int × Int × Int × Int × Int × Unit), ()) : (Int × Int × Int × Int × Int × Int × Unit) × Unit)))))))))))))))
noncomputable def g105_sh : List LSh := ([] : List LSh)
def inS (p : Int) (c : A6D) : Prop := (0 ≤ c.1 ∧ c.1 < p) ∧ (0 ≤ c.2.1 ∧ c.2.1 < p) ∧ (0 ≤ c.2.2.1 ∧ c.2.2.1 < p) ∧ (0 ≤ c.2.2.2.1 ∧ c.2.2.2.1 < p) ∧ (0 ≤ c.2.2.2.2.1 ∧ c.2.2.2.2.1 < p) ∧ (0 ≤ c.2.2.2.2.2.1 ∧ c.2.2.2.2.2.1 < p)
def quad (c : A6D) (x : TripD) : Int := c.1 * (x.1 * x.1) + c.2.1 * (x.2.1 * x.2.1) + c.2.2.1 * (x.2.2.1 * x.2.2.1) + c.2.2.2.1 * (x.1 * x.2.1) + c.2.2.2.2.1 * (x.1 * x.2.2.1) + c.2.2.2.2.2.1 * (x.2.1 * x.2.2.1)
noncomputable def onC (p : Int) (c : A6D) (a : Int) : Bool := ieq (quad c (pt p a) % p) 0
noncomputable def con103 : Con := mkC 103 [.d (.ptr Plane), .d A6, .d I64] [.bool] (fun (k : PlaneD) (c : A6D) (a : Int) => [isPl k, inS k.1 c, inPt k.1 a = true]) (fun (k : PlaneD) (c : A6D) (a : Int) => (onC k.1 c a, ()))
noncomputable def g103 (x0 : Int × List (Int × Int × Int × Unit) × List ((Int × Int × Int × Unit) × Int) × Unit) (x1 : Int × Int × Int × Int × Int × Int × Unit) (x2 : Int) : Option (Bool × Unit) := gd ((0 : Int) ≤ x2 ∧ x2 < (↑(List.length x0.2.1) : Int)) (gd (((0 : Int) ≤ (List.getD x0.2.1 (Int.toNat x2) (((0 : Int), (0 : Int), (0 : Int), ()) : Int × Int × Int × Unit)).1 ∧ (List.getD x0.2.1 (Int.toNat x2) (((0 : Int), (0 : Int), (0 : Int), ()) : Int × Int × Int × Unit)).1 < (7 : Int)) ∧ ((0 : Int) ≤ (List.getD x0.2.1 (Int.toNat x2) (((0 : Int), (0 : Int), (0 : Int), ()) : Int × Int × Int × Unit)).2.1 ∧ (List.getD x0.2.1 (Int.toNat x2) (((0 : Int), (0 : Int), (0 : Int), ()) : Int × Int × Int × Unit)).2.1 < (7 : Int)) ∧ (0 : Int) ≤ (List.getD x0.2.1 (Int.toNat x2) (((0 : Int), (0 : Int), (0 : Int), ()) : Int × Int × Int × Unit)).2.2.1 ∧ (List.getD x0.2.1 (Int.toNat x2) (((0 : Int), (0 : Int), (0 : Int), ()) : Int × Int × Int × Unit)).2.2.1 < (7 : Int)) (whileO (fun (d3 : Int × Int × List Int × Unit) => bif ilt d3.2.1 (6 : Int) then gd ((0 : Int) ≤ d3.2.1 ∧ d3.2.1 < (6 : Int)) (gd ((0 : Int) ≤ d3.2.1 ∧ d3.2.1 < (6 : Int)) (gd ((0 : Nat) + Int.toNat d3.2.1 * (1 : Nat) < List.length d3.2.2.1) (some (Lp.go ((wr IntKind.i64 (d3.1 + wr IntKind.i64 (List.getD d3.2.2.1 ((0 : Nat) + Int.toNat d3.2.1 * (1 : Nat)) (0 : Int) * (@id Int (arrGet (6 : Nat) (Ty.int IntKind.i64) (powF (List.getD x0.2.1 (Int.toNat x2) (((0 : Int), (0 : Int), (0 : Int), ()) : Int × Int × Int × Unit)) : A6D) (Int.toNat d3.2.1))))), wr IntKind.i64 (d3.2.1 + (1 : Int)), d3.2.2.1, ()) : Int × Int × List Int × Unit))))) else gd (x0.1 ≠ (0 : Int)) (some (Lp.out ((ieq (modF x0.1 d3.1) (0 : Int), ()) : Bool × Unit)))) (((0 : Int), (0 : Int), x1.1 :: x1.2.1 :: x1.2.2.1 :: x1.2.2.2.1 :: x1.2.2.2.2.1 :: x1.2.2.2.2.2.1 :: ([] : List Int), ()) : Int × Int × List Int × Unit)))
noncomputable def g103_sh : List LSh := LSh.mk (((4, TV.ref (0) (1 : Nat) (0 : Nat) (0 : Nat)) : Nat × TV) :: ((7, TV.v (Ty.int IntKind.i64)) : Nat × TV) :: ((18, TV.v (Ty.int IntKind.i64)) : Nat × TV) :: ([] : List (Nat × TV))) (TB.arr (Ty.int IntKind.i64) false :: ([] : List TB)) :: ([] : List LSh)
noncomputable def con100 : Con := mkC 100 [.d I64] [.bool] (fun (x : Int) => []) (fun (x : Int) => (!ieq x 0, ()))
noncomputable def g100 (x0 : Int) : Option (Bool × Unit) := some ((!ieq x0 (0 : Int), ()) : Bool × Unit)
noncomputable def g100_sh : List LSh := ([] : List LSh)
def nzI : List Int → Int → Int
  | [], _ => -1
  | x :: l, i => if x = 0 then nzI l (i + 1) else i
noncomputable def con99c : Con := mkC 99 [.d LI, .fn 100 []] [I64] (fun (l : List Int) => [small l]) (fun (l : List Int) => (nzI l 0, ()))
noncomputable def g99c (x0 : List Int) : Option (Int × Unit) := whileO (fun (d1 : Int × Unit) => bif ilt d1.1 (↑(List.length x0) : Int) then gd ((0 : Int) ≤ d1.1 ∧ d1.1 < (↑(List.length x0) : Int)) (bif !ieq (List.getD x0 (Int.toNat d1.1) (0 : Int)) (0 : Int) then some (Lp.out ((d1.1, ()) : Int × Unit)) else some (Lp.go ((wr IntKind.i64 (d1.1 + (1 : Int)), ()) : Int × Unit))) else some (Lp.out (((-1 : Int), ()) : Int × Unit))) (((0 : Int), ()) : Int × Unit)
noncomputable def g99c_sh : List LSh := LSh.mk (((1, TV.fn (100) TV.nil) : Nat × TV) :: ((8, TV.v (Ty.int IntKind.i64)) : Nat × TV) :: ([] : List (Nat × TV))) ([] : List TB) :: ([] : List LSh)
noncomputable def con101 : Con := mkC 101 [.d LI] [I64] (fun (l : List Int) => [l.length = 6]) (fun (l : List Int) => ((l.drop 1).foldl imin (l.getD 0 0), ()))
noncomputable def g101 (x0 : List Int) : Option (Int × Unit) := bif ilt (↑(List.length x0) : Int) (1 : Int) then gd False (gd False (gd ((0 : Int) ≤ (0 : Int) ∧ (0 : Int) < (↑(List.length x0) : Int)) (whileO (fun (d1 : Int × Int × Unit) => bif ilt d1.2.1 (↑(List.length x0) : Int) then gd ((0 : Int) ≤ d1.2.1 ∧ d1.2.1 < (↑(List.length x0) : Int)) (some (Lp.go ((imin d1.1 (List.getD x0 (Int.toNat d1.2.1) (0 : Int)), wr IntKind.i64 (d1.2.1 + (1 : Int)), ()) : Int × Int × Unit))) else some (Lp.out ((d1.1, ()) : Int × Unit))) ((List.getD x0 (0 : Nat) (0 : Int), (1 : Int), ()) : Int × Int × Unit)))) else gd ((0 : Int) ≤ (0 : Int) ∧ (0 : Int) < (↑(List.length x0) : Int)) (whileO (fun (d1 : Int × Int × Unit) => bif ilt d1.2.1 (↑(List.length x0) : Int) then gd ((0 : Int) ≤ d1.2.1 ∧ d1.2.1 < (↑(List.length x0) : Int)) (some (Lp.go ((imin d1.1 (List.getD x0 (Int.toNat d1.2.1) (0 : Int)), wr IntKind.i64 (d1.2.1 + (1 : Int)), ()) : Int × Int × Unit))) else some (Lp.out ((d1.1, ()) : Int × Unit))) ((List.getD x0 (0 : Nat) (0 : Int), (1 : Int), ()) : Int × Int × Unit))
noncomputable def g101_sh : List LSh := LSh.mk (((3, TV.v (Ty.int IntKind.i64)) : Nat × TV) :: ((4, TV.v (Ty.int IntKind.i64)) : Nat × TV) :: ([] : List (Nat × TV))) ([] : List TB) :: ([] : List LSh)
noncomputable def con102 : Con := mkC 102 [.d LI] [I64] (fun (l : List Int) => [l.length = 6]) (fun (l : List Int) => ((l.drop 1).foldl imax (l.getD 0 0), ()))
noncomputable def g102 (x0 : List Int) : Option (Int × Unit) := bif ilt (↑(List.length x0) : Int) (1 : Int) then gd False (gd False (gd ((0 : Int) ≤ (0 : Int) ∧ (0 : Int) < (↑(List.length x0) : Int)) (whileO (fun (d1 : Int × Int × Unit) => bif ilt d1.2.1 (↑(List.length x0) : Int) then gd ((0 : Int) ≤ d1.2.1 ∧ d1.2.1 < (↑(List.length x0) : Int)) (some (Lp.go ((imax d1.1 (List.getD x0 (Int.toNat d1.2.1) (0 : Int)), wr IntKind.i64 (d1.2.1 + (1 : Int)), ()) : Int × Int × Unit))) else some (Lp.out ((d1.1, ()) : Int × Unit))) ((List.getD x0 (0 : Nat) (0 : Int), (1 : Int), ()) : Int × Int × Unit)))) else gd ((0 : Int) ≤ (0 : Int) ∧ (0 : Int) < (↑(List.length x0) : Int)) (whileO (fun (d1 : Int × Int × Unit) => bif ilt d1.2.1 (↑(List.length x0) : Int) then gd ((0 : Int) ≤ d1.2.1 ∧ d1.2.1 < (↑(List.length x0) : Int)) (some (Lp.go ((imax d1.1 (List.getD x0 (Int.toNat d1.2.1) (0 : Int)), wr IntKind.i64 (d1.2.1 + (1 : Int)), ()) : Int × Int × Unit))) else some (Lp.out ((d1.1, ()) : Int × Unit))) ((List.getD x0 (0 : Nat) (0 : Int), (1 : Int), ()) : Int × Int × Unit))
noncomputable def g102_sh : List LSh := LSh.mk (((3, TV.v (Ty.int IntKind.i64)) : Nat × TV) :: ((4, TV.v (Ty.int IntKind.i64)) : Nat × TV) :: ([] : List (Nat × TV))) ([] : List TB) :: ([] : List LSh)
def l6 (c : A6D) : List Int := [c.1, c.2.1, c.2.2.1, c.2.2.2.1, c.2.2.2.2.1, c.2.2.2.2.2.1]
noncomputable def isCb (p : Int) (c : A6D) : Bool := isPb p && (l6 c).all (fun x => decide (0 ≤ x) && decide (x < p)) && decide (0 ≤ nzI (l6 c) 0) && ieq ((l6 c).getD (nzI (l6 c) 0).toNat 0) 1
noncomputable def crvF (p : Int) (c : A6D) : List Int := flt (fun (x : Nat) => onC p c (x : Int)) (ptsC p).length
noncomputable def crvX (p : Int) (c : A6D) : List Int × Int × Unit := if isCb p c = true then (crvF p c, 0, ()) else ([], 2, ())
noncomputable def con54s : SCon := mkS 54 [.v I64, .v A6] [] [.slf 0 1, .v I64] [.arr I64 true] (fun (p : Int) (c : A6D) => []) (fun (p : Int) (c : A6D) => ((crvX p c).2.1, (crvX p c).1, ()))
noncomputable def g54s_c0 (x0 : Int) (x1 : Int × Int × Int × Int × Int × Int × Unit) : Bool := bif !(readF x0 ([] : List Int)).2.1 then true else ilt (nzI (x1.1 :: x1.2.1 :: x1.2.2.1 :: x1.2.2.2.1 :: x1.2.2.2.2.1 :: x1.2.2.2.2.2.1 :: ([] : List Int)) (0 : Int)) (0 : Int)
noncomputable def g54s_c1 (x1 : Int × Int × Int × Int × Int × Int × Unit) : Int := List.getD (x1.1 :: x1.2.1 :: x1.2.2.1 :: x1.2.2.2.1 :: x1.2.2.2.2.1 :: x1.2.2.2.2.2.1 :: ([] : List Int)) ((0 : Nat) + Int.toNat (nzI (x1.1 :: x1.2.1 :: x1.2.2.1 :: x1.2.2.2.1 :: x1.2.2.2.2.1 :: x1.2.2.2.2.2.1 :: ([] : List Int)) (0 : Int)) * (1 : Nat)) (0 : Int)
noncomputable def g54s_c2 (x0 : Int) (x1 : Int × Int × Int × Int × Int × Int × Unit) : Bool := bif bif g54s_c0 x0 x1 then true else !ieq (g54s_c1 x1) (1 : Int) then true else ilt (List.foldl imin x1.1 (x1.2.1 :: x1.2.2.1 :: x1.2.2.2.1 :: x1.2.2.2.2.1 :: x1.2.2.2.2.2.1 :: ([] : List Int))) (0 : Int)
noncomputable def g54s_c3 (x0 : Int) : Int := (↑(List.length (Option.getD (readF x0 ([] : List Int)).1 (((0 : Int), ([] : List (Int × Int × Int × Unit)), ([] : List ((Int × Int × Int × Unit) × Int)), ()) : Int × List (Int × Int × Int × Unit) × List ((Int × Int × Int × Unit) × Int) × Unit)).2.1) : Int)
noncomputable def g54s_c4 (x0 : Int) (d2 : Int × List Int × List Int × Unit) : Bool := onC (Option.getD (readF x0 ([] : List Int)).1 (((0 : Int), ([] : List (Int × Int × Int × Unit)), ([] : List ((Int × Int × Int × Unit) × Int)), ()) : Int × List (Int × Int × Int × Unit) × List ((Int × Int × Int × Unit) × Int) × Unit)).1 ((List.getD d2.2.1 (0 : Nat) (0 : Int), List.getD d2.2.1 (1 : Nat) (0 : Int), List.getD d2.2.1 (2 : Nat) (0 : Int), List.getD d2.2.1 (3 : Nat) (0 : Int), List.getD d2.2.1 (4 : Nat) (0 : Int), List.getD d2.2.1 (5 : Nat) (0 : Int), ()) : Int × Int × Int × Int × Int × Int × Unit) d2.1
noncomputable def g54s (x0 : Int) (x1 : Int × Int × Int × Int × Int × Int × Unit) : Option (Int × List Int × Unit) := gd (small ([] : List Int)) (gd ((6 : Nat) ≤ (6 : Nat)) (gd (small (x1.1 :: x1.2.1 :: x1.2.2.1 :: x1.2.2.2.1 :: x1.2.2.2.2.1 :: x1.2.2.2.2.2.1 :: ([] : List Int))) (gd ((!!(readF x0 ([] : List Int)).2.1) = true → (!!(readF x0 ([] : List Int)).2.1) = true) (gd ((!(readF x0 ([] : List Int)).2.1) = false → (!!(readF x0 ([] : List Int)).2.1) = true) (gd ((!g54s_c0 x0 x1) = true → (!g54s_c0 x0 x1) = true ∧ (0 : Int) ≤ nzI (x1.1 :: x1.2.1 :: x1.2.2.1 :: x1.2.2.2.1 :: x1.2.2.2.2.1 :: x1.2.2.2.2.2.1 :: ([] : List Int)) (0 : Int) ∧ nzI (x1.1 :: x1.2.1 :: x1.2.2.1 :: x1.2.2.2.1 :: x1.2.2.2.2.1 :: x1.2.2.2.2.2.1 :: ([] : List Int)) (0 : Int) < (6 : Int)) (gd ((!g54s_c0 x0 x1) = true → (!g54s_c0 x0 x1) = true ∧ (0 : Nat) + Int.toNat (nzI (x1.1 :: x1.2.1 :: x1.2.2.1 :: x1.2.2.2.1 :: x1.2.2.2.2.1 :: x1.2.2.2.2.2.1 :: ([] : List Int)) (0 : Int)) * (1 : Nat) < (6 : Nat)) (gd ((!g54s_c0 x0 x1) = true → (!g54s_c0 x0 x1) = true) (gd (g54s_c0 x0 x1 = false → (!g54s_c0 x0 x1) = true) (gd ((!bif g54s_c0 x0 x1 then true else !ieq (g54s_c1 x1) (1 : Int)) = true → (!bif g54s_c0 x0 x1 then true else !ieq (g54s_c1 x1) (1 : Int)) = true ∧ (6 : Nat) ≤ (6 : Nat) ∧ (6 : Nat) = (6 : Nat)) (gd ((!bif g54s_c0 x0 x1 then true else !ieq (g54s_c1 x1) (1 : Int)) = true → (!bif g54s_c0 x0 x1 then true else !ieq (g54s_c1 x1) (1 : Int)) = true) (gd ((bif g54s_c0 x0 x1 then true else !ieq (g54s_c1 x1) (1 : Int)) = false → (!bif g54s_c0 x0 x1 then true else !ieq (g54s_c1 x1) (1 : Int)) = true) (gd ((!g54s_c2 x0 x1) = true → (!g54s_c2 x0 x1) = true ∧ (6 : Nat) ≤ (6 : Nat) ∧ (6 : Nat) = (6 : Nat)) (gd ((!g54s_c2 x0 x1) = true → (!g54s_c2 x0 x1) = true ∧ (!g54s_c2 x0 x1) = true) (gd (g54s_c2 x0 x1 = false → (!g54s_c2 x0 x1) = true) (bif bif g54s_c2 x0 x1 then true else ile x0 (List.foldl imax x1.1 (x1.2.1 :: x1.2.2.1 :: x1.2.2.2.1 :: x1.2.2.2.2.1 :: x1.2.2.2.2.2.1 :: ([] : List Int))) then gd ((0 : Nat) = (0 : Nat)) (some (((2 : Int), ([] : List Int), ()) : Int × List Int × Unit)) else gd (Option.isSome (readF x0 ([] : List Int)).1 = true) (gd ((0 : Nat) = (0 : Nat)) (whileO (fun (d2 : Int × List Int × List Int × Unit) => bif ilt d2.1 (g54s_c3 x0) then gd ((6 : Nat) ≤ List.length d2.2.1) (gd (Option.isSome (readF x0 ([] : List Int)).1 = true) (gd (isPl (Option.getD (readF x0 ([] : List Int)).1 (((0 : Int), ([] : List (Int × Int × Int × Unit)), ([] : List ((Int × Int × Int × Unit) × Int)), ()) : Int × List (Int × Int × Int × Unit) × List ((Int × Int × Int × Unit) × Int) × Unit))) (gd (((0 : Int) ≤ List.getD d2.2.1 (0 : Nat) (0 : Int) ∧ List.getD d2.2.1 (0 : Nat) (0 : Int) < (Option.getD (readF x0 ([] : List Int)).1 (((0 : Int), ([] : List (Int × Int × Int × Unit)), ([] : List ((Int × Int × Int × Unit) × Int)), ()) : Int × List (Int × Int × Int × Unit) × List ((Int × Int × Int × Unit) × Int) × Unit)).1) ∧ ((0 : Int) ≤ List.getD d2.2.1 (1 : Nat) (0 : Int) ∧ List.getD d2.2.1 (1 : Nat) (0 : Int) < (Option.getD (readF x0 ([] : List Int)).1 (((0 : Int), ([] : List (Int × Int × Int × Unit)), ([] : List ((Int × Int × Int × Unit) × Int)), ()) : Int × List (Int × Int × Int × Unit) × List ((Int × Int × Int × Unit) × Int) × Unit)).1) ∧ ((0 : Int) ≤ List.getD d2.2.1 (2 : Nat) (0 : Int) ∧ List.getD d2.2.1 (2 : Nat) (0 : Int) < (Option.getD (readF x0 ([] : List Int)).1 (((0 : Int), ([] : List (Int × Int × Int × Unit)), ([] : List ((Int × Int × Int × Unit) × Int)), ()) : Int × List (Int × Int × Int × Unit) × List ((Int × Int × Int × Unit) × Int) × Unit)).1) ∧ ((0 : Int) ≤ List.getD d2.2.1 (3 : Nat) (0 : Int) ∧ List.getD d2.2.1 (3 : Nat) (0 : Int) < (Option.getD (readF x0 ([] : List Int)).1 (((0 : Int), ([] : List (Int × Int × Int × Unit)), ([] : List ((Int × Int × Int × Unit) × Int)), ()) : Int × List (Int × Int × Int × Unit) × List ((Int × Int × Int × Unit) × Int) × Unit)).1) ∧ ((0 : Int) ≤ List.getD d2.2.1 (4 : Nat) (0 : Int) ∧ List.getD d2.2.1 (4 : Nat) (0 : Int) < (Option.getD (readF x0 ([] : List Int)).1 (((0 : Int), ([] : List (Int × Int × Int × Unit)), ([] : List ((Int × Int × Int × Unit) × Int)), ()) : Int × List (Int × Int × Int × Unit) × List ((Int × Int × Int × Unit) × Int) × Unit)).1) ∧ (0 : Int) ≤ List.getD d2.2.1 (5 : Nat) (0 : Int) ∧ List.getD d2.2.1 (5 : Nat) (0 : Int) < (Option.getD (readF x0 ([] : List Int)).1 (((0 : Int), ([] : List (Int × Int × Int × Unit)), ([] : List ((Int × Int × Int × Unit) × Int)), ()) : Int × List (Int × Int × Int × Unit) × List ((Int × Int × Int × Unit) × Int) × Unit)).1) (gd (inPt (Option.getD (readF x0 ([] : List Int)).1 (((0 : Int), ([] : List (Int × Int × Int × Unit)), ([] : List ((Int × Int × Int × Unit) × Int)), ()) : Int × List (Int × Int × Int × Unit) × List ((Int × Int × Int × Unit) × Int) × Unit)).1 d2.1 = true) (bif g54s_c4 x0 d2 then gd (List.length d2.2.2.1 ≤ List.length d2.2.2.1) (gd ((List.length d2.2.2.1 + (1 : Nat)) * (8 : Nat) ≤ (1099511627776 : Nat)) (gd (List.length d2.2.2.1 + (1 : Nat) = List.length (List.take (List.length d2.2.2.1) d2.2.2.1 ++ d2.1 :: ([] : List Int))) (some (Lp.go ((wr IntKind.i64 (d2.1 + (1 : Int)), d2.2.1, List.take (List.length d2.2.2.1) d2.2.2.1 ++ d2.1 :: ([] : List Int), ()) : Int × List Int × List Int × Unit))))) else gd (List.length d2.2.2.1 = List.length d2.2.2.1) (some (Lp.go ((wr IntKind.i64 (d2.1 + (1 : Int)), d2.2.1, d2.2.2.1, ()) : Int × List Int × List Int × Unit)))))))) else gd (List.length d2.2.2.1 = List.length d2.2.2.1) (some (Lp.out (((0 : Int), d2.2.2.1, ()) : Int × List Int × Unit)))) (((0 : Int), x1.1 :: x1.2.1 :: x1.2.2.1 :: x1.2.2.2.1 :: x1.2.2.2.2.1 :: x1.2.2.2.2.2.1 :: ([] : List Int), ([] : List Int), ()) : Int × List Int × List Int × Unit))))))))))))))))))
noncomputable def g54s_sh : List LSh := LSh.mk (((3, TV.ref (0) (1 : Nat) (0 : Nat) (0 : Nat)) : Nat × TV) :: ((9, TV.slf (1) (1)) : Nat × TV) :: ((46, TV.v (Ty.int IntKind.i64)) : Nat × TV) :: ([] : List (Nat × TV))) (TB.arr (Ty.int IntKind.i64) false :: TB.arr (Ty.int IntKind.i64) true :: ([] : List TB)) :: ([] : List LSh)
noncomputable def con38l : SCon := mkS 38 [.sl 0 1 0] [.arr I64 true] [.slf 1 1] [.arr I64 true, .arr I64 true] (fun (len : Int) (a : List Int) => [0 ≤ len ∧ len ≤ 100000 ∧ len ≤ a.length]) (fun (len : Int) (a : List Int) => (a, a.take len.toNat, ()))
noncomputable def g38l (x0 : Int) (x1 : List Int) : Option (List Int × List Int × Unit) := Option.map id (eqO (Int.toNat x0 = (0 : Nat)) (gd ((0 : Nat) = (0 : Nat)) (some ((x1, ([] : List Int), ()) : List Int × List Int × Unit))) (gd ((0 : Nat) + Int.toNat x0 ≤ List.length x1) (gd ((0 : Nat) ≤ (0 : Nat)) (gd (((0 : Nat) + List.length (List.take (Int.toNat x0) (List.drop (0 : Nat) x1))) * (8 : Nat) ≤ (1099511627776 : Nat)) (gd ((0 : Nat) + List.length (List.take (Int.toNat x0) (List.drop (0 : Nat) x1)) = List.length (List.take (Int.toNat x0) (List.drop (0 : Nat) x1))) (some ((x1, List.take (Int.toNat x0) (List.drop (0 : Nat) x1), ()) : List Int × List Int × Unit)))))))
noncomputable def g38l_sh : List LSh := ([] : List LSh)
noncomputable def con13 : Con := mkC 13 [.d I64, .d A6, .d LI] [.bool] (fun (p : Int) (c : A6D) (l : List Int) => [small2 l]) (fun (p : Int) (c : A6D) (l : List Int) => (true, ()))
noncomputable def g13_c0 (x0 : Int) (x1 : Int × Int × Int × Int × Int × Int × Unit) : Int := (crvX x0 ((x1.1, x1.2.1, x1.2.2.1, x1.2.2.2.1, x1.2.2.2.2.1, x1.2.2.2.2.2.1, ()) : Int × Int × Int × Int × Int × Int × Unit)).2.1
noncomputable def g13_c1 (x0 : Int) (x1 : Int × Int × Int × Int × Int × Int × Unit) : Int := (↑(List.length (crvX x0 ((x1.1, x1.2.1, x1.2.2.1, x1.2.2.2.1, x1.2.2.2.2.1, x1.2.2.2.2.2.1, ()) : Int × Int × Int × Int × Int × Int × Unit)).1) : Int)
noncomputable def g13_c2 (x0 : Int) (x1 : Int × Int × Int × Int × Int × Int × Unit) : Bool := (arcX x0 (List.take (List.length (List.take (List.length (crvX x0 ((x1.1, x1.2.1, x1.2.2.1, x1.2.2.2.1, x1.2.2.2.2.1, x1.2.2.2.2.2.1, ()) : Int × Int × Int × Int × Int × Int × Unit)).1) (crvX x0 ((x1.1, x1.2.1, x1.2.2.1, x1.2.2.2.1, x1.2.2.2.2.1, x1.2.2.2.2.2.1, ()) : Int × Int × Int × Int × Int × Int × Unit)).1)) (List.drop (0 : Nat) (List.take (List.length (crvX x0 ((x1.1, x1.2.1, x1.2.2.1, x1.2.2.2.1, x1.2.2.2.2.1, x1.2.2.2.2.2.1, ()) : Int × Int × Int × Int × Int × Int × Unit)).1) (crvX x0 ((x1.1, x1.2.1, x1.2.2.1, x1.2.2.2.1, x1.2.2.2.2.1, x1.2.2.2.2.2.1, ()) : Int × Int × Int × Int × Int × Int × Unit)).1)))).1
noncomputable def g13_c3 (x0 : Int) (x1 : Int × Int × Int × Int × Int × Int × Unit) : Int := (arcX x0 (List.take (List.length (List.take (List.length (crvX x0 ((x1.1, x1.2.1, x1.2.2.1, x1.2.2.2.1, x1.2.2.2.2.1, x1.2.2.2.2.2.1, ()) : Int × Int × Int × Int × Int × Int × Unit)).1) (crvX x0 ((x1.1, x1.2.1, x1.2.2.1, x1.2.2.2.1, x1.2.2.2.2.1, x1.2.2.2.2.2.1, ()) : Int × Int × Int × Int × Int × Int × Unit)).1)) (List.drop (0 : Nat) (List.take (List.length (crvX x0 ((x1.1, x1.2.1, x1.2.2.1, x1.2.2.2.1, x1.2.2.2.2.1, x1.2.2.2.2.2.1, ()) : Int × Int × Int × Int × Int × Int × Unit)).1) (crvX x0 ((x1.1, x1.2.1, x1.2.2.1, x1.2.2.2.1, x1.2.2.2.2.1, x1.2.2.2.2.2.1, ()) : Int × Int × Int × Int × Int × Int × Unit)).1)))).2.1
noncomputable def g13_c4 (x2 : List Int) (d3 : Int × List Int × Unit) : Int := wr IntKind.i64 (d3.1 + wr IntKind.i64 (Int.tmod (wr IntKind.u64 (List.getD x2 (Int.toNat d3.1) (0 : Int))) (wr IntKind.u64 (wr IntKind.i64 ((↑(List.length d3.2.1) : Int) - d3.1)))))
noncomputable def g13_c5 (x0 : Int) (d4 : Int × List Int × List Int × Unit) : Int := (joinF x0 (List.getD d4.2.1 ((0 : Nat) + Int.toNat d4.1) (0 : Int)) (List.getD d4.2.1 ((0 : Nat) + Int.toNat (Int.tmod (wr IntKind.i64 (d4.1 + (1 : Int))) (6 : Int))) (0 : Int))).1
noncomputable def g13_c6 (x0 : Int) (d4 : Int × List Int × List Int × Unit) : Int := (joinF x0 (List.getD d4.2.1 ((0 : Nat) + Int.toNat d4.1) (0 : Int)) (List.getD d4.2.1 ((0 : Nat) + Int.toNat (Int.tmod (wr IntKind.i64 (d4.1 + (1 : Int))) (6 : Int))) (0 : Int))).2.1
noncomputable def g13_c7 (x0 : Int) (d4 : Int × List Int × List Int × Unit) : Bool := bif !ieq (joinF x0 (List.getD d4.2.2.1 (0 : Nat) (0 : Int)) (List.getD d4.2.2.1 (3 : Nat) (0 : Int))).2.1 (0 : Int) then true else !ieq (joinF x0 (List.getD d4.2.2.1 (1 : Nat) (0 : Int)) (List.getD d4.2.2.1 (4 : Nat) (0 : Int))).2.1 (0 : Int)
noncomputable def g13_c8 (x0 : Int) (d4 : Int × List Int × List Int × Unit) : Bool := ieq (joinF x0 (List.getD d4.2.2.1 (0 : Nat) (0 : Int)) (List.getD d4.2.2.1 (3 : Nat) (0 : Int))).1 (joinF x0 (List.getD d4.2.2.1 (1 : Nat) (0 : Int)) (List.getD d4.2.2.1 (4 : Nat) (0 : Int))).1
noncomputable def g13_c9 (x0 : Int) (d4 : Int × List Int × List Int × Unit) : Int := (joinF x0 (joinF x0 (List.getD d4.2.2.1 (0 : Nat) (0 : Int)) (List.getD d4.2.2.1 (3 : Nat) (0 : Int))).1 (joinF x0 (List.getD d4.2.2.1 (1 : Nat) (0 : Int)) (List.getD d4.2.2.1 (4 : Nat) (0 : Int))).1).1
noncomputable def g13_c10 (x0 : Int) (d4 : Int × List Int × List Int × Unit) : Int := (joinF x0 (joinF x0 (List.getD d4.2.2.1 (0 : Nat) (0 : Int)) (List.getD d4.2.2.1 (3 : Nat) (0 : Int))).1 (joinF x0 (List.getD d4.2.2.1 (1 : Nat) (0 : Int)) (List.getD d4.2.2.1 (4 : Nat) (0 : Int))).1).2.1
noncomputable def g13_c11 (x0 : Int) (d4 : Int × List Int × List Int × Unit) : Bool := bif (onFF x0 (joinF x0 (List.getD d4.2.2.1 (2 : Nat) (0 : Int)) (List.getD d4.2.2.1 (5 : Nat) (0 : Int))).1 (g13_c9 x0 d4)).1 then ieq (g13_c10 x0 d4) (0 : Int) else false
noncomputable def g13_c12 (x0 : Int) (d4 : Int × List Int × List Int × Unit) : Bool := bif g13_c11 x0 d4 then ieq (onFF x0 (joinF x0 (List.getD d4.2.2.1 (2 : Nat) (0 : Int)) (List.getD d4.2.2.1 (5 : Nat) (0 : Int))).1 (g13_c9 x0 d4)).2.1 (0 : Int) else false
noncomputable def g13 (x0 : Int) (x1 : Int × Int × Int × Int × Int × Int × Unit) (x2 : List Int) : Option (Bool × Unit) := gd ((6 : Nat) ≤ (6 : Nat)) (gd ((!!ieq (g13_c0 x0 x1) (0 : Int)) = true → (!!ieq (g13_c0 x0 x1) (0 : Int)) = true) (gd ((!!ieq (g13_c0 x0 x1) (0 : Int)) = true → (!!ieq (g13_c0 x0 x1) (0 : Int)) = true) (gd ((!ieq (g13_c0 x0 x1) (0 : Int)) = false → (!!ieq (g13_c0 x0 x1) (0 : Int)) = true) (bif bif !ieq (g13_c0 x0 x1) (0 : Int) then true else ilt (g13_c1 x0 x1) (6 : Int) then gd ((!ieq (g13_c0 x0 x1) (0 : Int)) = true → (!ieq (g13_c0 x0 x1) (0 : Int)) = true) (gd (ieq (g13_c0 x0 x1) (0 : Int) = false → (!ieq (g13_c0 x0 x1) (0 : Int)) = true) (gd ((bif ieq (g13_c0 x0 x1) (0 : Int) then true else ieq (g13_c0 x0 x1) (2 : Int)) = true → (bif ieq (g13_c0 x0 x1) (0 : Int) then true else ieq (g13_c0 x0 x1) (2 : Int)) = true) (some ((bif bif ieq (g13_c0 x0 x1) (0 : Int) then true else ieq (g13_c0 x0 x1) (2 : Int) then true else false, ()) : Bool × Unit)))) else gd ((0 : Int) ≤ (↑(List.length (crvX x0 ((x1.1, x1.2.1, x1.2.2.1, x1.2.2.2.1, x1.2.2.2.2.1, x1.2.2.2.2.2.1, ()) : Int × Int × Int × Int × Int × Int × Unit)).1) : Int) ∧ (↑(List.length (crvX x0 ((x1.1, x1.2.1, x1.2.2.1, x1.2.2.2.1, x1.2.2.2.2.1, x1.2.2.2.2.2.1, ()) : Int × Int × Int × Int × Int × Int × Unit)).1) : Int) ≤ (100000 : Int) ∧ (↑(List.length (crvX x0 ((x1.1, x1.2.1, x1.2.2.1, x1.2.2.2.1, x1.2.2.2.2.1, x1.2.2.2.2.2.1, ()) : Int × Int × Int × Int × Int × Int × Unit)).1) : Int) ≤ (↑(List.length (crvX x0 ((x1.1, x1.2.1, x1.2.2.1, x1.2.2.2.1, x1.2.2.2.2.1, x1.2.2.2.2.2.1, ()) : Int × Int × Int × Int × Int × Int × Unit)).1) : Int)) (gd ((0 : Nat) + List.length (List.take (List.length (crvX x0 ((x1.1, x1.2.1, x1.2.2.1, x1.2.2.2.1, x1.2.2.2.2.1, x1.2.2.2.2.2.1, ()) : Int × Int × Int × Int × Int × Int × Unit)).1) (crvX x0 ((x1.1, x1.2.1, x1.2.2.1, x1.2.2.2.1, x1.2.2.2.2.1, x1.2.2.2.2.2.1, ()) : Int × Int × Int × Int × Int × Int × Unit)).1) ≤ List.length (List.take (List.length (crvX x0 ((x1.1, x1.2.1, x1.2.2.1, x1.2.2.2.1, x1.2.2.2.2.1, x1.2.2.2.2.2.1, ()) : Int × Int × Int × Int × Int × Int × Unit)).1) (crvX x0 ((x1.1, x1.2.1, x1.2.2.1, x1.2.2.2.1, x1.2.2.2.2.1, x1.2.2.2.2.2.1, ()) : Int × Int × Int × Int × Int × Int × Unit)).1)) (gd (small (List.take (List.length (List.take (List.length (crvX x0 ((x1.1, x1.2.1, x1.2.2.1, x1.2.2.2.1, x1.2.2.2.2.1, x1.2.2.2.2.2.1, ()) : Int × Int × Int × Int × Int × Int × Unit)).1) (crvX x0 ((x1.1, x1.2.1, x1.2.2.1, x1.2.2.2.1, x1.2.2.2.2.1, x1.2.2.2.2.2.1, ()) : Int × Int × Int × Int × Int × Int × Unit)).1)) (List.drop (0 : Nat) (List.take (List.length (crvX x0 ((x1.1, x1.2.1, x1.2.2.1, x1.2.2.2.1, x1.2.2.2.2.1, x1.2.2.2.2.2.1, ()) : Int × Int × Int × Int × Int × Int × Unit)).1) (crvX x0 ((x1.1, x1.2.1, x1.2.2.1, x1.2.2.2.1, x1.2.2.2.2.1, x1.2.2.2.2.2.1, ()) : Int × Int × Int × Int × Int × Int × Unit)).1)))) (bif !g13_c2 x0 x1 then gd (ieq (g13_c3 x0 x1) (0 : Int) = true → ieq (g13_c3 x0 x1) (0 : Int) = true) (some ((bif ieq (g13_c3 x0 x1) (0 : Int) then true else false, ()) : Bool × Unit)) else gd (List.length (crvX x0 ((x1.1, x1.2.1, x1.2.2.1, x1.2.2.2.1, x1.2.2.2.2.1, x1.2.2.2.2.2.1, ()) : Int × Int × Int × Int × Int × Int × Unit)).1 = List.length (crvX x0 ((x1.1, x1.2.1, x1.2.2.1, x1.2.2.2.1, x1.2.2.2.2.1, x1.2.2.2.2.2.1, ()) : Int × Int × Int × Int × Int × Int × Unit)).1) (whileO (fun (d3 : Int × List Int × Unit) => bif ilt d3.1 (g13_c1 x0 x1) then bif ilt d3.1 (↑(List.length x2) : Int) then gd ((0 : Int) ≤ d3.1 ∧ d3.1 < (↑(List.length x2) : Int)) (gd (wr IntKind.u64 (wr IntKind.i64 ((↑(List.length d3.2.1) : Int) - d3.1)) ≠ (0 : Int)) (gd ((0 : Int) ≤ g13_c4 x2 d3 ∧ g13_c4 x2 d3 < (↑(List.length d3.2.1) : Int)) (gd ((0 : Nat) + Int.toNat (g13_c4 x2 d3) < List.length d3.2.1) (gd ((0 : Int) ≤ d3.1 ∧ d3.1 < (↑(List.length d3.2.1) : Int)) (gd ((0 : Nat) + Int.toNat d3.1 < List.length d3.2.1) (gd ((0 : Int) ≤ d3.1 ∧ d3.1 < (↑(List.length d3.2.1) : Int)) (gd ((0 : Nat) + Int.toNat d3.1 < List.length d3.2.1) (gd ((0 : Int) ≤ g13_c4 x2 d3 ∧ g13_c4 x2 d3 < (↑(List.length d3.2.1) : Int)) (gd ((0 : Nat) + Int.toNat (g13_c4 x2 d3) < List.length (List.set d3.2.1 ((0 : Nat) + Int.toNat d3.1) (List.getD d3.2.1 ((0 : Nat) + Int.toNat (g13_c4 x2 d3)) (0 : Int)))) (gd (List.length d3.2.1 = List.length (List.set (List.set d3.2.1 ((0 : Nat) + Int.toNat d3.1) (List.getD d3.2.1 ((0 : Nat) + Int.toNat (g13_c4 x2 d3)) (0 : Int))) ((0 : Nat) + Int.toNat (g13_c4 x2 d3)) (List.getD d3.2.1 ((0 : Nat) + Int.toNat d3.1) (0 : Int)))) (some (Lp.go ((wr IntKind.i64 (d3.1 + (1 : Int)), List.set (List.set d3.2.1 ((0 : Nat) + Int.toNat d3.1) (List.getD d3.2.1 ((0 : Nat) + Int.toNat (g13_c4 x2 d3)) (0 : Int))) ((0 : Nat) + Int.toNat (g13_c4 x2 d3)) (List.getD d3.2.1 ((0 : Nat) + Int.toNat d3.1) (0 : Int)), ()) : Int × List Int × Unit))))))))))))) else gd (List.length d3.2.1 = List.length d3.2.1) (some (Lp.go ((wr IntKind.i64 (d3.1 + (1 : Int)), d3.2.1, ()) : Int × List Int × Unit))) else gd (List.length d3.2.1 = List.length d3.2.1) (whileO (fun (d4 : Int × List Int × List Int × Unit) => bif ilt d4.1 (6 : Int) then gd ((0 : Int) ≤ d4.1 ∧ d4.1 < (↑(List.length d4.2.1) : Int)) (gd ((0 : Nat) + Int.toNat d4.1 < List.length d4.2.1) (gd ((6 : Int) ≠ (0 : Int)) (gd ((0 : Int) ≤ Int.tmod (wr IntKind.i64 (d4.1 + (1 : Int))) (6 : Int) ∧ Int.tmod (wr IntKind.i64 (d4.1 + (1 : Int))) (6 : Int) < (↑(List.length d4.2.1) : Int)) (gd ((0 : Nat) + Int.toNat (Int.tmod (wr IntKind.i64 (d4.1 + (1 : Int))) (6 : Int)) < List.length d4.2.1) (bif !ieq (g13_c6 x0 d4) (0 : Int) then some (Lp.out (Lp.out ((false, ()) : Bool × Unit))) else gd ((0 : Int) ≤ d4.1 ∧ d4.1 < (6 : Int)) (gd ((0 : Nat) + Int.toNat d4.1 * (1 : Nat) < List.length d4.2.2.1) (gd (List.length d4.2.1 = List.length d4.2.1) (some (Lp.go ((wr IntKind.i64 (d4.1 + (1 : Int)), d4.2.1, List.set d4.2.2.1 ((0 : Nat) + Int.toNat d4.1 * (1 : Nat)) (g13_c5 x0 d4), ()) : Int × List Int × List Int × Unit)))))))))) else gd ((0 : Nat) < List.length d4.2.2.1) (gd ((3 : Nat) < List.length d4.2.2.1) (gd ((1 : Nat) < List.length d4.2.2.1) (gd ((4 : Nat) < List.length d4.2.2.1) (gd ((2 : Nat) < List.length d4.2.2.1) (gd ((5 : Nat) < List.length d4.2.2.1) (gd ((!!ieq (joinF x0 (List.getD d4.2.2.1 (0 : Nat) (0 : Int)) (List.getD d4.2.2.1 (3 : Nat) (0 : Int))).2.1 (0 : Int)) = true → (!!ieq (joinF x0 (List.getD d4.2.2.1 (0 : Nat) (0 : Int)) (List.getD d4.2.2.1 (3 : Nat) (0 : Int))).2.1 (0 : Int)) = true) (gd ((!ieq (joinF x0 (List.getD d4.2.2.1 (0 : Nat) (0 : Int)) (List.getD d4.2.2.1 (3 : Nat) (0 : Int))).2.1 (0 : Int)) = false → (!!ieq (joinF x0 (List.getD d4.2.2.1 (0 : Nat) (0 : Int)) (List.getD d4.2.2.1 (3 : Nat) (0 : Int))).2.1 (0 : Int)) = true) (gd ((!g13_c7 x0 d4) = true → (!g13_c7 x0 d4) = true) (gd (g13_c7 x0 d4 = false → (!g13_c7 x0 d4) = true) (bif bif g13_c7 x0 d4 then true else !ieq (joinF x0 (List.getD d4.2.2.1 (2 : Nat) (0 : Int)) (List.getD d4.2.2.1 (5 : Nat) (0 : Int))).2.1 (0 : Int) then some (Lp.out (Lp.out ((false, ()) : Bool × Unit))) else bif g13_c8 x0 d4 then some (Lp.out (Lp.out ((true, ()) : Bool × Unit))) else gd ((onFF x0 (joinF x0 (List.getD d4.2.2.1 (2 : Nat) (0 : Int)) (List.getD d4.2.2.1 (5 : Nat) (0 : Int))).1 (g13_c9 x0 d4)).1 = true → (onFF x0 (joinF x0 (List.getD d4.2.2.1 (2 : Nat) (0 : Int)) (List.getD d4.2.2.1 (5 : Nat) (0 : Int))).1 (g13_c9 x0 d4)).1 = true) (gd ((onFF x0 (joinF x0 (List.getD d4.2.2.1 (2 : Nat) (0 : Int)) (List.getD d4.2.2.1 (5 : Nat) (0 : Int))).1 (g13_c9 x0 d4)).1 = true → (onFF x0 (joinF x0 (List.getD d4.2.2.1 (2 : Nat) (0 : Int)) (List.getD d4.2.2.1 (5 : Nat) (0 : Int))).1 (g13_c9 x0 d4)).1 = true) (gd (g13_c11 x0 d4 = true → g13_c11 x0 d4 = true) (gd (g13_c11 x0 d4 = true → g13_c11 x0 d4 = true) (gd (g13_c12 x0 d4 = true → g13_c12 x0 d4 = true) (some (Lp.out (Lp.out ((bif g13_c12 x0 d4 then true else false, ()) : Bool × Unit))))))))))))))))))) (((0 : Int), d3.2.1, (0 : Int) :: (0 : Int) :: (0 : Int) :: (0 : Int) :: (0 : Int) :: (0 : Int) :: ([] : List Int), ()) : Int × List Int × List Int × Unit))) (((0 : Int), (crvX x0 ((x1.1, x1.2.1, x1.2.2.1, x1.2.2.2.1, x1.2.2.2.2.1, x1.2.2.2.2.2.1, ()) : Int × Int × Int × Int × Int × Int × Unit)).1, ()) : Int × List Int × Unit)))))))))
noncomputable def g13_sh : List LSh := LSh.mk (((7, TV.slf (0) (1)) : Nat × TV) :: ((64, TV.v (Ty.int IntKind.i64)) : Nat × TV) :: ([] : List (Nat × TV))) (TB.arr (Ty.int IntKind.i64) true :: ([] : List TB)) :: LSh.mk (((7, TV.slf (0) (1)) : Nat × TV) :: ((13, TV.ref (1) (1 : Nat) (0 : Nat) (0 : Nat)) : Nat × TV) :: ((100, TV.v (Ty.int IntKind.i64)) : Nat × TV) :: ([] : List (Nat × TV))) (TB.arr (Ty.int IntKind.i64) true :: TB.arr (Ty.int IntKind.i64) false :: ([] : List TB)) :: ([] : List LSh)


end Go.Arcs

set_option linter.unusedVariables false
set_option linter.unusedSimpArgs false
namespace Go.Arcs
open Go Go.Ab Go.Proofs

theorem mulB7 {a b : Int} (ha : 0 ≤ a ∧ a < 7) (hb : 0 ≤ b ∧ b < 7) : 0 ≤ a * b ∧ a * b ≤ 36 :=
  ⟨Int.mul_nonneg ha.1 hb.1, Int.le_trans (Int.mul_le_mul (show a ≤ 6 by omega) (show b ≤ 6 by omega) hb.1 (by omega)) (by omega)⟩
theorem goal105 : con105.goal Try.prog (spOf []) g105_sh [] lm30 := by
  have e : (∀ (x : TripD), inR 7 x → g105 x = some (powF x, ())) = con105.goal Try.prog (spOf []) g105_sh [] lm30 := by kernel_rfl
  rw [← e]
  rintro ⟨x, y, z, ⟨⟩⟩ ⟨hx, hy, hz⟩
  simp only at hx hy hz
  have b1 := mulB7 hx hx
  have b2 := mulB7 hy hy
  have b3 := mulB7 hz hz
  have b4 := mulB7 hx hy
  have b5 := mulB7 hx hz
  have b6 := mulB7 hy hz
  have w1 : wr .i64 (x * x) = x * x := wr_id (by omega)
  have w2 : wr .i64 (y * y) = y * y := wr_id (by omega)
  have w3 : wr .i64 (z * z) = z * z := wr_id (by omega)
  have w4 : wr .i64 (x * y) = x * y := wr_id (by omega)
  have w5 : wr .i64 (x * z) = x * z := wr_id (by omega)
  have w6 : wr .i64 (y * z) = y * z := wr_id (by omega)
  unfold g105 powF
  simp only [gd_true, w1, w2, w3, w4, w5, w6, Nat.le_refl, show (0 : Nat) < 3 from by decide, show (1 : Nat) < 3 from by decide, show (2 : Nat) < 3 from by decide]
set_option maxRecDepth 100000 in
theorem ok105 : con105.Ok Try.prog := Con.of_goal mixed okN con105 goal105

theorem inR_7' {p : Int} (hp : isP p) {x : TripD} (h : inR p x) : inR 7 x := by
  have h7 := isP_bd hp
  exact ⟨⟨h.1.1, by have := h.1.2; omega⟩, ⟨h.2.1.1, by have := h.2.1.2; omega⟩, ⟨h.2.2.1, by have := h.2.2.2; omega⟩⟩
theorem goal103 : con103.goal Try.prog (spOf [con105, conMod]) g103_sh [] lm30 := by
  have e : (∀ (k : PlaneD) (c : A6D) (a : Int), isPl k → inS k.1 c → inPt k.1 a = true → g103 k c a = some (onC k.1 c a, ())) = con103.goal Try.prog (spOf [con105, conMod]) g103_sh [] lm30 := by kernel_rfl
  rw [← e]
  rintro k ⟨c1, c2, c3, c4, c5, c6, ⟨⟩⟩ a hk ⟨h1, h2, h3, h4, h5, h6⟩ ha
  simp only at h1 h2 h3 h4 h5 h6
  have hp := hk.1
  have h7 := isP_bd hp
  have i1 := inPt_iff.1 ha
  have hl := pts_len k.1 (isP_mem hp)
  have l1 : a < ((ptsC k.1).length : Int) := by omega
  have hx := inR_7' hp (pt_in hp ha)
  have hpts := pl_pts hk
  have w1 : wr .i64 1 = 1 := by decide
  have w2 : wr .i64 2 = 2 := by decide
  have w3 : wr .i64 3 = 3 := by decide
  have w4 : wr .i64 4 = 4 := by decide
  have w5 : wr .i64 5 = 5 := by decide
  have w6 : wr .i64 6 = 6 := by decide
  unfold g103
  simp only [hpts, show List.getD (ptsC k.1) (Int.toNat a) ((0, 0, 0, ()) : TripD) = pt k.1 a from rfl]
  rw [gd_pos ⟨i1.1, l1⟩]
  refine (gd_pos hx).trans ?_
  unfold onC
  generalize pt k.1 a = P at hx
  obtain ⟨x, y, z, ⟨⟩⟩ := P
  obtain ⟨hx, hy, hz⟩ := hx
  simp only at hx hy hz
  have b1 := mulB7 hx hx
  have b2 := mulB7 hy hy
  have b3 := mulB7 hz hz
  have b4 := mulB7 hx hy
  have b5 := mulB7 hx hz
  have b6 := mulB7 hy hz
  have m {c q : Int} (hc : 0 ≤ c ∧ c < k.1) (hq : 0 ≤ q ∧ q ≤ 36) : 0 ≤ c * q ∧ c * q ≤ 36 * 36 := mul_bd ⟨hc.1, by omega⟩ hq
  have d1 := m h1 b1
  have d2 := m h2 b2
  have d3 := m h3 b3
  have d4 := m h4 b4
  have d5 := m h5 b5
  have d6 := m h6 b6
  simp only [quad]
  generalize hq1 : c1 * (x * x) = q1 at *
  generalize hq2 : c2 * (y * y) = q2 at *
  generalize hq3 : c3 * (z * z) = q3 at *
  generalize hq4 : c4 * (x * y) = q4 at *
  generalize hq5 : c5 * (x * z) = q5 at *
  generalize hq6 : c6 * (y * z) = q6 at *
  have v1 : wr .i64 q1 = q1 := wr_id (by omega)
  have v2 : wr .i64 q2 = q2 := wr_id (by omega)
  have v3 : wr .i64 q3 = q3 := wr_id (by omega)
  have v4 : wr .i64 q4 = q4 := wr_id (by omega)
  have v5 : wr .i64 q5 = q5 := wr_id (by omega)
  have v6 : wr .i64 q6 = q6 := wr_id (by omega)
  have s2 : wr .i64 (q1 + q2) = q1 + q2 := wr_id (by omega)
  have s3 : wr .i64 (q1 + q2 + q3) = q1 + q2 + q3 := wr_id (by omega)
  have s4 : wr .i64 (q1 + q2 + q3 + q4) = q1 + q2 + q3 + q4 := wr_id (by omega)
  have s5 : wr .i64 (q1 + q2 + q3 + q4 + q5) = q1 + q2 + q3 + q4 + q5 := wr_id (by omega)
  have s6 : wr .i64 (q1 + q2 + q3 + q4 + q5 + q6) = q1 + q2 + q3 + q4 + q5 + q6 := wr_id (by omega)
  have hm : modF k.1 (q1 + q2 + q3 + q4 + q5 + q6) = (q1 + q2 + q3 + q4 + q5 + q6) % k.1 := modF_eq (by omega)
  have hk0 : k.1 ≠ 0 := by omega
  refine (whileO_go (s' := ((q1, 1, [c1, c2, c3, c4, c5, c6], ()) : Int × Int × List Int × Unit)) ?_).trans ?_
  · simp [ilt, gd_true, arrGet, id, powF, w1, hq1, v1]
  refine (whileO_go (s' := ((q1 + q2, 2, [c1, c2, c3, c4, c5, c6], ()) : Int × Int × List Int × Unit)) ?_).trans ?_
  · simp [ilt, gd_true, arrGet, id, powF, w2, hq2, v2, s2]
  refine (whileO_go (s' := ((q1 + q2 + q3, 3, [c1, c2, c3, c4, c5, c6], ()) : Int × Int × List Int × Unit)) ?_).trans ?_
  · simp [ilt, gd_true, arrGet, id, powF, w3, hq3, v3, s3]
  refine (whileO_go (s' := ((q1 + q2 + q3 + q4, 4, [c1, c2, c3, c4, c5, c6], ()) : Int × Int × List Int × Unit)) ?_).trans ?_
  · simp [ilt, gd_true, arrGet, id, powF, w4, hq4, v4, s4]
  refine (whileO_go (s' := ((q1 + q2 + q3 + q4 + q5, 5, [c1, c2, c3, c4, c5, c6], ()) : Int × Int × List Int × Unit)) ?_).trans ?_
  · simp [ilt, gd_true, arrGet, id, powF, w5, hq5, v5, s5]
  refine (whileO_go (s' := ((q1 + q2 + q3 + q4 + q5 + q6, 6, [c1, c2, c3, c4, c5, c6], ()) : Int × Int × List Int × Unit)) ?_).trans ?_
  · simp [ilt, gd_true, arrGet, id, powF, w6, hq6, v6, s6]
  refine whileO_out ?_
  refine (cond_f rfl).trans ?_
  rw [gd_pos hk0, hm]
set_option maxRecDepth 100000 in
theorem ok103 : con103.Ok Try.prog := Con.of_goal mixed (okC ok105 (okC okMod okN)) con103 goal103

theorem goal100 : con100.goal Try.prog (spOf []) g100_sh [] lm30 := by
  have e : (∀ (x : Int), g100 x = some (!ieq x 0, ())) = con100.goal Try.prog (spOf []) g100_sh [] lm30 := by kernel_rfl
  rw [← e]
  intro x
  rfl
set_option maxRecDepth 100000 in
theorem ok100 : con100.Ok Try.prog := Con.of_goal mixed okN con100 goal100

theorem goal99c : con99c.goal Try.prog (spOf [con100]) g99c_sh [] lm30 := by
  have e : (∀ (l : List Int), small l → g99c l = some (nzI l 0, ())) = con99c.goal Try.prog (spOf [con100]) g99c_sh [] lm30 := by kernel_rfl
  rw [← e]
  intro l hs
  unfold small at hs
  unfold g99c
  have key : ∀ (n i : Nat), i + n = l.length → whileO (fun (d1 : Int × Unit) => bif ilt d1.1 (l.length : Int) then gd (0 ≤ d1.1 ∧ d1.1 < (l.length : Int)) (bif !ieq (List.getD l (Int.toNat d1.1) 0) 0 then some (Lp.out ((d1.1, ()) : Int × Unit)) else some (Lp.go ((wr .i64 (d1.1 + 1), ()) : Int × Unit))) else some (Lp.out ((-1, ()) : Int × Unit))) (((i : Int), ()) : Int × Unit) = some (nzI (l.drop i) i, ()) := by
    intro n
    induction n with
    | zero =>
      intro i hi
      have : i = l.length := by omega
      subst this
      rw [List.drop_length]
      exact whileO_out (cond_f (ilt_false.2 (Int.le_refl _)))
    | succ n ih =>
      intro i hi
      have hil : i < l.length := by omega
      have ed : l.drop i = l.getD i 0 :: l.drop (i + 1) := by rw [List.drop_eq_getElem_cons hil, gd_at hil]
      rw [ed]
      by_cases h0 : l.getD i 0 = 0
      · rw [show nzI (l.getD i 0 :: l.drop (i + 1)) i = nzI (l.drop (i + 1)) (i + 1) from if_pos h0]
        refine (whileO_go ((cond_t (ilt_iff.2 (Int.ofNat_lt.2 hil))).trans ((gd_pos ⟨Int.natCast_nonneg _, Int.ofNat_lt.2 hil⟩).trans ((cond_f ?_).trans ?_)))).trans (ih (i + 1) (by omega))
        · show (!ieq (l.getD i 0) 0) = false
          rw [ieq_iff.2 h0]; rfl
        · show some (Lp.go ((wr .i64 ((i : Int) + 1), ()) : Int × Unit)) = _
          rw [cast1 (by omega)]
      · rw [show nzI (l.getD i 0 :: l.drop (i + 1)) i = (i : Int) from if_neg h0]
        refine whileO_out ((cond_t (ilt_iff.2 (Int.ofNat_lt.2 hil))).trans ((gd_pos ⟨Int.natCast_nonneg _, Int.ofNat_lt.2 hil⟩).trans (cond_t ?_)))
        show (!ieq (l.getD i 0) 0) = true
        rw [Bool.not_eq_true', Bool.eq_false_iff]
        exact fun h => h0 (ieq_iff.1 h)
  exact key l.length 0 (Nat.zero_add _)
set_option maxRecDepth 100000 in
theorem ok99c : con99c.Ok Try.prog := Con.of_goal mixed (okC ok100 okN) con99c goal99c

theorem len6 {l : List Int} (h : l.length = 6) : ∃ a b c d e f, l = [a, b, c, d, e, f] := by
  match l, h with
  | [a, b, c, d, e, f], _ => exact ⟨a, b, c, d, e, f, rfl⟩
theorem goal101 : con101.goal Try.prog (spOf []) g101_sh [] lm30 := by
  have e : (∀ (l : List Int), l.length = 6 → g101 l = some ((l.drop 1).foldl imin (l.getD 0 0), ())) = con101.goal Try.prog (spOf []) g101_sh [] lm30 := by kernel_rfl
  rw [← e]
  intro l hl
  obtain ⟨a, b, c, d, e, f, rfl⟩ := len6 hl
  have w2 : wr .i64 2 = 2 := by decide
  have w3 : wr .i64 3 = 3 := by decide
  have w4 : wr .i64 4 = 4 := by decide
  have w5 : wr .i64 5 = 5 := by decide
  have w6 : wr .i64 6 = 6 := by decide
  unfold g101
  simp only [List.length_cons, List.length_nil]
  refine (cond_f (by decide)).trans ?_
  rw [gd_pos (by decide)]
  refine (whileO_go (s' := ((imin a b, 2, ()) : Int × Int × Unit)) ?_).trans ?_
  · simp [ilt, gd_true, w2]
  refine (whileO_go (s' := ((imin (imin a b) c, 3, ()) : Int × Int × Unit)) ?_).trans ?_
  · simp [ilt, gd_true, w3]
  refine (whileO_go (s' := ((imin (imin (imin a b) c) d, 4, ()) : Int × Int × Unit)) ?_).trans ?_
  · simp [ilt, gd_true, w4]
  refine (whileO_go (s' := ((imin (imin (imin (imin a b) c) d) e, 5, ()) : Int × Int × Unit)) ?_).trans ?_
  · simp [ilt, gd_true, w5]
  refine (whileO_go (s' := ((imin (imin (imin (imin (imin a b) c) d) e) f, 6, ()) : Int × Int × Unit)) ?_).trans ?_
  · simp [ilt, gd_true, w6]
  refine whileO_out ?_
  exact cond_f rfl
set_option maxRecDepth 100000 in
theorem ok101 : con101.Ok Try.prog := Con.of_goal mixed okN con101 goal101
theorem goal102 : con102.goal Try.prog (spOf []) g102_sh [] lm30 := by
  have e : (∀ (l : List Int), l.length = 6 → g102 l = some ((l.drop 1).foldl imax (l.getD 0 0), ())) = con102.goal Try.prog (spOf []) g102_sh [] lm30 := by kernel_rfl
  rw [← e]
  intro l hl
  obtain ⟨a, b, c, d, e, f, rfl⟩ := len6 hl
  have w2 : wr .i64 2 = 2 := by decide
  have w3 : wr .i64 3 = 3 := by decide
  have w4 : wr .i64 4 = 4 := by decide
  have w5 : wr .i64 5 = 5 := by decide
  have w6 : wr .i64 6 = 6 := by decide
  unfold g102
  simp only [List.length_cons, List.length_nil]
  refine (cond_f (by decide)).trans ?_
  rw [gd_pos (by decide)]
  refine (whileO_go (s' := ((imax a b, 2, ()) : Int × Int × Unit)) ?_).trans ?_
  · simp [ilt, gd_true, w2]
  refine (whileO_go (s' := ((imax (imax a b) c, 3, ()) : Int × Int × Unit)) ?_).trans ?_
  · simp [ilt, gd_true, w3]
  refine (whileO_go (s' := ((imax (imax (imax a b) c) d, 4, ()) : Int × Int × Unit)) ?_).trans ?_
  · simp [ilt, gd_true, w4]
  refine (whileO_go (s' := ((imax (imax (imax (imax a b) c) d) e, 5, ()) : Int × Int × Unit)) ?_).trans ?_
  · simp [ilt, gd_true, w5]
  refine (whileO_go (s' := ((imax (imax (imax (imax (imax a b) c) d) e) f, 6, ()) : Int × Int × Unit)) ?_).trans ?_
  · simp [ilt, gd_true, w6]
  refine whileO_out ?_
  exact cond_f rfl
set_option maxRecDepth 100000 in
theorem ok102 : con102.Ok Try.prog := Con.of_goal mixed okN con102 goal102

theorem goal38l : con38l.goal Try.prog (spS [] []) g38l_sh [5] lm30 := by
  have e : (∀ (len : Int) (a : List Int), (0 ≤ len ∧ len ≤ 100000 ∧ len ≤ a.length) → g38l len a = some (a, a.take len.toNat, ())) = con38l.goal Try.prog (spS [] []) g38l_sh [5] lm30 := by kernel_rfl
  rw [← e]
  rintro len a ⟨h1, h2, h3⟩
  have hl : (a.take len.toNat).length = len.toNat := by rw [List.length_take]; omega
  unfold g38l
  simp only [Nat.zero_add, List.drop_zero, gd_true, hl, Nat.le_refl]
  rw [gd_pos (by omega), gd_pos (by omega)]
  have : eqO (len.toNat = 0) (some (a, ([] : List Int), ())) (some (a, a.take len.toNat, ())) = some (a, a.take len.toNat, ()) := eqO_some.2 ⟨rfl, fun h => by rw [h, List.take_zero]⟩
  rw [this]
  rfl
set_option maxRecDepth 100000 in
theorem ok38l : con38l.Ok Try.prog := SCon.of_goal mixed okN okS0 con38l goal38l
end Go.Arcs

set_option linter.unusedVariables false
set_option linter.unusedSimpArgs false
namespace Go.Arcs
open Go Go.Ab Go.Proofs

theorem nzI_rng : ∀ (l : List Int) (i : Int), nzI l i = -1 ∨ (i ≤ nzI l i ∧ nzI l i < i + l.length)
  | [], i => .inl rfl
  | x :: l, i => by
    unfold nzI
    by_cases h : x = 0
    · rw [if_pos h]
      rcases nzI_rng l (i + 1) with g | g
      · exact .inl g
      · exact .inr (by rw [List.length_cons]; omega)
    · rw [if_neg h]
      exact .inr (by rw [List.length_cons]; omega)
theorem ilt_min {a b k : Int} : ilt (imin a b) k = (ilt a k || ilt b k) := by
  rw [Bool.eq_iff_iff, Bool.or_eq_true, ilt_iff, ilt_iff, ilt_iff]
  unfold imin
  split <;> omega
theorem ile_max {a b k : Int} : ile k (imax a b) = (ile k a || ile k b) := by
  rw [Bool.eq_iff_iff]
  simp only [Bool.or_eq_true, ile, decide_eq_true_eq]
  unfold imax
  split <;> omega
theorem rng_not {x p : Int} : (decide (0 ≤ x) && decide (x < p)) = !(ilt x 0 || ile p x) := by
  rw [Bool.eq_iff_iff]
  simp only [Bool.and_eq_true, Bool.not_eq_true', Bool.or_eq_false_iff, ilt, ile, decide_eq_true_eq, decide_eq_false_iff_not]
  omega
theorem cur_cond {p : Int} {c : A6D} : (l6 c).all (fun x => decide (0 ≤ x) && decide (x < p)) =
    !(ilt (List.foldl imin c.1 [c.2.1, c.2.2.1, c.2.2.2.1, c.2.2.2.2.1, c.2.2.2.2.2.1]) 0 || ile p (List.foldl imax c.1 [c.2.1, c.2.2.1, c.2.2.2.1, c.2.2.2.2.1, c.2.2.2.2.2.1])) := by
  simp only [l6, List.all_cons, List.all_nil, Bool.and_true, List.foldl_cons, List.foldl_nil, ilt_min, ile_max, rng_not]
  generalize ilt c.1 0 = a1
  generalize ilt c.2.1 0 = a2
  generalize ilt c.2.2.1 0 = a3
  generalize ilt c.2.2.2.1 0 = a4
  generalize ilt c.2.2.2.2.1 0 = a5
  generalize ilt c.2.2.2.2.2.1 0 = a6
  generalize ile p c.1 = b1
  generalize ile p c.2.1 = b2
  generalize ile p c.2.2.1 = b3
  generalize ile p c.2.2.2.1 = b4
  generalize ile p c.2.2.2.2.1 = b5
  generalize ile p c.2.2.2.2.2.1 = b6
  revert a1 a2 a3 a4 a5 a6 b1 b2 b3 b4 b5 b6
  decide +kernel
theorem isC_parts {p : Int} {c : A6D} (h : isCb p c = true) : isPb p = true ∧ inS p c ∧ 0 ≤ nzI (l6 c) 0 ∧ (l6 c).getD (nzI (l6 c) 0).toNat 0 = 1 := by
  simp only [isCb, Bool.and_eq_true, decide_eq_true_eq, ieq_iff] at h
  obtain ⟨⟨⟨h1, h2⟩, h3⟩, h4⟩ := h
  refine ⟨h1, ?_, h3, h4⟩
  simp only [l6, List.all_cons, List.all_nil, Bool.and_true, Bool.and_eq_true, decide_eq_true_eq] at h2
  exact h2

theorem goal54s : con54s.goal Try.prog (spS [] [conRead, con103, con99c, con101, con102]) g54s_sh [] lm30 := by
  have e : (∀ (p : Int) (c : A6D), g54s p c = some ((crvX p c).2.1, (crvX p c).1, ())) = con54s.goal Try.prog (spS [] [conRead, con103, con99c, con101, con102]) g54s_sh [] lm30 := by kernel_rfl
  rw [← e]
  intro p c
  have hs0 : small ([] : List Int) := by simp [small]
  have hs6 : small [c.1, c.2.1, c.2.2.1, c.2.2.2.1, c.2.2.2.2.1, c.2.2.2.2.2.1] := by simp [small]
  by_cases hp : isPb p = true
  · have hP := isPb_iff.1 hp
    have hr : readF p [] = (some (planeF p), true, ()) := by rw [readF, if_pos hp]; rfl
    have h7 := isP_bd hP
    have hpl : isPl (planeF p) := ⟨hP, rfl⟩
    have hpts : (planeF p).2.1 = ptsC p := plane_pts p (isP_mem hP)
    have h1 : (planeF p).1 = p := rfl
    have e0 : g54s_c0 p c = ilt (nzI (l6 c) 0) 0 := by unfold g54s_c0; rw [hr]; rfl
    have e1 : g54s_c1 c = (l6 c).getD (nzI (l6 c) 0).toNat 0 := by
      unfold g54s_c1
      show (l6 c).getD (0 + (nzI (l6 c) 0).toNat * 1) 0 = _
      rw [Nat.zero_add, Nat.mul_one]
    have hnz := nzI_rng (l6 c) 0
    rw [show ((l6 c).length : Int) = 6 from rfl] at hnz
    have hcond : (bif g54s_c2 p c then true else ile p (List.foldl imax c.1 [c.2.1, c.2.2.1, c.2.2.2.1, c.2.2.2.2.1, c.2.2.2.2.2.1])) = !isCb p c := by
      unfold g54s_c2 isCb
      rw [e0, e1, hp, cur_cond]
      generalize hn : nzI (l6 c) 0 = nz
      have : ilt nz 0 = !decide (0 ≤ nz) := by
        rw [Bool.eq_iff_iff]
        simp only [ilt, Bool.not_eq_true', decide_eq_true_eq, decide_eq_false_iff_not]; omega
      rw [this]
      generalize decide (0 ≤ nz) = d1
      generalize ieq ((l6 c).getD nz.toNat 0) 1 = d2
      generalize ilt (List.foldl imin c.1 [c.2.1, c.2.2.1, c.2.2.2.1, c.2.2.2.2.1, c.2.2.2.2.2.1]) 0 = d3
      generalize ile p (List.foldl imax c.1 [c.2.1, c.2.2.1, c.2.2.2.1, c.2.2.2.2.1, c.2.2.2.2.2.1]) = d4
      cases d1 <;> cases d2 <;> cases d3 <;> cases d4 <;> rfl
    have hc0 : (!g54s_c0 p c) = true → 0 ≤ nzI (l6 c) 0 ∧ nzI (l6 c) 0 < 6 := by
      rw [e0]
      intro h
      have : ¬ nzI (l6 c) 0 < 0 := fun g => by rw [ilt_iff.2 g] at h; cases h
      omega
    unfold g54s
    rw [gd_pos hs0, gd_pos (Nat.le_refl _), gd_pos hs6, gd_pos (by simp), gd_pos (by simp)]
    refine (gd_pos (fun h => ⟨h, hc0 h⟩)).trans ((gd_pos (fun h => ⟨h, by have := hc0 h; show 0 + (nzI (l6 c) 0).toNat * 1 < 6; omega⟩)).trans ?_)
    rw [gd_pos (fun h => h), gd_pos (by intro h; rw [h]; rfl), gd_pos (fun h => ⟨h, Nat.le_refl _, rfl⟩), gd_pos (fun h => h), gd_pos (by intro h; rw [h]; rfl), gd_pos (fun h => ⟨h, Nat.le_refl _, rfl⟩), gd_pos (fun h => ⟨h, h⟩), gd_pos (by intro h; rw [h]; rfl)]
    by_cases hC : isCb p c = true
    · rw [hC] at hcond
      have hX : crvX p c = (crvF p c, 0, ()) := by rw [crvX, if_pos hC]
      obtain ⟨_, hS, _, _⟩ := isC_parts hC
      rw [hX]
      refine (cond_f hcond).trans ?_
      simp only [hr, Option.isSome_some, gd_true]
      have hl57 := pts_57 hP
      have hlen := pts_len p (isP_mem hP)
      have e3 : g54s_c3 p = ((ptsC p).length : Int) := by
        unfold g54s_c3
        rw [hr]
        show (((planeF p).2.1).length : Int) = _
        rw [hpts]
      refine whileO_nat (st := fun i : Nat => (((i : Int), l6 c, flt (fun (x : Nat) => onC p c (x : Int)) i, ()) : Int × List Int × List Int × Unit)) (lo := 0) (hi := (ptsC p).length) (Nat.zero_le _) ?_ ?_
      · intro i _ hi
        have hin : inPt p (i : Int) = true := inPt_iff.2 ⟨Int.natCast_nonneg _, by omega⟩
        have hfl := flt_len (q := fun (x : Nat) => onC p c (x : Int)) (n := i)
        refine (cond_t (by rw [e3]; exact ilt_iff.2 (Int.ofNat_lt.2 hi))).trans ?_
        have e4 : g54s_c4 p ((i : Int), l6 c, flt (fun (x : Nat) => onC p c (x : Int)) i, ()) = onC p c (i : Int) := by
          unfold g54s_c4
          rw [hr]
          rfl
        refine (gd_pos (show 6 ≤ (l6 c).length from Nat.le_refl _)).trans ?_
        refine (gd_pos hpl).trans ((gd_pos hS).trans ((gd_pos hin).trans ?_))
        rw [flt_succ]
        cases hq : onC p c (i : Int) with
        | true =>
          refine (cond_t (by rw [e4]; exact hq)).trans ?_
          simp only [List.take_length, cast1 (i := i) (by omega), if_true]
          rw [gd_pos (Nat.le_refl _), gd_pos (by omega), gd_pos (by simp)]
        | false =>
          refine (cond_f (by rw [e4]; exact hq)).trans ?_
          simp only [cast1 (i := i) (by omega), Bool.false_eq_true, if_false, List.append_nil]
      · refine (cond_f (by rw [e3]; exact ilt_false.2 (Int.le_refl _))).trans ?_
        rfl
    · have hC' : isCb p c = false := by simpa using hC
      rw [hC'] at hcond
      have hX : crvX p c = ([], 2, ()) := by rw [crvX, if_neg hC]
      rw [hX]
      refine (cond_t hcond).trans ?_
      rw [gd_pos rfl]
  · have hr : readF p [] = (none, false, ()) := by rw [readF, if_neg hp]
    have hX : crvX p c = ([], 2, ()) := by
      rw [crvX, if_neg (fun h => hp (isC_parts h).1)]
    have e0 : g54s_c0 p c = true := by unfold g54s_c0; rw [hr]; rfl
    have e2 : g54s_c2 p c = true := by unfold g54s_c2; rw [e0]; rfl
    rw [hX]
    unfold g54s
    simp only [e0, e2, hs0, hs6, hr, gd_true, Nat.le_refl, Bool.not_true, Bool.not_false, Bool.false_eq_true, Bool.true_eq_false, false_implies, cond_true, implies_true]
set_option maxRecDepth 100000 in
theorem ok54s : con54s.Ok Try.prog := SCon.of_goal mixed (okC okRead (okC ok103 (okC ok99c (okC ok101 (okC ok102 okN))))) okS0 con54s goal54s
end Go.Arcs

set_option linter.unusedVariables false
set_option linter.unusedSimpArgs false
namespace Go.Arcs
open Go Go.Ab Go.Proofs

/-! ### the algebra -/
def coM (m : MatD) : MatD :=
  ((m.2.1.2.1 * m.2.2.1.2.2.1 - m.2.1.2.2.1 * m.2.2.1.2.1, m.2.1.2.2.1 * m.2.2.1.1 - m.2.1.1 * m.2.2.1.2.2.1, m.2.1.1 * m.2.2.1.2.1 - m.2.1.2.1 * m.2.2.1.1, ()),
   (m.2.2.1.2.1 * m.1.2.2.1 - m.2.2.1.2.2.1 * m.1.2.1, m.2.2.1.2.2.1 * m.1.1 - m.2.2.1.1 * m.1.2.2.1, m.2.2.1.1 * m.1.2.1 - m.2.2.1.2.1 * m.1.1, ()),
   (m.1.2.1 * m.2.1.2.2.1 - m.1.2.2.1 * m.2.1.2.1, m.1.2.2.1 * m.2.1.1 - m.1.1 * m.2.1.2.2.1, m.1.1 * m.2.1.2.1 - m.1.2.1 * m.2.1.1, ()), ())
theorem cro_map (m : MatD) (x y : TripD) : cro (mulV m x) (mulV m y) = mulV (coM m) (cro x y) := by
  obtain ⟨⟨a1, a2, a3, _⟩, ⟨b1, b2, b3, _⟩, ⟨c1, c2, c3, _⟩, _⟩ := m
  obtain ⟨x1, x2, x3, _⟩ := x
  obtain ⟨y1, y2, y3, _⟩ := y
  simp only [cro, mulV, coM, Prod.mk.injEq, and_true]
  refine ⟨?_, ?_, ?_⟩ <;> grind
theorem co_co (m : MatD) : coM (coM m) = smulM (detM m) m := by
  obtain ⟨⟨a1, a2, a3, _⟩, ⟨b1, b2, b3, _⟩, ⟨c1, c2, c3, _⟩, _⟩ := m
  simp only [coM, smulM, smul, detM, Prod.mk.injEq, and_true]
  refine ⟨⟨?_, ?_, ?_⟩, ⟨?_, ?_, ?_⟩, ?_, ?_, ?_⟩ <;> grind
theorem trip_mul (m : MatD) (a b c : TripD) : trip (mulV m a) (mulV m b) (mulV m c) = detM m * trip a b c := (det_mul m (colsF a b c)).symm ▸ rfl
theorem trip_smul (x y z : Int) (a b c : TripD) : trip (smul x a) (smul y b) (smul z c) = x * y * z * trip a b c := by
  simp only [trip, detM, colsF, smul]; grind
def hexT (a b c d e f : TripD) : Int := trip (cro (cro a b) (cro d e)) (cro (cro b c) (cro e f)) (cro (cro c d) (cro f a))
theorem hex_map (m : MatD) (a b c d e f : TripD) : hexT (mulV m a) (mulV m b) (mulV m c) (mulV m d) (mulV m e) (mulV m f) = detM m * detM m * detM m * (detM m * hexT a b c d e f) := by
  unfold hexT
  simp only [cro_map, trip_mul]
  rw [co_co, det_smul, Int.mul_assoc]
def ver (x : TripD) : TripD := (x.2.1 * x.2.2.1, x.1 * x.2.2.1, x.1 * x.2.1, ())
theorem hex_std (d e f : TripD) : hexT e1 e2 e3 d e f = - trip (ver d) (ver e) (ver f) := by
  obtain ⟨d1, d2, d3, _⟩ := d
  obtain ⟨f1, f2, f3, _⟩ := f
  obtain ⟨g1, g2, g3, _⟩ := e
  simp only [hexT, trip, detM, colsF, cro, ver, e1, e2, e3]
  grind
theorem cro_smul (k l : Int) (x y : TripD) : cro (smul k x) (smul l y) = smul (k * l) (cro x y) := by
  simp only [cro, smul, Prod.mk.injEq, and_true]
  refine ⟨?_, ?_, ?_⟩ <;> grind
theorem hex_smul (k : Int) (a b c d e f : TripD) : hexT a b c (smul k d) (smul k e) (smul k f) = k * k * k * k * k * k * hexT a b c d e f := by
  have e0 : ∀ x : TripD, smul 1 x = x := fun x => by simp only [smul, Int.one_mul, eta3]
  have h := fun x y z : TripD => cro_smul 1 k x y
  unfold hexT
  have q1 : cro (smul k d) (smul k e) = smul (k * k) (cro d e) := cro_smul _ _ _ _
  have q2 : cro (smul k e) (smul k f) = smul (k * k) (cro e f) := cro_smul _ _ _ _
  have q3 : cro c (smul k d) = smul k (cro c d) := by have := cro_smul 1 k c d; rwa [e0, Int.one_mul] at this
  have q4 : cro (smul k f) a = smul k (cro f a) := by have := cro_smul k 1 f a; rwa [e0, Int.mul_one] at this
  have q5 : cro (cro a b) (smul (k * k) (cro d e)) = smul (k * k) (cro (cro a b) (cro d e)) := by have := cro_smul 1 (k * k) (cro a b) (cro d e); rwa [e0, Int.one_mul] at this
  have q6 : cro (cro b c) (smul (k * k) (cro e f)) = smul (k * k) (cro (cro b c) (cro e f)) := by have := cro_smul 1 (k * k) (cro b c) (cro e f); rwa [e0, Int.one_mul] at this
  rw [q1, q2, q3, q4, q5, q6, cro_smul, trip_smul]
  grind

/-! ### curves -/
/-- twice a curve's form between two triples -/
def pol (c : A6D) (x y : TripD) : Int := quad c (x.1 + y.1, x.2.1 + y.2.1, x.2.2.1 + y.2.2.1, ()) - quad c x - quad c y
theorem quad_comb (c : A6D) (A B C : TripD) (x y z : Int) : quad c (mulV (colsF A B C) (x, y, z, ())) = x * x * quad c A + y * y * quad c B + z * z * quad c C + (y * z * pol c B C + x * z * pol c A C + x * y * pol c A B) := by
  obtain ⟨c1, c2, c3, c4, c5, c6, _⟩ := c
  obtain ⟨a1, a2, a3, _⟩ := A
  obtain ⟨b1, b2, b3, _⟩ := B
  obtain ⟨d1, d2, d3, _⟩ := C
  simp only [quad, pol, mulV, colsF]
  grind
theorem quad_smul (c : A6D) (k : Int) (x : TripD) : quad c (smul k x) = k * k * quad c x := by
  simp only [quad, smul]; grind
theorem ver_comb (c : A6D) (A B C : TripD) (v : TripD) {p : Int} (hA : p ∣ quad c A) (hB : p ∣ quad c B) (hC : p ∣ quad c C) (h : p ∣ quad c (mulV (colsF A B C) v)) :
    p ∣ (ver v).1 * pol c B C + (ver v).2.1 * pol c A C + (ver v).2.2.1 * pol c A B := by
  obtain ⟨x, y, z, ⟨⟩⟩ := v
  rw [show ((x, y, z, PUnit.unit) : TripD) = (x, y, z, ()) from rfl, quad_comb] at h
  obtain ⟨a, ha⟩ := hA
  obtain ⟨b, hb⟩ := hB
  obtain ⟨d, hd⟩ := hC
  obtain ⟨n, hn⟩ := h
  exact ⟨n - x * x * a - y * y * b - z * z * d, by simp only [ver]; rw [ha, hb, hd] at hn; grind⟩
theorem cramer {p f g h : Int} (u v w : TripD) (hu : p ∣ u.1 * f + u.2.1 * g + u.2.2.1 * h) (hv : p ∣ v.1 * f + v.2.1 * g + v.2.2.1 * h) (hw : p ∣ w.1 * f + w.2.1 * g + w.2.2.1 * h) :
    p ∣ trip u v w * f ∧ p ∣ trip u v w * g ∧ p ∣ trip u v w * h := by
  obtain ⟨u1, u2, u3, _⟩ := u
  obtain ⟨v1, v2, v3, _⟩ := v
  obtain ⟨w1, w2, w3, _⟩ := w
  obtain ⟨a, ha⟩ := hu
  obtain ⟨b, hb⟩ := hv
  obtain ⟨c, hc⟩ := hw
  simp only [trip, detM, colsF] at *
  refine ⟨⟨a * (v2 * w3 - v3 * w2) - b * (u2 * w3 - u3 * w2) + c * (u2 * v3 - u3 * v2), ?_⟩, ⟨-(a * (v1 * w3 - v3 * w1) - b * (u1 * w3 - u3 * w1) + c * (u1 * v3 - u3 * v1)), ?_⟩, ⟨a * (v1 * w2 - v2 * w1) - b * (u1 * w2 - u2 * w1) + c * (u1 * v2 - u2 * v1), ?_⟩⟩ <;> grind
/-- six points of a curve: the points of opposite lines are on one line -/
theorem pascal {p : Int} (hp : isP p) {c : A6D} (hc : ¬ (p ∣ c.1 ∧ p ∣ c.2.1 ∧ p ∣ c.2.2.1 ∧ p ∣ c.2.2.2.1 ∧ p ∣ c.2.2.2.2.1 ∧ p ∣ c.2.2.2.2.2.1)) {A B C D E F : TripD} (hd : ¬ p ∣ trip A B C)
    (qA : p ∣ quad c A) (qB : p ∣ quad c B) (qC : p ∣ quad c C) (qD : p ∣ quad c D) (qE : p ∣ quad c E) (qF : p ∣ quad c F) : p ∣ hexT A B C D E F := by
  have hM : ∀ x, mulV (colsF A B C) (mulV (adjM (colsF A B C)) x) = smul (trip A B C) x := fun x => mul_adj _ _
  have eA : mulV (colsF A B C) e1 = A := by simp [mulV, colsF, e1]
  have eB : mulV (colsF A B C) e2 = B := by simp [mulV, colsF, e2]
  have eC : mulV (colsF A B C) e3 = C := by simp [mulV, colsF, e3]
  have qs {X : TripD} (q : p ∣ quad c X) : p ∣ quad c (mulV (colsF A B C) (mulV (adjM (colsF A B C)) X)) := by
    rw [hM, quad_smul]; exact Int.dvd_trans q (Int.dvd_mul_left _ _)
  have h1 := ver_comb c A B C _ qA qB qC (qs qD)
  have h2 := ver_comb c A B C _ qA qB qC (qs qE)
  have h3 := ver_comb c A B C _ qA qB qC (qs qF)
  have hcr := cramer _ _ _ h1 h2 h3
  -- not all of the three are 0
  have hne : ¬ (p ∣ pol c B C ∧ p ∣ pol c A C ∧ p ∣ pol c A B) := by
    rintro ⟨g1, g2, g3⟩
    have all : ∀ x, p ∣ quad c x := fun x => by
      have h : p ∣ quad c (mulV (colsF A B C) (mulV (adjM (colsF A B C)) x)) := by
        generalize mulV (adjM (colsF A B C)) x = v
        obtain ⟨x1, x2, x3, ⟨⟩⟩ := v
        rw [show ((x1, x2, x3, PUnit.unit) : TripD) = (x1, x2, x3, ()) from rfl, quad_comb]
        obtain ⟨a, ha⟩ := qA
        obtain ⟨b, hb⟩ := qB
        obtain ⟨d, hd⟩ := qC
        obtain ⟨k1, hk1⟩ := g1
        obtain ⟨k2, hk2⟩ := g2
        obtain ⟨k3, hk3⟩ := g3
        exact ⟨x1 * x1 * a + x2 * x2 * b + x3 * x3 * d + (x2 * x3 * k1 + x1 * x3 * k2 + x1 * x2 * k3), by rw [ha, hb, hd, hk1, hk2, hk3]; grind⟩
      rw [hM, quad_smul] at h
      exact cancel hp (nd_mul hp hd hd) (by rw [Int.mul_comm]; exact h)
    have a1 := all (1, 0, 0, ())
    have a2 := all (0, 1, 0, ())
    have a3 := all (0, 0, 1, ())
    have a4 := all (1, 1, 0, ())
    have a5 := all (1, 0, 1, ())
    have a6 := all (0, 1, 1, ())
    simp only [quad] at a1 a2 a3 a4 a5 a6
    have b1 : p ∣ c.1 := by simpa using a1
    have b2 : p ∣ c.2.1 := by simpa using a2
    have b3 : p ∣ c.2.2.1 := by simpa using a3
    refine hc ⟨b1, b2, b3, ?_, ?_, ?_⟩
    · obtain ⟨k, hk⟩ := a4; obtain ⟨i, hi⟩ := b1; obtain ⟨j, hj⟩ := b2
      exact ⟨k - i - j, by grind⟩
    · obtain ⟨k, hk⟩ := a5; obtain ⟨i, hi⟩ := b1; obtain ⟨j, hj⟩ := b3
      exact ⟨k - i - j, by grind⟩
    · obtain ⟨k, hk⟩ := a6; obtain ⟨i, hi⟩ := b2; obtain ⟨j, hj⟩ := b3
      exact ⟨k - i - j, by grind⟩
  have ht : p ∣ trip (ver (mulV (adjM (colsF A B C)) D)) (ver (mulV (adjM (colsF A B C)) E)) (ver (mulV (adjM (colsF A B C)) F)) := by
    by_cases k1 : p ∣ pol c B C
    · by_cases k2 : p ∣ pol c A C
      · have k3 : ¬ p ∣ pol c A B := fun k3 => hne ⟨k1, k2, k3⟩
        exact cancel hp k3 hcr.2.2
      · exact cancel hp k2 hcr.2.1
    · exact cancel hp k1 hcr.1
  have hs : p ∣ hexT e1 e2 e3 (mulV (adjM (colsF A B C)) D) (mulV (adjM (colsF A B C)) E) (mulV (adjM (colsF A B C)) F) := by
    rw [hex_std, Int.dvd_neg]; exact ht
  have hm := hex_map (colsF A B C) e1 e2 e3 (mulV (adjM (colsF A B C)) D) (mulV (adjM (colsF A B C)) E) (mulV (adjM (colsF A B C)) F)
  rw [eA, eB, eC, hM, hM, hM, hex_smul] at hm
  have h6 : p ∣ hexT A B C D E F * (trip A B C * trip A B C * trip A B C * trip A B C * trip A B C * trip A B C) := by
    rw [Int.mul_comm, hm]
    exact Int.dvd_trans (Int.dvd_trans hs (Int.dvd_mul_left _ _)) (Int.dvd_mul_left _ _)
  exact cancel hp (nd_mul hp (nd_mul hp (nd_mul hp (nd_mul hp (nd_mul hp hd hd) hd) hd) hd) hd) h6
end Go.Arcs

set_option linter.unusedVariables false
set_option linter.unusedSimpArgs false
namespace Go.Arcs
open Go Go.Ab Go.Proofs

theorem thr_Pr {p a b : Int} (hp : isP p) (ha : inPt p a = true) (hb : inPt p b = true) (hab : a ≠ b) : Pr p (pt p (thrF p a b)) (cro (pt p a) (pt p b)) := by
  have t := pts_cross p (isP_mem hp) _ (pt_mem hp ha) _ (pt_mem hp hb)
  have hd : deq Trip (pt p a) (pt p b) = false := by
    rw [Bool.eq_false_iff]
    intro h
    exact pt_neq hp ha hb hab ((deqT_iff _ _).1 h)
  rw [hd, Bool.false_or, Bool.and_eq_true] at t
  have hno := notOb_iff.1 t.1
  have hin : inR p (crossF p (pt p a) (pt p b)) := by
    have := isP_bd hp
    exact ⟨⟨Int.emod_nonneg _ (by omega), Int.emod_lt_of_pos _ (by omega)⟩, ⟨Int.emod_nonneg _ (by omega), Int.emod_lt_of_pos _ (by omega)⟩, Int.emod_nonneg _ (by omega), Int.emod_lt_of_pos _ (by omega)⟩
  obtain ⟨_, _, s3⟩ := low_spec hp hin hno
  obtain ⟨l, mu, hu, hc⟩ := low_cv hp hin hno
  unfold thrF
  rw [s3]
  exact ⟨l, unit_nd hp hu, CV.trans hc ⟨Ce.rfl'.mul Ce.mod, Ce.rfl'.mul Ce.mod, Ce.rfl'.mul Ce.mod⟩⟩
theorem cro_cong {p : Int} {x y x' y' : TripD} (h : CV p x x') (g : CV p y y') : CV p (cro x y) (cro x' y') :=
  ⟨(h.2.1.mul g.2.2).sub (h.2.2.mul g.2.1), (h.2.2.mul g.1).sub (h.1.mul g.2.2), (h.1.mul g.2.1).sub (h.2.1.mul g.1)⟩
theorem cro_Pr {p : Int} (hp : isP p) {x y x' y' : TripD} (h : Pr p x x') (g : Pr p y y') : Pr p (cro x y) (cro x' y') := by
  obtain ⟨k, hk, h⟩ := h
  obtain ⟨l, hl, g⟩ := g
  exact ⟨k * l, nd_mul hp hk hl, by rw [← cro_smul]; exact cro_cong h g⟩
theorem trip_Pr {p : Int} {x y z x' y' z' : TripD} (h : Pr p x x') (g : Pr p y y') (f : Pr p z z') (hd : p ∣ trip x' y' z') : p ∣ trip x y z := by
  obtain ⟨k, _, h⟩ := h
  obtain ⟨l, _, g⟩ := g
  obtain ⟨m, _, f⟩ := f
  have hc : Ce p (trip x y z) (trip (smul k x') (smul l y') (smul m z')) := detM_cong ⟨⟨h.1, g.1, f.1⟩, ⟨h.2.1, g.2.1, f.2.1⟩, h.2.2, g.2.2, f.2.2⟩
  rw [trip_smul] at hc
  obtain ⟨n, hn⟩ := hc
  obtain ⟨q, hq⟩ := hd
  exact ⟨n + k * l * m * q, by rw [hq] at hn; grind⟩
theorem str_sw {p a b c : Int} (hp : isP p) : strF p b a c = strF p a b c := by
  rw [Bool.eq_iff_iff, str_trip hp, str_trip hp, trip_swap, Int.dvd_neg]
theorem str_ro {p a b c : Int} (hp : isP p) : strF p b c a = strF p a b c := by
  rw [Bool.eq_iff_iff, str_trip hp, str_trip hp, trip_rot]
/-- no three points of an arc are on a line, in any order -/
theorem arc_any {p : Int} (hp : isP p) {l : List Int} (h : arcF p l = true) {a b c : Int} (ha : a ∈ l) (hb : b ∈ l) (hc : c ∈ l) (hab : a ≠ b) (hac : a ≠ c) (hbc : b ≠ c) : strF p a b c = false := by
  simp only [arcF, List.all_eq_true, List.mem_range, Bool.not_eq_true'] at h
  obtain ⟨i, hi, rfl⟩ := List.getElem_of_mem ha
  obtain ⟨j, hj, rfl⟩ := List.getElem_of_mem hb
  obtain ⟨k, hk, rfl⟩ := List.getElem_of_mem hc
  have go : ∀ i j k (hi : i < l.length) (hj : j < l.length) (hk : k < l.length), i < j → j < k → strF p l[i] l[j] l[k] = false := fun i j k hi hj hk h1 h2 => by
    have := h k hk j h2 i h1
    rwa [gd_at hi, gd_at hj, gd_at hk] at this
  have nij : i ≠ j := fun e => hab (by subst e; rfl)
  have nik : i ≠ k := fun e => hac (by subst e; rfl)
  have njk : j ≠ k := fun e => hbc (by subst e; rfl)
  rcases Nat.lt_or_gt_of_ne nij with h1 | h1 <;> rcases Nat.lt_or_gt_of_ne njk with h2 | h2
  · exact go i j k hi hj hk h1 h2
  · rcases Nat.lt_or_gt_of_ne nik with h3 | h3
    · have := go i k j hi hk hj h3 h2
      rw [← str_sw hp, ← str_ro hp] at this
      first | exact this | (rw [← str_ro hp]; exact this) | (rw [← str_ro hp, ← str_ro hp]; exact this)
    · have := go k i j hk hi hj h3 h1
      rw [← str_ro hp] at this
      exact this
  · rcases Nat.lt_or_gt_of_ne nik with h3 | h3
    · have := go j i k hj hi hk h1 h3
      rw [← str_sw hp] at this
      exact this
    · have := go j k i hj hk hi h2 h3
      rw [← str_ro hp, ← str_ro hp] at this
      exact this
  · have := go k j i hk hj hi h2 h1
    rw [← str_sw hp, ← str_ro hp, ← str_ro hp] at this
    first | exact this | (rw [← str_ro hp]; exact this) | (rw [← str_ro hp, ← str_ro hp]; exact this)
theorem lines_ne {p a b c d : Int} (hp : isP p) (ha : inPt p a = true) (hb : inPt p b = true) (hc : inPt p c = true) (hd : inPt p d = true) (hab : a ≠ b) (hcd : c ≠ d) (h : strF p a b c = false) : thrF p a b ≠ thrF p c d := by
  intro e
  have h1 := (join_on hp hc hd hcd).2.1
  rw [← e, thr_join hp ha hb hab, ← str_on hp ha hb hc hab] at h1
  rw [h1] at h; cases h

/-- six points of a curve of which no three are on a line -/
theorem hexagon {p : Int} (hpb : isPb p = true) {q : A6D} (hq : isCb p q = true) {a b c d e f : Int} (hin : ∀ x ∈ [a, b, c, d, e, f], inPt p x = true ∧ onC p q x = true)
    (hnd : [a, b, c, d, e, f].Nodup) (hs : ∀ x ∈ [a, b, c, d, e, f], ∀ y ∈ [a, b, c, d, e, f], ∀ z ∈ [a, b, c, d, e, f], x ≠ y → x ≠ z → y ≠ z → strF p x y z = false) :
    ∃ l0 l1 l2 l3 l4 l5 x y z, joinF p a b = (l0, 0, ()) ∧ joinF p b c = (l1, 0, ()) ∧ joinF p c d = (l2, 0, ()) ∧ joinF p d e = (l3, 0, ()) ∧ joinF p e f = (l4, 0, ()) ∧ joinF p f a = (l5, 0, ()) ∧
      joinF p l0 l3 = (x, 0, ()) ∧ joinF p l1 l4 = (y, 0, ()) ∧ joinF p l2 l5 = (z, 0, ()) ∧ (x = y ∨ ∃ j, joinF p x y = (j, 0, ()) ∧ onFF p z j = (true, 0, ())) := by
  have hp := isPb_iff.1 hpb
  simp only [List.mem_cons, List.not_mem_nil, or_false, forall_eq_or_imp, forall_eq] at hin
  obtain ⟨⟨ia, qa⟩, ⟨ib, qb⟩, ⟨ic, qc⟩, ⟨id_, qd⟩, ⟨ie, qe⟩, ⟨if_, qf⟩⟩ := hin
  simp only [List.nodup_cons, List.mem_cons, List.not_mem_nil, or_false, not_or, not_false_eq_true, List.nodup_nil, and_true] at hnd
  obtain ⟨⟨ab, ac, ad, ae, af⟩, ⟨bc, bd, be, bf⟩, ⟨cd, ce, cf⟩, ⟨de, df⟩, ef⟩ := hnd
  have J {x y : Int} (hx : inPt p x = true) (hy : inPt p y = true) (hxy : x ≠ y) : joinF p x y = (thrF p x y, 0, ()) := by rw [joinF, if_pos ⟨hpb, hx, hy, hxy⟩]
  have n03 := lines_ne hp ia ib id_ ie ab de (hs a (by simp) b (by simp) d (by simp) ab ad bd)
  have n14 := lines_ne hp ib ic ie if_ bc ef (hs b (by simp) c (by simp) e (by simp) bc be ce)
  have n25 := lines_ne hp ic id_ if_ ia cd (Ne.symm af) (hs c (by simp) d (by simp) f (by simp) cd cf df)
  have i0 := (join_on hp ia ib ab).1
  have i1 := (join_on hp ib ic bc).1
  have i2 := (join_on hp ic id_ cd).1
  have i3 := (join_on hp id_ ie de).1
  have i4 := (join_on hp ie if_ ef).1
  have i5 := (join_on hp if_ ia (Ne.symm af)).1
  have ix := (join_on hp i0 i3 n03).1
  have iy := (join_on hp i1 i4 n14).1
  have iz := (join_on hp i2 i5 n25).1
  refine ⟨_, _, _, _, _, _, _, _, _, J ia ib ab, J ib ic bc, J ic id_ cd, J id_ ie de, J ie if_ ef, J if_ ia (Ne.symm af), J i0 i3 n03, J i1 i4 n14, J i2 i5 n25, ?_⟩
  by_cases hxy : thrF p (thrF p a b) (thrF p d e) = thrF p (thrF p b c) (thrF p e f)
  · exact .inl hxy
  · refine .inr ⟨_, J ix iy hxy, ?_⟩
    have ij := (join_on hp ix iy hxy).1
    have key : onF p (thrF p (thrF p c d) (thrF p f a)) (thrF p (thrF p (thrF p a b) (thrF p d e)) (thrF p (thrF p b c) (thrF p e f))) = true := by
      rw [thr_join hp ix iy hxy, ← str_on hp ix iy iz hxy, str_trip hp]
      refine trip_Pr ((thr_Pr hp i0 i3 n03).trans hp (cro_Pr hp (thr_Pr hp ia ib ab) (thr_Pr hp id_ ie de))) ((thr_Pr hp i1 i4 n14).trans hp (cro_Pr hp (thr_Pr hp ib ic bc) (thr_Pr hp ie if_ ef)))
        ((thr_Pr hp i2 i5 n25).trans hp (cro_Pr hp (thr_Pr hp ic id_ cd) (thr_Pr hp if_ ia (Ne.symm af)))) ?_
      obtain ⟨_, hS, n0, n1⟩ := isC_parts hq
      have on {x : Int} (h : onC p q x = true) : p ∣ quad q (pt p x) := Int.dvd_of_emod_eq_zero (ieq_iff.1 h)
      refine pascal hp (c := q) ?_ ?_ (on qa) (on qb) (on qc) (on qd) (on qe) (on qf)
      · rintro ⟨z1, z2, z3, z4, z5, z6⟩
        have hnz := nzI_rng (l6 q) 0
        rw [show ((l6 q).length : Int) = 6 from rfl] at hnz
        have hlt : (nzI (l6 q) 0).toNat < (l6 q).length := by show _ < 6; omega
        have hm : (1 : Int) ∈ l6 q := by
          rw [← n1, gd_at hlt]
          exact List.getElem_mem hlt
        have hdv : p ∣ 1 := by
          simp only [l6, List.mem_cons, List.not_mem_nil, or_false] at hm
          rcases hm with h | h | h | h | h | h <;> rw [h] <;> assumption
        exact not_dvd_one hp hdv
      · intro hd
        have := (str_trip hp (a := a) (b := b) (c := c)).2 hd
        rw [hs a (by simp) b (by simp) c (by simp) ab ac bc] at this
        cases this
    rw [onFF, if_pos ⟨hpb, iz, ij⟩, key]
theorem swap_perm {l : List Int} {i j : Nat} (hi : i < l.length) (hj : j < l.length) : ((l.set i (l.getD j 0)).set j (l.getD i 0)).Perm l := by
  rw [gd_at hi, gd_at hj]; exact List.set_set_perm hi hj
theorem c4_rng {x2 : List Int} {i n : Int} {s : List Int} (hs : (s.length : Int) = n) (h0 : 0 ≤ i ∧ i < n) (hn : n ≤ 1000) :
    wr .u64 (wr .i64 ((s.length : Int) - i)) ≠ 0 ∧ 0 ≤ g13_c4 x2 (i, s, ()) ∧ g13_c4 x2 (i, s, ()) < n := by
  have e1 : wr .i64 ((s.length : Int) - i) = n - i := by rw [hs]; exact wr_id (by omega)
  have e2 : wr .u64 (n - i) = n - i := by show IntKind.u64.wrap _ = _; rw [IntKind.wrap_u64]; omega
  unfold g13_c4
  simp only
  rw [e1, e2]
  have hw : 0 ≤ wr .u64 (x2.getD i.toNat 0) := by
    show 0 ≤ IntKind.u64.wrap _
    rw [IntKind.wrap_u64]; exact Int.emod_nonneg _ (by omega)
  generalize wr .u64 (x2.getD i.toNat 0) = u at hw
  rw [Int.tmod_eq_emod_of_nonneg hw]
  have m1 : 0 ≤ u % (n - i) := Int.emod_nonneg _ (by omega)
  have m2 : u % (n - i) < n - i := Int.emod_lt_of_pos _ (by omega)
  rw [wr_id (n := u % (n - i)) (by omega), wr_id (by omega)]
  omega
end Go.Arcs

set_option linter.unusedVariables false
set_option linter.unusedSimpArgs false
namespace Go.Arcs
open Go Go.Ab Go.Proofs

theorem six {l : List Int} (h : 6 ≤ l.length) : ∃ a b c d e f r, l = a :: b :: c :: d :: e :: f :: r := by
  match l, h with
  | a :: b :: c :: d :: e :: f :: r, _ => exact ⟨a, b, c, d, e, f, r, rfl⟩
theorem ris_nd : ∀ {l : List Int}, ris l = true → l.Nodup
  | [], _ => List.nodup_nil
  | x :: l, h => by
    obtain ⟨h1, h2⟩ := ris_cons h
    exact List.nodup_cons.2 ⟨fun hx => by have := h2 x hx; omega, ris_nd h1⟩
theorem perm_loop {X : Type} {step : (Int × List Int × Unit) → Option (Lp (Int × List Int × Unit) X)} {x : X} {S : List Int}
    (h1 : ∀ (i : Nat) (s : List Int), i < S.length → s.Perm S → ∃ s' : List Int, s'.Perm S ∧ step ((i : Int), s, ()) = some (.go (((i + 1 : Nat) : Int), s', ())))
    (h2 : ∀ s : List Int, s.Perm S → step ((S.length : Int), s, ()) = some (.out x)) : ∀ (n i : Nat) (s : List Int), i + n = S.length → s.Perm S → whileO step ((i : Int), s, ()) = some x
  | 0, i, s, hi, hs => by
    have : i = S.length := by omega
    subst this
    exact whileO_out (h2 s hs)
  | n + 1, i, s, hi, hs => by
    obtain ⟨s', hs', e⟩ := h1 i s (by omega) hs
    exact (whileO_go e).trans (perm_loop h1 h2 n (i + 1) s' (by omega) hs')
theorem goal13 : con13.goal Try.prog (spS [con54s, con38l] [con55, con19, con20, con26, con22]) g13_sh [] lm30 := by
  have e : (∀ (p : Int) (c : A6D) (l : List Int), small2 l → g13 p c l = some (true, ())) = con13.goal Try.prog (spS [con54s, con38l] [con55, con19, con20, con26, con22]) g13_sh [] lm30 := by kernel_rfl
  rw [← e]
  intro p q l hsm
  obtain ⟨q1, q2, q3, q4, q5, q6, ⟨⟩⟩ := q
  have ir : ∀ x : Int, ieq x x = true := fun x => ieq_iff.2 rfl
  have i20 : ieq 2 0 = false := by decide
  by_cases hq : isCb p (q1, q2, q3, q4, q5, q6, ()) = true
  · have hpb := (isC_parts hq).1
    have hp := isPb_iff.1 hpb
    have h7 := isP_bd hp
    have hX : crvX p (q1, q2, q3, q4, q5, q6, ()) = (crvF p (q1, q2, q3, q4, q5, q6, ()), 0, ()) := by rw [crvX, if_pos hq]
    have hmem : ∀ x ∈ crvF p (q1, q2, q3, q4, q5, q6, ()), inPt p x = true ∧ onC p (q1, q2, q3, q4, q5, q6, ()) x = true := fun x hx => by
      unfold crvF flt at hx
      obtain ⟨n, hn, rfl⟩ := List.mem_map.1 hx
      rw [List.mem_filter, List.mem_range] at hn
      have := pts_len p (isP_mem hp)
      exact ⟨inPt_iff.2 ⟨Int.natCast_nonneg _, by omega⟩, hn.2⟩
    have hris : ris (crvF p (q1, q2, q3, q4, q5, q6, ())) = true := (flt_ris (q := fun (x : Nat) => onC p (q1, q2, q3, q4, q5, q6, ()) (x : Int))).1
    have hlen : (crvF p (q1, q2, q3, q4, q5, q6, ())).length ≤ 57 := by
      have h1 := flt_len (q := fun (x : Nat) => onC p (q1, q2, q3, q4, q5, q6, ()) (x : Int)) (n := (ptsC p).length)
      have h2 := pts_57 hp
      unfold crvF
      omega
    have e0 : g13_c0 p (q1, q2, q3, q4, q5, q6, ()) = 0 := by show (crvX p (q1, q2, q3, q4, q5, q6, ())).2.1 = 0; rw [hX]
    have e1 : g13_c1 p (q1, q2, q3, q4, q5, q6, ()) = ((crvF p (q1, q2, q3, q4, q5, q6, ())).length : Int) := by show ((crvX p (q1, q2, q3, q4, q5, q6, ())).1.length : Int) = _; rw [hX]
    have e23 : arcX p (List.take (List.length (List.take (List.length (crvX p (q1, q2, q3, q4, q5, q6, ())).1) (crvX p (q1, q2, q3, q4, q5, q6, ())).1)) (List.drop 0 (List.take (List.length (crvX p (q1, q2, q3, q4, q5, q6, ())).1) (crvX p (q1, q2, q3, q4, q5, q6, ())).1))) = arcX p (crvF p (q1, q2, q3, q4, q5, q6, ())) := by
      rw [hX]; simp only [List.take_length, List.drop_zero]
    have e2 : g13_c2 p (q1, q2, q3, q4, q5, q6, ()) = (arcX p (crvF p (q1, q2, q3, q4, q5, q6, ()))).1 := by rw [← e23]; rfl
    have e3 : g13_c3 p (q1, q2, q3, q4, q5, q6, ()) = (arcX p (crvF p (q1, q2, q3, q4, q5, q6, ()))).2.1 := by rw [← e23]; rfl
    unfold g13
    simp only [hX]
    generalize hS : crvF p (q1, q2, q3, q4, q5, q6, ()) = S at *
    have hok : okSet p S = true := by
      simp only [okSet, Bool.and_eq_true, hpb, hris, true_and, and_true, List.all_eq_true]
      exact fun x hx => (hmem x hx).1
    have hA : arcX p S = (arcF p S, 0, ()) := by rw [arcX, if_pos hok]
    rw [hA] at e2 e3
    have hsS : small S := by unfold small; omega
    have w1 : wr .i64 1 = 1 := by decide
    have w2 : wr .i64 2 = 2 := by decide
    have w3 : wr .i64 3 = 3 := by decide
    have w4 : wr .i64 4 = 4 := by decide
    have w5 : wr .i64 5 = 5 := by decide
    have w6 : wr .i64 6 = 6 := by decide
    have t1 : Int.tmod 1 6 = 1 := by decide
    have t2 : Int.tmod 2 6 = 2 := by decide
    have t3 : Int.tmod 3 6 = 3 := by decide
    have t4 : Int.tmod 4 6 = 4 := by decide
    have t5 : Int.tmod 5 6 = 5 := by decide
    have t6 : Int.tmod 6 6 = 0 := by decide
    by_cases h6 : S.length < 6
    · have e6 : ilt (S.length : Int) 6 = true := ilt_iff.2 (by omega)
      simp [gd_true, e0, e1, e6, ir]
    · have e6 : ilt (S.length : Int) 6 = false := ilt_false.2 (by omega)
      by_cases ha : arcF p S = true
      · have b1 : 0 ≤ (S.length : Int) ∧ (S.length : Int) ≤ 100000 ∧ (S.length : Int) ≤ S.length := by omega
        simp only [gd_true, e0, e1, e2, e3, e6, ir, ha, b1, hsS, List.take_length, List.drop_zero, Nat.zero_add, Nat.le_refl, Bool.not_true, Bool.not_false, cond_true, cond_false, imp_self, and_self, true_implies, implies_true, Bool.false_eq_true, Bool.true_eq_false, false_implies]
        refine perm_loop (S := S) ?_ ?_ S.length 0 S (Nat.zero_add _) (List.Perm.refl _)
        · intro i s hi hs
          have hl := hs.length_eq
          have hc := c4_rng (x2 := l) (i := (i : Int)) (s := s) (n := (S.length : Int)) (by omega) (by omega) (by omega)
          have e7 : ilt (i : Int) (S.length : Int) = true := ilt_iff.2 (by omega)
          have wi := cast1 (i := i) (by omega)
          by_cases hil : i < l.length
          · have e8 : ilt (i : Int) (l.length : Int) = true := ilt_iff.2 (by omega)
            obtain ⟨z1, z2, z3⟩ := hc
            generalize hj : g13_c4 l ((i : Int), s, ()) = j at z2 z3
            have hj2 : j.toNat < s.length := by omega
            have b2 : 0 ≤ (i : Int) ∧ (i : Int) < (l.length : Int) := by omega
            have b3 : 0 ≤ j ∧ j < (s.length : Int) := by omega
            have b4 : 0 ≤ (i : Int) ∧ (i : Int) < (s.length : Int) := by omega
            have b5 : i < s.length := by omega
            refine ⟨(s.set i (s.getD j.toNat 0)).set j.toNat (s.getD i 0), (swap_perm (by omega) hj2).trans hs, ?_⟩
            simp only [e7, e8, cond_true, hj, z1, b2, b3, b4, b5, hj2, wi, gd_true, List.length_set, Int.toNat_natCast, and_self, ne_eq, not_false_eq_true, implies_true, true_implies]
          · have e8 : ilt (i : Int) (l.length : Int) = false := ilt_false.2 (by omega)
            exact ⟨s, hs, by simp only [e7, e8, cond_true, cond_false, wi, gd_true]⟩
        · intro s hs
          have hl := hs.length_eq
          have e7 : ilt (S.length : Int) (S.length : Int) = false := ilt_false.2 (Int.le_refl _)
          obtain ⟨a, b, c, d, e', f, r, rfl⟩ := six (l := s) (by omega)
          have hsub : ∀ x ∈ [a, b, c, d, e', f], x ∈ S := fun x hx => hs.mem_iff.1 (by
            simp only [List.mem_cons, List.not_mem_nil, or_false] at hx ⊢
            rcases hx with h | h | h | h | h | h <;> simp [h])
          have hnd : [a, b, c, d, e', f].Nodup := by
            have h1 : S.Nodup := (ris_nd hris)
            have h2 := hs.nodup_iff.2 h1
            exact h2.sublist (by simp only [List.cons_sublist_cons, List.nil_sublist])
          obtain ⟨l0, l1, l2, l3, l4, l5, x, y, z, j01, j12, j23, j34, j45, j50, jx, jy, jz, hfin⟩ := hexagon hpb hq (a := a) (b := b) (c := c) (d := d) (e := e') (f := f) (fun x hx => hmem x (hsub x hx)) hnd
            (fun x hx y hy z hz h1 h2 h3 => arc_any hp ha (hsub x hx) (hsub y hy) (hsub z hz) h1 h2 h3)
          have hl6 : 6 ≤ (a :: b :: c :: d :: e' :: f :: r).length := by simp
          refine (cond_f e7).trans ?_
          have k0 : (0 : Int) < ((a :: b :: c :: d :: e' :: f :: r).length : Int) := by omega
          have k1 : (1 : Int) < ((a :: b :: c :: d :: e' :: f :: r).length : Int) := by omega
          have k2 : (2 : Int) < ((a :: b :: c :: d :: e' :: f :: r).length : Int) := by omega
          have k3 : (3 : Int) < ((a :: b :: c :: d :: e' :: f :: r).length : Int) := by omega
          have k4 : (4 : Int) < ((a :: b :: c :: d :: e' :: f :: r).length : Int) := by omega
          have k5 : (5 : Int) < ((a :: b :: c :: d :: e' :: f :: r).length : Int) := by omega
          have m0 : 0 < (a :: b :: c :: d :: e' :: f :: r).length := by omega
          have m1 : 1 < (a :: b :: c :: d :: e' :: f :: r).length := by omega
          have m2 : 2 < (a :: b :: c :: d :: e' :: f :: r).length := by omega
          have m3 : 3 < (a :: b :: c :: d :: e' :: f :: r).length := by omega
          have m4 : 4 < (a :: b :: c :: d :: e' :: f :: r).length := by omega
          have m5 : 5 < (a :: b :: c :: d :: e' :: f :: r).length := by omega
          have r1 : wr .i64 (0 + 1) = 1 := by decide
          have r2 : wr .i64 (1 + 1) = 2 := by decide
          have r3 : wr .i64 (2 + 1) = 3 := by decide
          have r4 : wr .i64 (3 + 1) = 4 := by decide
          have r5 : wr .i64 (4 + 1) = 5 := by decide
          have r6 : wr .i64 (5 + 1) = 6 := by decide
          have C50 : g13_c5 p (((0 : Int), a :: b :: c :: d :: e' :: f :: r, [0, 0, 0, 0, 0, 0], ()) : Int × List Int × List Int × Unit) = l0 := by
            unfold g13_c5
            simp only [r1, t1]
            exact congrArg (fun z => z.1) j01
          have C60 : g13_c6 p (((0 : Int), a :: b :: c :: d :: e' :: f :: r, [0, 0, 0, 0, 0, 0], ()) : Int × List Int × List Int × Unit) = 0 := by
            unfold g13_c6
            simp only [r1, t1]
            exact congrArg (fun z => z.2.1) j01
          have C51 : g13_c5 p (((1 : Int), a :: b :: c :: d :: e' :: f :: r, [l0, 0, 0, 0, 0, 0], ()) : Int × List Int × List Int × Unit) = l1 := by
            unfold g13_c5
            simp only [r2, t2]
            exact congrArg (fun z => z.1) j12
          have C61 : g13_c6 p (((1 : Int), a :: b :: c :: d :: e' :: f :: r, [l0, 0, 0, 0, 0, 0], ()) : Int × List Int × List Int × Unit) = 0 := by
            unfold g13_c6
            simp only [r2, t2]
            exact congrArg (fun z => z.2.1) j12
          have C52 : g13_c5 p (((2 : Int), a :: b :: c :: d :: e' :: f :: r, [l0, l1, 0, 0, 0, 0], ()) : Int × List Int × List Int × Unit) = l2 := by
            unfold g13_c5
            simp only [r3, t3]
            exact congrArg (fun z => z.1) j23
          have C62 : g13_c6 p (((2 : Int), a :: b :: c :: d :: e' :: f :: r, [l0, l1, 0, 0, 0, 0], ()) : Int × List Int × List Int × Unit) = 0 := by
            unfold g13_c6
            simp only [r3, t3]
            exact congrArg (fun z => z.2.1) j23
          have C53 : g13_c5 p (((3 : Int), a :: b :: c :: d :: e' :: f :: r, [l0, l1, l2, 0, 0, 0], ()) : Int × List Int × List Int × Unit) = l3 := by
            unfold g13_c5
            simp only [r4, t4]
            exact congrArg (fun z => z.1) j34
          have C63 : g13_c6 p (((3 : Int), a :: b :: c :: d :: e' :: f :: r, [l0, l1, l2, 0, 0, 0], ()) : Int × List Int × List Int × Unit) = 0 := by
            unfold g13_c6
            simp only [r4, t4]
            exact congrArg (fun z => z.2.1) j34
          have C54 : g13_c5 p (((4 : Int), a :: b :: c :: d :: e' :: f :: r, [l0, l1, l2, l3, 0, 0], ()) : Int × List Int × List Int × Unit) = l4 := by
            unfold g13_c5
            simp only [r5, t5]
            exact congrArg (fun z => z.1) j45
          have C64 : g13_c6 p (((4 : Int), a :: b :: c :: d :: e' :: f :: r, [l0, l1, l2, l3, 0, 0], ()) : Int × List Int × List Int × Unit) = 0 := by
            unfold g13_c6
            simp only [r5, t5]
            exact congrArg (fun z => z.2.1) j45
          have C55 : g13_c5 p (((5 : Int), a :: b :: c :: d :: e' :: f :: r, [l0, l1, l2, l3, l4, 0], ()) : Int × List Int × List Int × Unit) = l5 := by
            unfold g13_c5
            simp only [r6, t6]
            exact congrArg (fun z => z.1) j50
          have C65 : g13_c6 p (((5 : Int), a :: b :: c :: d :: e' :: f :: r, [l0, l1, l2, l3, l4, 0], ()) : Int × List Int × List Int × Unit) = 0 := by
            unfold g13_c6
            simp only [r6, t6]
            exact congrArg (fun z => z.2.1) j50
          refine (whileO_go (s' := (((1 : Int), a :: b :: c :: d :: e' :: f :: r, [l0, 0, 0, 0, 0, 0], ()) : Int × List Int × List Int × Unit)) ?_).trans ?_
          · refine (cond_t rfl).trans ((gd_pos ⟨show (0 : Int) ≤ 0 from by decide, k0⟩).trans ((gd_pos (show 0 < _ from m0)).trans ((gd_pos (by decide)).trans ((gd_pos (by simp only [r1, t1]; exact ⟨show (0 : Int) ≤ _ from by decide, k1⟩)).trans ((gd_pos (by simp only [r1, t1]; exact m1)).trans ((cond_f (by rw [C60]; rfl)).trans ((gd_pos (show (0 : Int) ≤ 0 ∧ (0 : Int) < 6 from by decide)).trans ((gd_pos (show 0 < 6 from by decide)).trans ?_))))))))
            rw [C50]
            simp only [r1]
            rfl
          refine (whileO_go (s' := (((2 : Int), a :: b :: c :: d :: e' :: f :: r, [l0, l1, 0, 0, 0, 0], ()) : Int × List Int × List Int × Unit)) ?_).trans ?_
          · refine (cond_t rfl).trans ((gd_pos ⟨show (0 : Int) ≤ 1 from by decide, k1⟩).trans ((gd_pos (show 1 < _ from m1)).trans ((gd_pos (by decide)).trans ((gd_pos (by simp only [r2, t2]; exact ⟨show (0 : Int) ≤ _ from by decide, k2⟩)).trans ((gd_pos (by simp only [r2, t2]; exact m2)).trans ((cond_f (by rw [C61]; rfl)).trans ((gd_pos (show (0 : Int) ≤ 1 ∧ (1 : Int) < 6 from by decide)).trans ((gd_pos (show 1 < 6 from by decide)).trans ?_))))))))
            rw [C51]
            simp only [r2]
            rfl
          refine (whileO_go (s' := (((3 : Int), a :: b :: c :: d :: e' :: f :: r, [l0, l1, l2, 0, 0, 0], ()) : Int × List Int × List Int × Unit)) ?_).trans ?_
          · refine (cond_t rfl).trans ((gd_pos ⟨show (0 : Int) ≤ 2 from by decide, k2⟩).trans ((gd_pos (show 2 < _ from m2)).trans ((gd_pos (by decide)).trans ((gd_pos (by simp only [r3, t3]; exact ⟨show (0 : Int) ≤ _ from by decide, k3⟩)).trans ((gd_pos (by simp only [r3, t3]; exact m3)).trans ((cond_f (by rw [C62]; rfl)).trans ((gd_pos (show (0 : Int) ≤ 2 ∧ (2 : Int) < 6 from by decide)).trans ((gd_pos (show 2 < 6 from by decide)).trans ?_))))))))
            rw [C52]
            simp only [r3]
            rfl
          refine (whileO_go (s' := (((4 : Int), a :: b :: c :: d :: e' :: f :: r, [l0, l1, l2, l3, 0, 0], ()) : Int × List Int × List Int × Unit)) ?_).trans ?_
          · refine (cond_t rfl).trans ((gd_pos ⟨show (0 : Int) ≤ 3 from by decide, k3⟩).trans ((gd_pos (show 3 < _ from m3)).trans ((gd_pos (by decide)).trans ((gd_pos (by simp only [r4, t4]; exact ⟨show (0 : Int) ≤ _ from by decide, k4⟩)).trans ((gd_pos (by simp only [r4, t4]; exact m4)).trans ((cond_f (by rw [C63]; rfl)).trans ((gd_pos (show (0 : Int) ≤ 3 ∧ (3 : Int) < 6 from by decide)).trans ((gd_pos (show 3 < 6 from by decide)).trans ?_))))))))
            rw [C53]
            simp only [r4]
            rfl
          refine (whileO_go (s' := (((5 : Int), a :: b :: c :: d :: e' :: f :: r, [l0, l1, l2, l3, l4, 0], ()) : Int × List Int × List Int × Unit)) ?_).trans ?_
          · refine (cond_t rfl).trans ((gd_pos ⟨show (0 : Int) ≤ 4 from by decide, k4⟩).trans ((gd_pos (show 4 < _ from m4)).trans ((gd_pos (by decide)).trans ((gd_pos (by simp only [r5, t5]; exact ⟨show (0 : Int) ≤ _ from by decide, k5⟩)).trans ((gd_pos (by simp only [r5, t5]; exact m5)).trans ((cond_f (by rw [C64]; rfl)).trans ((gd_pos (show (0 : Int) ≤ 4 ∧ (4 : Int) < 6 from by decide)).trans ((gd_pos (show 4 < 6 from by decide)).trans ?_))))))))
            rw [C54]
            simp only [r5]
            rfl
          refine (whileO_go (s' := (((6 : Int), a :: b :: c :: d :: e' :: f :: r, [l0, l1, l2, l3, l4, l5], ()) : Int × List Int × List Int × Unit)) ?_).trans ?_
          · refine (cond_t rfl).trans ((gd_pos ⟨show (0 : Int) ≤ 5 from by decide, k5⟩).trans ((gd_pos (show 5 < _ from m5)).trans ((gd_pos (by decide)).trans ((gd_pos (by simp only [r6, t6]; exact ⟨show (0 : Int) ≤ _ from by decide, k0⟩)).trans ((gd_pos (by simp only [r6, t6]; exact m0)).trans ((cond_f (by rw [C65]; rfl)).trans ((gd_pos (show (0 : Int) ≤ 5 ∧ (5 : Int) < 6 from by decide)).trans ((gd_pos (show 5 < 6 from by decide)).trans ?_))))))))
            rw [C55]
            simp only [r6]
            rfl
          refine whileO_out ?_
          refine (cond_f rfl).trans ?_
          have c7 : g13_c7 p (((6 : Int), a :: b :: c :: d :: e' :: f :: r, [l0, l1, l2, l3, l4, l5], ()) : Int × List Int × List Int × Unit) = false := by
            unfold g13_c7
            show (bif !ieq (joinF p l0 l3).2.1 0 then true else !ieq (joinF p l1 l4).2.1 0) = false
            rw [jx, jy]; rfl
          have c8 : g13_c8 p (((6 : Int), a :: b :: c :: d :: e' :: f :: r, [l0, l1, l2, l3, l4, l5], ()) : Int × List Int × List Int × Unit) = ieq x y := by
            unfold g13_c8
            show ieq (joinF p l0 l3).1 (joinF p l1 l4).1 = _
            rw [jx, jy]
          refine (gd_pos (show 0 < 6 from by decide)).trans ((gd_pos (show 3 < 6 from by decide)).trans ((gd_pos (show 1 < 6 from by decide)).trans ((gd_pos (show 4 < 6 from by decide)).trans ((gd_pos (show 2 < 6 from by decide)).trans ((gd_pos (show 5 < 6 from by decide)).trans ((gd_pos ?_).trans ((gd_pos (by rw [c7]; intro _; rfl)).trans ((cond_f ?_).trans ?_))))))))
          · show (!ieq (joinF p l0 l3).2.1 0) = false → _
            intro h
            show (!!ieq (joinF p l0 l3).2.1 0) = true
            rw [h]; rfl
          · rw [c7]
            show (!ieq (joinF p l2 l5).2.1 0) = false
            rw [jz]; rfl
          · rcases hfin with hxy | ⟨j, hj, ho⟩
            · exact cond_t (by rw [c8, hxy]; exact ir y)
            · cases hxy : ieq x y with
              | true => exact cond_t (by rw [c8]; exact hxy)
              | false =>
                refine (cond_f (by rw [c8]; exact hxy)).trans ?_
                have c9 : g13_c9 p (((6 : Int), a :: b :: c :: d :: e' :: f :: r, [l0, l1, l2, l3, l4, l5], ()) : Int × List Int × List Int × Unit) = j := by
                  unfold g13_c9
                  show (joinF p (joinF p l0 l3).1 (joinF p l1 l4).1).1 = j
                  rw [jx, jy, hj]
                have c10 : g13_c10 p (((6 : Int), a :: b :: c :: d :: e' :: f :: r, [l0, l1, l2, l3, l4, l5], ()) : Int × List Int × List Int × Unit) = 0 := by
                  unfold g13_c10
                  show (joinF p (joinF p l0 l3).1 (joinF p l1 l4).1).2.1 = 0
                  rw [jx, jy, hj]
                have c12 : g13_c12 p (((6 : Int), a :: b :: c :: d :: e' :: f :: r, [l0, l1, l2, l3, l4, l5], ()) : Int × List Int × List Int × Unit) = true := by
                  unfold g13_c12 g13_c11
                  rw [c9, c10]
                  show (bif (bif (onFF p (joinF p l2 l5).1 j).1 then ieq 0 0 else false) then ieq (onFF p (joinF p l2 l5).1 j).2.1 0 else false) = true
                  rw [jz, ho]; rfl
                rw [c12]; rfl
      · have ha : arcF p S = false := by simpa using ha
        have b1 : 0 ≤ (S.length : Int) ∧ (S.length : Int) ≤ 100000 ∧ (S.length : Int) ≤ S.length := by omega
        simp [gd_true, e0, e1, e2, e3, e6, ir, ha, hsS, b1]
  · have hX : crvX p (q1, q2, q3, q4, q5, q6, ()) = ([], 2, ()) := by rw [crvX, if_neg hq]
    have e0 : g13_c0 p (q1, q2, q3, q4, q5, q6, ()) = 2 := by show (crvX p (q1, q2, q3, q4, q5, q6, ())).2.1 = 2; rw [hX]
    unfold g13
    simp [gd_true, e0, i20, ir]
set_option maxRecDepth 100000 in
theorem ok13 : con13.Ok Try.prog := Con.of_goalS mixed (okC ok55 (okC ok19 (okC ok20 (okC ok26 (okC ok22 okN))))) (okS ok54s (okS ok38l okS0)) con13 goal13
end Go.Arcs
