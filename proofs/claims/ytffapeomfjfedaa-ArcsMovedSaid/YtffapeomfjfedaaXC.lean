/- The cross ratio: contracts. -/
import Derived.Test.YtffapeomfjfedaaXB
set_option linter.unusedVariables false
set_option linter.unusedSimpArgs false
namespace Go.Arcs
open Go Go.Ab Go.Proofs

def strF (p a b c : Int) : Bool := ieq (dotC p (crossF p (pt p a) (pt p b)) (pt p c)) 0
noncomputable def con71 : Con := mkC 71 [.d (.ptr Plane), .d I64, .d I64, .d I64] [.bool] (fun (k : PlaneD) (a b c : Int) => [isPl k, inPt k.1 a = true, inPt k.1 b = true, inPt k.1 c = true]) (fun (k : PlaneD) (a b c : Int) => (strF k.1 a b c, ()))
noncomputable def g71 (x0 : Int × List (Int × Int × Int × Unit) × List ((Int × Int × Int × Unit) × Int) × Unit) (x1 x2 x3 : Int) : Option (Bool × Unit) := gd ((0 : Int) ≤ x1 ∧ x1 < (↑(List.length x0.2.1) : Int)) (gd ((0 : Int) ≤ x2 ∧ x2 < (↑(List.length x0.2.1) : Int)) (gd (isP x0.1) (gd (inR x0.1 (List.getD x0.2.1 (Int.toNat x1) (((0 : Int), (0 : Int), (0 : Int), ()) : Int × Int × Int × Unit))) (gd (inR x0.1 (List.getD x0.2.1 (Int.toNat x2) (((0 : Int), (0 : Int), (0 : Int), ()) : Int × Int × Int × Unit))) (gd ((0 : Int) ≤ x3 ∧ x3 < (↑(List.length x0.2.1) : Int)) (gd (isP x0.1) (gd (inR x0.1 (crossF x0.1 (List.getD x0.2.1 (Int.toNat x1) (((0 : Int), (0 : Int), (0 : Int), ()) : Int × Int × Int × Unit)) (List.getD x0.2.1 (Int.toNat x2) (((0 : Int), (0 : Int), (0 : Int), ()) : Int × Int × Int × Unit)))) (gd (inR x0.1 (List.getD x0.2.1 (Int.toNat x3) (((0 : Int), (0 : Int), (0 : Int), ()) : Int × Int × Int × Unit))) (some ((ieq (dotC x0.1 (crossF x0.1 (List.getD x0.2.1 (Int.toNat x1) (((0 : Int), (0 : Int), (0 : Int), ()) : Int × Int × Int × Unit)) (List.getD x0.2.1 (Int.toNat x2) (((0 : Int), (0 : Int), (0 : Int), ()) : Int × Int × Int × Unit))) (List.getD x0.2.1 (Int.toNat x3) (((0 : Int), (0 : Int), (0 : Int), ()) : Int × Int × Int × Unit))) (0 : Int), ()) : Bool × Unit))))))))))
noncomputable def g71_sh : List LSh := ([] : List LSh)
def cmb (p : Int) (a b : TripD) (u v : Int) : TripD := ((u * a.1 + v * b.1) % p, (u * a.2.1 + v * b.2.1) % p, (u * a.2.2.1 + v * b.2.2.1) % p, ())
def findI {X : Type} (q : Int → Option X) : Nat → Int → Option X
  | 0, _ => none
  | n + 1, i => match q i with
    | some x => some x
    | none => findI q n (i + 1)
def partsO (p : Int) (a b c : TripD) : Option (Int × Int) := findI (fun u => findI (fun v => if deqT (cmb p a b u v) c = true then some (u, v) else none) p.toNat 0) p.toNat 0
def partsF (p : Int) (a b c : TripD) : Int × Int := (partsO p a b c).getD (0, 0)
noncomputable def con72 : Con := mkC 72 [.d (.ptr Plane), .d Trip, .d Trip, .d Trip] [I64, I64] (fun (k : PlaneD) (a b c : TripD) => [isP k.1, inR k.1 a, inR k.1 b, inR k.1 c]) (fun (k : PlaneD) (a b c : TripD) => ((partsF k.1 a b c).1, (partsF k.1 a b c).2, ()))
noncomputable def g72_l0 (x0 : Int × List (Int × Int × Int × Unit) × List ((Int × Int × Int × Unit) × Int) × Unit) (d4 d5 : Int × List Int × List Int × List Int × Unit) (d6 : Int × List Int × List Int × List Int × List Int × Unit) : Option (Lp (Int × List Int × List Int × List Int × List Int × Unit) (Lp (Int × List Int × List Int × List Int × Unit) (Lp (Int × List Int × List Int × List Int × Unit) (Int × Int × Unit)))) := bif ilt d6.1 (3 : Int) then gd ((0 : Int) ≤ d6.1 ∧ d6.1 < (3 : Int)) (gd ((0 : Nat) + Int.toNat d6.1 * (1 : Nat) < List.length d6.2.1) (gd ((0 : Int) ≤ d6.1 ∧ d6.1 < (3 : Int)) (gd ((0 : Nat) + Int.toNat d6.1 * (1 : Nat) < List.length d6.2.2.1) (gd (x0.1 ≠ (0 : Int)) (gd ((0 : Int) ≤ d6.1 ∧ d6.1 < (3 : Int)) (gd ((0 : Nat) + Int.toNat d6.1 * (1 : Nat) < List.length d6.2.2.2.2.1) (some (Lp.go ((wr IntKind.i64 (d6.1 + (1 : Int)), d6.2.1, d6.2.2.1, d6.2.2.2.1, List.set d6.2.2.2.2.1 ((0 : Nat) + Int.toNat d6.1 * (1 : Nat)) (modF x0.1 (wr IntKind.i64 (wr IntKind.i64 (d4.1 * List.getD d6.2.1 ((0 : Nat) + Int.toNat d6.1 * (1 : Nat)) (0 : Int)) + wr IntKind.i64 (d5.1 * List.getD d6.2.2.1 ((0 : Nat) + Int.toNat d6.1 * (1 : Nat)) (0 : Int))))), ()) : Int × List Int × List Int × List Int × List Int × Unit))))))))) else gd ((3 : Nat) ≤ List.length d6.2.2.2.2.1) (gd ((3 : Nat) ≤ List.length d6.2.2.2.1) (bif deq (Ty.prod (Ty.int IntKind.i64) (Ty.prod (Ty.int IntKind.i64) (Ty.prod (Ty.int IntKind.i64) Ty.unit))) (((List.getD d6.2.2.2.2.1 (0 : Nat) (0 : Int), List.getD d6.2.2.2.2.1 (1 : Nat) (0 : Int), List.getD d6.2.2.2.2.1 (2 : Nat) (0 : Int), ()) : Int × Int × Int × Unit) : Int × Int × Int × Unit) (((List.getD d6.2.2.2.1 (0 : Nat) (0 : Int), List.getD d6.2.2.2.1 (1 : Nat) (0 : Int), List.getD d6.2.2.2.1 (2 : Nat) (0 : Int), ()) : Int × Int × Int × Unit) : Int × Int × Int × Unit) then some (Lp.out (Lp.out (Lp.out ((d4.1, d5.1, ()) : Int × Int × Unit)))) else some (Lp.out (Lp.go ((wr IntKind.i64 (d5.1 + (1 : Int)), d6.2.1, d6.2.2.1, d6.2.2.2.1, ()) : Int × List Int × List Int × List Int × Unit)))))
noncomputable def g72_l1 (x0 : Int × List (Int × Int × Int × Unit) × List ((Int × Int × Int × Unit) × Int) × Unit) (d4 d5 : Int × List Int × List Int × List Int × Unit) : Option (Lp (Int × List Int × List Int × List Int × Unit) (Lp (Int × List Int × List Int × List Int × Unit) (Int × Int × Unit))) := bif ilt d5.1 x0.1 then gd ((3 : Nat) ≤ (3 : Nat)) (whileO (g72_l0 x0 d4 d5) (((0 : Int), d5.2.1, d5.2.2.1, d5.2.2.2.1, (0 : Int) :: (0 : Int) :: (0 : Int) :: ([] : List Int), ()) : Int × List Int × List Int × List Int × List Int × Unit)) else some (Lp.out (Lp.go ((wr IntKind.i64 (d4.1 + (1 : Int)), d5.2.1, d5.2.2.1, d5.2.2.2.1, ()) : Int × List Int × List Int × List Int × Unit)))
noncomputable def g72 (x0 : Int × List (Int × Int × Int × Unit) × List ((Int × Int × Int × Unit) × Int) × Unit) (x1 x2 x3 : Int × Int × Int × Unit) : Option (Int × Int × Unit) := whileO (fun (d4 : Int × List Int × List Int × List Int × Unit) => bif ilt d4.1 x0.1 then whileO (g72_l1 x0 d4) (((0 : Int), d4.2.1, d4.2.2.1, d4.2.2.2.1, ()) : Int × List Int × List Int × List Int × Unit) else some (Lp.out (((0 : Int), (0 : Int), ()) : Int × Int × Unit))) (((0 : Int), x1.1 :: x1.2.1 :: x1.2.2.1 :: ([] : List Int), x2.1 :: x2.2.1 :: x2.2.2.1 :: ([] : List Int), x3.1 :: x3.2.1 :: x3.2.2.1 :: ([] : List Int), ()) : Int × List Int × List Int × List Int × Unit)
noncomputable def g72_sh : List LSh := LSh.mk (((5, TV.ref (0) (1 : Nat) (0 : Nat) (0 : Nat)) : Nat × TV) :: ((6, TV.ref (1) (1 : Nat) (0 : Nat) (0 : Nat)) : Nat × TV) :: ((7, TV.ref (2) (1 : Nat) (0 : Nat) (0 : Nat)) : Nat × TV) :: ((18, TV.v (Ty.int IntKind.i64)) : Nat × TV) :: ([] : List (Nat × TV))) (TB.arr (Ty.int IntKind.i64) false :: TB.arr (Ty.int IntKind.i64) false :: TB.arr (Ty.int IntKind.i64) false :: ([] : List TB)) :: LSh.mk (((5, TV.ref (0) (1 : Nat) (0 : Nat) (0 : Nat)) : Nat × TV) :: ((6, TV.ref (1) (1 : Nat) (0 : Nat) (0 : Nat)) : Nat × TV) :: ((7, TV.ref (2) (1 : Nat) (0 : Nat) (0 : Nat)) : Nat × TV) :: ((25, TV.v (Ty.int IntKind.i64)) : Nat × TV) :: ([] : List (Nat × TV))) (TB.arr (Ty.int IntKind.i64) false :: TB.arr (Ty.int IntKind.i64) false :: TB.arr (Ty.int IntKind.i64) false :: ([] : List TB)) :: LSh.mk (((5, TV.ref (0) (1 : Nat) (0 : Nat) (0 : Nat)) : Nat × TV) :: ((6, TV.ref (1) (1 : Nat) (0 : Nat) (0 : Nat)) : Nat × TV) :: ((7, TV.ref (2) (1 : Nat) (0 : Nat) (0 : Nat)) : Nat × TV) :: ((12, TV.ref (3) (1 : Nat) (0 : Nat) (0 : Nat)) : Nat × TV) :: ((29, TV.v (Ty.int IntKind.i64)) : Nat × TV) :: ([] : List (Nat × TV))) (TB.arr (Ty.int IntKind.i64) false :: TB.arr (Ty.int IntKind.i64) false :: TB.arr (Ty.int IntKind.i64) false :: TB.arr (Ty.int IntKind.i64) false :: ([] : List TB)) :: ([] : List LSh)
noncomputable def conInv2 : Con := mkC 74 [.d (.ptr Plane), .d I64] [I64] (fun (k : PlaneD) (n : Int) => [isP k.1, n % k.1 ≠ 0, -1000 ≤ n ∧ n ≤ 1000]) (fun (k : PlaneD) (n : Int) => (invF k.1 (n % k.1), ()))
noncomputable def ratF (p a b c d : Int) : Int :=
  (partsF p (pt p a) (pt p b) (pt p c)).1 * (partsF p (pt p a) (pt p b) (pt p d)).2 * invF p ((partsF p (pt p a) (pt p b) (pt p c)).2 * (partsF p (pt p a) (pt p b) (pt p d)).1 % p) % p
def okX (p a b c d : Int) : Bool := isPb p && inPt p a && inPt p b && inPt p c && inPt p d && !ieq a b && !ieq a c && !ieq a d && !ieq b c && !ieq b d && !ieq c d && strF p a b c && strF p a b d
noncomputable def crossX (p a b c d : Int) : Int × Int × Unit := if okX p a b c d = true then (ratF p a b c d, 0, ()) else (0, 2, ())
noncomputable def con27 : Con := mkC 27 [.d I64, .d I64, .d I64, .d I64, .d I64] [I64, I64] (fun (p a b c d : Int) => []) (fun (p a b c d : Int) => crossX p a b c d)
noncomputable def g27_c0 (x0 x1 x2 x3 x4 : Int) : Bool := bif bif bif bif bif !(readF x0 (x1 :: x2 :: x3 :: x4 :: ([] : List Int))).2.1 then true else ieq x1 x2 then true else ieq x1 x3 then true else ieq x1 x4 then true else ieq x2 x3 then true else ieq x2 x4
noncomputable def g27_c1 (x0 x1 x2 x3 x4 : Int) : Bool := strF (Option.getD (readF x0 (x1 :: x2 :: x3 :: x4 :: ([] : List Int))).1 (((0 : Int), ([] : List (Int × Int × Int × Unit)), ([] : List ((Int × Int × Int × Unit) × Int)), ()) : Int × List (Int × Int × Int × Unit) × List ((Int × Int × Int × Unit) × Int) × Unit)).1 x1 x2 x3
noncomputable def g27_c2 (x0 x1 x2 x3 x4 : Int) : Bool := strF (Option.getD (readF x0 (x1 :: x2 :: x3 :: x4 :: ([] : List Int))).1 (((0 : Int), ([] : List (Int × Int × Int × Unit)), ([] : List ((Int × Int × Int × Unit) × Int)), ()) : Int × List (Int × Int × Int × Unit) × List ((Int × Int × Int × Unit) × Int) × Unit)).1 x1 x2 x4
noncomputable def g27_c3 (x0 x1 x2 x3 x4 : Int) : Int := (partsF (Option.getD (readF x0 (x1 :: x2 :: x3 :: x4 :: ([] : List Int))).1 (((0 : Int), ([] : List (Int × Int × Int × Unit)), ([] : List ((Int × Int × Int × Unit) × Int)), ()) : Int × List (Int × Int × Int × Unit) × List ((Int × Int × Int × Unit) × Int) × Unit)).1 (List.getD (Option.getD (readF x0 (x1 :: x2 :: x3 :: x4 :: ([] : List Int))).1 (((0 : Int), ([] : List (Int × Int × Int × Unit)), ([] : List ((Int × Int × Int × Unit) × Int)), ()) : Int × List (Int × Int × Int × Unit) × List ((Int × Int × Int × Unit) × Int) × Unit)).2.1 (Int.toNat x1) (((0 : Int), (0 : Int), (0 : Int), ()) : Int × Int × Int × Unit)) (List.getD (Option.getD (readF x0 (x1 :: x2 :: x3 :: x4 :: ([] : List Int))).1 (((0 : Int), ([] : List (Int × Int × Int × Unit)), ([] : List ((Int × Int × Int × Unit) × Int)), ()) : Int × List (Int × Int × Int × Unit) × List ((Int × Int × Int × Unit) × Int) × Unit)).2.1 (Int.toNat x2) (((0 : Int), (0 : Int), (0 : Int), ()) : Int × Int × Int × Unit)) (List.getD (Option.getD (readF x0 (x1 :: x2 :: x3 :: x4 :: ([] : List Int))).1 (((0 : Int), ([] : List (Int × Int × Int × Unit)), ([] : List ((Int × Int × Int × Unit) × Int)), ()) : Int × List (Int × Int × Int × Unit) × List ((Int × Int × Int × Unit) × Int) × Unit)).2.1 (Int.toNat x3) (((0 : Int), (0 : Int), (0 : Int), ()) : Int × Int × Int × Unit))).1
noncomputable def g27_c4 (x0 x1 x2 x3 x4 : Int) : Int := (partsF (Option.getD (readF x0 (x1 :: x2 :: x3 :: x4 :: ([] : List Int))).1 (((0 : Int), ([] : List (Int × Int × Int × Unit)), ([] : List ((Int × Int × Int × Unit) × Int)), ()) : Int × List (Int × Int × Int × Unit) × List ((Int × Int × Int × Unit) × Int) × Unit)).1 (List.getD (Option.getD (readF x0 (x1 :: x2 :: x3 :: x4 :: ([] : List Int))).1 (((0 : Int), ([] : List (Int × Int × Int × Unit)), ([] : List ((Int × Int × Int × Unit) × Int)), ()) : Int × List (Int × Int × Int × Unit) × List ((Int × Int × Int × Unit) × Int) × Unit)).2.1 (Int.toNat x1) (((0 : Int), (0 : Int), (0 : Int), ()) : Int × Int × Int × Unit)) (List.getD (Option.getD (readF x0 (x1 :: x2 :: x3 :: x4 :: ([] : List Int))).1 (((0 : Int), ([] : List (Int × Int × Int × Unit)), ([] : List ((Int × Int × Int × Unit) × Int)), ()) : Int × List (Int × Int × Int × Unit) × List ((Int × Int × Int × Unit) × Int) × Unit)).2.1 (Int.toNat x2) (((0 : Int), (0 : Int), (0 : Int), ()) : Int × Int × Int × Unit)) (List.getD (Option.getD (readF x0 (x1 :: x2 :: x3 :: x4 :: ([] : List Int))).1 (((0 : Int), ([] : List (Int × Int × Int × Unit)), ([] : List ((Int × Int × Int × Unit) × Int)), ()) : Int × List (Int × Int × Int × Unit) × List ((Int × Int × Int × Unit) × Int) × Unit)).2.1 (Int.toNat x3) (((0 : Int), (0 : Int), (0 : Int), ()) : Int × Int × Int × Unit))).2
noncomputable def g27_c5 (x0 x1 x2 x3 x4 : Int) : Int := (partsF (Option.getD (readF x0 (x1 :: x2 :: x3 :: x4 :: ([] : List Int))).1 (((0 : Int), ([] : List (Int × Int × Int × Unit)), ([] : List ((Int × Int × Int × Unit) × Int)), ()) : Int × List (Int × Int × Int × Unit) × List ((Int × Int × Int × Unit) × Int) × Unit)).1 (List.getD (Option.getD (readF x0 (x1 :: x2 :: x3 :: x4 :: ([] : List Int))).1 (((0 : Int), ([] : List (Int × Int × Int × Unit)), ([] : List ((Int × Int × Int × Unit) × Int)), ()) : Int × List (Int × Int × Int × Unit) × List ((Int × Int × Int × Unit) × Int) × Unit)).2.1 (Int.toNat x1) (((0 : Int), (0 : Int), (0 : Int), ()) : Int × Int × Int × Unit)) (List.getD (Option.getD (readF x0 (x1 :: x2 :: x3 :: x4 :: ([] : List Int))).1 (((0 : Int), ([] : List (Int × Int × Int × Unit)), ([] : List ((Int × Int × Int × Unit) × Int)), ()) : Int × List (Int × Int × Int × Unit) × List ((Int × Int × Int × Unit) × Int) × Unit)).2.1 (Int.toNat x2) (((0 : Int), (0 : Int), (0 : Int), ()) : Int × Int × Int × Unit)) (List.getD (Option.getD (readF x0 (x1 :: x2 :: x3 :: x4 :: ([] : List Int))).1 (((0 : Int), ([] : List (Int × Int × Int × Unit)), ([] : List ((Int × Int × Int × Unit) × Int)), ()) : Int × List (Int × Int × Int × Unit) × List ((Int × Int × Int × Unit) × Int) × Unit)).2.1 (Int.toNat x4) (((0 : Int), (0 : Int), (0 : Int), ()) : Int × Int × Int × Unit))).1
noncomputable def g27_c6 (x0 x1 x2 x3 x4 : Int) : Int := (partsF (Option.getD (readF x0 (x1 :: x2 :: x3 :: x4 :: ([] : List Int))).1 (((0 : Int), ([] : List (Int × Int × Int × Unit)), ([] : List ((Int × Int × Int × Unit) × Int)), ()) : Int × List (Int × Int × Int × Unit) × List ((Int × Int × Int × Unit) × Int) × Unit)).1 (List.getD (Option.getD (readF x0 (x1 :: x2 :: x3 :: x4 :: ([] : List Int))).1 (((0 : Int), ([] : List (Int × Int × Int × Unit)), ([] : List ((Int × Int × Int × Unit) × Int)), ()) : Int × List (Int × Int × Int × Unit) × List ((Int × Int × Int × Unit) × Int) × Unit)).2.1 (Int.toNat x1) (((0 : Int), (0 : Int), (0 : Int), ()) : Int × Int × Int × Unit)) (List.getD (Option.getD (readF x0 (x1 :: x2 :: x3 :: x4 :: ([] : List Int))).1 (((0 : Int), ([] : List (Int × Int × Int × Unit)), ([] : List ((Int × Int × Int × Unit) × Int)), ()) : Int × List (Int × Int × Int × Unit) × List ((Int × Int × Int × Unit) × Int) × Unit)).2.1 (Int.toNat x2) (((0 : Int), (0 : Int), (0 : Int), ()) : Int × Int × Int × Unit)) (List.getD (Option.getD (readF x0 (x1 :: x2 :: x3 :: x4 :: ([] : List Int))).1 (((0 : Int), ([] : List (Int × Int × Int × Unit)), ([] : List ((Int × Int × Int × Unit) × Int)), ()) : Int × List (Int × Int × Int × Unit) × List ((Int × Int × Int × Unit) × Int) × Unit)).2.1 (Int.toNat x4) (((0 : Int), (0 : Int), (0 : Int), ()) : Int × Int × Int × Unit))).2
noncomputable def g27_c7 (x0 x1 x2 x3 x4 : Int) : Int := invF (Option.getD (readF x0 (x1 :: x2 :: x3 :: x4 :: ([] : List Int))).1 (((0 : Int), ([] : List (Int × Int × Int × Unit)), ([] : List ((Int × Int × Int × Unit) × Int)), ()) : Int × List (Int × Int × Int × Unit) × List ((Int × Int × Int × Unit) × Int) × Unit)).1 (wr IntKind.i64 (g27_c4 x0 x1 x2 x3 x4 * g27_c5 x0 x1 x2 x3 x4) % (Option.getD (readF x0 (x1 :: x2 :: x3 :: x4 :: ([] : List Int))).1 (((0 : Int), ([] : List (Int × Int × Int × Unit)), ([] : List ((Int × Int × Int × Unit) × Int)), ()) : Int × List (Int × Int × Int × Unit) × List ((Int × Int × Int × Unit) × Int) × Unit)).1)
noncomputable def g27_c8 (x0 x1 x2 x3 x4 : Int) : Int := modF (Option.getD (readF x0 (x1 :: x2 :: x3 :: x4 :: ([] : List Int))).1 (((0 : Int), ([] : List (Int × Int × Int × Unit)), ([] : List ((Int × Int × Int × Unit) × Int)), ()) : Int × List (Int × Int × Int × Unit) × List ((Int × Int × Int × Unit) × Int) × Unit)).1 (wr IntKind.i64 (wr IntKind.i64 (g27_c3 x0 x1 x2 x3 x4 * g27_c6 x0 x1 x2 x3 x4) * g27_c7 x0 x1 x2 x3 x4))
noncomputable def g27 (x0 x1 x2 x3 x4 : Int) : Option (Int × Int × Unit) := gd (small (x1 :: x2 :: x3 :: x4 :: ([] : List Int))) (gd ((!!(readF x0 (x1 :: x2 :: x3 :: x4 :: ([] : List Int))).2.1) = true → (!!(readF x0 (x1 :: x2 :: x3 :: x4 :: ([] : List Int))).2.1) = true ∧ (!!(readF x0 (x1 :: x2 :: x3 :: x4 :: ([] : List Int))).2.1) = true) (gd ((!(readF x0 (x1 :: x2 :: x3 :: x4 :: ([] : List Int))).2.1) = false → (!!(readF x0 (x1 :: x2 :: x3 :: x4 :: ([] : List Int))).2.1) = true) (gd ((!bif !(readF x0 (x1 :: x2 :: x3 :: x4 :: ([] : List Int))).2.1 then true else ieq x1 x2) = true → (!bif !(readF x0 (x1 :: x2 :: x3 :: x4 :: ([] : List Int))).2.1 then true else ieq x1 x2) = true ∧ (!bif !(readF x0 (x1 :: x2 :: x3 :: x4 :: ([] : List Int))).2.1 then true else ieq x1 x2) = true) (gd ((bif !(readF x0 (x1 :: x2 :: x3 :: x4 :: ([] : List Int))).2.1 then true else ieq x1 x2) = false → (!bif !(readF x0 (x1 :: x2 :: x3 :: x4 :: ([] : List Int))).2.1 then true else ieq x1 x2) = true) (gd ((!bif bif !(readF x0 (x1 :: x2 :: x3 :: x4 :: ([] : List Int))).2.1 then true else ieq x1 x2 then true else ieq x1 x3) = true → (!bif bif !(readF x0 (x1 :: x2 :: x3 :: x4 :: ([] : List Int))).2.1 then true else ieq x1 x2 then true else ieq x1 x3) = true ∧ (!bif bif !(readF x0 (x1 :: x2 :: x3 :: x4 :: ([] : List Int))).2.1 then true else ieq x1 x2 then true else ieq x1 x3) = true) (gd ((bif bif !(readF x0 (x1 :: x2 :: x3 :: x4 :: ([] : List Int))).2.1 then true else ieq x1 x2 then true else ieq x1 x3) = false → (!bif bif !(readF x0 (x1 :: x2 :: x3 :: x4 :: ([] : List Int))).2.1 then true else ieq x1 x2 then true else ieq x1 x3) = true) (gd ((!bif bif bif !(readF x0 (x1 :: x2 :: x3 :: x4 :: ([] : List Int))).2.1 then true else ieq x1 x2 then true else ieq x1 x3 then true else ieq x1 x4) = true → (!bif bif bif !(readF x0 (x1 :: x2 :: x3 :: x4 :: ([] : List Int))).2.1 then true else ieq x1 x2 then true else ieq x1 x3 then true else ieq x1 x4) = true ∧ (!bif bif bif !(readF x0 (x1 :: x2 :: x3 :: x4 :: ([] : List Int))).2.1 then true else ieq x1 x2 then true else ieq x1 x3 then true else ieq x1 x4) = true) (gd ((bif bif bif !(readF x0 (x1 :: x2 :: x3 :: x4 :: ([] : List Int))).2.1 then true else ieq x1 x2 then true else ieq x1 x3 then true else ieq x1 x4) = false → (!bif bif bif !(readF x0 (x1 :: x2 :: x3 :: x4 :: ([] : List Int))).2.1 then true else ieq x1 x2 then true else ieq x1 x3 then true else ieq x1 x4) = true) (gd ((!bif bif bif bif !(readF x0 (x1 :: x2 :: x3 :: x4 :: ([] : List Int))).2.1 then true else ieq x1 x2 then true else ieq x1 x3 then true else ieq x1 x4 then true else ieq x2 x3) = true → (!bif bif bif bif !(readF x0 (x1 :: x2 :: x3 :: x4 :: ([] : List Int))).2.1 then true else ieq x1 x2 then true else ieq x1 x3 then true else ieq x1 x4 then true else ieq x2 x3) = true ∧ (!bif bif bif bif !(readF x0 (x1 :: x2 :: x3 :: x4 :: ([] : List Int))).2.1 then true else ieq x1 x2 then true else ieq x1 x3 then true else ieq x1 x4 then true else ieq x2 x3) = true) (gd ((bif bif bif bif !(readF x0 (x1 :: x2 :: x3 :: x4 :: ([] : List Int))).2.1 then true else ieq x1 x2 then true else ieq x1 x3 then true else ieq x1 x4 then true else ieq x2 x3) = false → (!bif bif bif bif !(readF x0 (x1 :: x2 :: x3 :: x4 :: ([] : List Int))).2.1 then true else ieq x1 x2 then true else ieq x1 x3 then true else ieq x1 x4 then true else ieq x2 x3) = true) (gd ((!g27_c0 x0 x1 x2 x3 x4) = true → (!g27_c0 x0 x1 x2 x3 x4) = true ∧ (!g27_c0 x0 x1 x2 x3 x4) = true) (gd (g27_c0 x0 x1 x2 x3 x4 = false → (!g27_c0 x0 x1 x2 x3 x4) = true) (gd ((!bif g27_c0 x0 x1 x2 x3 x4 then true else ieq x3 x4) = true → (!bif g27_c0 x0 x1 x2 x3 x4 then true else ieq x3 x4) = true ∧ (!bif g27_c0 x0 x1 x2 x3 x4 then true else ieq x3 x4) = true ∧ (!bif g27_c0 x0 x1 x2 x3 x4 then true else ieq x3 x4) = true ∧ (!bif g27_c0 x0 x1 x2 x3 x4 then true else ieq x3 x4) = true ∧ Option.isSome (readF x0 (x1 :: x2 :: x3 :: x4 :: ([] : List Int))).1 = true ∧ isPl (Option.getD (readF x0 (x1 :: x2 :: x3 :: x4 :: ([] : List Int))).1 (((0 : Int), ([] : List (Int × Int × Int × Unit)), ([] : List ((Int × Int × Int × Unit) × Int)), ()) : Int × List (Int × Int × Int × Unit) × List ((Int × Int × Int × Unit) × Int) × Unit)) ∧ inPt (Option.getD (readF x0 (x1 :: x2 :: x3 :: x4 :: ([] : List Int))).1 (((0 : Int), ([] : List (Int × Int × Int × Unit)), ([] : List ((Int × Int × Int × Unit) × Int)), ()) : Int × List (Int × Int × Int × Unit) × List ((Int × Int × Int × Unit) × Int) × Unit)).1 x1 = true ∧ inPt (Option.getD (readF x0 (x1 :: x2 :: x3 :: x4 :: ([] : List Int))).1 (((0 : Int), ([] : List (Int × Int × Int × Unit)), ([] : List ((Int × Int × Int × Unit) × Int)), ()) : Int × List (Int × Int × Int × Unit) × List ((Int × Int × Int × Unit) × Int) × Unit)).1 x2 = true ∧ inPt (Option.getD (readF x0 (x1 :: x2 :: x3 :: x4 :: ([] : List Int))).1 (((0 : Int), ([] : List (Int × Int × Int × Unit)), ([] : List ((Int × Int × Int × Unit) × Int)), ()) : Int × List (Int × Int × Int × Unit) × List ((Int × Int × Int × Unit) × Int) × Unit)).1 x3 = true) (gd ((!bif g27_c0 x0 x1 x2 x3 x4 then true else ieq x3 x4) = true → (!bif g27_c0 x0 x1 x2 x3 x4 then true else ieq x3 x4) = true) (gd ((bif g27_c0 x0 x1 x2 x3 x4 then true else ieq x3 x4) = false → (!bif g27_c0 x0 x1 x2 x3 x4 then true else ieq x3 x4) = true) (gd ((!bif bif g27_c0 x0 x1 x2 x3 x4 then true else ieq x3 x4 then true else !g27_c1 x0 x1 x2 x3 x4) = true → (!bif bif g27_c0 x0 x1 x2 x3 x4 then true else ieq x3 x4 then true else !g27_c1 x0 x1 x2 x3 x4) = true ∧ (!bif bif g27_c0 x0 x1 x2 x3 x4 then true else ieq x3 x4 then true else !g27_c1 x0 x1 x2 x3 x4) = true ∧ (!bif bif g27_c0 x0 x1 x2 x3 x4 then true else ieq x3 x4 then true else !g27_c1 x0 x1 x2 x3 x4) = true ∧ (!bif bif g27_c0 x0 x1 x2 x3 x4 then true else ieq x3 x4 then true else !g27_c1 x0 x1 x2 x3 x4) = true ∧ Option.isSome (readF x0 (x1 :: x2 :: x3 :: x4 :: ([] : List Int))).1 = true ∧ isPl (Option.getD (readF x0 (x1 :: x2 :: x3 :: x4 :: ([] : List Int))).1 (((0 : Int), ([] : List (Int × Int × Int × Unit)), ([] : List ((Int × Int × Int × Unit) × Int)), ()) : Int × List (Int × Int × Int × Unit) × List ((Int × Int × Int × Unit) × Int) × Unit)) ∧ inPt (Option.getD (readF x0 (x1 :: x2 :: x3 :: x4 :: ([] : List Int))).1 (((0 : Int), ([] : List (Int × Int × Int × Unit)), ([] : List ((Int × Int × Int × Unit) × Int)), ()) : Int × List (Int × Int × Int × Unit) × List ((Int × Int × Int × Unit) × Int) × Unit)).1 x1 = true ∧ inPt (Option.getD (readF x0 (x1 :: x2 :: x3 :: x4 :: ([] : List Int))).1 (((0 : Int), ([] : List (Int × Int × Int × Unit)), ([] : List ((Int × Int × Int × Unit) × Int)), ()) : Int × List (Int × Int × Int × Unit) × List ((Int × Int × Int × Unit) × Int) × Unit)).1 x2 = true ∧ inPt (Option.getD (readF x0 (x1 :: x2 :: x3 :: x4 :: ([] : List Int))).1 (((0 : Int), ([] : List (Int × Int × Int × Unit)), ([] : List ((Int × Int × Int × Unit) × Int)), ()) : Int × List (Int × Int × Int × Unit) × List ((Int × Int × Int × Unit) × Int) × Unit)).1 x4 = true) (gd ((!bif bif g27_c0 x0 x1 x2 x3 x4 then true else ieq x3 x4 then true else !g27_c1 x0 x1 x2 x3 x4) = true → (!bif bif g27_c0 x0 x1 x2 x3 x4 then true else ieq x3 x4 then true else !g27_c1 x0 x1 x2 x3 x4) = true) (gd ((bif bif g27_c0 x0 x1 x2 x3 x4 then true else ieq x3 x4 then true else !g27_c1 x0 x1 x2 x3 x4) = false → (!bif bif g27_c0 x0 x1 x2 x3 x4 then true else ieq x3 x4 then true else !g27_c1 x0 x1 x2 x3 x4) = true) (bif bif bif bif g27_c0 x0 x1 x2 x3 x4 then true else ieq x3 x4 then true else !g27_c1 x0 x1 x2 x3 x4 then true else !g27_c2 x0 x1 x2 x3 x4 then some (((0 : Int), (2 : Int), ()) : Int × Int × Unit) else gd (Option.isSome (readF x0 (x1 :: x2 :: x3 :: x4 :: ([] : List Int))).1 = true) (gd ((0 : Int) ≤ x1 ∧ x1 < (↑(List.length (Option.getD (readF x0 (x1 :: x2 :: x3 :: x4 :: ([] : List Int))).1 (((0 : Int), ([] : List (Int × Int × Int × Unit)), ([] : List ((Int × Int × Int × Unit) × Int)), ()) : Int × List (Int × Int × Int × Unit) × List ((Int × Int × Int × Unit) × Int) × Unit)).2.1) : Int)) (gd (Option.isSome (readF x0 (x1 :: x2 :: x3 :: x4 :: ([] : List Int))).1 = true) (gd ((0 : Int) ≤ x2 ∧ x2 < (↑(List.length (Option.getD (readF x0 (x1 :: x2 :: x3 :: x4 :: ([] : List Int))).1 (((0 : Int), ([] : List (Int × Int × Int × Unit)), ([] : List ((Int × Int × Int × Unit) × Int)), ()) : Int × List (Int × Int × Int × Unit) × List ((Int × Int × Int × Unit) × Int) × Unit)).2.1) : Int)) (gd (Option.isSome (readF x0 (x1 :: x2 :: x3 :: x4 :: ([] : List Int))).1 = true) (gd ((0 : Int) ≤ x3 ∧ x3 < (↑(List.length (Option.getD (readF x0 (x1 :: x2 :: x3 :: x4 :: ([] : List Int))).1 (((0 : Int), ([] : List (Int × Int × Int × Unit)), ([] : List ((Int × Int × Int × Unit) × Int)), ()) : Int × List (Int × Int × Int × Unit) × List ((Int × Int × Int × Unit) × Int) × Unit)).2.1) : Int)) (gd (Option.isSome (readF x0 (x1 :: x2 :: x3 :: x4 :: ([] : List Int))).1 = true) (gd (isP (Option.getD (readF x0 (x1 :: x2 :: x3 :: x4 :: ([] : List Int))).1 (((0 : Int), ([] : List (Int × Int × Int × Unit)), ([] : List ((Int × Int × Int × Unit) × Int)), ()) : Int × List (Int × Int × Int × Unit) × List ((Int × Int × Int × Unit) × Int) × Unit)).1) (gd (inR (Option.getD (readF x0 (x1 :: x2 :: x3 :: x4 :: ([] : List Int))).1 (((0 : Int), ([] : List (Int × Int × Int × Unit)), ([] : List ((Int × Int × Int × Unit) × Int)), ()) : Int × List (Int × Int × Int × Unit) × List ((Int × Int × Int × Unit) × Int) × Unit)).1 (List.getD (Option.getD (readF x0 (x1 :: x2 :: x3 :: x4 :: ([] : List Int))).1 (((0 : Int), ([] : List (Int × Int × Int × Unit)), ([] : List ((Int × Int × Int × Unit) × Int)), ()) : Int × List (Int × Int × Int × Unit) × List ((Int × Int × Int × Unit) × Int) × Unit)).2.1 (Int.toNat x1) (((0 : Int), (0 : Int), (0 : Int), ()) : Int × Int × Int × Unit))) (gd (inR (Option.getD (readF x0 (x1 :: x2 :: x3 :: x4 :: ([] : List Int))).1 (((0 : Int), ([] : List (Int × Int × Int × Unit)), ([] : List ((Int × Int × Int × Unit) × Int)), ()) : Int × List (Int × Int × Int × Unit) × List ((Int × Int × Int × Unit) × Int) × Unit)).1 (List.getD (Option.getD (readF x0 (x1 :: x2 :: x3 :: x4 :: ([] : List Int))).1 (((0 : Int), ([] : List (Int × Int × Int × Unit)), ([] : List ((Int × Int × Int × Unit) × Int)), ()) : Int × List (Int × Int × Int × Unit) × List ((Int × Int × Int × Unit) × Int) × Unit)).2.1 (Int.toNat x2) (((0 : Int), (0 : Int), (0 : Int), ()) : Int × Int × Int × Unit))) (gd (inR (Option.getD (readF x0 (x1 :: x2 :: x3 :: x4 :: ([] : List Int))).1 (((0 : Int), ([] : List (Int × Int × Int × Unit)), ([] : List ((Int × Int × Int × Unit) × Int)), ()) : Int × List (Int × Int × Int × Unit) × List ((Int × Int × Int × Unit) × Int) × Unit)).1 (List.getD (Option.getD (readF x0 (x1 :: x2 :: x3 :: x4 :: ([] : List Int))).1 (((0 : Int), ([] : List (Int × Int × Int × Unit)), ([] : List ((Int × Int × Int × Unit) × Int)), ()) : Int × List (Int × Int × Int × Unit) × List ((Int × Int × Int × Unit) × Int) × Unit)).2.1 (Int.toNat x3) (((0 : Int), (0 : Int), (0 : Int), ()) : Int × Int × Int × Unit))) (gd (Option.isSome (readF x0 (x1 :: x2 :: x3 :: x4 :: ([] : List Int))).1 = true) (gd ((0 : Int) ≤ x1 ∧ x1 < (↑(List.length (Option.getD (readF x0 (x1 :: x2 :: x3 :: x4 :: ([] : List Int))).1 (((0 : Int), ([] : List (Int × Int × Int × Unit)), ([] : List ((Int × Int × Int × Unit) × Int)), ()) : Int × List (Int × Int × Int × Unit) × List ((Int × Int × Int × Unit) × Int) × Unit)).2.1) : Int)) (gd (Option.isSome (readF x0 (x1 :: x2 :: x3 :: x4 :: ([] : List Int))).1 = true) (gd ((0 : Int) ≤ x2 ∧ x2 < (↑(List.length (Option.getD (readF x0 (x1 :: x2 :: x3 :: x4 :: ([] : List Int))).1 (((0 : Int), ([] : List (Int × Int × Int × Unit)), ([] : List ((Int × Int × Int × Unit) × Int)), ()) : Int × List (Int × Int × Int × Unit) × List ((Int × Int × Int × Unit) × Int) × Unit)).2.1) : Int)) (gd (Option.isSome (readF x0 (x1 :: x2 :: x3 :: x4 :: ([] : List Int))).1 = true) (gd ((0 : Int) ≤ x4 ∧ x4 < (↑(List.length (Option.getD (readF x0 (x1 :: x2 :: x3 :: x4 :: ([] : List Int))).1 (((0 : Int), ([] : List (Int × Int × Int × Unit)), ([] : List ((Int × Int × Int × Unit) × Int)), ()) : Int × List (Int × Int × Int × Unit) × List ((Int × Int × Int × Unit) × Int) × Unit)).2.1) : Int)) (gd (Option.isSome (readF x0 (x1 :: x2 :: x3 :: x4 :: ([] : List Int))).1 = true) (gd (isP (Option.getD (readF x0 (x1 :: x2 :: x3 :: x4 :: ([] : List Int))).1 (((0 : Int), ([] : List (Int × Int × Int × Unit)), ([] : List ((Int × Int × Int × Unit) × Int)), ()) : Int × List (Int × Int × Int × Unit) × List ((Int × Int × Int × Unit) × Int) × Unit)).1) (gd (inR (Option.getD (readF x0 (x1 :: x2 :: x3 :: x4 :: ([] : List Int))).1 (((0 : Int), ([] : List (Int × Int × Int × Unit)), ([] : List ((Int × Int × Int × Unit) × Int)), ()) : Int × List (Int × Int × Int × Unit) × List ((Int × Int × Int × Unit) × Int) × Unit)).1 (List.getD (Option.getD (readF x0 (x1 :: x2 :: x3 :: x4 :: ([] : List Int))).1 (((0 : Int), ([] : List (Int × Int × Int × Unit)), ([] : List ((Int × Int × Int × Unit) × Int)), ()) : Int × List (Int × Int × Int × Unit) × List ((Int × Int × Int × Unit) × Int) × Unit)).2.1 (Int.toNat x1) (((0 : Int), (0 : Int), (0 : Int), ()) : Int × Int × Int × Unit))) (gd (inR (Option.getD (readF x0 (x1 :: x2 :: x3 :: x4 :: ([] : List Int))).1 (((0 : Int), ([] : List (Int × Int × Int × Unit)), ([] : List ((Int × Int × Int × Unit) × Int)), ()) : Int × List (Int × Int × Int × Unit) × List ((Int × Int × Int × Unit) × Int) × Unit)).1 (List.getD (Option.getD (readF x0 (x1 :: x2 :: x3 :: x4 :: ([] : List Int))).1 (((0 : Int), ([] : List (Int × Int × Int × Unit)), ([] : List ((Int × Int × Int × Unit) × Int)), ()) : Int × List (Int × Int × Int × Unit) × List ((Int × Int × Int × Unit) × Int) × Unit)).2.1 (Int.toNat x2) (((0 : Int), (0 : Int), (0 : Int), ()) : Int × Int × Int × Unit))) (gd (inR (Option.getD (readF x0 (x1 :: x2 :: x3 :: x4 :: ([] : List Int))).1 (((0 : Int), ([] : List (Int × Int × Int × Unit)), ([] : List ((Int × Int × Int × Unit) × Int)), ()) : Int × List (Int × Int × Int × Unit) × List ((Int × Int × Int × Unit) × Int) × Unit)).1 (List.getD (Option.getD (readF x0 (x1 :: x2 :: x3 :: x4 :: ([] : List Int))).1 (((0 : Int), ([] : List (Int × Int × Int × Unit)), ([] : List ((Int × Int × Int × Unit) × Int)), ()) : Int × List (Int × Int × Int × Unit) × List ((Int × Int × Int × Unit) × Int) × Unit)).2.1 (Int.toNat x4) (((0 : Int), (0 : Int), (0 : Int), ()) : Int × Int × Int × Unit))) (gd (Option.isSome (readF x0 (x1 :: x2 :: x3 :: x4 :: ([] : List Int))).1 = true) (gd (isP (Option.getD (readF x0 (x1 :: x2 :: x3 :: x4 :: ([] : List Int))).1 (((0 : Int), ([] : List (Int × Int × Int × Unit)), ([] : List ((Int × Int × Int × Unit) × Int)), ()) : Int × List (Int × Int × Int × Unit) × List ((Int × Int × Int × Unit) × Int) × Unit)).1) (gd (wr IntKind.i64 (g27_c4 x0 x1 x2 x3 x4 * g27_c5 x0 x1 x2 x3 x4) % (Option.getD (readF x0 (x1 :: x2 :: x3 :: x4 :: ([] : List Int))).1 (((0 : Int), ([] : List (Int × Int × Int × Unit)), ([] : List ((Int × Int × Int × Unit) × Int)), ()) : Int × List (Int × Int × Int × Unit) × List ((Int × Int × Int × Unit) × Int) × Unit)).1 ≠ (0 : Int)) (gd ((-1000 : Int) ≤ wr IntKind.i64 (g27_c4 x0 x1 x2 x3 x4 * g27_c5 x0 x1 x2 x3 x4) ∧ wr IntKind.i64 (g27_c4 x0 x1 x2 x3 x4 * g27_c5 x0 x1 x2 x3 x4) ≤ (1000 : Int)) (gd (Option.isSome (readF x0 (x1 :: x2 :: x3 :: x4 :: ([] : List Int))).1 = true) (gd ((Option.getD (readF x0 (x1 :: x2 :: x3 :: x4 :: ([] : List Int))).1 (((0 : Int), ([] : List (Int × Int × Int × Unit)), ([] : List ((Int × Int × Int × Unit) × Int)), ()) : Int × List (Int × Int × Int × Unit) × List ((Int × Int × Int × Unit) × Int) × Unit)).1 ≠ (0 : Int)) (some ((g27_c8 x0 x1 x2 x3 x4, (0 : Int), ()) : Int × Int × Unit))))))))))))))))))))))))))))))))))))))))))))))))
noncomputable def g27_sh : List LSh := ([] : List LSh)
abbrev Quad : Ty := .prod I64 (.prod I64 (.prod I64 (.prod I64 .unit)))
abbrev QuadD := Int × Int × Int × Int × Unit
def allIn (p : Int) (l : QuadD) : Prop := inPt p l.1 = true ∧ inPt p l.2.1 = true ∧ inPt p l.2.2.1 = true ∧ inPt p l.2.2.2.1 = true
def distF (l : QuadD) : Bool := !ieq l.1 l.2.1 && !ieq l.1 l.2.2.1 && !ieq l.2.1 l.2.2.1 && !ieq l.1 l.2.2.2.1 && !ieq l.2.1 l.2.2.2.1 && !ieq l.2.2.1 l.2.2.2.1
def lineF (p : Int) (l : QuadD) : Bool := distF l && onF p l.2.2.1 (joinR p l.1 l.2.1) && onF p l.2.2.2.1 (joinR p l.1 l.2.1)
noncomputable def con28 : Con := mkC 28 [.d I64, .d Quad] [.bool] (fun (p : Int) (l : QuadD) => [isP p, allIn p l]) (fun (p : Int) (l : QuadD) => (lineF p l, ()))
noncomputable def g28_l0 (x1 : Int × Int × Int × Int × Unit) (d2 : Int × List Int × Unit) (d3 : Int × Int × List Int × Unit) : Option (Lp (Int × Int × List Int × Unit) (Lp (Int × List Int × Unit) (Bool × Unit))) := bif ilt d3.2.1 (↑(Int.toNat d2.1) : Int) then gd ((0 : Int) ≤ d3.2.1 ∧ d3.2.1 < (↑(Int.toNat d3.1) : Int)) (gd ((0 : Nat) + Int.toNat d3.2.1 < List.length d3.2.2.1) (bif ieq (@id Int (arrGet (4 : Nat) (Ty.int IntKind.i64) (((x1.1, x1.2.1, x1.2.2.1, x1.2.2.2.1, ()) : Int × Int × Int × Int × Unit) : Int × Int × Int × Int × Unit) (Int.toNat d2.1))) (List.getD d3.2.2.1 ((0 : Nat) + Int.toNat d3.2.1) (0 : Int)) then some (Lp.out (Lp.out ((false, ()) : Bool × Unit))) else some (Lp.go (((↑(Int.toNat d3.1) : Int), wr IntKind.i64 (d3.2.1 + (1 : Int)), d3.2.2.1, ()) : Int × Int × List Int × Unit)))) else some (Lp.out (Lp.go ((wr IntKind.i64 (d2.1 + (1 : Int)), d3.2.2.1, ()) : Int × List Int × Unit)))
noncomputable def g28 (x0 : Int) (x1 : Int × Int × Int × Int × Unit) : Option (Bool × Unit) := gd ((4 : Nat) ≤ (4 : Nat)) (whileO (fun (d2 : Int × List Int × Unit) => bif ilt d2.1 (4 : Int) then gd ((0 : Int) ≤ d2.1 ∧ d2.1 < (4 : Int)) (gd ((0 : Int) ≤ d2.1 ∧ d2.1 ≤ (4 : Int)) (gd ((4 : Nat) = List.length d2.2.1 - (0 : Nat)) (whileO (g28_l0 x1 d2) (((↑(Int.toNat d2.1) : Int), (0 : Int), d2.2.1, ()) : Int × Int × List Int × Unit)))) else gd ((0 : Nat) < List.length d2.2.1) (gd ((1 : Nat) < List.length d2.2.1) (gd (isP x0) (gd (inPt x0 (List.getD d2.2.1 (0 : Nat) (0 : Int)) = true) (gd (inPt x0 (List.getD d2.2.1 (1 : Nat) (0 : Int)) = true) (gd ((2 : Nat) < List.length d2.2.1) (gd (isP x0) (gd (inPt x0 (List.getD d2.2.1 (2 : Nat) (0 : Int)) = true) (gd (inPt x0 (joinR x0 (List.getD d2.2.1 (0 : Nat) (0 : Int)) (List.getD d2.2.1 (1 : Nat) (0 : Int))) = true) (gd (onF x0 (List.getD d2.2.1 (2 : Nat) (0 : Int)) (joinR x0 (List.getD d2.2.1 (0 : Nat) (0 : Int)) (List.getD d2.2.1 (1 : Nat) (0 : Int))) = true → onF x0 (List.getD d2.2.1 (2 : Nat) (0 : Int)) (joinR x0 (List.getD d2.2.1 (0 : Nat) (0 : Int)) (List.getD d2.2.1 (1 : Nat) (0 : Int))) = true ∧ (3 : Nat) < List.length d2.2.1) (gd (onF x0 (List.getD d2.2.1 (2 : Nat) (0 : Int)) (joinR x0 (List.getD d2.2.1 (0 : Nat) (0 : Int)) (List.getD d2.2.1 (1 : Nat) (0 : Int))) = true → onF x0 (List.getD d2.2.1 (2 : Nat) (0 : Int)) (joinR x0 (List.getD d2.2.1 (0 : Nat) (0 : Int)) (List.getD d2.2.1 (1 : Nat) (0 : Int))) = true ∧ onF x0 (List.getD d2.2.1 (2 : Nat) (0 : Int)) (joinR x0 (List.getD d2.2.1 (0 : Nat) (0 : Int)) (List.getD d2.2.1 (1 : Nat) (0 : Int))) = true ∧ onF x0 (List.getD d2.2.1 (2 : Nat) (0 : Int)) (joinR x0 (List.getD d2.2.1 (0 : Nat) (0 : Int)) (List.getD d2.2.1 (1 : Nat) (0 : Int))) = true ∧ isP x0 ∧ inPt x0 (List.getD d2.2.1 (3 : Nat) (0 : Int)) = true ∧ inPt x0 (joinR x0 (List.getD d2.2.1 (0 : Nat) (0 : Int)) (List.getD d2.2.1 (1 : Nat) (0 : Int))) = true) (gd (onF x0 (List.getD d2.2.1 (2 : Nat) (0 : Int)) (joinR x0 (List.getD d2.2.1 (0 : Nat) (0 : Int)) (List.getD d2.2.1 (1 : Nat) (0 : Int))) = true → onF x0 (List.getD d2.2.1 (2 : Nat) (0 : Int)) (joinR x0 (List.getD d2.2.1 (0 : Nat) (0 : Int)) (List.getD d2.2.1 (1 : Nat) (0 : Int))) = true) (some (Lp.out ((bif onF x0 (List.getD d2.2.1 (2 : Nat) (0 : Int)) (joinR x0 (List.getD d2.2.1 (0 : Nat) (0 : Int)) (List.getD d2.2.1 (1 : Nat) (0 : Int))) then onF x0 (List.getD d2.2.1 (3 : Nat) (0 : Int)) (joinR x0 (List.getD d2.2.1 (0 : Nat) (0 : Int)) (List.getD d2.2.1 (1 : Nat) (0 : Int))) else false, ()) : Bool × Unit))))))))))))))) (((0 : Int), x1.1 :: x1.2.1 :: x1.2.2.1 :: x1.2.2.2.1 :: ([] : List Int), ()) : Int × List Int × Unit))
noncomputable def g28_sh : List LSh := LSh.mk (((3, TV.ref (0) (1 : Nat) (0 : Nat) (0 : Nat)) : Nat × TV) :: ((11, TV.v (Ty.int IntKind.i64)) : Nat × TV) :: ([] : List (Nat × TV))) (TB.arr (Ty.int IntKind.i64) false :: ([] : List TB)) :: LSh.mk (((3, TV.ref (0) (1 : Nat) (0 : Nat) (0 : Nat)) : Nat × TV) :: ((16, TV.sl (0) (1) (0)) : Nat × TV) :: ((18, TV.v (Ty.int IntKind.i64)) : Nat × TV) :: ([] : List (Nat × TV))) (TB.arr (Ty.int IntKind.i64) false :: ([] : List TB)) :: ([] : List LSh)
noncomputable def con75 : Con := mkC 75 [.d I64, .d I64, .d I64, .d I64] [I64, I64] (fun (p a b c : Int) => [isP p, inPt p a = true, inPt p b = true, inPt p c = true]) (fun (p a b c : Int) => ((partsF p (pt p a) (pt p b) (pt p c)).1, (partsF p (pt p a) (pt p b) (pt p c)).2, ()))
noncomputable def g75_l0 (x0 x1 x2 x3 : Int) (d4 d5 : Int × Unit) (d6 : Bool × Int × Unit) : Option (Lp (Bool × Int × Unit) (Lp (Int × Unit) (Lp (Int × Unit) (Int × Int × Unit)))) := bif ilt d6.2.1 (3 : Int) then gd (d6.1 = true → d6.1 = true ∧ d6.1 = true ∧ (0 : Int) ≤ x1 ∧ x1 < (↑(List.length (ptsC x0)) : Int)) (gd (d6.1 = true → d6.1 = true ∧ d6.1 = true ∧ (0 : Int) ≤ d6.2.1 ∧ d6.2.1 < (3 : Int)) (gd (d6.1 = true → d6.1 = true) (gd (d6.1 = true → d6.1 = true ∧ d6.1 = true) (gd (d6.1 = true → d6.1 = true ∧ d6.1 = true ∧ (0 : Int) ≤ x2 ∧ x2 < (↑(List.length (ptsC x0)) : Int)) (gd (d6.1 = true → d6.1 = true ∧ d6.1 = true ∧ (0 : Int) ≤ d6.2.1 ∧ d6.2.1 < (3 : Int)) (gd (d6.1 = true → d6.1 = true) (gd (d6.1 = true → d6.1 = true ∧ d6.1 = true) (gd (d6.1 = true → d6.1 = true ∧ d6.1 = true) (gd (d6.1 = true → d6.1 = true ∧ d6.1 = true ∧ (0 : Int) ≤ x3 ∧ x3 < (↑(List.length (ptsC x0)) : Int)) (gd (d6.1 = true → d6.1 = true ∧ d6.1 = true ∧ (0 : Int) ≤ d6.2.1 ∧ d6.2.1 < (3 : Int)) (gd (d6.1 = true → d6.1 = true) (gd (d6.1 = true → d6.1 = true ∧ d6.1 = true) (gd (d6.1 = true → d6.1 = true ∧ d6.1 = true ∧ x0 ≠ (0 : Int)) (gd (d6.1 = true → d6.1 = true) (gd (d6.1 = true → d6.1 = true) (some (Lp.go ((bif d6.1 then ieq (Int.tmod (wr IntKind.i64 (wr IntKind.i64 (wr IntKind.i64 (d4.1 * (@id Int (arrGet (3 : Nat) (Ty.int IntKind.i64) (List.getD (ptsC x0) (Int.toNat x1) (((0 : Int), (0 : Int), (0 : Int), ()) : Int × Int × Int × Unit) : Int × Int × Int × Unit) (Int.toNat d6.2.1)))) + wr IntKind.i64 (d5.1 * (@id Int (arrGet (3 : Nat) (Ty.int IntKind.i64) (List.getD (ptsC x0) (Int.toNat x2) (((0 : Int), (0 : Int), (0 : Int), ()) : Int × Int × Int × Unit) : Int × Int × Int × Unit) (Int.toNat d6.2.1))))) - (@id Int (arrGet (3 : Nat) (Ty.int IntKind.i64) (List.getD (ptsC x0) (Int.toNat x3) (((0 : Int), (0 : Int), (0 : Int), ()) : Int × Int × Int × Unit) : Int × Int × Int × Unit) (Int.toNat d6.2.1))))) x0) (0 : Int) else false, wr IntKind.i64 (d6.2.1 + (1 : Int)), ()) : Bool × Int × Unit)))))))))))))))))) else bif d6.1 then some (Lp.out (Lp.out (Lp.out ((d4.1, d5.1, ()) : Int × Int × Unit)))) else some (Lp.out (Lp.go ((wr IntKind.i64 (d5.1 + (1 : Int)), ()) : Int × Unit)))
noncomputable def g75_l1 (x0 x1 x2 x3 : Int) (d4 d5 : Int × Unit) : Option (Lp (Int × Unit) (Lp (Int × Unit) (Int × Int × Unit))) := bif ilt d5.1 x0 then whileO (g75_l0 x0 x1 x2 x3 d4 d5) ((true, (0 : Int), ()) : Bool × Int × Unit) else some (Lp.out (Lp.go ((wr IntKind.i64 (d4.1 + (1 : Int)), ()) : Int × Unit)))
noncomputable def g75 (x0 x1 x2 x3 : Int) : Option (Int × Int × Unit) := gd (isP x0) (whileO (fun (d4 : Int × Unit) => bif ilt d4.1 x0 then whileO (g75_l1 x0 x1 x2 x3 d4) (((0 : Int), ()) : Int × Unit) else some (Lp.out (((0 : Int), (0 : Int), ()) : Int × Int × Unit))) (((0 : Int), ()) : Int × Unit))
noncomputable def g75_sh : List LSh := LSh.mk (((18, TV.v (Ty.int IntKind.i64)) : Nat × TV) :: ([] : List (Nat × TV))) ([] : List TB) :: LSh.mk (((22, TV.v (Ty.int IntKind.i64)) : Nat × TV) :: ([] : List (Nat × TV))) ([] : List TB) :: LSh.mk (((13, TV.v Ty.bool) : Nat × TV) :: ((25, TV.v (Ty.int IntKind.i64)) : Nat × TV) :: ([] : List (Nat × TV))) ([] : List TB) :: ([] : List LSh)
def ratR (p : Int) (u v s t : Int) : Int := (findI (fun x => if (x * v * s - u * t) % p = 0 then some x else none) p.toNat 0).getD 0
noncomputable def ratL (p : Int) (l : QuadD) : Int := ratR p (partsF p (pt p l.1) (pt p l.2.1) (pt p l.2.2.1)).1 (partsF p (pt p l.1) (pt p l.2.1) (pt p l.2.2.1)).2 (partsF p (pt p l.1) (pt p l.2.1) (pt p l.2.2.2.1)).1 (partsF p (pt p l.1) (pt p l.2.1) (pt p l.2.2.2.1)).2
noncomputable def con29 : Con := mkC 29 [.d I64, .d Quad] [I64] (fun (p : Int) (l : QuadD) => [isP p, allIn p l]) (fun (p : Int) (l : QuadD) => (ratL p l, ()))
noncomputable def g29 (x0 : Int) (x1 : Int × Int × Int × Int × Unit) : Option (Int × Unit) := gd ((0 : Nat) < (4 : Nat)) (gd ((1 : Nat) < (4 : Nat)) (gd ((2 : Nat) < (4 : Nat)) (gd (isP x0) (gd (inPt x0 x1.1 = true) (gd (inPt x0 x1.2.1 = true) (gd (inPt x0 x1.2.2.1 = true) (gd ((0 : Nat) < (4 : Nat)) (gd ((1 : Nat) < (4 : Nat)) (gd ((3 : Nat) < (4 : Nat)) (gd (isP x0) (gd (inPt x0 x1.1 = true) (gd (inPt x0 x1.2.1 = true) (gd (inPt x0 x1.2.2.2.1 = true) (whileO (fun (d2 : Int × Unit) => bif ilt d2.1 x0 then gd (x0 ≠ (0 : Int)) (bif ieq (Int.tmod (wr IntKind.i64 (wr IntKind.i64 (wr IntKind.i64 (d2.1 * (partsF x0 (pt x0 x1.1) (pt x0 x1.2.1) (pt x0 x1.2.2.1)).2) * (partsF x0 (pt x0 x1.1) (pt x0 x1.2.1) (pt x0 x1.2.2.2.1)).1) - wr IntKind.i64 ((partsF x0 (pt x0 x1.1) (pt x0 x1.2.1) (pt x0 x1.2.2.1)).1 * (partsF x0 (pt x0 x1.1) (pt x0 x1.2.1) (pt x0 x1.2.2.2.1)).2))) x0) (0 : Int) then some (Lp.out ((d2.1, ()) : Int × Unit)) else some (Lp.go ((wr IntKind.i64 (d2.1 + (1 : Int)), ()) : Int × Unit))) else some (Lp.out (((0 : Int), ()) : Int × Unit))) (((0 : Int), ()) : Int × Unit)))))))))))))))
noncomputable def g29_sh : List LSh := LSh.mk (((33, TV.v (Ty.int IntKind.i64)) : Nat × TV) :: ([] : List (Nat × TV))) ([] : List TB) :: ([] : List LSh)
noncomputable def con5 : Con := mkC 5 [.d I64, .d Quad] [.bool] (fun (p : Int) (l : QuadD) => []) (fun (p : Int) (l : QuadD) => (true, ()))
noncomputable def g5 (x0 : Int) (x1 : Int × Int × Int × Int × Unit) : Option (Bool × Unit) := gd ((0 : Nat) < (4 : Nat)) (gd ((1 : Nat) < (4 : Nat)) (gd ((2 : Nat) < (4 : Nat)) (gd ((3 : Nat) < (4 : Nat)) (gd ((4 : Nat) ≤ (4 : Nat)) (gd (small (x1.1 :: x1.2.1 :: x1.2.2.1 :: x1.2.2.2.1 :: ([] : List Int))) (gd ((!!(isPb x0 && List.all (x1.1 :: x1.2.1 :: x1.2.2.1 :: x1.2.2.2.1 :: ([] : List Int)) (inPt x0))) = true → (4 : Nat) ≤ (4 : Nat)) (gd ((!!(isPb x0 && List.all (x1.1 :: x1.2.1 :: x1.2.2.1 :: x1.2.2.2.1 :: ([] : List Int)) (inPt x0))) = true → (!!(isPb x0 && List.all (x1.1 :: x1.2.1 :: x1.2.2.1 :: x1.2.2.2.1 :: ([] : List Int)) (inPt x0))) = true ∧ (!!(isPb x0 && List.all (x1.1 :: x1.2.1 :: x1.2.2.1 :: x1.2.2.2.1 :: ([] : List Int)) (inPt x0))) = true ∧ isP x0 ∧ allIn x0 ((x1.1, x1.2.1, x1.2.2.1, x1.2.2.2.1, ()) : Int × Int × Int × Int × Unit)) (gd ((!!(isPb x0 && List.all (x1.1 :: x1.2.1 :: x1.2.2.1 :: x1.2.2.2.1 :: ([] : List Int)) (inPt x0))) = true → (!!(isPb x0 && List.all (x1.1 :: x1.2.1 :: x1.2.2.1 :: x1.2.2.2.1 :: ([] : List Int)) (inPt x0))) = true) (gd ((!(isPb x0 && List.all (x1.1 :: x1.2.1 :: x1.2.2.1 :: x1.2.2.2.1 :: ([] : List Int)) (inPt x0))) = false → (!!(isPb x0 && List.all (x1.1 :: x1.2.1 :: x1.2.2.1 :: x1.2.2.2.1 :: ([] : List Int)) (inPt x0))) = true) (bif bif !(isPb x0 && List.all (x1.1 :: x1.2.1 :: x1.2.2.1 :: x1.2.2.2.1 :: ([] : List Int)) (inPt x0)) then true else !lineF x0 ((x1.1, x1.2.1, x1.2.2.1, x1.2.2.2.1, ()) : Int × Int × Int × Int × Unit) then gd (ieq (crossX x0 x1.1 x1.2.1 x1.2.2.1 x1.2.2.2.1).1 (0 : Int) = true → ieq (crossX x0 x1.1 x1.2.1 x1.2.2.1 x1.2.2.2.1).1 (0 : Int) = true) (gd (ieq (crossX x0 x1.1 x1.2.1 x1.2.2.1 x1.2.2.2.1).1 (0 : Int) = true → ieq (crossX x0 x1.1 x1.2.1 x1.2.2.1 x1.2.2.2.1).1 (0 : Int) = true) (gd ((bif ieq (crossX x0 x1.1 x1.2.1 x1.2.2.1 x1.2.2.2.1).1 (0 : Int) then ieq (crossX x0 x1.1 x1.2.1 x1.2.2.1 x1.2.2.2.1).2.1 (2 : Int) else false) = true → (bif ieq (crossX x0 x1.1 x1.2.1 x1.2.2.1 x1.2.2.2.1).1 (0 : Int) then ieq (crossX x0 x1.1 x1.2.1 x1.2.2.1 x1.2.2.2.1).2.1 (2 : Int) else false) = true) (some ((bif bif ieq (crossX x0 x1.1 x1.2.1 x1.2.2.1 x1.2.2.2.1).1 (0 : Int) then ieq (crossX x0 x1.1 x1.2.1 x1.2.2.1 x1.2.2.2.1).2.1 (2 : Int) else false then true else false, ()) : Bool × Unit)))) else gd ((4 : Nat) ≤ (4 : Nat)) (gd (isP x0) (gd (allIn x0 ((x1.1, x1.2.1, x1.2.2.1, x1.2.2.2.1, ()) : Int × Int × Int × Int × Unit)) (gd (ieq (crossX x0 x1.1 x1.2.1 x1.2.2.1 x1.2.2.2.1).1 (ratL x0 ((x1.1, x1.2.1, x1.2.2.1, x1.2.2.2.1, ()) : Int × Int × Int × Int × Unit)) = true → ieq (crossX x0 x1.1 x1.2.1 x1.2.2.1 x1.2.2.2.1).1 (ratL x0 ((x1.1, x1.2.1, x1.2.2.1, x1.2.2.2.1, ()) : Int × Int × Int × Int × Unit)) = true) (gd (ieq (crossX x0 x1.1 x1.2.1 x1.2.2.1 x1.2.2.2.1).1 (ratL x0 ((x1.1, x1.2.1, x1.2.2.1, x1.2.2.2.1, ()) : Int × Int × Int × Int × Unit)) = true → ieq (crossX x0 x1.1 x1.2.1 x1.2.2.1 x1.2.2.2.1).1 (ratL x0 ((x1.1, x1.2.1, x1.2.2.1, x1.2.2.2.1, ()) : Int × Int × Int × Int × Unit)) = true) (gd ((bif ieq (crossX x0 x1.1 x1.2.1 x1.2.2.1 x1.2.2.2.1).1 (ratL x0 ((x1.1, x1.2.1, x1.2.2.1, x1.2.2.2.1, ()) : Int × Int × Int × Int × Unit)) then ieq (crossX x0 x1.1 x1.2.1 x1.2.2.1 x1.2.2.2.1).2.1 (0 : Int) else false) = true → (bif ieq (crossX x0 x1.1 x1.2.1 x1.2.2.1 x1.2.2.2.1).1 (ratL x0 ((x1.1, x1.2.1, x1.2.2.1, x1.2.2.2.1, ()) : Int × Int × Int × Int × Unit)) then ieq (crossX x0 x1.1 x1.2.1 x1.2.2.1 x1.2.2.2.1).2.1 (0 : Int) else false) = true) (some ((bif bif ieq (crossX x0 x1.1 x1.2.1 x1.2.2.1 x1.2.2.2.1).1 (ratL x0 ((x1.1, x1.2.1, x1.2.2.1, x1.2.2.2.1, ()) : Int × Int × Int × Int × Unit)) then ieq (crossX x0 x1.1 x1.2.1 x1.2.2.1 x1.2.2.2.1).2.1 (0 : Int) else false then true else false, ()) : Bool × Unit)))))))))))))))))
noncomputable def g5_sh : List LSh := ([] : List LSh)


theorem goal71 : con71.goal Try.prog (spOf [conCross, conDotC]) g71_sh [] lm30 := by
  have e : (∀ (k : PlaneD) (a b c : Int), isPl k → inPt k.1 a = true → inPt k.1 b = true → inPt k.1 c = true → g71 k a b c = some (strF k.1 a b c, ())) = con71.goal Try.prog (spOf [conCross, conDotC]) g71_sh [] lm30 := by kernel_rfl
  rw [← e]
  intro k a b c hk ha hb hc
  have hpts := pl_pts hk
  have h1 := inPt_iff.1 ha
  have h2 := inPt_iff.1 hb
  have h3 := inPt_iff.1 hc
  have hl := pts_len k.1 (isP_mem hk.1)
  have ea : List.getD (ptsC k.1) a.toNat (0, 0, 0, ()) = pt k.1 a := rfl
  have eb : List.getD (ptsC k.1) b.toNat (0, 0, 0, ()) = pt k.1 b := rfl
  have ec : List.getD (ptsC k.1) c.toNat (0, 0, 0, ()) = pt k.1 c := rfl
  unfold g71
  rw [hpts, ea, eb, ec, gd_pos (by omega), gd_pos (by omega), gd_pos hk.1, gd_pos (pt_in hk.1 ha), gd_pos (pt_in hk.1 hb), gd_pos (by omega), gd_pos hk.1, gd_pos (cross_in hk.1), gd_pos (pt_in hk.1 hc)]
  rfl
set_option maxRecDepth 100000 in
theorem ok71 : con71.Ok Try.prog := Con.of_goal mixed (okC okCross (okC okDotC okN)) con71 goal71


end Go.Arcs

set_option linter.unusedVariables false
set_option linter.unusedSimpArgs false
namespace Go.Arcs
open Go Go.Ab Go.Proofs

theorem w1 : wr .i64 1 = 1 := by decide
theorem w2 : wr .i64 2 = 2 := by decide
theorem w3 : wr .i64 3 = 3 := by decide
theorem w4 : wr .i64 4 = 4 := by decide

def pick {X Y : Type} (o : Option Y) (f : Y → X) (e : X) : X := match o with
  | some r => f r
  | none => e

theorem find_loop {S X Y : Type} {step : S → Option (Lp S X)} {p : Int} (st : Int → S) (q : Int → Option Y) (f : Y → X) (fin : X) (hp : 0 ≤ p)
    (h1 : ∀ v, 0 ≤ v → v < p → step (st v) = some (pick (q v) (fun r => Lp.out (f r)) (Lp.go (st (v + 1)))))
    (h2 : step (st p) = some (.out fin)) : whileO step (st 0) = some (pick (findI q p.toNat 0) f fin) := by
  have key : ∀ n v, 0 ≤ v → (p - v).toNat = n → v ≤ p → whileO step (st v) = some (pick (findI q n v) f fin) := by
    intro n
    induction n with
    | zero =>
      intro v h0 hn hv
      have : v = p := by omega
      subst this
      exact whileO_out h2
    | succ n ih =>
      intro v h0 hn hv
      have hs := h1 v h0 (by omega)
      rw [findI]
      cases hq : q v with
      | some r =>
        rw [hq] at hs
        exact whileO_out hs
      | none =>
        rw [hq] at hs
        exact (whileO_go hs).trans (ih (v + 1) (by omega) (by omega) (by omega))
  exact key p.toNat 0 (Int.le_refl _) (by omega) hp

def qv (p : Int) (a b c : TripD) (u v : Int) : Option (Int × Int) := if deqT (cmb p a b u v) c = true then some (u, v) else none
def qu (p : Int) (a b c : TripD) (u : Int) : Option (Int × Int) := findI (qv p a b c u) p.toNat 0
theorem partsO_eq {p : Int} {a b c : TripD} : partsO p a b c = findI (qu p a b c) p.toNat 0 := rfl

theorem in72 {k : PlaneD} {a1 a2 a3 b1 b2 b3 c1 c2 c3 u v : Int} (hp : isP k.1) (ha : inR k.1 (a1, a2, a3, ())) (hb : inR k.1 (b1, b2, b3, ())) (hu : 0 ≤ u ∧ u < k.1) (hv : 0 ≤ v ∧ v < k.1) :
    whileO (g72_l0 k (u, [a1, a2, a3], [b1, b2, b3], [c1, c2, c3], ()) (v, [a1, a2, a3], [b1, b2, b3], [c1, c2, c3], ())) (0, [a1, a2, a3], [b1, b2, b3], [c1, c2, c3], [0, 0, 0], ()) =
      some (pick (qv k.1 (a1, a2, a3, ()) (b1, b2, b3, ()) (c1, c2, c3, ()) u v) (fun r => Lp.out (Lp.out (r.1, r.2, ()))) (Lp.go (v + 1, [a1, a2, a3], [b1, b2, b3], [c1, c2, c3], ()))) := by
  have hbd := isP_bd hp
  obtain ⟨ha1, ha2, ha3⟩ := ha
  obtain ⟨hb1, hb2, hb3⟩ := hb
  simp only at ha1 ha2 ha3 hb1 hb2 hb3
  have hk : k.1 ≠ 0 := by omega
  have t : ∀ x y : Int, 0 ≤ x ∧ x < k.1 → 0 ≤ y ∧ y < k.1 → modF k.1 (wr .i64 (wr .i64 (u * x) + wr .i64 (v * y))) = (u * x + v * y) % k.1 := by
    intro x y hx hy
    have b1 := mul_bd (c := 7) (a := u) (b := x) (by omega) (by omega)
    have b2 := mul_bd (c := 7) (a := v) (b := y) (by omega) (by omega)
    rw [modF_eq (by omega), wr_id (n := u * x) (by omega), wr_id (n := v * y) (by omega), wr_id (by omega)]
  have t1 := t a1 b1 ha1 hb1
  have t2 := t a2 b2 ha2 hb2
  have t3 := t a3 b3 ha3 hb3
  have wv : wr .i64 (v + 1) = v + 1 := wr_id (by omega)
  refine (whileO_go (s' := ((1 : Int), [a1, a2, a3], [b1, b2, b3], [c1, c2, c3], [(u * a1 + v * b1) % k.1, 0, 0], ())) ?_).trans ?_
  · simp [g72_l0, ilt, gd_true, hk, t1, w1]
  refine (whileO_go (s' := ((2 : Int), [a1, a2, a3], [b1, b2, b3], [c1, c2, c3], [(u * a1 + v * b1) % k.1, (u * a2 + v * b2) % k.1, 0], ())) ?_).trans ?_
  · simp [g72_l0, ilt, gd_true, hk, t2, w2]
  refine (whileO_go (s' := ((3 : Int), [a1, a2, a3], [b1, b2, b3], [c1, c2, c3], [(u * a1 + v * b1) % k.1, (u * a2 + v * b2) % k.1, (u * a3 + v * b3) % k.1], ())) ?_).trans ?_
  · simp [g72_l0, ilt, gd_true, hk, t3, w3]
  refine whileO_out ?_
  unfold qv
  by_cases hd : deqT (cmb k.1 (a1, a2, a3, ()) (b1, b2, b3, ()) u v) (c1, c2, c3, ()) = true
  · rw [if_pos hd]
    simp only [deqT, cmb] at hd
    simp [g72_l0, ilt, gd_true, pick, hd]
  · rw [if_neg hd]
    simp only [deqT, cmb] at hd
    simp [g72_l0, ilt, gd_true, pick, hd, wv]

theorem goal72 : con72.goal Try.prog (spOf [conMod]) g72_sh [] lm30 := by
  have e : (∀ (k : PlaneD) (a b c : TripD), isP k.1 → inR k.1 a → inR k.1 b → inR k.1 c → g72 k a b c = some ((partsF k.1 a b c).1, (partsF k.1 a b c).2, ())) = con72.goal Try.prog (spOf [conMod]) g72_sh [] lm30 := by kernel_rfl
  rw [← e]
  intro k a b c hp ha hb hc
  have hbd := isP_bd hp
  obtain ⟨a1, a2, a3, _⟩ := a
  obtain ⟨b1, b2, b3, _⟩ := b
  obtain ⟨c1, c2, c3, _⟩ := c
  unfold g72 partsF
  rw [partsO_eq]
  refine (find_loop (p := k.1) (fun u => ((u, [a1, a2, a3], [b1, b2, b3], [c1, c2, c3], ()) : Int × List Int × List Int × List Int × Unit)) (qu k.1 (a1, a2, a3, ()) (b1, b2, b3, ()) (c1, c2, c3, ())) (fun r => ((r.1, r.2, ()) : Int × Int × Unit)) ((0 : Int), (0 : Int), ()) (by omega) ?_ ?_).trans ?_
  · intro u h0 hu
    simp only
    rw [cond_t (ilt_iff.2 hu)]
    have wu : wr .i64 (u + 1) = u + 1 := wr_id (by omega)
    refine (find_loop (p := k.1) (fun v => ((v, [a1, a2, a3], [b1, b2, b3], [c1, c2, c3], ()) : Int × List Int × List Int × List Int × Unit)) (qv k.1 (a1, a2, a3, ()) (b1, b2, b3, ()) (c1, c2, c3, ()) u) (fun r => Lp.out ((r.1, r.2, ()) : Int × Int × Unit)) (Lp.go ((u + 1, [a1, a2, a3], [b1, b2, b3], [c1, c2, c3], ()) : Int × List Int × List Int × List Int × Unit)) (by omega) ?_ ?_).trans ?_
    · intro v hv0 hv
      unfold g72_l1
      rw [cond_t (ilt_iff.2 hv), gd_pos (by omega)]
      exact in72 hp ha hb ⟨h0, hu⟩ ⟨hv0, hv⟩
    · unfold g72_l1
      rw [cond_f (ilt_false.2 (Int.le_refl _))]
      simp only [wu]
    · rfl
  · simp only
    rw [cond_f (ilt_false.2 (Int.le_refl _))]
  · cases findI (qu k.1 (a1, a2, a3, ()) (b1, b2, b3, ()) (c1, c2, c3, ())) k.1.toNat 0 <;> rfl
set_option maxRecDepth 100000 in
theorem ok72 : con72.Ok Try.prog := Con.of_goal mixed (okC okMod okN) con72 goal72

end Go.Arcs

set_option linter.unusedVariables false
set_option linter.unusedSimpArgs false
namespace Go.Arcs
open Go Go.Ab Go.Proofs

theorem goalInv2 : conInv2.goal Try.prog (spOf [conMod]) g74_sh [] lm30 := by
  have e : (∀ (k : PlaneD) (n : Int), isP k.1 → n % k.1 ≠ 0 → (-1000 ≤ n ∧ n ≤ 1000) → g74 k n = some (invF k.1 (n % k.1), ())) = conInv2.goal Try.prog (spOf [conMod]) g74_sh [] lm30 := by kernel_rfl
  rw [← e]
  intro k n hp hn hb
  have h2 := isP_bd hp
  have hr : rngP k.1 (n % k.1) := by
    have := Int.emod_nonneg n (show k.1 ≠ 0 by omega)
    have := Int.emod_lt_of_pos n (show 0 < k.1 by omega)
    have := Int.emod_eq_of_lt (a := n % k.1) (b := k.1) (by omega) (by omega)
    unfold rngP
    omega
  obtain ⟨g1, g2, g3⟩ := inv_spec hp hr
  have g4 : ∀ x, 1 ≤ x → x ≤ invF k.1 (n % k.1) → ieq (modF k.1 (wr .i64 (x * n))) 1 = ieq x (invF k.1 (n % k.1)) := by
    intro x h1 hx
    rw [← g3 x h1 hx, modF_eq (by omega), modF_eq (by omega)]
    have b1 : -6000 ≤ x * n ∧ x * n ≤ 6000 := by
      have : x = 1 ∨ x = 2 ∨ x = 3 ∨ x = 4 ∨ x = 5 ∨ x = 6 := by omega
      rcases this with rfl | rfl | rfl | rfl | rfl | rfl <;> omega
    have b2 := mul_bd (c := 7) (a := x) (b := n % k.1) (by omega) ⟨Int.emod_nonneg n (by omega), by have := Int.emod_lt_of_pos n (show 0 < k.1 by omega); omega⟩
    rw [wr_id (by omega), wr_id (by omega)]
    have : x * (n % k.1) % k.1 = x * n % k.1 := by simp [Int.mul_emod]
    rw [this]
  unfold g74
  refine whileO_rec (fun (d : Int × Unit) => 1 ≤ d.1 ∧ d.1 ≤ invF k.1 (n % k.1)) (fun (d : Int × Unit) => (invF k.1 (n % k.1) - d.1).toNat) (fun (d : Int × Unit) => (invF k.1 (n % k.1), ())) ?_ ((1 : Int), ()) ⟨by omega, by simp only; omega⟩
  rintro ⟨i, _⟩ ⟨h0, h1⟩
  simp only at h0 h1 ⊢
  rw [gd_pos (by omega), g4 i h0 h1]
  by_cases he : i = invF k.1 (n % k.1)
  · left
    rw [cond_f (by simp [ieq, he]), he]
  · right
    refine ⟨_, by rw [cond_t (by simp [ieq, he]), wr_id (by omega)], ⟨by simp only; omega, by simp only; omega⟩, by simp only; omega, by trivial⟩
set_option maxRecDepth 100000 in
theorem okInv2 : conInv2.Ok Try.prog := Con.of_goal mixed (okC okMod okN) conInv2 goalInv2

theorem tmod0 {n p : Int} : Int.tmod n p = 0 ↔ n % p = 0 :=
  ⟨fun h => Int.emod_eq_zero_of_dvd (Int.dvd_of_tmod_eq_zero h), fun h => Int.tmod_eq_zero_of_dvd (Int.dvd_of_emod_eq_zero h)⟩
theorem sub0 {s z p : Int} (hz : 0 ≤ z ∧ z < p) : (s - z) % p = 0 ↔ s % p = z := by
  rw [← Int.emod_eq_emod_iff_emod_sub_eq_zero, Int.emod_eq_of_lt hz.1 hz.2]

theorem in75 {p a b c u v : Int} (hp : isP p) (ha : inPt p a = true) (hb : inPt p b = true) (hc : inPt p c = true) (hu : 0 ≤ u ∧ u < p) (hv : 0 ≤ v ∧ v < p) :
    whileO (g75_l0 p a b c (u, ()) (v, ())) (true, 0, ()) = some (pick (qv p (pt p a) (pt p b) (pt p c) u v) (fun r => Lp.out (Lp.out (r.1, r.2, ()))) (Lp.go (v + 1, ()))) := by
  have hbd := isP_bd hp
  have hk : p ≠ 0 := by omega
  have h1 := inPt_iff.1 ha
  have h2 := inPt_iff.1 hb
  have h3 := inPt_iff.1 hc
  have hl := pts_len p (isP_mem hp)
  have ea : List.getD (ptsC p) a.toNat (0, 0, 0, ()) = pt p a := rfl
  have eb : List.getD (ptsC p) b.toNat (0, 0, 0, ()) = pt p b := rfl
  have ec : List.getD (ptsC p) c.toNat (0, 0, 0, ()) = pt p c := rfl
  have ra := pt_in hp ha
  have rb := pt_in hp hb
  have rc := pt_in hp hc
  revert ea eb ec ra rb rc
  generalize pt p a = A
  generalize pt p b = B
  generalize pt p c = C
  intro ea eb ec ra rb rc
  obtain ⟨a1, a2, a3, _⟩ := A
  obtain ⟨b1, b2, b3, _⟩ := B
  obtain ⟨c1, c2, c3, _⟩ := C
  obtain ⟨ha1, ha2, ha3⟩ := ra
  obtain ⟨hb1, hb2, hb3⟩ := rb
  obtain ⟨hc1, hc2, hc3⟩ := rc
  simp only at ha1 ha2 ha3 hb1 hb2 hb3 hc1 hc2 hc3
  have t : ∀ x y z : Int, 0 ≤ x ∧ x < p → 0 ≤ y ∧ y < p → 0 ≤ z ∧ z < p → ieq (Int.tmod (wr .i64 (wr .i64 (wr .i64 (u * x) + wr .i64 (v * y)) - z)) p) 0 = ieq ((u * x + v * y) % p) z := by
    intro x y z hx hy hz
    have b1 := mul_bd (c := 7) (a := u) (b := x) (by omega) (by omega)
    have b2 := mul_bd (c := 7) (a := v) (b := y) (by omega) (by omega)
    rw [wr_id (n := u * x) (by omega), wr_id (n := v * y) (by omega), wr_id (n := u * x + v * y) (by omega), wr_id (by omega)]
    rw [Bool.eq_iff_iff, ieq_iff, ieq_iff, tmod0, sub0 hz]
  have t1 := t a1 b1 c1 ha1 hb1 hc1
  have t2 := t a2 b2 c2 ha2 hb2 hc2
  have t3 := t a3 b3 c3 ha3 hb3 hc3
  have wv : wr .i64 (v + 1) = v + 1 := wr_id (by omega)
  have la : a < (List.length (ptsC p) : Int) := by omega
  have lb : b < (List.length (ptsC p) : Int) := by omega
  have lc : c < (List.length (ptsC p) : Int) := by omega
  refine (whileO_go (s' := (ieq ((u * a1 + v * b1) % p) c1, (1 : Int), ())) ?_).trans ?_
  · simp only [g75_l0, ea, eb, ec]
    simp [ilt, gd_true, hk, arrGet, id, t1, w1, h1.1, h2.1, h3.1, la, lb, lc]
  refine (whileO_go (s' := (ieq ((u * a1 + v * b1) % p) c1 && ieq ((u * a2 + v * b2) % p) c2, (2 : Int), ())) ?_).trans ?_
  · simp only [g75_l0, ea, eb, ec]
    simp [ilt, gd_true, hk, arrGet, id, t2, w2, h1.1, h2.1, h3.1, la, lb, lc]
  refine (whileO_go (s' := (ieq ((u * a1 + v * b1) % p) c1 && ieq ((u * a2 + v * b2) % p) c2 && ieq ((u * a3 + v * b3) % p) c3, (3 : Int), ())) ?_).trans ?_
  · simp only [g75_l0, ea, eb, ec]
    simp [ilt, gd_true, hk, arrGet, id, t3, w3, h1.1, h2.1, h3.1, la, lb, lc]
  refine whileO_out ?_
  have hd : deqT (cmb p (a1, a2, a3, ()) (b1, b2, b3, ()) u v) (c1, c2, c3, ()) = (ieq ((u * a1 + v * b1) % p) c1 && ieq ((u * a2 + v * b2) % p) c2 && ieq ((u * a3 + v * b3) % p) c3) := by
    simp [deqT, cmb, deq, Bool.and_assoc]
  unfold qv
  rw [hd]
  cases (ieq ((u * a1 + v * b1) % p) c1 && ieq ((u * a2 + v * b2) % p) c2 && ieq ((u * a3 + v * b3) % p) c3) <;> simp [g75_l0, ilt, gd_true, pick, wv]

theorem goal75 : con75.goal Try.prog (spOf [con31]) g75_sh [] lm30 := by
  have e : (∀ (p a b c : Int), isP p → inPt p a = true → inPt p b = true → inPt p c = true → g75 p a b c = some ((partsF p (pt p a) (pt p b) (pt p c)).1, (partsF p (pt p a) (pt p b) (pt p c)).2, ())) = con75.goal Try.prog (spOf [con31]) g75_sh [] lm30 := by kernel_rfl
  rw [← e]
  intro p a b c hp ha hb hc
  have hbd := isP_bd hp
  unfold g75 partsF
  rw [partsO_eq, gd_pos hp]
  refine (find_loop (p := p) (fun u => ((u, ()) : Int × Unit)) (qu p (pt p a) (pt p b) (pt p c)) (fun r => ((r.1, r.2, ()) : Int × Int × Unit)) ((0 : Int), (0 : Int), ()) (by omega) ?_ ?_).trans ?_
  · intro u h0 hu
    simp only
    rw [cond_t (ilt_iff.2 hu)]
    have wu : wr .i64 (u + 1) = u + 1 := wr_id (by omega)
    refine (find_loop (p := p) (fun v => ((v, ()) : Int × Unit)) (qv p (pt p a) (pt p b) (pt p c) u) (fun r => Lp.out ((r.1, r.2, ()) : Int × Int × Unit)) (Lp.go ((u + 1, ()) : Int × Unit)) (by omega) ?_ ?_).trans ?_
    · intro v hv0 hv
      unfold g75_l1
      rw [cond_t (ilt_iff.2 hv)]
      exact in75 hp ha hb hc ⟨h0, hu⟩ ⟨hv0, hv⟩
    · unfold g75_l1
      rw [cond_f (ilt_false.2 (Int.le_refl _))]
      simp only [wu]
    · rfl
  · simp only
    rw [cond_f (ilt_false.2 (Int.le_refl _))]
  · cases findI (qu p (pt p a) (pt p b) (pt p c)) p.toNat 0 <;> rfl
set_option maxRecDepth 100000 in
theorem ok75 : con75.Ok Try.prog := Con.of_goal mixed (okC ok31 okN) con75 goal75

def qx (p u v s t : Int) (x : Int) : Option Int := if (x * v * s - u * t) % p = 0 then some x else none

theorem findI_mem {X : Type} {q : Int → Option X} {P : X → Prop} (h : ∀ i x, q i = some x → P x) : ∀ {n : Nat} {i : Int} {x : X}, findI q n i = some x → P x
  | 0, _, _, e => by cases e
  | n + 1, i, x, e => by
    rw [findI] at e
    cases hq : q i with
    | some y => rw [hq] at e; cases e; exact h _ _ hq
    | none => rw [hq] at e; exact findI_mem h e

theorem findI_rng {X : Type} {q : Int → Option X} {P : X → Prop} {p : Int} : ∀ {n : Nat} {i : Int}, 0 ≤ i → i + n ≤ p → (∀ j x, 0 ≤ j → j < p → q j = some x → P x) → ∀ {x : X}, findI q n i = some x → P x
  | 0, _, _, _, _, _, e => by cases e
  | n + 1, i, h0, h1, h, x, e => by
    rw [findI] at e
    cases hq : q i with
    | some y => rw [hq] at e; cases e; exact h _ _ h0 (by omega) hq
    | none => rw [hq] at e; exact findI_rng (by omega) (by omega) h e

theorem parts_rng {p : Int} (hp : isP p) {a b c : TripD} : (0 ≤ (partsF p a b c).1 ∧ (partsF p a b c).1 < p) ∧ (0 ≤ (partsF p a b c).2 ∧ (partsF p a b c).2 < p) := by
  have hbd := isP_bd hp
  unfold partsF
  rw [partsO_eq]
  cases h : findI (qu p a b c) p.toNat 0 with
  | none => exact ⟨⟨Int.le_refl _, by show (0 : Int) < p; omega⟩, ⟨Int.le_refl _, by show (0 : Int) < p; omega⟩⟩
  | some r =>
    refine findI_rng (p := p) (Int.le_refl _) (by omega) (P := fun r : Int × Int => (0 ≤ r.1 ∧ r.1 < p) ∧ (0 ≤ r.2 ∧ r.2 < p)) ?_ h
    intro u x hu0 hu1 hx
    refine findI_rng (p := p) (Int.le_refl _) (by omega) (P := fun r : Int × Int => (0 ≤ r.1 ∧ r.1 < p) ∧ (0 ≤ r.2 ∧ r.2 < p)) ?_ hx
    intro v y hv0 hv1 hy
    unfold qv at hy
    split at hy
    · cases hy; exact ⟨⟨hu0, hu1⟩, ⟨hv0, hv1⟩⟩
    · cases hy

theorem goal29 : con29.goal Try.prog (spOf [con31, con75]) g29_sh [] lm30 := by
  have e : (∀ (p : Int) (l : QuadD), isP p → allIn p l → g29 p l = some (ratL p l, ())) = con29.goal Try.prog (spOf [con31, con75]) g29_sh [] lm30 := by kernel_rfl
  rw [← e]
  intro p l hp hl
  obtain ⟨a, b, c, d, _⟩ := l
  obtain ⟨ha, hb, hc, hd⟩ := hl
  simp only at ha hb hc hd
  have hbd := isP_bd hp
  unfold g29
  simp only
  rw [gd_pos (by omega), gd_pos (by omega), gd_pos (by omega), gd_pos hp, gd_pos ha, gd_pos hb, gd_pos hc, gd_pos (by omega), gd_pos (by omega), gd_pos (by omega), gd_pos hp, gd_pos ha, gd_pos hb, gd_pos hd]
  show _ = some (ratR p (partsF p (pt p a) (pt p b) (pt p c)).1 (partsF p (pt p a) (pt p b) (pt p c)).2 (partsF p (pt p a) (pt p b) (pt p d)).1 (partsF p (pt p a) (pt p b) (pt p d)).2, ())
  obtain ⟨hu, hv⟩ := parts_rng hp (a := pt p a) (b := pt p b) (c := pt p c)
  obtain ⟨hs, ht⟩ := parts_rng hp (a := pt p a) (b := pt p b) (c := pt p d)
  revert hu hv hs ht
  generalize (partsF p (pt p a) (pt p b) (pt p c)).1 = u
  generalize (partsF p (pt p a) (pt p b) (pt p c)).2 = v
  generalize (partsF p (pt p a) (pt p b) (pt p d)).1 = s
  generalize (partsF p (pt p a) (pt p b) (pt p d)).2 = t
  intro hu hv hs ht
  refine (find_loop (p := p) (fun x => ((x, ()) : Int × Unit)) (qx p u v s t) (fun r => ((r, ()) : Int × Unit)) ((0 : Int), ()) (by omega) ?_ ?_).trans ?_
  · intro x h0 hx
    simp only
    have wu : wr .i64 (x + 1) = x + 1 := wr_id (by omega)
    have b1 := mul_bd (c := 7) (a := x) (b := v) (by omega) (by omega)
    have b2 := mul_bd (c := 49) (a := x * v) (b := s) (by omega) (by omega)
    have b3 := mul_bd (c := 7) (a := u) (b := t) (by omega) (by omega)
    rw [cond_t (ilt_iff.2 hx), gd_pos (by omega), wr_id (n := x * v) (by omega), wr_id (n := x * v * s) (by omega), wr_id (n := u * t) (by omega), wr_id (n := x * v * s - u * t) (by omega)]
    unfold qx
    by_cases h : (x * v * s - u * t) % p = 0
    · rw [if_pos h, cond_t (ieq_iff.2 (tmod0.2 h))]; rfl
    · rw [if_neg h, cond_f (by rw [← Bool.not_eq_true, ieq_iff, tmod0]; exact h), wu]; rfl
  · simp only
    rw [cond_f (ilt_false.2 (Int.le_refl _))]
  · show _ = some ((findI (qx p u v s t) p.toNat 0).getD 0, ())
    cases findI (qx p u v s t) p.toNat 0 <;> rfl
set_option maxRecDepth 100000 in
theorem ok29 : con29.Ok Try.prog := Con.of_goal mixed (okC ok31 (okC ok75 okN)) con29 goal29

end Go.Arcs

set_option linter.unusedVariables false
set_option linter.unusedSimpArgs false
namespace Go.Arcs
open Go Go.Ab Go.Proofs

def eqJ (x : Int) (L : List Int) (j : Int) : Option Unit := if ieq x (L.getD j.toNat 0) = true then some () else none
def eqI (x : QuadD) (L : List Int) (i : Int) : Option Unit := findI (eqJ (@id Int (arrGet 4 I64 x i.toNat)) L) i.toNat 0

theorem in28 {x : QuadD} {L : List Int} (hl : L.length = 4) {i : Int} (hi : 0 ≤ i ∧ i < 4) :
    whileO (g28_l0 x (i, L, ())) (((Int.toNat i : Nat) : Int), 0, L, ()) = some (pick (eqI x L i) (fun _ => Lp.out (false, ())) (Lp.go (i + 1, L, ()))) := by
  have hi' : ((Int.toNat i : Nat) : Int) = i := by omega
  refine find_loop (p := i) (fun j => ((((Int.toNat i : Nat) : Int), j, L, ()) : Int × Int × List Int × Unit)) (eqJ (@id Int (arrGet 4 I64 x i.toNat)) L) (fun _ => Lp.out ((false, ()) : Bool × Unit)) (Lp.go ((i + 1, L, ()) : Int × List Int × Unit)) hi.1 ?_ ?_
  · intro j h0 h1
    have wj : wr .i64 (j + 1) = j + 1 := wr_id (by omega)
    have b1 : j < ((Int.toNat i : Nat) : Int) := by omega
    unfold g28_l0
    simp only [Int.toNat_natCast]
    rw [cond_t (ilt_iff.2 b1), gd_pos (by omega), gd_pos (by omega), wj, Nat.zero_add]
    show (bif ieq (@id Int (arrGet 4 I64 x i.toNat)) (L.getD j.toNat 0) then some (Lp.out (Lp.out (false, ()))) else some (Lp.go (((Int.toNat i : Nat) : Int), j + 1, L, ()))) = some (pick (eqJ (@id Int (arrGet 4 I64 x i.toNat)) L j) _ _)
    unfold eqJ
    cases ieq (@id Int (arrGet 4 I64 x i.toNat)) (L.getD j.toNat 0) <;> rfl
  · have wi : wr .i64 (i + 1) = i + 1 := wr_id (by omega)
    have b1 : ((Int.toNat i : Nat) : Int) ≤ i := by omega
    unfold g28_l0
    simp only
    rw [cond_f (ilt_false.2 b1), wi]

theorem goal28 : con28.goal Try.prog (spOf [con23, con32]) g28_sh [] lm30 := by
  have e : (∀ (p : Int) (l : QuadD), isP p → allIn p l → g28 p l = some (lineF p l, ())) = con28.goal Try.prog (spOf [con23, con32]) g28_sh [] lm30 := by kernel_rfl
  rw [← e]
  intro p l hp hl
  obtain ⟨a, b, c, d, u⟩ := l
  cases u
  obtain ⟨ha, hb, hc, hd⟩ := hl
  simp only at ha hb hc hd
  have hbd := isP_bd hp
  have go : ∀ i : Int, 0 ≤ i ∧ i < 4 → whileO (g28_l0 (a, b, c, d, ()) (i, [a, b, c, d], ())) (((Int.toNat i : Nat) : Int), 0, [a, b, c, d], ()) = _ := fun i hi => in28 (x := (a, b, c, d, ())) (L := [a, b, c, d]) rfl hi
  unfold g28
  simp only
  rw [gd_pos (by omega)]
  by_cases hab : a = b
  · subst hab
    have hf : lineF p (a, a, c, d, ()) = false := by simp [lineF, distF, ieq_d]
    rw [hf]
    refine (whileO_go (s' := ((1 : Int), [a, a, c, d], ())) ?_).trans ?_
    · simp only
      rw [cond_t (by decide), gd_pos (by decide), gd_pos (by decide), gd_pos (by simp)]
      exact (go 0 (by decide)).trans rfl
    · refine whileO_out ?_
      simp only
      rw [cond_t (by decide), gd_pos (by decide), gd_pos (by decide), gd_pos (by simp)]
      refine (go 1 (by decide)).trans ?_
      have h1 : eqI (a, a, c, d, ()) [a, a, c, d] 1 = some () := by
        have hh : eqI (a, a, c, d, ()) [a, a, c, d] 1 = (match eqJ a [a, a, c, d] 0 with | some x => some x | none => none) := by kernel_rfl
        rw [hh]
        simp [eqJ, ieq_d]
      rw [h1]
      rfl
  have hj : inPt p (joinR p a b) = true := by rw [← thr_join hp ha hb hab]; exact (join_on hp ha hb hab).1
  refine (find_loop (p := 4) (fun i => ((i, [a, b, c, d], ()) : Int × List Int × Unit)) (eqI (a, b, c, d, ()) [a, b, c, d]) (fun r => ((false, ()) : Bool × Unit)) ((onF p c (joinR p a b) && onF p d (joinR p a b), ()) : Bool × Unit) (by omega) ?_ ?_).trans ?_
  · intro i h0 h1
    simp only
    rw [cond_t (ilt_iff.2 h1), gd_pos (by omega), gd_pos (by omega), gd_pos (by simp)]
    exact go i ⟨h0, h1⟩
  · simp only
    rw [cond_f (by decide)]
    simp [gd_true, hp, ha, hb, hc, hd, hj]
    try rfl
  · have h0 : eqI (a, b, c, d, ()) [a, b, c, d] 0 = none := rfl
    have h1 : eqI (a, b, c, d, ()) [a, b, c, d] 1 = eqJ b [a, b, c, d] 0 := by
      have hh : eqI (a, b, c, d, ()) [a, b, c, d] 1 = (match eqJ b [a, b, c, d] 0 with | some x => some x | none => none) := by kernel_rfl
      rw [hh]
      cases eqJ b [a, b, c, d] 0 <;> rfl
    have h2 : eqI (a, b, c, d, ()) [a, b, c, d] 2 = (match eqJ c [a, b, c, d] 0 with | some x => some x | none => match eqJ c [a, b, c, d] 1 with | some x => some x | none => none) := by kernel_rfl
    have h3 : eqI (a, b, c, d, ()) [a, b, c, d] 3 = (match eqJ d [a, b, c, d] 0 with | some x => some x | none => match eqJ d [a, b, c, d] 1 with | some x => some x | none => match eqJ d [a, b, c, d] 2 with | some x => some x | none => none) := by kernel_rfl
    have hf : findI (eqI (a, b, c, d, ()) [a, b, c, d]) (4 : Int).toNat 0 = (match eqI (a, b, c, d, ()) [a, b, c, d] 0 with | some x => some x | none => match eqI (a, b, c, d, ()) [a, b, c, d] 1 with | some x => some x | none => match eqI (a, b, c, d, ()) [a, b, c, d] 2 with | some x => some x | none => match eqI (a, b, c, d, ()) [a, b, c, d] 3 with | some x => some x | none => none) := by kernel_rfl
    rw [hf, h0, h1, h2, h3]
    have hba : b ≠ a := fun h => hab h.symm
    have s1 : (a = c) = (c = a) := propext eq_comm
    have s2 : (b = c) = (c = b) := propext eq_comm
    have s3 : (a = d) = (d = a) := propext eq_comm
    have s4 : (b = d) = (d = b) := propext eq_comm
    have s5 : (c = d) = (d = c) := propext eq_comm
    by_cases q1 : c = a <;> by_cases q2 : c = b <;> by_cases q3 : d = a <;> by_cases q4 : d = b <;> by_cases q5 : d = c <;>
      simp [eqJ, pick, lineF, distF, ieq_d, hab, hba, s1, s2, s3, s4, s5, q1, q2, q3, q4, q5]
set_option maxRecDepth 100000 in
theorem ok28 : con28.Ok Try.prog := Con.of_goal mixed (okC ok23 (okC ok32 okN)) con28 goal28

end Go.Arcs

set_option linter.unusedVariables false
set_option linter.unusedSimpArgs false
namespace Go.Arcs
open Go Go.Ab Go.Proofs

theorem cross_tab : ∀ p ∈ ([2, 3, 5, 7] : List Int), ∀ x ∈ ptsC p, ∀ y ∈ ptsC p, (deqT x y || !deqT (crossF p x y) (0, 0, 0, ())) = true := by decide +kernel
theorem mul_tab : ∀ p ∈ ([2, 3, 5, 7] : List Int), ∀ x ∈ ptsC p, ∀ y ∈ ptsC p, ∀ k ∈ List.range p.toNat, (!deqT (mulT p k x) y || deqT x y) = true := by decide +kernel
theorem low_tab : ∀ p ∈ ([2, 3, 5, 7] : List Int), ∀ a ∈ List.range p.toNat, ∀ b ∈ List.range p.toNat, ∀ c ∈ List.range p.toNat,
    (deqT ((a : Int), (b : Int), (c : Int), ()) (0, 0, 0, ()) || deqT (pt p (numC p (lowF p ((a : Int), (b : Int), (c : Int), ())))) (lowF p ((a : Int), (b : Int), (c : Int), ()))) = true := by decide +kernel
theorem dot_tab : ∀ p ∈ ([2, 3, 5, 7] : List Int), ∀ a ∈ List.range p.toNat, ∀ b ∈ List.range p.toNat, ∀ c ∈ List.range p.toNat, ∀ y ∈ ptsC p,
    (ieq (dotC p ((a : Int), (b : Int), (c : Int), ()) y) 0 == ieq (dotC p y (lowF p ((a : Int), (b : Int), (c : Int), ()))) 0) = true := by decide +kernel
theorem inv_tab : ∀ p ∈ ([2, 3, 5, 7] : List Int), ∀ a ∈ List.range p.toNat, (ieq a 0 || ieq (invF p a * a % p) 1) = true := by decide +kernel
theorem rat_tab : ∀ p ∈ ([2, 3, 5, 7] : List Int), ∀ u ∈ List.range p.toNat, ∀ v ∈ List.range p.toNat, ∀ s ∈ List.range p.toNat, ∀ t ∈ List.range p.toNat,
    (ieq u 0 || ieq v 0 || ieq s 0 || ieq t 0 || (!ieq ((v : Int) * s % p) 0 && ieq ((u : Int) * t * invF p ((v : Int) * s % p) % p) (ratR p u v s t))) = true := by decide +kernel

theorem comb_ex {p w a1 a2 a3 b1 b2 b3 c1 c2 c3 : Int} (hp : 0 < p) (k : p ∣ w * (a1 * b2 - a2 * b1) - 1)
    (h : p ∣ c1 * (a2 * b3 - a3 * b2) + c2 * (a3 * b1 - a1 * b3) + c3 * (a1 * b2 - a2 * b1)) :
    ∃ u v : Int, (0 ≤ u ∧ u < p) ∧ (0 ≤ v ∧ v < p) ∧ p ∣ u * a1 + v * b1 - c1 ∧ p ∣ u * a2 + v * b2 - c2 ∧ p ∣ u * a3 + v * b3 - c3 := by
  obtain ⟨m, hm⟩ := k
  obtain ⟨n, hn⟩ := h
  have e1 := Int.emod_add_mul_ediv (w * (c1 * b2 - c2 * b1)) p
  have e2 := Int.emod_add_mul_ediv (w * (a1 * c2 - a2 * c1)) p
  refine ⟨(w * (c1 * b2 - c2 * b1)) % p, (w * (a1 * c2 - a2 * c1)) % p, ⟨Int.emod_nonneg _ (by omega), Int.emod_lt_of_pos _ hp⟩, ⟨Int.emod_nonneg _ (by omega), Int.emod_lt_of_pos _ hp⟩, ?_, ?_, ?_⟩
  all_goals
    revert e1 e2
    generalize (w * (c1 * b2 - c2 * b1)) % p = u
    generalize (w * (a1 * c2 - a2 * c1)) % p = v
    generalize (w * (c1 * b2 - c2 * b1)) / p = q1
    generalize (w * (a1 * c2 - a2 * c1)) / p = q2
    intro e1 e2
  · exact ⟨c1 * m - q1 * a1 - q2 * b1, by grind⟩
  · exact ⟨c2 * m - q1 * a2 - q2 * b2, by grind⟩
  · exact ⟨c3 * m - w * n - q1 * a3 - q2 * b3, by grind⟩

end Go.Arcs

set_option linter.unusedVariables false
set_option linter.unusedSimpArgs false
namespace Go.Arcs
open Go Go.Ab Go.Proofs

theorem findI_none {X : Type} {q : Int → Option X} : ∀ {n : Nat} {i : Int}, findI q n i = none → ∀ j, i ≤ j → j < i + n → q j = none
  | 0, i, _, j, h1, h2 => by omega
  | n + 1, i, e, j, h1, h2 => by
    rw [findI] at e
    cases hq : q i with
    | some y => rw [hq] at e; cases e
    | none =>
      rw [hq] at e
      by_cases hj : j = i
      · rw [hj]; exact hq
      · exact findI_none (n := n) (i := i + 1) e j (by omega) (by omega)

theorem rng_mem {p a : Int} (h : 0 ≤ a ∧ a < p) : a.toNat ∈ List.range p.toNat := List.mem_range.2 (by omega)

theorem emod_of_dvd {p s c : Int} (hc : 0 ≤ c ∧ c < p) (h : p ∣ s - c) : s % p = c := by
  rw [← sub0 hc]
  exact Int.emod_eq_zero_of_dvd h

theorem inv_ex {p n : Int} (hp : isP p) (hn : n % p ≠ 0) : ∃ w, p ∣ w * n - 1 := by
  have hb := isP_bd hp
  have h0 := Int.emod_nonneg n (show p ≠ 0 by omega)
  have h1 := Int.emod_lt_of_pos n (show 0 < p by omega)
  have h := inv_tab p (isP_mem hp) _ (rng_mem ⟨h0, h1⟩)
  rw [Int.toNat_of_nonneg h0, Bool.or_eq_true, ieq_iff, ieq_iff] at h
  rcases h with h | h
  · exact absurd h hn
  · refine ⟨invF p (n % p), ?_⟩
    rw [Int.mul_emod, Int.emod_emod_of_dvd n (Int.dvd_refl p), ← Int.mul_emod] at h
    have : (invF p (n % p) * n - 1) % p = 0 := by
      rw [← Int.emod_eq_emod_iff_emod_sub_eq_zero, h]
      exact (Int.emod_eq_of_lt (by omega) (by omega)).symm
    exact Int.dvd_of_emod_eq_zero this

theorem comb_all {p a1 a2 a3 b1 b2 b3 c1 c2 c3 : Int} (hp : isP p) (hn : crossF p (a1, a2, a3, ()) (b1, b2, b3, ()) ≠ (0, 0, 0, ()))
    (hd : dotC p (crossF p (a1, a2, a3, ()) (b1, b2, b3, ())) (c1, c2, c3, ()) = 0) :
    ∃ u v : Int, (0 ≤ u ∧ u < p) ∧ (0 ≤ v ∧ v < p) ∧ p ∣ u * a1 + v * b1 - c1 ∧ p ∣ u * a2 + v * b2 - c2 ∧ p ∣ u * a3 + v * b3 - c3 := by
  have hb := isP_bd hp
  simp only [dotC, crossF] at hd
  have h : p ∣ c1 * (a2 * b3 - a3 * b2) + c2 * (a3 * b1 - a1 * b3) + c3 * (a1 * b2 - a2 * b1) := by
    obtain ⟨n, hn⟩ := Int.dvd_of_emod_eq_zero hd
    have e1 := Int.emod_add_mul_ediv (a2 * b3 - a3 * b2) p
    have e2 := Int.emod_add_mul_ediv (a3 * b1 - a1 * b3) p
    have e3 := Int.emod_add_mul_ediv (a1 * b2 - a2 * b1) p
    exact ⟨n + c1 * ((a2 * b3 - a3 * b2) / p) + c2 * ((a3 * b1 - a1 * b3) / p) + c3 * ((a1 * b2 - a2 * b1) / p), by grind⟩
  by_cases k3 : (a1 * b2 - a2 * b1) % p = 0
  · by_cases k2 : (a3 * b1 - a1 * b3) % p = 0
    · by_cases k1 : (a2 * b3 - a3 * b2) % p = 0
      · exact absurd (by simp only [crossF, k1, k2, k3]) hn
      · obtain ⟨w, hw⟩ := inv_ex hp k1
        obtain ⟨u, v, q1, q2, q3, q4, q5⟩ := comb_ex (p := p) (w := w) (a1 := a2) (a2 := a3) (a3 := a1) (b1 := b2) (b2 := b3) (b3 := b1) (c1 := c2) (c2 := c3) (c3 := c1) (by omega) hw
          (by have e : c2 * (a3 * b1 - a1 * b3) + c3 * (a1 * b2 - a2 * b1) + c1 * (a2 * b3 - a3 * b2) = c1 * (a2 * b3 - a3 * b2) + c2 * (a3 * b1 - a1 * b3) + c3 * (a1 * b2 - a2 * b1) := by omega
              rw [e]; exact h)
        exact ⟨u, v, q1, q2, q5, q3, q4⟩
    · obtain ⟨w, hw⟩ := inv_ex hp k2
      obtain ⟨u, v, q1, q2, q3, q4, q5⟩ := comb_ex (p := p) (w := w) (a1 := a3) (a2 := a1) (a3 := a2) (b1 := b3) (b2 := b1) (b3 := b2) (c1 := c3) (c2 := c1) (c3 := c2) (by omega) hw
        (by have e : c3 * (a1 * b2 - a2 * b1) + c1 * (a2 * b3 - a3 * b2) + c2 * (a3 * b1 - a1 * b3) = c1 * (a2 * b3 - a3 * b2) + c2 * (a3 * b1 - a1 * b3) + c3 * (a1 * b2 - a2 * b1) := by omega
            rw [e]; exact h)
      exact ⟨u, v, q1, q2, q4, q5, q3⟩
  · obtain ⟨w, hw⟩ := inv_ex hp k3
    exact comb_ex (by omega) hw h

theorem qv_some {p : Int} {a b c : TripD} {u v : Int} {r : Int × Int} (h : qv p a b c u v = some r) : cmb p a b u v = c ∧ r = (u, v) := by
  unfold qv at h
  split at h
  · rename_i hd
    cases h
    exact ⟨(deqT_iff _ _).1 hd, rfl⟩
  · cases h

theorem parts_spec {p : Int} (hp : isP p) {A B C : TripD} (hA : A ∈ ptsC p) (hB : B ∈ ptsC p) (hC : C ∈ ptsC p) (hAB : A ≠ B) (hAC : A ≠ C) (hBC : B ≠ C)
    (hs : dotC p (crossF p A B) C = 0) : cmb p A B (partsF p A B C).1 (partsF p A B C).2 = C ∧ (partsF p A B C).1 ≠ 0 ∧ (partsF p A B C).2 ≠ 0 := by
  have hb := isP_bd hp
  have hm := isP_mem hp
  have hx : crossF p A B ≠ (0, 0, 0, ()) := by
    intro h
    have := cross_tab p hm A hA B hB
    rw [h, Bool.or_eq_true, deqT_iff] at this
    rcases this with h | h
    · exact hAB h
    · exact absurd h (by decide)
  have key : cmb p A B (partsF p A B C).1 (partsF p A B C).2 = C := by
    unfold partsF
    rw [partsO_eq]
    cases h : findI (qu p A B C) p.toNat 0 with
    | some r =>
      obtain ⟨P⟩ : Nonempty (cmb p A B r.1 r.2 = C) := ⟨by
        refine findI_mem (P := fun r : Int × Int => cmb p A B r.1 r.2 = C) ?_ h
        intro u x hx
        refine findI_mem (P := fun r : Int × Int => cmb p A B r.1 r.2 = C) ?_ hx
        intro v y hy
        obtain ⟨g1, g2⟩ := qv_some hy
        rw [g2]; exact g1⟩
      exact P
    | none =>
      exfalso
      obtain ⟨a1, a2, a3, _⟩ := A
      obtain ⟨b1, b2, b3, _⟩ := B
      obtain ⟨c1, c2, c3, _⟩ := C
      obtain ⟨u, v, h1, h2, h3, h4, h5⟩ := comb_all hp hx hs
      obtain ⟨r1, r2, r3⟩ := inRb_iff.1 (pts_in p hm _ hC)
      have hu := findI_none h u h1.1 (by omega)
      have hv := findI_none hu v h2.1 (by omega)
      unfold qv at hv
      rw [if_pos] at hv
      · cases hv
      · rw [deqT_iff]
        simp only [cmb]
        rw [emod_of_dvd r1 h3, emod_of_dvd r2 h4, emod_of_dvd r3 h5]
  obtain ⟨hu, hv⟩ := parts_rng hp (a := A) (b := B) (c := C)
  refine ⟨key, ?_, ?_⟩
  · intro h0
    rw [h0] at key
    have := mul_tab p hm B hB C hC _ (rng_mem hv)
    rw [Int.toNat_of_nonneg hv.1] at this
    have e : mulT p (partsF p A B C).2 B = C := Eq.trans (by simp [mulT, cmb]) key
    rw [e, (deqT_iff C C).2 rfl, Bool.not_true, Bool.false_or, deqT_iff] at this
    exact hBC this
  · intro h0
    rw [h0] at key
    have := mul_tab p hm A hA C hC _ (rng_mem hu)
    rw [Int.toNat_of_nonneg hu.1] at this
    have e : mulT p (partsF p A B C).1 A = C := Eq.trans (by simp [mulT, cmb]) key
    rw [e, (deqT_iff C C).2 rfl, Bool.not_true, Bool.false_or, deqT_iff] at this
    exact hAC this

theorem str_on {p a b c : Int} (hp : isP p) (ha : inPt p a = true) (hb : inPt p b = true) (hc : inPt p c = true) (hab : a ≠ b) : strF p a b c = onF p c (joinR p a b) := by
  have hm := isP_mem hp
  rw [← thr_join hp ha hb hab]
  unfold strF onF thrF
  have hx : crossF p (pt p a) (pt p b) ≠ (0, 0, 0, ()) := by
    intro h
    have := cross_tab p hm _ (pt_mem hp ha) _ (pt_mem hp hb)
    rw [h, Bool.or_eq_true] at this
    rcases this with h | h
    · have h2 := pt_ne hp ha hb hab
      unfold deqT at h
      rw [h2] at h
      cases h
    · exact absurd h (by decide)
  have hr := cross_in hp (x := pt p a) (y := pt p b)
  revert hx hr
  generalize crossF p (pt p a) (pt p b) = X
  obtain ⟨x, y, z, _⟩ := X
  intro hx hr
  obtain ⟨h1, h2, h3⟩ := hr
  simp only at h1 h2 h3
  have t1 := low_tab p hm _ (rng_mem h1) _ (rng_mem h2) _ (rng_mem h3)
  have t2 := dot_tab p hm _ (rng_mem h1) _ (rng_mem h2) _ (rng_mem h3) _ (pt_mem hp hc)
  rw [Int.toNat_of_nonneg h1.1, Int.toNat_of_nonneg h2.1, Int.toNat_of_nonneg h3.1] at t1 t2
  rw [Bool.or_eq_true, deqT_iff, deqT_iff] at t1
  rcases t1 with t1 | t1
  · exact absurd t1 hx
  · rw [t1]
    exact beq_iff_eq.1 t2

theorem rat_eq {p u v s t : Int} (hp : isP p) (hu : 0 ≤ u ∧ u < p) (hv : 0 ≤ v ∧ v < p) (hs : 0 ≤ s ∧ s < p) (ht : 0 ≤ t ∧ t < p) (u0 : u ≠ 0) (v0 : v ≠ 0) (s0 : s ≠ 0) (t0 : t ≠ 0) :
    v * s % p ≠ 0 ∧ u * t * invF p (v * s % p) % p = ratR p u v s t := by
  have h := rat_tab p (isP_mem hp) _ (rng_mem hu) _ (rng_mem hv) _ (rng_mem hs) _ (rng_mem ht)
  rw [Int.toNat_of_nonneg hu.1, Int.toNat_of_nonneg hv.1, Int.toNat_of_nonneg hs.1, Int.toNat_of_nonneg ht.1] at h
  simpa [ieq_d, u0, v0, s0, t0] using h

end Go.Arcs

set_option linter.unusedVariables false
set_option linter.unusedSimpArgs false
namespace Go.Arcs
open Go Go.Ab Go.Proofs

theorem ratF_in {p a b c d : Int} (hp : isP p) (ha : inPt p a = true) (hb : inPt p b = true) (hc : inPt p c = true) (hd : inPt p d = true)
    (hab : a ≠ b) (hac : a ≠ c) (had : a ≠ d) (hbc : b ≠ c) (hbd : b ≠ d) (s1 : strF p a b c = true) (s2 : strF p a b d = true) :
    (partsF p (pt p a) (pt p b) (pt p c)).2 * (partsF p (pt p a) (pt p b) (pt p d)).1 % p ≠ 0 ∧ ratF p a b c d = ratL p (a, b, c, d, ()) := by
  have hne : ∀ {x y : Int}, inPt p x = true → inPt p y = true → x ≠ y → pt p x ≠ pt p y := by
    intro x y hx hy hxy h
    have := pt_ne hp hx hy hxy
    rw [h] at this
    have h2 := (deqT_iff (pt p y) (pt p y)).2 rfl
    unfold deqT at h2
    rw [h2] at this
    cases this
  obtain ⟨_, u0, v0⟩ := parts_spec hp (pt_mem hp ha) (pt_mem hp hb) (pt_mem hp hc) (hne ha hb hab) (hne ha hc hac) (hne hb hc hbc) (ieq_iff.1 s1)
  obtain ⟨_, s0, t0⟩ := parts_spec hp (pt_mem hp ha) (pt_mem hp hb) (pt_mem hp hd) (hne ha hb hab) (hne ha hd had) (hne hb hd hbd) (ieq_iff.1 s2)
  obtain ⟨hu, hv⟩ := parts_rng hp (a := pt p a) (b := pt p b) (c := pt p c)
  obtain ⟨hs, ht⟩ := parts_rng hp (a := pt p a) (b := pt p b) (c := pt p d)
  exact rat_eq hp hu hv hs ht u0 v0 s0 t0

theorem goal27 : con27.goal Try.prog (spOf [conRead, con71, con72, conInv2, conMod]) g27_sh [] lm30 := by
  have e : (∀ (p a b c d : Int), g27 p a b c d = some (crossX p a b c d)) = con27.goal Try.prog (spOf [conRead, con71, con72, conInv2, conMod]) g27_sh [] lm30 := by kernel_rfl
  rw [← e]
  intro p a b c d
  have hs : small [a, b, c, d] := by simp [small]
  unfold g27
  rw [gd_pos hs]
  by_cases hp : isPb p = true
  · have hP := isPb_iff.1 hp
    have hpl : isPl (planeF p) := ⟨hP, rfl⟩
    have h1 : (planeF p).1 = p := rfl
    by_cases hin : (inPt p a && inPt p b && inPt p c && inPt p d) = true
    · have hin' := hin
      simp only [Bool.and_eq_true] at hin
      obtain ⟨⟨⟨ha, hb⟩, hc⟩, hd⟩ := hin
      have hr : readF p [a, b, c, d] = (some (planeF p), true, ()) := by simp [readF, hp, ha, hb, hc, hd]
      by_cases q1 : a = b
      · simp [g27_c0, g27_c1, g27_c2, hr, gd_true, crossX, okX, ieq_d, q1]
      by_cases q2 : a = c
      · simp [g27_c0, g27_c1, g27_c2, hr, gd_true, crossX, okX, ieq_d, q1, q2]
      by_cases q3 : a = d
      · simp [g27_c0, g27_c1, g27_c2, hr, gd_true, crossX, okX, ieq_d, q1, q2, q3]
      by_cases q4 : b = c
      · simp [g27_c0, g27_c1, g27_c2, hr, gd_true, crossX, okX, ieq_d, q1, q2, q3, q4]
      by_cases q5 : b = d
      · simp [g27_c0, g27_c1, g27_c2, hr, gd_true, crossX, okX, ieq_d, q1, q2, q3, q4, q5]
      by_cases q6 : c = d
      · simp [g27_c0, g27_c1, g27_c2, hr, gd_true, crossX, okX, ieq_d, q1, q2, q3, q4, q5, q6]
      by_cases s1 : strF p a b c = true
      · by_cases s2 : strF p a b d = true
        · obtain ⟨n0, _⟩ := ratF_in hP ha hb hc hd q1 q2 q3 q4 q5 s1 s2
          have hb7 := isP_bd hP
          obtain ⟨hu, hv⟩ := parts_rng hP (a := pt p a) (b := pt p b) (c := pt p c)
          obtain ⟨hs, ht⟩ := parts_rng hP (a := pt p a) (b := pt p b) (c := pt p d)
          have hinv : 1 ≤ invF p ((partsF p (pt p a) (pt p b) (pt p c)).2 * (partsF p (pt p a) (pt p b) (pt p d)).1 % p) ∧ invF p ((partsF p (pt p a) (pt p b) (pt p c)).2 * (partsF p (pt p a) (pt p b) (pt p d)).1 % p) ≤ 6 := by
            have e0 := Int.emod_nonneg ((partsF p (pt p a) (pt p b) (pt p c)).2 * (partsF p (pt p a) (pt p b) (pt p d)).1) (show p ≠ 0 by omega)
            have e1 := Int.emod_lt_of_pos ((partsF p (pt p a) (pt p b) (pt p c)).2 * (partsF p (pt p a) (pt p b) (pt p d)).1) (show 0 < p by omega)
            have := inv_spec hP (n := (partsF p (pt p a) (pt p b) (pt p c)).2 * (partsF p (pt p a) (pt p b) (pt p d)).1 % p) ⟨by omega, by omega⟩
            exact ⟨this.1, this.2.1⟩
          have b1 := mul_bd (c := 7) (a := (partsF p (pt p a) (pt p b) (pt p c)).2) (b := (partsF p (pt p a) (pt p b) (pt p d)).1) (by omega) (by omega)
          have b2 := mul_bd (c := 7) (a := (partsF p (pt p a) (pt p b) (pt p c)).1) (b := (partsF p (pt p a) (pt p b) (pt p d)).2) (by omega) (by omega)
          have b3 := mul_bd (c := 49) (a := (partsF p (pt p a) (pt p b) (pt p c)).1 * (partsF p (pt p a) (pt p b) (pt p d)).2) (b := invF p ((partsF p (pt p a) (pt p b) (pt p c)).2 * (partsF p (pt p a) (pt p b) (pt p d)).1 % p)) (by omega) (by omega)
          have hpts : (planeF p).2.1 = ptsC p := plane_pts p (isP_mem hP)
          have h57 := pts_len p (isP_mem hP)
          have i1 := inPt_iff.1 ha
          have i2 := inPt_iff.1 hb
          have i3 := inPt_iff.1 hc
          have i4 := inPt_iff.1 hd
          have l1 : a < ((ptsC p).length : Int) := by omega
          have l2 : b < ((ptsC p).length : Int) := by omega
          have l3 : c < ((ptsC p).length : Int) := by omega
          have l4 : d < ((ptsC p).length : Int) := by omega
          have ea : List.getD (ptsC p) a.toNat (0, 0, 0, ()) = pt p a := rfl
          have eb : List.getD (ptsC p) b.toNat (0, 0, 0, ()) = pt p b := rfl
          have ec : List.getD (ptsC p) c.toNat (0, 0, 0, ()) = pt p c := rfl
          have ed : List.getD (ptsC p) d.toNat (0, 0, 0, ()) = pt p d := rfl
          have hk : p ≠ 0 := by omega
          have hok : okX p a b c d = true := by simp [okX, ieq_d, hp, ha, hb, hc, hd, q1, q2, q3, q4, q5, q6, s1, s2]
          have hX : crossX p a b c d = (ratF p a b c d, 0, ()) := by rw [crossX, if_pos hok]
          rw [hX]
          simp only [g27_c0, g27_c1, g27_c2, g27_c3, g27_c4, g27_c5, g27_c6, g27_c7, g27_c8, hr, Option.getD_some, Option.isSome_some, h1, hpts, ea, eb, ec, ed]
          have w1 : wr .i64 ((partsF p (pt p a) (pt p b) (pt p c)).2 * (partsF p (pt p a) (pt p b) (pt p d)).1) = (partsF p (pt p a) (pt p b) (pt p c)).2 * (partsF p (pt p a) (pt p b) (pt p d)).1 := wr_id (by omega)
          have w2 : wr .i64 ((partsF p (pt p a) (pt p b) (pt p c)).1 * (partsF p (pt p a) (pt p b) (pt p d)).2) = (partsF p (pt p a) (pt p b) (pt p c)).1 * (partsF p (pt p a) (pt p b) (pt p d)).2 := wr_id (by omega)
          simp only [w1, w2]
          have w3 : wr .i64 ((partsF p (pt p a) (pt p b) (pt p c)).1 * (partsF p (pt p a) (pt p b) (pt p d)).2 * invF p ((partsF p (pt p a) (pt p b) (pt p c)).2 * (partsF p (pt p a) (pt p b) (pt p d)).1 % p)) = (partsF p (pt p a) (pt p b) (pt p c)).1 * (partsF p (pt p a) (pt p b) (pt p d)).2 * invF p ((partsF p (pt p a) (pt p b) (pt p c)).2 * (partsF p (pt p a) (pt p b) (pt p d)).1 % p) := wr_id (by omega)
          have ra := pt_in hP ha
          have rb := pt_in hP hb
          have rc := pt_in hP hc
          have rd := pt_in hP hd
          have n1 : -1000 ≤ (partsF p (pt p a) (pt p b) (pt p c)).2 * (partsF p (pt p a) (pt p b) (pt p d)).1 := by omega
          have n2 : (partsF p (pt p a) (pt p b) (pt p c)).2 * (partsF p (pt p a) (pt p b) (pt p d)).1 ≤ 1000 := by omega
          rw [w3, modF_eq (by omega)]
          simp [gd_true, ieq_d, q1, q2, q3, q4, q5, q6, s1, s2, ha, hb, hc, hd, hpl, hP, ra, rb, rc, rd, i1.1, i2.1, i3.1, i4.1, l1, l2, l3, l4, hk, n0, n1, n2, ratF]
        · simp [g27_c0, g27_c1, g27_c2, hr, gd_true, crossX, okX, ieq_d, q1, q2, q3, q4, q5, q6, s1, s2, h1, hpl, ha, hb, hc, hd]
      · simp [g27_c0, g27_c1, g27_c2, hr, gd_true, crossX, okX, ieq_d, q1, q2, q3, q4, q5, q6, s1, h1, hpl, ha, hb, hc, hd]
    · have hin' : (inPt p a && inPt p b && inPt p c && inPt p d) = false := by simpa using hin
      have hr : readF p [a, b, c, d] = (some (planeF p), false, ()) := by
        rw [readF, if_pos hp]
        have : List.all [a, b, c, d] (inPt p) = false := by rw [← hin']; simp [Bool.and_assoc]
        rw [this]
      have hx : okX p a b c d = false := by
        unfold okX
        rw [hp, Bool.true_and, hin']
        simp
      simp [g27_c0, g27_c1, g27_c2, hr, gd_true, crossX, hx]
  · have hr : readF p [a, b, c, d] = (none, false, ()) := by rw [readF, if_neg hp]
    have hx : okX p a b c d = false := by unfold okX; rw [Bool.not_eq_true] at hp; rw [hp]; simp
    simp [g27_c0, g27_c1, g27_c2, hr, gd_true, crossX, hx]
set_option maxRecDepth 100000 in
theorem ok27 : con27.Ok Try.prog := Con.of_goal mixed (okC okRead (okC ok71 (okC ok72 (okC okInv2 (okC okMod okN))))) con27 goal27

end Go.Arcs

set_option linter.unusedVariables false
set_option linter.unusedSimpArgs false
namespace Go.Arcs
open Go Go.Ab Go.Proofs

theorem goal5 : con5.goal Try.prog (spOf [con27, con21, con22, con28, con29]) g5_sh [] lm30 := by
  have e : (∀ (p : Int) (l : QuadD), g5 p l = some (true, ())) = con5.goal Try.prog (spOf [con27, con21, con22, con28, con29]) g5_sh [] lm30 := by kernel_rfl
  rw [← e]
  intro p l
  obtain ⟨a, b, c, d, u⟩ := l
  cases u
  have hs : small [a, b, c, d] := by simp [small]
  unfold g5
  simp only
  rw [gd_pos (by omega), gd_pos (by omega), gd_pos (by omega), gd_pos (by omega), gd_pos (by omega), gd_pos hs]
  by_cases hall : (isPb p && List.all [a, b, c, d] (inPt p)) = true
  · have hall' := hall
    simp only [List.all_cons, List.all_nil, Bool.and_true, Bool.and_eq_true] at hall'
    obtain ⟨hp, ha, hb, hc, hd⟩ := hall'
    have hP := isPb_iff.1 hp
    have hA : allIn p (a, b, c, d, ()) := ⟨ha, hb, hc, hd⟩
    have hlo : lineF p (a, b, c, d, ()) = okX p a b c d := by
      by_cases q1 : a = b
      · simp [lineF, distF, okX, ieq_d, q1]
      · simp only [lineF, distF, okX, hp, ha, hb, hc, hd, str_on hP ha hb hc q1, str_on hP ha hb hd q1]
        generalize ieq a b = e1
        generalize ieq a c = e2
        generalize ieq a d = e3
        generalize ieq b c = e4
        generalize ieq b d = e5
        generalize ieq c d = e6
        generalize onF p c (joinR p a b) = e7
        generalize onF p d (joinR p a b) = e8
        revert e1 e2 e3 e4 e5 e6 e7 e8
        decide
    rw [hlo]
    by_cases hok : okX p a b c d = true
    · have hX : crossX p a b c d = (ratF p a b c d, 0, ()) := by rw [crossX, if_pos hok]
      have hr : ratF p a b c d = ratL p (a, b, c, d, ()) := by
        simp only [okX, Bool.and_eq_true, Bool.not_eq_true', ieq_d, decide_eq_false_iff_not] at hok
        obtain ⟨⟨⟨⟨⟨⟨⟨⟨_, q1⟩, q2⟩, q3⟩, q4⟩, q5⟩, _⟩, s1⟩, s2⟩ := hok
        exact (ratF_in hP ha hb hc hd q1 q2 q3 q4 q5 s1 s2).2
      rw [hX, hall, hok, hr]
      simp [gd_true, hP, hA, ieq_d]
    · have hX : crossX p a b c d = (0, 2, ()) := by rw [crossX, if_neg hok]
      rw [Bool.not_eq_true] at hok
      rw [hX, hall, hok]
      simp [gd_true, hP, hA, ieq_d]
  · have hok : okX p a b c d = false := by
      rw [← Bool.not_eq_true]
      intro h
      apply hall
      simp only [okX, Bool.and_eq_true] at h
      simp [h]
    have hX : crossX p a b c d = (0, 2, ()) := by rw [crossX, hok]; rfl
    rw [Bool.not_eq_true] at hall
    rw [hX, hall]
    simp [gd_true, ieq_d]
set_option maxRecDepth 100000 in
theorem ok5 : con5.Ok Try.prog := Con.of_goal mixed (okC ok27 (okC ok21 (okC ok22 (okC ok28 (okC ok29 okN))))) con5 goal5

end Go.Arcs
