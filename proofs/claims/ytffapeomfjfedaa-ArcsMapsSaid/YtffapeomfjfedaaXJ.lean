/- The law Maps: contracts. -/
import Derived.Test.YtffapeomfjfedaaXI
import Derived.Test.YtffapeomfjfedaaXE
set_option linter.unusedVariables false
set_option linter.unusedSimpArgs false
namespace Go.Arcs
open Go Go.Ab Go.Proofs

/-- The number of a point, by its triple. -/
noncomputable def nmR (p : Int) (x : TripD) : Int := ixA (fun q => deq Trip q (unitF p x)) (ptsC p) 0
noncomputable def con92 : Con := mkC 92 [.d I64, .d Trip] [I64] (fun (p : Int) (x : TripD) => [isP p, bdT x]) (fun (p : Int) (x : TripD) => (nmR p x, ()))
noncomputable def g92 (x0 : Int) (x1 : Int × Int × Int × Unit) : Option (Int × Unit) := gd ((3 : Nat) ≤ (3 : Nat)) (gd (isP x0) (gd (bdT ((x1.1, x1.2.1, x1.2.2.1, ()) : Int × Int × Int × Unit)) (gd ((3 : Nat) ≤ (3 : Nat)) (gd (isP x0) (whileO (fun (d2 : Int × List Int × Unit) => bif ilt d2.1 (↑(List.length (ptsC x0)) : Int) then gd ((0 : Int) ≤ d2.1 ∧ d2.1 < (↑(List.length (ptsC x0)) : Int)) (gd ((3 : Nat) ≤ (3 : Nat)) (gd ((3 : Nat) ≤ (3 : Nat)) (gd ((3 : Nat) ≤ List.length d2.2.1) (bif deq (Ty.prod (Ty.int IntKind.i64) (Ty.prod (Ty.int IntKind.i64) (Ty.prod (Ty.int IntKind.i64) Ty.unit))) ((((List.getD (ptsC x0) (Int.toNat d2.1) (((0 : Int), (0 : Int), (0 : Int), ()) : Int × Int × Int × Unit)).1, (List.getD (ptsC x0) (Int.toNat d2.1) (((0 : Int), (0 : Int), (0 : Int), ()) : Int × Int × Int × Unit)).2.1, (List.getD (ptsC x0) (Int.toNat d2.1) (((0 : Int), (0 : Int), (0 : Int), ()) : Int × Int × Int × Unit)).2.2.1, ()) : Int × Int × Int × Unit) : Int × Int × Int × Unit) (((List.getD d2.2.1 (0 : Nat) (0 : Int), List.getD d2.2.1 (1 : Nat) (0 : Int), List.getD d2.2.1 (2 : Nat) (0 : Int), ()) : Int × Int × Int × Unit) : Int × Int × Int × Unit) then some (Lp.out ((d2.1, ()) : Int × Unit)) else some (Lp.go ((wr IntKind.i64 (d2.1 + (1 : Int)), d2.2.1, ()) : Int × List Int × Unit)))))) else some (Lp.out (((-1 : Int), ()) : Int × Unit))) (((0 : Int), (unitF x0 ((x1.1, x1.2.1, x1.2.2.1, ()) : Int × Int × Int × Unit)).1 :: (unitF x0 ((x1.1, x1.2.1, x1.2.2.1, ()) : Int × Int × Int × Unit)).2.1 :: (unitF x0 ((x1.1, x1.2.1, x1.2.2.1, ()) : Int × Int × Int × Unit)).2.2.1 :: ([] : List Int), ()) : Int × List Int × Unit))))))
noncomputable def g92_sh : List LSh := LSh.mk (((3, TV.ref (0) (1 : Nat) (0 : Nat) (0 : Nat)) : Nat × TV) :: ((13, TV.v (Ty.int IntKind.i64)) : Nat × TV) :: ([] : List (Nat × TV))) (TB.arr (Ty.int IntKind.i64) false :: ([] : List TB)) :: ([] : List LSh)
def bdM (m : MatD) : Prop := (bdS m.1 ∧ bdS m.2.1 ∧ bdS m.2.2.1)
where bdS (x : TripD) : Prop := (0 ≤ x.1 ∧ x.1 ≤ 50) ∧ (0 ≤ x.2.1 ∧ x.2.1 ≤ 50) ∧ (0 ≤ x.2.2.1 ∧ x.2.2.1 ≤ 50)
def timR (m : MatD) (t : TripD) : TripD := (m.1.1 * t.1 + m.1.2.1 * t.2.1 + m.1.2.2.1 * t.2.2.1, m.2.1.1 * t.1 + m.2.1.2.1 * t.2.1 + m.2.1.2.2.1 * t.2.2.1, m.2.2.1.1 * t.1 + m.2.2.1.2.1 * t.2.1 + m.2.2.1.2.2.1 * t.2.2.1, ())
noncomputable def con93 : Con := mkC 93 [.d Mat, .d Trip] [Trip] (fun (m : MatD) (t : TripD) => [inM 7 m, inR 7 t]) (fun (m : MatD) (t : TripD) => (timR m t, ()))
noncomputable def g93 (x0 : (Int × Int × Int × Unit) × (Int × Int × Int × Unit) × (Int × Int × Int × Unit) × Unit) (x1 : Int × Int × Int × Unit) : Option ((Int × Int × Int × Unit) × Unit) := gd ((9 : Nat) ≤ (9 : Nat)) (whileO (fun (d2 : Int × List Int × List Int × List Int × Unit) => bif ilt d2.1 (3 : Int) then gd ((0 : Int) ≤ d2.1 ∧ d2.1 < (3 : Int)) (gd ((3 : Nat) ≤ (3 : Nat)) (gd ((0 : Nat) < (3 : Nat)) (gd ((0 : Nat) < List.length d2.2.1) (gd ((1 : Nat) < (3 : Nat)) (gd ((1 : Nat) < List.length d2.2.1) (gd ((2 : Nat) < (3 : Nat)) (gd ((2 : Nat) < List.length d2.2.1) (gd ((0 : Int) ≤ d2.1 ∧ d2.1 < (3 : Int)) (gd ((0 : Nat) + Int.toNat d2.1 * (1 : Nat) < List.length d2.2.2.2.1) (some (Lp.go ((wr IntKind.i64 (d2.1 + (1 : Int)), d2.2.1, d2.2.2.1, List.set d2.2.2.2.1 ((0 : Nat) + Int.toNat d2.1 * (1 : Nat)) (wr IntKind.i64 (wr IntKind.i64 (wr IntKind.i64 ((@id (Int × Int × Int × Unit) (arrGet (3 : Nat) (Ty.prod (Ty.int IntKind.i64) (Ty.prod (Ty.int IntKind.i64) (Ty.prod (Ty.int IntKind.i64) Ty.unit))) (((((x0.1.1, x0.1.2.1, x0.1.2.2.1, ()) : Int × Int × Int × Unit), ((x0.2.1.1, x0.2.1.2.1, x0.2.1.2.2.1, ()) : Int × Int × Int × Unit), ((x0.2.2.1.1, x0.2.2.1.2.1, x0.2.2.1.2.2.1, ()) : Int × Int × Int × Unit), ()) : (Int × Int × Int × Unit) × (Int × Int × Int × Unit) × (Int × Int × Int × Unit) × Unit) : (Int × Int × Int × Unit) × (Int × Int × Int × Unit) × (Int × Int × Int × Unit) × Unit) (Int.toNat d2.1))).1 * List.getD d2.2.1 (0 : Nat) (0 : Int)) + wr IntKind.i64 ((@id (Int × Int × Int × Unit) (arrGet (3 : Nat) (Ty.prod (Ty.int IntKind.i64) (Ty.prod (Ty.int IntKind.i64) (Ty.prod (Ty.int IntKind.i64) Ty.unit))) (((((x0.1.1, x0.1.2.1, x0.1.2.2.1, ()) : Int × Int × Int × Unit), ((x0.2.1.1, x0.2.1.2.1, x0.2.1.2.2.1, ()) : Int × Int × Int × Unit), ((x0.2.2.1.1, x0.2.2.1.2.1, x0.2.2.1.2.2.1, ()) : Int × Int × Int × Unit), ()) : (Int × Int × Int × Unit) × (Int × Int × Int × Unit) × (Int × Int × Int × Unit) × Unit) : (Int × Int × Int × Unit) × (Int × Int × Int × Unit) × (Int × Int × Int × Unit) × Unit) (Int.toNat d2.1))).2.1 * List.getD d2.2.1 (1 : Nat) (0 : Int))) + wr IntKind.i64 ((@id (Int × Int × Int × Unit) (arrGet (3 : Nat) (Ty.prod (Ty.int IntKind.i64) (Ty.prod (Ty.int IntKind.i64) (Ty.prod (Ty.int IntKind.i64) Ty.unit))) (((((x0.1.1, x0.1.2.1, x0.1.2.2.1, ()) : Int × Int × Int × Unit), ((x0.2.1.1, x0.2.1.2.1, x0.2.1.2.2.1, ()) : Int × Int × Int × Unit), ((x0.2.2.1.1, x0.2.2.1.2.1, x0.2.2.1.2.2.1, ()) : Int × Int × Int × Unit), ()) : (Int × Int × Int × Unit) × (Int × Int × Int × Unit) × (Int × Int × Int × Unit) × Unit) : (Int × Int × Int × Unit) × (Int × Int × Int × Unit) × (Int × Int × Int × Unit) × Unit) (Int.toNat d2.1))).2.2.1 * List.getD d2.2.1 (2 : Nat) (0 : Int)))), ()) : Int × List Int × List Int × List Int × Unit)))))))))))) else gd ((3 : Nat) ≤ List.length d2.2.2.2.1) (gd ((3 : Nat) ≤ List.length d2.2.2.1) (gd ((3 : Nat) ≤ List.length (setMany d2.2.2.1 (0 : Nat) (List.getD d2.2.2.2.1 (0 : Nat) (0 : Int) :: List.getD d2.2.2.2.1 (1 : Nat) (0 : Int) :: List.getD d2.2.2.2.1 (2 : Nat) (0 : Int) :: ([] : List Int)))) (some (Lp.out ((((List.getD (setMany d2.2.2.1 (0 : Nat) (List.getD d2.2.2.2.1 (0 : Nat) (0 : Int) :: List.getD d2.2.2.2.1 (1 : Nat) (0 : Int) :: List.getD d2.2.2.2.1 (2 : Nat) (0 : Int) :: ([] : List Int))) (0 : Nat) (0 : Int), List.getD (setMany d2.2.2.1 (0 : Nat) (List.getD d2.2.2.2.1 (0 : Nat) (0 : Int) :: List.getD d2.2.2.2.1 (1 : Nat) (0 : Int) :: List.getD d2.2.2.2.1 (2 : Nat) (0 : Int) :: ([] : List Int))) (1 : Nat) (0 : Int), List.getD (setMany d2.2.2.1 (0 : Nat) (List.getD d2.2.2.2.1 (0 : Nat) (0 : Int) :: List.getD d2.2.2.2.1 (1 : Nat) (0 : Int) :: List.getD d2.2.2.2.1 (2 : Nat) (0 : Int) :: ([] : List Int))) (2 : Nat) (0 : Int), ()) : Int × Int × Int × Unit), ()) : (Int × Int × Int × Unit) × Unit)))))) (((0 : Int), x1.1 :: x1.2.1 :: x1.2.2.1 :: ([] : List Int), (0 : Int) :: (0 : Int) :: (0 : Int) :: ([] : List Int), (0 : Int) :: (0 : Int) :: (0 : Int) :: ([] : List Int), ()) : Int × List Int × List Int × List Int × Unit))
noncomputable def g93_sh : List LSh := LSh.mk (((3, TV.ref (0) (1 : Nat) (0 : Nat) (0 : Nat)) : Nat × TV) :: ((4, TV.ref (1) (1 : Nat) (0 : Nat) (0 : Nat)) : Nat × TV) :: ((5, TV.ref (2) (1 : Nat) (0 : Nat) (0 : Nat)) : Nat × TV) :: ((9, TV.v (Ty.int IntKind.i64)) : Nat × TV) :: ([] : List (Nat × TV))) (TB.arr (Ty.int IntKind.i64) false :: TB.arr (Ty.int IntKind.i64) false :: TB.arr (Ty.int IntKind.i64) false :: ([] : List TB)) :: ([] : List LSh)
noncomputable def con51 : Con := mkC 51 [.d I64, .d Mat, .d I64] [I64] (fun (p : Int) (m : MatD) (a : Int) => [isP p, inM p m, inPt p a = true]) (fun (p : Int) (m : MatD) (a : Int) => (nmR p (timR m (pt p a)), ()))
noncomputable def g51 (x0 : Int) (x1 : (Int × Int × Int × Unit) × (Int × Int × Int × Unit) × (Int × Int × Int × Unit) × Unit) (x2 : Int) : Option (Int × Unit) := gd ((9 : Nat) ≤ (9 : Nat)) (gd (isP x0) (gd ((0 : Int) ≤ x2 ∧ x2 < (↑(List.length (ptsC x0)) : Int)) (gd ((((0 : Int) ≤ x1.1.1 ∧ x1.1.1 < (7 : Int)) ∧ ((0 : Int) ≤ x1.1.2.1 ∧ x1.1.2.1 < (7 : Int)) ∧ (0 : Int) ≤ x1.1.2.2.1 ∧ x1.1.2.2.1 < (7 : Int)) ∧ (((0 : Int) ≤ x1.2.1.1 ∧ x1.2.1.1 < (7 : Int)) ∧ ((0 : Int) ≤ x1.2.1.2.1 ∧ x1.2.1.2.1 < (7 : Int)) ∧ (0 : Int) ≤ x1.2.1.2.2.1 ∧ x1.2.1.2.2.1 < (7 : Int)) ∧ ((0 : Int) ≤ x1.2.2.1.1 ∧ x1.2.2.1.1 < (7 : Int)) ∧ ((0 : Int) ≤ x1.2.2.1.2.1 ∧ x1.2.2.1.2.1 < (7 : Int)) ∧ (0 : Int) ≤ x1.2.2.1.2.2.1 ∧ x1.2.2.1.2.2.1 < (7 : Int)) (gd (((0 : Int) ≤ (List.getD (ptsC x0) (Int.toNat x2) (((0 : Int), (0 : Int), (0 : Int), ()) : Int × Int × Int × Unit)).1 ∧ (List.getD (ptsC x0) (Int.toNat x2) (((0 : Int), (0 : Int), (0 : Int), ()) : Int × Int × Int × Unit)).1 < (7 : Int)) ∧ ((0 : Int) ≤ (List.getD (ptsC x0) (Int.toNat x2) (((0 : Int), (0 : Int), (0 : Int), ()) : Int × Int × Int × Unit)).2.1 ∧ (List.getD (ptsC x0) (Int.toNat x2) (((0 : Int), (0 : Int), (0 : Int), ()) : Int × Int × Int × Unit)).2.1 < (7 : Int)) ∧ (0 : Int) ≤ (List.getD (ptsC x0) (Int.toNat x2) (((0 : Int), (0 : Int), (0 : Int), ()) : Int × Int × Int × Unit)).2.2.1 ∧ (List.getD (ptsC x0) (Int.toNat x2) (((0 : Int), (0 : Int), (0 : Int), ()) : Int × Int × Int × Unit)).2.2.1 < (7 : Int)) (gd (isP x0) (gd (bdT (timR ((((x1.1.1, x1.1.2.1, x1.1.2.2.1, ()) : Int × Int × Int × Unit), ((x1.2.1.1, x1.2.1.2.1, x1.2.1.2.2.1, ()) : Int × Int × Int × Unit), ((x1.2.2.1.1, x1.2.2.1.2.1, x1.2.2.1.2.2.1, ()) : Int × Int × Int × Unit), ()) : (Int × Int × Int × Unit) × (Int × Int × Int × Unit) × (Int × Int × Int × Unit) × Unit) (List.getD (ptsC x0) (Int.toNat x2) (((0 : Int), (0 : Int), (0 : Int), ()) : Int × Int × Int × Unit)))) (some ((nmR x0 (timR ((((x1.1.1, x1.1.2.1, x1.1.2.2.1, ()) : Int × Int × Int × Unit), ((x1.2.1.1, x1.2.1.2.1, x1.2.1.2.2.1, ()) : Int × Int × Int × Unit), ((x1.2.2.1.1, x1.2.2.1.2.1, x1.2.2.1.2.2.1, ()) : Int × Int × Int × Unit), ()) : (Int × Int × Int × Unit) × (Int × Int × Int × Unit) × (Int × Int × Int × Unit) × Unit) (List.getD (ptsC x0) (Int.toNat x2) (((0 : Int), (0 : Int), (0 : Int), ()) : Int × Int × Int × Unit))), ()) : Int × Unit))))))))
noncomputable def g51_sh : List LSh := ([] : List LSh)
noncomputable def con95s : SCon := mkS 95 [.v LI, .v I64] [] [.slf 0 1] [.arr I64 true] (fun (l : List Int) (x : Int) => [l.length ≤ 1000]) (fun (l : List Int) (x : Int) => (withL l x, ()))
noncomputable def g95s (x0 : List Int) (x1 : Int) : Option (List Int × Unit) := gd ((0 : Nat) = (0 : Nat)) (whileO (fun (d2 : Int × List Int × Unit) => bif ilt d2.1 (↑(List.length x0) : Int) then gd ((0 : Int) ≤ d2.1 ∧ d2.1 < (↑(List.length x0) : Int)) (bif ilt (List.getD x0 (Int.toNat d2.1) (0 : Int)) x1 then gd (List.length d2.2.1 ≤ List.length d2.2.1) (gd ((List.length d2.2.1 + (1 : Nat)) * (8 : Nat) ≤ (1099511627776 : Nat)) (gd (List.length d2.2.1 + (1 : Nat) = List.length (List.take (List.length d2.2.1) d2.2.1 ++ List.getD x0 (Int.toNat d2.1) (0 : Int) :: ([] : List Int))) (some (Lp.go ((wr IntKind.i64 (d2.1 + (1 : Int)), List.take (List.length d2.2.1) d2.2.1 ++ List.getD x0 (Int.toNat d2.1) (0 : Int) :: ([] : List Int), ()) : Int × List Int × Unit))))) else gd (List.length d2.2.1 = List.length d2.2.1) (some (Lp.go ((wr IntKind.i64 (d2.1 + (1 : Int)), d2.2.1, ()) : Int × List Int × Unit)))) else gd (List.length d2.2.1 ≤ List.length d2.2.1) (gd ((List.length d2.2.1 + (1 : Nat)) * (8 : Nat) ≤ (1099511627776 : Nat)) (whileO (fun (d3 : Int × Int × List Int × Unit) => bif ilt d3.2.1 (↑(List.length x0) : Int) then gd ((0 : Int) ≤ d3.2.1 ∧ d3.2.1 < (↑(List.length x0) : Int)) (bif ilt x1 (List.getD x0 (Int.toNat d3.2.1) (0 : Int)) then gd (Int.toNat d3.1 ≤ List.length d3.2.2.1) (gd ((Int.toNat d3.1 + (1 : Nat)) * (8 : Nat) ≤ (1099511627776 : Nat)) (some (Lp.go (((↑(Int.toNat d3.1 + (1 : Nat)) : Int), wr IntKind.i64 (d3.2.1 + (1 : Int)), List.take (Int.toNat d3.1) d3.2.2.1 ++ List.getD x0 (Int.toNat d3.2.1) (0 : Int) :: ([] : List Int), ()) : Int × Int × List Int × Unit)))) else some (Lp.go (((↑(Int.toNat d3.1) : Int), wr IntKind.i64 (d3.2.1 + (1 : Int)), d3.2.2.1, ()) : Int × Int × List Int × Unit))) else gd (Int.toNat d3.1 = List.length d3.2.2.1) (some (Lp.out (Lp.out ((d3.2.2.1, ()) : List Int × Unit))))) (((↑(List.length d2.2.1 + (1 : Nat)) : Int), (0 : Int), List.take (List.length d2.2.1) d2.2.1 ++ x1 :: ([] : List Int), ()) : Int × Int × List Int × Unit)))) (((0 : Int), ([] : List Int), ()) : Int × List Int × Unit))
noncomputable def g95s_sh : List LSh := LSh.mk (((5, TV.slf (0) (1)) : Nat × TV) :: ((12, TV.v (Ty.int IntKind.i64)) : Nat × TV) :: ([] : List (Nat × TV))) (TB.arr (Ty.int IntKind.i64) true :: ([] : List TB)) :: LSh.mk (((5, TV.sl (0) (1) (0)) : Nat × TV) :: ((30, TV.v (Ty.int IntKind.i64)) : Nat × TV) :: ([] : List (Nat × TV))) (TB.arr (Ty.int IntKind.i64) true :: ([] : List TB)) :: ([] : List LSh)
def has4 (l : QuadD) : Bool := ieq l.1 l.2.1 || ieq l.1 l.2.2.1 || ieq l.2.1 l.2.2.1 || ieq l.1 l.2.2.2.1 || ieq l.2.1 l.2.2.2.1 || ieq l.2.2.1 l.2.2.2.1
def set4 (l : QuadD) : List Int := withL (withL (withL (withL [] l.1) l.2.1) l.2.2.1) l.2.2.2.1
noncomputable def isFrR (p : Int) (l : QuadD) : Bool := !has4 l && arcR p (set4 l)
noncomputable def con52 : Con := mkC 52 [.d I64, .d Quad] [.bool] (fun (p : Int) (l : QuadD) => [isP p, allIn p l]) (fun (p : Int) (l : QuadD) => (isFrR p l, ()))
noncomputable def g52 (x0 : Int) (x1 : Int × Int × Int × Int × Unit) : Option (Bool × Unit) := gd ((4 : Nat) ≤ (4 : Nat)) (gd ((0 : Nat) = (0 : Nat)) (whileO (fun (d2 : Int × List Int × Unit) => bif ilt d2.1 (4 : Int) then gd ((0 : Int) ≤ d2.1 ∧ d2.1 < (4 : Int)) (gd ((0 : Nat) + List.length d2.2.1 ≤ List.length d2.2.1) (gd (small (List.take (List.length d2.2.1) (List.drop (0 : Nat) d2.2.1))) (bif List.contains (List.take (List.length d2.2.1) (List.drop (0 : Nat) d2.2.1)) (@id Int (arrGet (4 : Nat) (Ty.int IntKind.i64) (((x1.1, x1.2.1, x1.2.2.1, x1.2.2.2.1, ()) : Int × Int × Int × Int × Unit) : Int × Int × Int × Int × Unit) (Int.toNat d2.1))) then some (Lp.out ((false, ()) : Bool × Unit)) else gd ((0 : Nat) + List.length d2.2.1 ≤ List.length d2.2.1) (gd (List.length (List.take (List.length d2.2.1) (List.drop (0 : Nat) d2.2.1)) ≤ (1000 : Nat)) (gd (List.length (withL (List.take (List.length d2.2.1) (List.drop (0 : Nat) d2.2.1)) (@id Int (arrGet (4 : Nat) (Ty.int IntKind.i64) (((x1.1, x1.2.1, x1.2.2.1, x1.2.2.2.1, ()) : Int × Int × Int × Int × Unit) : Int × Int × Int × Int × Unit) (Int.toNat d2.1)))) = List.length (withL (List.take (List.length d2.2.1) (List.drop (0 : Nat) d2.2.1)) (@id Int (arrGet (4 : Nat) (Ty.int IntKind.i64) (((x1.1, x1.2.1, x1.2.2.1, x1.2.2.2.1, ()) : Int × Int × Int × Int × Unit) : Int × Int × Int × Int × Unit) (Int.toNat d2.1))))) (some (Lp.go ((wr IntKind.i64 (d2.1 + (1 : Int)), withL (List.take (List.length d2.2.1) (List.drop (0 : Nat) d2.2.1)) (@id Int (arrGet (4 : Nat) (Ty.int IntKind.i64) (((x1.1, x1.2.1, x1.2.2.1, x1.2.2.2.1, ()) : Int × Int × Int × Int × Unit) : Int × Int × Int × Int × Unit) (Int.toNat d2.1))), ()) : Int × List Int × Unit)))))))) else gd ((0 : Nat) + List.length d2.2.1 ≤ List.length d2.2.1) (gd (isP x0) (gd (setP x0 (List.take (List.length d2.2.1) (List.drop (0 : Nat) d2.2.1))) (some (Lp.out ((arcR x0 (List.take (List.length d2.2.1) (List.drop (0 : Nat) d2.2.1)), ()) : Bool × Unit)))))) (((0 : Int), ([] : List Int), ()) : Int × List Int × Unit)))
noncomputable def g52_sh : List LSh := LSh.mk (((5, TV.slf (0) (1)) : Nat × TV) :: ((9, TV.v (Ty.int IntKind.i64)) : Nat × TV) :: ([] : List (Nat × TV))) (TB.arr (Ty.int IntKind.i64) true :: ([] : List TB)) :: ([] : List LSh)
noncomputable def con97 : Con := mkC 97 [.d Trip, .d Trip, .d Trip] [Mat] (fun (a b c : TripD) => []) (fun (a b c : TripD) => (colsF a b c, ()))
noncomputable def g97 (x0 x1 x2 : Int × Int × Int × Unit) : Option (((Int × Int × Int × Unit) × (Int × Int × Int × Unit) × (Int × Int × Int × Unit) × Unit) × Unit) := whileO (fun (d3 : Int × List Int × List Int × List Int × List Int × List Int × Unit) => bif ilt d3.1 (3 : Int) then gd ((0 : Int) ≤ d3.1 ∧ d3.1 < (3 : Int)) (gd ((0 : Nat) + Int.toNat d3.1 * (1 : Nat) < List.length d3.2.1) (gd ((0 : Int) ≤ d3.1 ∧ d3.1 < (3 : Int)) (gd ((0 : Nat) + Int.toNat d3.1 * (1 : Nat) < List.length d3.2.2.1) (gd ((0 : Int) ≤ d3.1 ∧ d3.1 < (3 : Int)) (gd ((0 : Nat) + Int.toNat d3.1 * (1 : Nat) < List.length d3.2.2.2.1) (gd ((0 : Int) ≤ d3.1 ∧ d3.1 < (3 : Int)) (gd ((0 : Nat) + Int.toNat d3.1 * (3 : Nat) + (3 : Nat) ≤ List.length d3.2.2.2.2.2.1) (some (Lp.go ((wr IntKind.i64 (d3.1 + (1 : Int)), d3.2.1, d3.2.2.1, d3.2.2.2.1, d3.2.2.2.2.1, setMany d3.2.2.2.2.2.1 ((0 : Nat) + Int.toNat d3.1 * (3 : Nat)) (List.getD d3.2.1 ((0 : Nat) + Int.toNat d3.1 * (1 : Nat)) (0 : Int) :: List.getD d3.2.2.1 ((0 : Nat) + Int.toNat d3.1 * (1 : Nat)) (0 : Int) :: List.getD d3.2.2.2.1 ((0 : Nat) + Int.toNat d3.1 * (1 : Nat)) (0 : Int) :: ([] : List Int)), ()) : Int × List Int × List Int × List Int × List Int × List Int × Unit)))))))))) else gd ((9 : Nat) ≤ List.length d3.2.2.2.2.2.1) (gd ((9 : Nat) ≤ List.length d3.2.2.2.2.1) (gd ((9 : Nat) ≤ List.length (setMany d3.2.2.2.2.1 (0 : Nat) (List.getD d3.2.2.2.2.2.1 (0 : Nat) (0 : Int) :: List.getD d3.2.2.2.2.2.1 (1 : Nat) (0 : Int) :: List.getD d3.2.2.2.2.2.1 (2 : Nat) (0 : Int) :: List.getD d3.2.2.2.2.2.1 (3 : Nat) (0 : Int) :: List.getD d3.2.2.2.2.2.1 (4 : Nat) (0 : Int) :: List.getD d3.2.2.2.2.2.1 (5 : Nat) (0 : Int) :: List.getD d3.2.2.2.2.2.1 (6 : Nat) (0 : Int) :: List.getD d3.2.2.2.2.2.1 (7 : Nat) (0 : Int) :: List.getD d3.2.2.2.2.2.1 (8 : Nat) (0 : Int) :: ([] : List Int)))) (some (Lp.out ((((((List.getD (setMany d3.2.2.2.2.1 (0 : Nat) (List.getD d3.2.2.2.2.2.1 (0 : Nat) (0 : Int) :: List.getD d3.2.2.2.2.2.1 (1 : Nat) (0 : Int) :: List.getD d3.2.2.2.2.2.1 (2 : Nat) (0 : Int) :: List.getD d3.2.2.2.2.2.1 (3 : Nat) (0 : Int) :: List.getD d3.2.2.2.2.2.1 (4 : Nat) (0 : Int) :: List.getD d3.2.2.2.2.2.1 (5 : Nat) (0 : Int) :: List.getD d3.2.2.2.2.2.1 (6 : Nat) (0 : Int) :: List.getD d3.2.2.2.2.2.1 (7 : Nat) (0 : Int) :: List.getD d3.2.2.2.2.2.1 (8 : Nat) (0 : Int) :: ([] : List Int))) (0 : Nat) (0 : Int), List.getD (setMany d3.2.2.2.2.1 (0 : Nat) (List.getD d3.2.2.2.2.2.1 (0 : Nat) (0 : Int) :: List.getD d3.2.2.2.2.2.1 (1 : Nat) (0 : Int) :: List.getD d3.2.2.2.2.2.1 (2 : Nat) (0 : Int) :: List.getD d3.2.2.2.2.2.1 (3 : Nat) (0 : Int) :: List.getD d3.2.2.2.2.2.1 (4 : Nat) (0 : Int) :: List.getD d3.2.2.2.2.2.1 (5 : Nat) (0 : Int) :: List.getD d3.2.2.2.2.2.1 (6 : Nat) (0 : Int) :: List.getD d3.2.2.2.2.2.1 (7 : Nat) (0 : Int) :: List.getD d3.2.2.2.2.2.1 (8 : Nat) (0 : Int) :: ([] : List Int))) (1 : Nat) (0 : Int), List.getD (setMany d3.2.2.2.2.1 (0 : Nat) (List.getD d3.2.2.2.2.2.1 (0 : Nat) (0 : Int) :: List.getD d3.2.2.2.2.2.1 (1 : Nat) (0 : Int) :: List.getD d3.2.2.2.2.2.1 (2 : Nat) (0 : Int) :: List.getD d3.2.2.2.2.2.1 (3 : Nat) (0 : Int) :: List.getD d3.2.2.2.2.2.1 (4 : Nat) (0 : Int) :: List.getD d3.2.2.2.2.2.1 (5 : Nat) (0 : Int) :: List.getD d3.2.2.2.2.2.1 (6 : Nat) (0 : Int) :: List.getD d3.2.2.2.2.2.1 (7 : Nat) (0 : Int) :: List.getD d3.2.2.2.2.2.1 (8 : Nat) (0 : Int) :: ([] : List Int))) (2 : Nat) (0 : Int), ()) : Int × Int × Int × Unit), ((List.getD (setMany d3.2.2.2.2.1 (0 : Nat) (List.getD d3.2.2.2.2.2.1 (0 : Nat) (0 : Int) :: List.getD d3.2.2.2.2.2.1 (1 : Nat) (0 : Int) :: List.getD d3.2.2.2.2.2.1 (2 : Nat) (0 : Int) :: List.getD d3.2.2.2.2.2.1 (3 : Nat) (0 : Int) :: List.getD d3.2.2.2.2.2.1 (4 : Nat) (0 : Int) :: List.getD d3.2.2.2.2.2.1 (5 : Nat) (0 : Int) :: List.getD d3.2.2.2.2.2.1 (6 : Nat) (0 : Int) :: List.getD d3.2.2.2.2.2.1 (7 : Nat) (0 : Int) :: List.getD d3.2.2.2.2.2.1 (8 : Nat) (0 : Int) :: ([] : List Int))) (3 : Nat) (0 : Int), List.getD (setMany d3.2.2.2.2.1 (0 : Nat) (List.getD d3.2.2.2.2.2.1 (0 : Nat) (0 : Int) :: List.getD d3.2.2.2.2.2.1 (1 : Nat) (0 : Int) :: List.getD d3.2.2.2.2.2.1 (2 : Nat) (0 : Int) :: List.getD d3.2.2.2.2.2.1 (3 : Nat) (0 : Int) :: List.getD d3.2.2.2.2.2.1 (4 : Nat) (0 : Int) :: List.getD d3.2.2.2.2.2.1 (5 : Nat) (0 : Int) :: List.getD d3.2.2.2.2.2.1 (6 : Nat) (0 : Int) :: List.getD d3.2.2.2.2.2.1 (7 : Nat) (0 : Int) :: List.getD d3.2.2.2.2.2.1 (8 : Nat) (0 : Int) :: ([] : List Int))) (4 : Nat) (0 : Int), List.getD (setMany d3.2.2.2.2.1 (0 : Nat) (List.getD d3.2.2.2.2.2.1 (0 : Nat) (0 : Int) :: List.getD d3.2.2.2.2.2.1 (1 : Nat) (0 : Int) :: List.getD d3.2.2.2.2.2.1 (2 : Nat) (0 : Int) :: List.getD d3.2.2.2.2.2.1 (3 : Nat) (0 : Int) :: List.getD d3.2.2.2.2.2.1 (4 : Nat) (0 : Int) :: List.getD d3.2.2.2.2.2.1 (5 : Nat) (0 : Int) :: List.getD d3.2.2.2.2.2.1 (6 : Nat) (0 : Int) :: List.getD d3.2.2.2.2.2.1 (7 : Nat) (0 : Int) :: List.getD d3.2.2.2.2.2.1 (8 : Nat) (0 : Int) :: ([] : List Int))) (5 : Nat) (0 : Int), ()) : Int × Int × Int × Unit), ((List.getD (setMany d3.2.2.2.2.1 (0 : Nat) (List.getD d3.2.2.2.2.2.1 (0 : Nat) (0 : Int) :: List.getD d3.2.2.2.2.2.1 (1 : Nat) (0 : Int) :: List.getD d3.2.2.2.2.2.1 (2 : Nat) (0 : Int) :: List.getD d3.2.2.2.2.2.1 (3 : Nat) (0 : Int) :: List.getD d3.2.2.2.2.2.1 (4 : Nat) (0 : Int) :: List.getD d3.2.2.2.2.2.1 (5 : Nat) (0 : Int) :: List.getD d3.2.2.2.2.2.1 (6 : Nat) (0 : Int) :: List.getD d3.2.2.2.2.2.1 (7 : Nat) (0 : Int) :: List.getD d3.2.2.2.2.2.1 (8 : Nat) (0 : Int) :: ([] : List Int))) (6 : Nat) (0 : Int), List.getD (setMany d3.2.2.2.2.1 (0 : Nat) (List.getD d3.2.2.2.2.2.1 (0 : Nat) (0 : Int) :: List.getD d3.2.2.2.2.2.1 (1 : Nat) (0 : Int) :: List.getD d3.2.2.2.2.2.1 (2 : Nat) (0 : Int) :: List.getD d3.2.2.2.2.2.1 (3 : Nat) (0 : Int) :: List.getD d3.2.2.2.2.2.1 (4 : Nat) (0 : Int) :: List.getD d3.2.2.2.2.2.1 (5 : Nat) (0 : Int) :: List.getD d3.2.2.2.2.2.1 (6 : Nat) (0 : Int) :: List.getD d3.2.2.2.2.2.1 (7 : Nat) (0 : Int) :: List.getD d3.2.2.2.2.2.1 (8 : Nat) (0 : Int) :: ([] : List Int))) (7 : Nat) (0 : Int), List.getD (setMany d3.2.2.2.2.1 (0 : Nat) (List.getD d3.2.2.2.2.2.1 (0 : Nat) (0 : Int) :: List.getD d3.2.2.2.2.2.1 (1 : Nat) (0 : Int) :: List.getD d3.2.2.2.2.2.1 (2 : Nat) (0 : Int) :: List.getD d3.2.2.2.2.2.1 (3 : Nat) (0 : Int) :: List.getD d3.2.2.2.2.2.1 (4 : Nat) (0 : Int) :: List.getD d3.2.2.2.2.2.1 (5 : Nat) (0 : Int) :: List.getD d3.2.2.2.2.2.1 (6 : Nat) (0 : Int) :: List.getD d3.2.2.2.2.2.1 (7 : Nat) (0 : Int) :: List.getD d3.2.2.2.2.2.1 (8 : Nat) (0 : Int) :: ([] : List Int))) (8 : Nat) (0 : Int), ()) : Int × Int × Int × Unit), ()) : (Int × Int × Int × Unit) × (Int × Int × Int × Unit) × (Int × Int × Int × Unit) × Unit), ()) : ((Int × Int × Int × Unit) × (Int × Int × Int × Unit) × (Int × Int × Int × Unit) × Unit) × Unit)))))) (((0 : Int), x0.1 :: x0.2.1 :: x0.2.2.1 :: ([] : List Int), x1.1 :: x1.2.1 :: x1.2.2.1 :: ([] : List Int), x2.1 :: x2.2.1 :: x2.2.2.1 :: ([] : List Int), (0 : Int) :: (0 : Int) :: (0 : Int) :: (0 : Int) :: (0 : Int) :: (0 : Int) :: (0 : Int) :: (0 : Int) :: (0 : Int) :: ([] : List Int), (0 : Int) :: (0 : Int) :: (0 : Int) :: (0 : Int) :: (0 : Int) :: (0 : Int) :: (0 : Int) :: (0 : Int) :: (0 : Int) :: ([] : List Int), ()) : Int × List Int × List Int × List Int × List Int × List Int × Unit)
noncomputable def g97_sh : List LSh := LSh.mk (((3, TV.ref (0) (1 : Nat) (0 : Nat) (0 : Nat)) : Nat × TV) :: ((4, TV.ref (1) (1 : Nat) (0 : Nat) (0 : Nat)) : Nat × TV) :: ((5, TV.ref (2) (1 : Nat) (0 : Nat) (0 : Nat)) : Nat × TV) :: ((6, TV.ref (3) (1 : Nat) (0 : Nat) (0 : Nat)) : Nat × TV) :: ((7, TV.ref (4) (1 : Nat) (0 : Nat) (0 : Nat)) : Nat × TV) :: ((9, TV.v (Ty.int IntKind.i64)) : Nat × TV) :: ([] : List (Nat × TV))) (TB.arr (Ty.int IntKind.i64) false :: TB.arr (Ty.int IntKind.i64) false :: TB.arr (Ty.int IntKind.i64) false :: TB.arr (Ty.int IntKind.i64) false :: TB.arr (Ty.int IntKind.i64) false :: ([] : List TB)) :: ([] : List LSh)
noncomputable def con96 : Con := mkC 96 [.d I64, .d Mat] [Mat] (fun (p : Int) (m : MatD) => [isP p, inM p m]) (fun (p : Int) (m : MatD) => (invM p m, ()))
noncomputable def g96_l0 (x0 : Int) (d2 d3 : Int × List Int × List Int × List Int × Unit) : Option (Lp (Int × List Int × List Int × List Int × Unit) (Lp (Int × List Int × List Int × List Int × Unit) (((Int × Int × Int × Unit) × (Int × Int × Int × Unit) × (Int × Int × Int × Unit) × Unit) × Unit))) := bif ilt d3.1 (3 : Int) then gd ((3 : Int) ≠ (0 : Int)) (gd ((3 : Int) ≠ (0 : Int)) (gd ((3 : Int) ≠ (0 : Int)) (gd ((3 : Int) ≠ (0 : Int)) (gd ((0 : Int) ≤ Int.tmod (wr IntKind.i64 (d3.1 + (1 : Int))) (3 : Int) ∧ Int.tmod (wr IntKind.i64 (d3.1 + (1 : Int))) (3 : Int) < (3 : Int)) (gd ((0 : Int) ≤ Int.tmod (wr IntKind.i64 (d2.1 + (1 : Int))) (3 : Int) ∧ Int.tmod (wr IntKind.i64 (d2.1 + (1 : Int))) (3 : Int) < (3 : Int)) (gd ((0 : Nat) + Int.toNat (Int.tmod (wr IntKind.i64 (d3.1 + (1 : Int))) (3 : Int)) * (3 : Nat) + Int.toNat (Int.tmod (wr IntKind.i64 (d2.1 + (1 : Int))) (3 : Int)) * (1 : Nat) < List.length d3.2.1) (gd ((0 : Int) ≤ Int.tmod (wr IntKind.i64 (d3.1 + (2 : Int))) (3 : Int) ∧ Int.tmod (wr IntKind.i64 (d3.1 + (2 : Int))) (3 : Int) < (3 : Int)) (gd ((0 : Int) ≤ Int.tmod (wr IntKind.i64 (d2.1 + (2 : Int))) (3 : Int) ∧ Int.tmod (wr IntKind.i64 (d2.1 + (2 : Int))) (3 : Int) < (3 : Int)) (gd ((0 : Nat) + Int.toNat (Int.tmod (wr IntKind.i64 (d3.1 + (2 : Int))) (3 : Int)) * (3 : Nat) + Int.toNat (Int.tmod (wr IntKind.i64 (d2.1 + (2 : Int))) (3 : Int)) * (1 : Nat) < List.length d3.2.1) (gd ((0 : Int) ≤ Int.tmod (wr IntKind.i64 (d3.1 + (1 : Int))) (3 : Int) ∧ Int.tmod (wr IntKind.i64 (d3.1 + (1 : Int))) (3 : Int) < (3 : Int)) (gd ((0 : Int) ≤ Int.tmod (wr IntKind.i64 (d2.1 + (2 : Int))) (3 : Int) ∧ Int.tmod (wr IntKind.i64 (d2.1 + (2 : Int))) (3 : Int) < (3 : Int)) (gd ((0 : Nat) + Int.toNat (Int.tmod (wr IntKind.i64 (d3.1 + (1 : Int))) (3 : Int)) * (3 : Nat) + Int.toNat (Int.tmod (wr IntKind.i64 (d2.1 + (2 : Int))) (3 : Int)) * (1 : Nat) < List.length d3.2.1) (gd ((0 : Int) ≤ Int.tmod (wr IntKind.i64 (d3.1 + (2 : Int))) (3 : Int) ∧ Int.tmod (wr IntKind.i64 (d3.1 + (2 : Int))) (3 : Int) < (3 : Int)) (gd ((0 : Int) ≤ Int.tmod (wr IntKind.i64 (d2.1 + (1 : Int))) (3 : Int) ∧ Int.tmod (wr IntKind.i64 (d2.1 + (1 : Int))) (3 : Int) < (3 : Int)) (gd ((0 : Nat) + Int.toNat (Int.tmod (wr IntKind.i64 (d3.1 + (2 : Int))) (3 : Int)) * (3 : Nat) + Int.toNat (Int.tmod (wr IntKind.i64 (d2.1 + (1 : Int))) (3 : Int)) * (1 : Nat) < List.length d3.2.1) (gd (x0 ≠ (0 : Int)) (gd (x0 ≠ (0 : Int)) (gd ((0 : Int) ≤ d2.1 ∧ d2.1 < (3 : Int)) (gd ((0 : Int) ≤ d3.1 ∧ d3.1 < (3 : Int)) (gd ((0 : Nat) + Int.toNat d2.1 * (3 : Nat) + Int.toNat d3.1 * (1 : Nat) < List.length d3.2.2.2.1) (some (Lp.go ((wr IntKind.i64 (d3.1 + (1 : Int)), d3.2.1, d3.2.2.1, List.set d3.2.2.2.1 ((0 : Nat) + Int.toNat d2.1 * (3 : Nat) + Int.toNat d3.1 * (1 : Nat)) (Int.tmod (wr IntKind.i64 (Int.tmod (wr IntKind.i64 (wr IntKind.i64 (List.getD d3.2.1 ((0 : Nat) + Int.toNat (Int.tmod (wr IntKind.i64 (d3.1 + (1 : Int))) (3 : Int)) * (3 : Nat) + Int.toNat (Int.tmod (wr IntKind.i64 (d2.1 + (1 : Int))) (3 : Int)) * (1 : Nat)) (0 : Int) * List.getD d3.2.1 ((0 : Nat) + Int.toNat (Int.tmod (wr IntKind.i64 (d3.1 + (2 : Int))) (3 : Int)) * (3 : Nat) + Int.toNat (Int.tmod (wr IntKind.i64 (d2.1 + (2 : Int))) (3 : Int)) * (1 : Nat)) (0 : Int)) - wr IntKind.i64 (List.getD d3.2.1 ((0 : Nat) + Int.toNat (Int.tmod (wr IntKind.i64 (d3.1 + (1 : Int))) (3 : Int)) * (3 : Nat) + Int.toNat (Int.tmod (wr IntKind.i64 (d2.1 + (2 : Int))) (3 : Int)) * (1 : Nat)) (0 : Int) * List.getD d3.2.1 ((0 : Nat) + Int.toNat (Int.tmod (wr IntKind.i64 (d3.1 + (2 : Int))) (3 : Int)) * (3 : Nat) + Int.toNat (Int.tmod (wr IntKind.i64 (d2.1 + (1 : Int))) (3 : Int)) * (1 : Nat)) (0 : Int)))) x0 + x0)) x0), ()) : Int × List Int × List Int × List Int × Unit))))))))))))))))))))))) else some (Lp.out (Lp.go ((wr IntKind.i64 (d2.1 + (1 : Int)), d3.2.1, d3.2.2.1, d3.2.2.2.1, ()) : Int × List Int × List Int × List Int × Unit)))
noncomputable def g96 (x0 : Int) (x1 : (Int × Int × Int × Unit) × (Int × Int × Int × Unit) × (Int × Int × Int × Unit) × Unit) : Option (((Int × Int × Int × Unit) × (Int × Int × Int × Unit) × (Int × Int × Int × Unit) × Unit) × Unit) := whileO (fun (d2 : Int × List Int × List Int × List Int × Unit) => bif ilt d2.1 (3 : Int) then whileO (g96_l0 x0 d2) (((0 : Int), d2.2.1, d2.2.2.1, d2.2.2.2.1, ()) : Int × List Int × List Int × List Int × Unit) else gd ((9 : Nat) ≤ List.length d2.2.2.2.1) (gd ((9 : Nat) ≤ List.length d2.2.2.1) (gd ((9 : Nat) ≤ List.length (setMany d2.2.2.1 (0 : Nat) (List.getD d2.2.2.2.1 (0 : Nat) (0 : Int) :: List.getD d2.2.2.2.1 (1 : Nat) (0 : Int) :: List.getD d2.2.2.2.1 (2 : Nat) (0 : Int) :: List.getD d2.2.2.2.1 (3 : Nat) (0 : Int) :: List.getD d2.2.2.2.1 (4 : Nat) (0 : Int) :: List.getD d2.2.2.2.1 (5 : Nat) (0 : Int) :: List.getD d2.2.2.2.1 (6 : Nat) (0 : Int) :: List.getD d2.2.2.2.1 (7 : Nat) (0 : Int) :: List.getD d2.2.2.2.1 (8 : Nat) (0 : Int) :: ([] : List Int)))) (some (Lp.out ((((((List.getD (setMany d2.2.2.1 (0 : Nat) (List.getD d2.2.2.2.1 (0 : Nat) (0 : Int) :: List.getD d2.2.2.2.1 (1 : Nat) (0 : Int) :: List.getD d2.2.2.2.1 (2 : Nat) (0 : Int) :: List.getD d2.2.2.2.1 (3 : Nat) (0 : Int) :: List.getD d2.2.2.2.1 (4 : Nat) (0 : Int) :: List.getD d2.2.2.2.1 (5 : Nat) (0 : Int) :: List.getD d2.2.2.2.1 (6 : Nat) (0 : Int) :: List.getD d2.2.2.2.1 (7 : Nat) (0 : Int) :: List.getD d2.2.2.2.1 (8 : Nat) (0 : Int) :: ([] : List Int))) (0 : Nat) (0 : Int), List.getD (setMany d2.2.2.1 (0 : Nat) (List.getD d2.2.2.2.1 (0 : Nat) (0 : Int) :: List.getD d2.2.2.2.1 (1 : Nat) (0 : Int) :: List.getD d2.2.2.2.1 (2 : Nat) (0 : Int) :: List.getD d2.2.2.2.1 (3 : Nat) (0 : Int) :: List.getD d2.2.2.2.1 (4 : Nat) (0 : Int) :: List.getD d2.2.2.2.1 (5 : Nat) (0 : Int) :: List.getD d2.2.2.2.1 (6 : Nat) (0 : Int) :: List.getD d2.2.2.2.1 (7 : Nat) (0 : Int) :: List.getD d2.2.2.2.1 (8 : Nat) (0 : Int) :: ([] : List Int))) (1 : Nat) (0 : Int), List.getD (setMany d2.2.2.1 (0 : Nat) (List.getD d2.2.2.2.1 (0 : Nat) (0 : Int) :: List.getD d2.2.2.2.1 (1 : Nat) (0 : Int) :: List.getD d2.2.2.2.1 (2 : Nat) (0 : Int) :: List.getD d2.2.2.2.1 (3 : Nat) (0 : Int) :: List.getD d2.2.2.2.1 (4 : Nat) (0 : Int) :: List.getD d2.2.2.2.1 (5 : Nat) (0 : Int) :: List.getD d2.2.2.2.1 (6 : Nat) (0 : Int) :: List.getD d2.2.2.2.1 (7 : Nat) (0 : Int) :: List.getD d2.2.2.2.1 (8 : Nat) (0 : Int) :: ([] : List Int))) (2 : Nat) (0 : Int), ()) : Int × Int × Int × Unit), ((List.getD (setMany d2.2.2.1 (0 : Nat) (List.getD d2.2.2.2.1 (0 : Nat) (0 : Int) :: List.getD d2.2.2.2.1 (1 : Nat) (0 : Int) :: List.getD d2.2.2.2.1 (2 : Nat) (0 : Int) :: List.getD d2.2.2.2.1 (3 : Nat) (0 : Int) :: List.getD d2.2.2.2.1 (4 : Nat) (0 : Int) :: List.getD d2.2.2.2.1 (5 : Nat) (0 : Int) :: List.getD d2.2.2.2.1 (6 : Nat) (0 : Int) :: List.getD d2.2.2.2.1 (7 : Nat) (0 : Int) :: List.getD d2.2.2.2.1 (8 : Nat) (0 : Int) :: ([] : List Int))) (3 : Nat) (0 : Int), List.getD (setMany d2.2.2.1 (0 : Nat) (List.getD d2.2.2.2.1 (0 : Nat) (0 : Int) :: List.getD d2.2.2.2.1 (1 : Nat) (0 : Int) :: List.getD d2.2.2.2.1 (2 : Nat) (0 : Int) :: List.getD d2.2.2.2.1 (3 : Nat) (0 : Int) :: List.getD d2.2.2.2.1 (4 : Nat) (0 : Int) :: List.getD d2.2.2.2.1 (5 : Nat) (0 : Int) :: List.getD d2.2.2.2.1 (6 : Nat) (0 : Int) :: List.getD d2.2.2.2.1 (7 : Nat) (0 : Int) :: List.getD d2.2.2.2.1 (8 : Nat) (0 : Int) :: ([] : List Int))) (4 : Nat) (0 : Int), List.getD (setMany d2.2.2.1 (0 : Nat) (List.getD d2.2.2.2.1 (0 : Nat) (0 : Int) :: List.getD d2.2.2.2.1 (1 : Nat) (0 : Int) :: List.getD d2.2.2.2.1 (2 : Nat) (0 : Int) :: List.getD d2.2.2.2.1 (3 : Nat) (0 : Int) :: List.getD d2.2.2.2.1 (4 : Nat) (0 : Int) :: List.getD d2.2.2.2.1 (5 : Nat) (0 : Int) :: List.getD d2.2.2.2.1 (6 : Nat) (0 : Int) :: List.getD d2.2.2.2.1 (7 : Nat) (0 : Int) :: List.getD d2.2.2.2.1 (8 : Nat) (0 : Int) :: ([] : List Int))) (5 : Nat) (0 : Int), ()) : Int × Int × Int × Unit), ((List.getD (setMany d2.2.2.1 (0 : Nat) (List.getD d2.2.2.2.1 (0 : Nat) (0 : Int) :: List.getD d2.2.2.2.1 (1 : Nat) (0 : Int) :: List.getD d2.2.2.2.1 (2 : Nat) (0 : Int) :: List.getD d2.2.2.2.1 (3 : Nat) (0 : Int) :: List.getD d2.2.2.2.1 (4 : Nat) (0 : Int) :: List.getD d2.2.2.2.1 (5 : Nat) (0 : Int) :: List.getD d2.2.2.2.1 (6 : Nat) (0 : Int) :: List.getD d2.2.2.2.1 (7 : Nat) (0 : Int) :: List.getD d2.2.2.2.1 (8 : Nat) (0 : Int) :: ([] : List Int))) (6 : Nat) (0 : Int), List.getD (setMany d2.2.2.1 (0 : Nat) (List.getD d2.2.2.2.1 (0 : Nat) (0 : Int) :: List.getD d2.2.2.2.1 (1 : Nat) (0 : Int) :: List.getD d2.2.2.2.1 (2 : Nat) (0 : Int) :: List.getD d2.2.2.2.1 (3 : Nat) (0 : Int) :: List.getD d2.2.2.2.1 (4 : Nat) (0 : Int) :: List.getD d2.2.2.2.1 (5 : Nat) (0 : Int) :: List.getD d2.2.2.2.1 (6 : Nat) (0 : Int) :: List.getD d2.2.2.2.1 (7 : Nat) (0 : Int) :: List.getD d2.2.2.2.1 (8 : Nat) (0 : Int) :: ([] : List Int))) (7 : Nat) (0 : Int), List.getD (setMany d2.2.2.1 (0 : Nat) (List.getD d2.2.2.2.1 (0 : Nat) (0 : Int) :: List.getD d2.2.2.2.1 (1 : Nat) (0 : Int) :: List.getD d2.2.2.2.1 (2 : Nat) (0 : Int) :: List.getD d2.2.2.2.1 (3 : Nat) (0 : Int) :: List.getD d2.2.2.2.1 (4 : Nat) (0 : Int) :: List.getD d2.2.2.2.1 (5 : Nat) (0 : Int) :: List.getD d2.2.2.2.1 (6 : Nat) (0 : Int) :: List.getD d2.2.2.2.1 (7 : Nat) (0 : Int) :: List.getD d2.2.2.2.1 (8 : Nat) (0 : Int) :: ([] : List Int))) (8 : Nat) (0 : Int), ()) : Int × Int × Int × Unit), ()) : (Int × Int × Int × Unit) × (Int × Int × Int × Unit) × (Int × Int × Int × Unit) × Unit), ()) : ((Int × Int × Int × Unit) × (Int × Int × Int × Unit) × (Int × Int × Int × Unit) × Unit) × Unit)))))) (((0 : Int), x1.1.1 :: x1.1.2.1 :: x1.1.2.2.1 :: x1.2.1.1 :: x1.2.1.2.1 :: x1.2.1.2.2.1 :: x1.2.2.1.1 :: x1.2.2.1.2.1 :: x1.2.2.1.2.2.1 :: ([] : List Int), (0 : Int) :: (0 : Int) :: (0 : Int) :: (0 : Int) :: (0 : Int) :: (0 : Int) :: (0 : Int) :: (0 : Int) :: (0 : Int) :: ([] : List Int), (0 : Int) :: (0 : Int) :: (0 : Int) :: (0 : Int) :: (0 : Int) :: (0 : Int) :: (0 : Int) :: (0 : Int) :: (0 : Int) :: ([] : List Int), ()) : Int × List Int × List Int × List Int × Unit)
noncomputable def g96_sh : List LSh := LSh.mk (((3, TV.ref (0) (1 : Nat) (0 : Nat) (0 : Nat)) : Nat × TV) :: ((4, TV.ref (1) (1 : Nat) (0 : Nat) (0 : Nat)) : Nat × TV) :: ((5, TV.ref (2) (1 : Nat) (0 : Nat) (0 : Nat)) : Nat × TV) :: ((12, TV.v (Ty.int IntKind.i64)) : Nat × TV) :: ([] : List (Nat × TV))) (TB.arr (Ty.int IntKind.i64) false :: TB.arr (Ty.int IntKind.i64) false :: TB.arr (Ty.int IntKind.i64) false :: ([] : List TB)) :: LSh.mk (((3, TV.ref (0) (1 : Nat) (0 : Nat) (0 : Nat)) : Nat × TV) :: ((4, TV.ref (1) (1 : Nat) (0 : Nat) (0 : Nat)) : Nat × TV) :: ((5, TV.ref (2) (1 : Nat) (0 : Nat) (0 : Nat)) : Nat × TV) :: ((15, TV.v (Ty.int IntKind.i64)) : Nat × TV) :: ([] : List (Nat × TV))) (TB.arr (Ty.int IntKind.i64) false :: TB.arr (Ty.int IntKind.i64) false :: TB.arr (Ty.int IntKind.i64) false :: ([] : List TB)) :: ([] : List LSh)

def sclM (p k : Int) (m : MatD) : MatD := (mulR p k m.1, mulR p k m.2.1, mulR p k m.2.2.1, ())
noncomputable def fstL (p : Int) (m : MatD) : Nat → Int → MatD
  | 0, _ => m
  | c + 1, k => if isMapF p (sclM p k m) = true then sclM p k m else fstL p m c (k + 1)
noncomputable def con98m : Con := mkC 98 [.d I64, .d Mat] [Mat] (fun (p : Int) (m : MatD) => [isP p, inM p m]) (fun (p : Int) (m : MatD) => (fstL p m (p - 1).toNat 1, ()))
noncomputable def g98m_l0 (x0 : Int) (d2 : Int × List Int × List Int × Unit) (d3 d4 : Int × List Int × List Int × List Int × Unit) : Option (Lp (Int × List Int × List Int × List Int × Unit) (Lp (Int × List Int × List Int × List Int × Unit) (Lp (Int × List Int × List Int × Unit) (((Int × Int × Int × Unit) × (Int × Int × Int × Unit) × (Int × Int × Int × Unit) × Unit) × Unit)))) := bif ilt d4.1 (3 : Int) then gd ((0 : Int) ≤ d3.1 ∧ d3.1 < (3 : Int)) (gd ((0 : Int) ≤ d4.1 ∧ d4.1 < (3 : Int)) (gd ((0 : Nat) + Int.toNat d3.1 * (3 : Nat) + Int.toNat d4.1 * (1 : Nat) < List.length d4.2.1) (gd (x0 ≠ (0 : Int)) (gd ((0 : Int) ≤ d3.1 ∧ d3.1 < (3 : Int)) (gd ((0 : Int) ≤ d4.1 ∧ d4.1 < (3 : Int)) (gd ((0 : Nat) + Int.toNat d3.1 * (3 : Nat) + Int.toNat d4.1 * (1 : Nat) < List.length d4.2.2.2.1) (some (Lp.go ((wr IntKind.i64 (d4.1 + (1 : Int)), d4.2.1, d4.2.2.1, List.set d4.2.2.2.1 ((0 : Nat) + Int.toNat d3.1 * (3 : Nat) + Int.toNat d4.1 * (1 : Nat)) (Int.tmod (wr IntKind.i64 (d2.1 * List.getD d4.2.1 ((0 : Nat) + Int.toNat d3.1 * (3 : Nat) + Int.toNat d4.1 * (1 : Nat)) (0 : Int))) x0), ()) : Int × List Int × List Int × List Int × Unit))))))))) else some (Lp.out (Lp.go ((wr IntKind.i64 (d3.1 + (1 : Int)), d4.2.1, d4.2.2.1, d4.2.2.2.1, ()) : Int × List Int × List Int × List Int × Unit)))
noncomputable def g98m_l1 (x0 : Int) (d2 : Int × List Int × List Int × Unit) (d3 : Int × List Int × List Int × List Int × Unit) : Option (Lp (Int × List Int × List Int × List Int × Unit) (Lp (Int × List Int × List Int × Unit) (((Int × Int × Int × Unit) × (Int × Int × Int × Unit) × (Int × Int × Int × Unit) × Unit) × Unit))) := bif ilt d3.1 (3 : Int) then whileO (g98m_l0 x0 d2 d3) (((0 : Int), d3.2.1, d3.2.2.1, d3.2.2.2.1, ()) : Int × List Int × List Int × List Int × Unit) else gd ((9 : Nat) ≤ List.length d3.2.2.2.1) (gd (isP x0) (bif isMapF x0 ((((List.getD d3.2.2.2.1 (0 : Nat) (0 : Int), List.getD d3.2.2.2.1 (1 : Nat) (0 : Int), List.getD d3.2.2.2.1 (2 : Nat) (0 : Int), ()) : Int × Int × Int × Unit), ((List.getD d3.2.2.2.1 (3 : Nat) (0 : Int), List.getD d3.2.2.2.1 (4 : Nat) (0 : Int), List.getD d3.2.2.2.1 (5 : Nat) (0 : Int), ()) : Int × Int × Int × Unit), ((List.getD d3.2.2.2.1 (6 : Nat) (0 : Int), List.getD d3.2.2.2.1 (7 : Nat) (0 : Int), List.getD d3.2.2.2.1 (8 : Nat) (0 : Int), ()) : Int × Int × Int × Unit), ()) : (Int × Int × Int × Unit) × (Int × Int × Int × Unit) × (Int × Int × Int × Unit) × Unit) then gd ((9 : Nat) ≤ List.length d3.2.2.2.1) (gd ((9 : Nat) ≤ List.length d3.2.2.1) (gd ((9 : Nat) ≤ List.length (setMany d3.2.2.1 (0 : Nat) (List.getD d3.2.2.2.1 (0 : Nat) (0 : Int) :: List.getD d3.2.2.2.1 (1 : Nat) (0 : Int) :: List.getD d3.2.2.2.1 (2 : Nat) (0 : Int) :: List.getD d3.2.2.2.1 (3 : Nat) (0 : Int) :: List.getD d3.2.2.2.1 (4 : Nat) (0 : Int) :: List.getD d3.2.2.2.1 (5 : Nat) (0 : Int) :: List.getD d3.2.2.2.1 (6 : Nat) (0 : Int) :: List.getD d3.2.2.2.1 (7 : Nat) (0 : Int) :: List.getD d3.2.2.2.1 (8 : Nat) (0 : Int) :: ([] : List Int)))) (some (Lp.out (Lp.out ((((((List.getD (setMany d3.2.2.1 (0 : Nat) (List.getD d3.2.2.2.1 (0 : Nat) (0 : Int) :: List.getD d3.2.2.2.1 (1 : Nat) (0 : Int) :: List.getD d3.2.2.2.1 (2 : Nat) (0 : Int) :: List.getD d3.2.2.2.1 (3 : Nat) (0 : Int) :: List.getD d3.2.2.2.1 (4 : Nat) (0 : Int) :: List.getD d3.2.2.2.1 (5 : Nat) (0 : Int) :: List.getD d3.2.2.2.1 (6 : Nat) (0 : Int) :: List.getD d3.2.2.2.1 (7 : Nat) (0 : Int) :: List.getD d3.2.2.2.1 (8 : Nat) (0 : Int) :: ([] : List Int))) (0 : Nat) (0 : Int), List.getD (setMany d3.2.2.1 (0 : Nat) (List.getD d3.2.2.2.1 (0 : Nat) (0 : Int) :: List.getD d3.2.2.2.1 (1 : Nat) (0 : Int) :: List.getD d3.2.2.2.1 (2 : Nat) (0 : Int) :: List.getD d3.2.2.2.1 (3 : Nat) (0 : Int) :: List.getD d3.2.2.2.1 (4 : Nat) (0 : Int) :: List.getD d3.2.2.2.1 (5 : Nat) (0 : Int) :: List.getD d3.2.2.2.1 (6 : Nat) (0 : Int) :: List.getD d3.2.2.2.1 (7 : Nat) (0 : Int) :: List.getD d3.2.2.2.1 (8 : Nat) (0 : Int) :: ([] : List Int))) (1 : Nat) (0 : Int), List.getD (setMany d3.2.2.1 (0 : Nat) (List.getD d3.2.2.2.1 (0 : Nat) (0 : Int) :: List.getD d3.2.2.2.1 (1 : Nat) (0 : Int) :: List.getD d3.2.2.2.1 (2 : Nat) (0 : Int) :: List.getD d3.2.2.2.1 (3 : Nat) (0 : Int) :: List.getD d3.2.2.2.1 (4 : Nat) (0 : Int) :: List.getD d3.2.2.2.1 (5 : Nat) (0 : Int) :: List.getD d3.2.2.2.1 (6 : Nat) (0 : Int) :: List.getD d3.2.2.2.1 (7 : Nat) (0 : Int) :: List.getD d3.2.2.2.1 (8 : Nat) (0 : Int) :: ([] : List Int))) (2 : Nat) (0 : Int), ()) : Int × Int × Int × Unit), ((List.getD (setMany d3.2.2.1 (0 : Nat) (List.getD d3.2.2.2.1 (0 : Nat) (0 : Int) :: List.getD d3.2.2.2.1 (1 : Nat) (0 : Int) :: List.getD d3.2.2.2.1 (2 : Nat) (0 : Int) :: List.getD d3.2.2.2.1 (3 : Nat) (0 : Int) :: List.getD d3.2.2.2.1 (4 : Nat) (0 : Int) :: List.getD d3.2.2.2.1 (5 : Nat) (0 : Int) :: List.getD d3.2.2.2.1 (6 : Nat) (0 : Int) :: List.getD d3.2.2.2.1 (7 : Nat) (0 : Int) :: List.getD d3.2.2.2.1 (8 : Nat) (0 : Int) :: ([] : List Int))) (3 : Nat) (0 : Int), List.getD (setMany d3.2.2.1 (0 : Nat) (List.getD d3.2.2.2.1 (0 : Nat) (0 : Int) :: List.getD d3.2.2.2.1 (1 : Nat) (0 : Int) :: List.getD d3.2.2.2.1 (2 : Nat) (0 : Int) :: List.getD d3.2.2.2.1 (3 : Nat) (0 : Int) :: List.getD d3.2.2.2.1 (4 : Nat) (0 : Int) :: List.getD d3.2.2.2.1 (5 : Nat) (0 : Int) :: List.getD d3.2.2.2.1 (6 : Nat) (0 : Int) :: List.getD d3.2.2.2.1 (7 : Nat) (0 : Int) :: List.getD d3.2.2.2.1 (8 : Nat) (0 : Int) :: ([] : List Int))) (4 : Nat) (0 : Int), List.getD (setMany d3.2.2.1 (0 : Nat) (List.getD d3.2.2.2.1 (0 : Nat) (0 : Int) :: List.getD d3.2.2.2.1 (1 : Nat) (0 : Int) :: List.getD d3.2.2.2.1 (2 : Nat) (0 : Int) :: List.getD d3.2.2.2.1 (3 : Nat) (0 : Int) :: List.getD d3.2.2.2.1 (4 : Nat) (0 : Int) :: List.getD d3.2.2.2.1 (5 : Nat) (0 : Int) :: List.getD d3.2.2.2.1 (6 : Nat) (0 : Int) :: List.getD d3.2.2.2.1 (7 : Nat) (0 : Int) :: List.getD d3.2.2.2.1 (8 : Nat) (0 : Int) :: ([] : List Int))) (5 : Nat) (0 : Int), ()) : Int × Int × Int × Unit), ((List.getD (setMany d3.2.2.1 (0 : Nat) (List.getD d3.2.2.2.1 (0 : Nat) (0 : Int) :: List.getD d3.2.2.2.1 (1 : Nat) (0 : Int) :: List.getD d3.2.2.2.1 (2 : Nat) (0 : Int) :: List.getD d3.2.2.2.1 (3 : Nat) (0 : Int) :: List.getD d3.2.2.2.1 (4 : Nat) (0 : Int) :: List.getD d3.2.2.2.1 (5 : Nat) (0 : Int) :: List.getD d3.2.2.2.1 (6 : Nat) (0 : Int) :: List.getD d3.2.2.2.1 (7 : Nat) (0 : Int) :: List.getD d3.2.2.2.1 (8 : Nat) (0 : Int) :: ([] : List Int))) (6 : Nat) (0 : Int), List.getD (setMany d3.2.2.1 (0 : Nat) (List.getD d3.2.2.2.1 (0 : Nat) (0 : Int) :: List.getD d3.2.2.2.1 (1 : Nat) (0 : Int) :: List.getD d3.2.2.2.1 (2 : Nat) (0 : Int) :: List.getD d3.2.2.2.1 (3 : Nat) (0 : Int) :: List.getD d3.2.2.2.1 (4 : Nat) (0 : Int) :: List.getD d3.2.2.2.1 (5 : Nat) (0 : Int) :: List.getD d3.2.2.2.1 (6 : Nat) (0 : Int) :: List.getD d3.2.2.2.1 (7 : Nat) (0 : Int) :: List.getD d3.2.2.2.1 (8 : Nat) (0 : Int) :: ([] : List Int))) (7 : Nat) (0 : Int), List.getD (setMany d3.2.2.1 (0 : Nat) (List.getD d3.2.2.2.1 (0 : Nat) (0 : Int) :: List.getD d3.2.2.2.1 (1 : Nat) (0 : Int) :: List.getD d3.2.2.2.1 (2 : Nat) (0 : Int) :: List.getD d3.2.2.2.1 (3 : Nat) (0 : Int) :: List.getD d3.2.2.2.1 (4 : Nat) (0 : Int) :: List.getD d3.2.2.2.1 (5 : Nat) (0 : Int) :: List.getD d3.2.2.2.1 (6 : Nat) (0 : Int) :: List.getD d3.2.2.2.1 (7 : Nat) (0 : Int) :: List.getD d3.2.2.2.1 (8 : Nat) (0 : Int) :: ([] : List Int))) (8 : Nat) (0 : Int), ()) : Int × Int × Int × Unit), ()) : (Int × Int × Int × Unit) × (Int × Int × Int × Unit) × (Int × Int × Int × Unit) × Unit), ()) : ((Int × Int × Int × Unit) × (Int × Int × Int × Unit) × (Int × Int × Int × Unit) × Unit) × Unit)))))) else some (Lp.out (Lp.go ((wr IntKind.i64 (d2.1 + (1 : Int)), d3.2.1, d3.2.2.1, ()) : Int × List Int × List Int × Unit)))))
noncomputable def g98m (x0 : Int) (x1 : (Int × Int × Int × Unit) × (Int × Int × Int × Unit) × (Int × Int × Int × Unit) × Unit) : Option (((Int × Int × Int × Unit) × (Int × Int × Int × Unit) × (Int × Int × Int × Unit) × Unit) × Unit) := whileO (fun (d2 : Int × List Int × List Int × Unit) => bif ilt d2.1 x0 then whileO (g98m_l1 x0 d2) (((0 : Int), d2.2.1, d2.2.2.1, (0 : Int) :: (0 : Int) :: (0 : Int) :: (0 : Int) :: (0 : Int) :: (0 : Int) :: (0 : Int) :: (0 : Int) :: (0 : Int) :: ([] : List Int), ()) : Int × List Int × List Int × List Int × Unit) else gd ((9 : Nat) ≤ List.length d2.2.1) (gd ((9 : Nat) ≤ List.length d2.2.2.1) (gd ((9 : Nat) ≤ List.length (setMany d2.2.2.1 (0 : Nat) (List.getD d2.2.1 (0 : Nat) (0 : Int) :: List.getD d2.2.1 (1 : Nat) (0 : Int) :: List.getD d2.2.1 (2 : Nat) (0 : Int) :: List.getD d2.2.1 (3 : Nat) (0 : Int) :: List.getD d2.2.1 (4 : Nat) (0 : Int) :: List.getD d2.2.1 (5 : Nat) (0 : Int) :: List.getD d2.2.1 (6 : Nat) (0 : Int) :: List.getD d2.2.1 (7 : Nat) (0 : Int) :: List.getD d2.2.1 (8 : Nat) (0 : Int) :: ([] : List Int)))) (some (Lp.out ((((((List.getD (setMany d2.2.2.1 (0 : Nat) (List.getD d2.2.1 (0 : Nat) (0 : Int) :: List.getD d2.2.1 (1 : Nat) (0 : Int) :: List.getD d2.2.1 (2 : Nat) (0 : Int) :: List.getD d2.2.1 (3 : Nat) (0 : Int) :: List.getD d2.2.1 (4 : Nat) (0 : Int) :: List.getD d2.2.1 (5 : Nat) (0 : Int) :: List.getD d2.2.1 (6 : Nat) (0 : Int) :: List.getD d2.2.1 (7 : Nat) (0 : Int) :: List.getD d2.2.1 (8 : Nat) (0 : Int) :: ([] : List Int))) (0 : Nat) (0 : Int), List.getD (setMany d2.2.2.1 (0 : Nat) (List.getD d2.2.1 (0 : Nat) (0 : Int) :: List.getD d2.2.1 (1 : Nat) (0 : Int) :: List.getD d2.2.1 (2 : Nat) (0 : Int) :: List.getD d2.2.1 (3 : Nat) (0 : Int) :: List.getD d2.2.1 (4 : Nat) (0 : Int) :: List.getD d2.2.1 (5 : Nat) (0 : Int) :: List.getD d2.2.1 (6 : Nat) (0 : Int) :: List.getD d2.2.1 (7 : Nat) (0 : Int) :: List.getD d2.2.1 (8 : Nat) (0 : Int) :: ([] : List Int))) (1 : Nat) (0 : Int), List.getD (setMany d2.2.2.1 (0 : Nat) (List.getD d2.2.1 (0 : Nat) (0 : Int) :: List.getD d2.2.1 (1 : Nat) (0 : Int) :: List.getD d2.2.1 (2 : Nat) (0 : Int) :: List.getD d2.2.1 (3 : Nat) (0 : Int) :: List.getD d2.2.1 (4 : Nat) (0 : Int) :: List.getD d2.2.1 (5 : Nat) (0 : Int) :: List.getD d2.2.1 (6 : Nat) (0 : Int) :: List.getD d2.2.1 (7 : Nat) (0 : Int) :: List.getD d2.2.1 (8 : Nat) (0 : Int) :: ([] : List Int))) (2 : Nat) (0 : Int), ()) : Int × Int × Int × Unit), ((List.getD (setMany d2.2.2.1 (0 : Nat) (List.getD d2.2.1 (0 : Nat) (0 : Int) :: List.getD d2.2.1 (1 : Nat) (0 : Int) :: List.getD d2.2.1 (2 : Nat) (0 : Int) :: List.getD d2.2.1 (3 : Nat) (0 : Int) :: List.getD d2.2.1 (4 : Nat) (0 : Int) :: List.getD d2.2.1 (5 : Nat) (0 : Int) :: List.getD d2.2.1 (6 : Nat) (0 : Int) :: List.getD d2.2.1 (7 : Nat) (0 : Int) :: List.getD d2.2.1 (8 : Nat) (0 : Int) :: ([] : List Int))) (3 : Nat) (0 : Int), List.getD (setMany d2.2.2.1 (0 : Nat) (List.getD d2.2.1 (0 : Nat) (0 : Int) :: List.getD d2.2.1 (1 : Nat) (0 : Int) :: List.getD d2.2.1 (2 : Nat) (0 : Int) :: List.getD d2.2.1 (3 : Nat) (0 : Int) :: List.getD d2.2.1 (4 : Nat) (0 : Int) :: List.getD d2.2.1 (5 : Nat) (0 : Int) :: List.getD d2.2.1 (6 : Nat) (0 : Int) :: List.getD d2.2.1 (7 : Nat) (0 : Int) :: List.getD d2.2.1 (8 : Nat) (0 : Int) :: ([] : List Int))) (4 : Nat) (0 : Int), List.getD (setMany d2.2.2.1 (0 : Nat) (List.getD d2.2.1 (0 : Nat) (0 : Int) :: List.getD d2.2.1 (1 : Nat) (0 : Int) :: List.getD d2.2.1 (2 : Nat) (0 : Int) :: List.getD d2.2.1 (3 : Nat) (0 : Int) :: List.getD d2.2.1 (4 : Nat) (0 : Int) :: List.getD d2.2.1 (5 : Nat) (0 : Int) :: List.getD d2.2.1 (6 : Nat) (0 : Int) :: List.getD d2.2.1 (7 : Nat) (0 : Int) :: List.getD d2.2.1 (8 : Nat) (0 : Int) :: ([] : List Int))) (5 : Nat) (0 : Int), ()) : Int × Int × Int × Unit), ((List.getD (setMany d2.2.2.1 (0 : Nat) (List.getD d2.2.1 (0 : Nat) (0 : Int) :: List.getD d2.2.1 (1 : Nat) (0 : Int) :: List.getD d2.2.1 (2 : Nat) (0 : Int) :: List.getD d2.2.1 (3 : Nat) (0 : Int) :: List.getD d2.2.1 (4 : Nat) (0 : Int) :: List.getD d2.2.1 (5 : Nat) (0 : Int) :: List.getD d2.2.1 (6 : Nat) (0 : Int) :: List.getD d2.2.1 (7 : Nat) (0 : Int) :: List.getD d2.2.1 (8 : Nat) (0 : Int) :: ([] : List Int))) (6 : Nat) (0 : Int), List.getD (setMany d2.2.2.1 (0 : Nat) (List.getD d2.2.1 (0 : Nat) (0 : Int) :: List.getD d2.2.1 (1 : Nat) (0 : Int) :: List.getD d2.2.1 (2 : Nat) (0 : Int) :: List.getD d2.2.1 (3 : Nat) (0 : Int) :: List.getD d2.2.1 (4 : Nat) (0 : Int) :: List.getD d2.2.1 (5 : Nat) (0 : Int) :: List.getD d2.2.1 (6 : Nat) (0 : Int) :: List.getD d2.2.1 (7 : Nat) (0 : Int) :: List.getD d2.2.1 (8 : Nat) (0 : Int) :: ([] : List Int))) (7 : Nat) (0 : Int), List.getD (setMany d2.2.2.1 (0 : Nat) (List.getD d2.2.1 (0 : Nat) (0 : Int) :: List.getD d2.2.1 (1 : Nat) (0 : Int) :: List.getD d2.2.1 (2 : Nat) (0 : Int) :: List.getD d2.2.1 (3 : Nat) (0 : Int) :: List.getD d2.2.1 (4 : Nat) (0 : Int) :: List.getD d2.2.1 (5 : Nat) (0 : Int) :: List.getD d2.2.1 (6 : Nat) (0 : Int) :: List.getD d2.2.1 (7 : Nat) (0 : Int) :: List.getD d2.2.1 (8 : Nat) (0 : Int) :: ([] : List Int))) (8 : Nat) (0 : Int), ()) : Int × Int × Int × Unit), ()) : (Int × Int × Int × Unit) × (Int × Int × Int × Unit) × (Int × Int × Int × Unit) × Unit), ()) : ((Int × Int × Int × Unit) × (Int × Int × Int × Unit) × (Int × Int × Int × Unit) × Unit) × Unit)))))) (((1 : Int), x1.1.1 :: x1.1.2.1 :: x1.1.2.2.1 :: x1.2.1.1 :: x1.2.1.2.1 :: x1.2.1.2.2.1 :: x1.2.2.1.1 :: x1.2.2.1.2.1 :: x1.2.2.1.2.2.1 :: ([] : List Int), (0 : Int) :: (0 : Int) :: (0 : Int) :: (0 : Int) :: (0 : Int) :: (0 : Int) :: (0 : Int) :: (0 : Int) :: (0 : Int) :: ([] : List Int), ()) : Int × List Int × List Int × Unit)
noncomputable def g98m_sh : List LSh := LSh.mk (((3, TV.ref (0) (1 : Nat) (0 : Nat) (0 : Nat)) : Nat × TV) :: ((4, TV.ref (1) (1 : Nat) (0 : Nat) (0 : Nat)) : Nat × TV) :: ((5, TV.v (Ty.int IntKind.i64)) : Nat × TV) :: ([] : List (Nat × TV))) (TB.arr (Ty.int IntKind.i64) false :: TB.arr (Ty.int IntKind.i64) false :: ([] : List TB)) :: LSh.mk (((3, TV.ref (0) (1 : Nat) (0 : Nat) (0 : Nat)) : Nat × TV) :: ((4, TV.ref (1) (1 : Nat) (0 : Nat) (0 : Nat)) : Nat × TV) :: ((6, TV.ref (2) (1 : Nat) (0 : Nat) (0 : Nat)) : Nat × TV) :: ((14, TV.v (Ty.int IntKind.i64)) : Nat × TV) :: ([] : List (Nat × TV))) (TB.arr (Ty.int IntKind.i64) false :: TB.arr (Ty.int IntKind.i64) false :: TB.arr (Ty.int IntKind.i64) false :: ([] : List TB)) :: LSh.mk (((3, TV.ref (0) (1 : Nat) (0 : Nat) (0 : Nat)) : Nat × TV) :: ((4, TV.ref (1) (1 : Nat) (0 : Nat) (0 : Nat)) : Nat × TV) :: ((6, TV.ref (2) (1 : Nat) (0 : Nat) (0 : Nat)) : Nat × TV) :: ((17, TV.v (Ty.int IntKind.i64)) : Nat × TV) :: ([] : List (Nat × TV))) (TB.arr (Ty.int IntKind.i64) false :: TB.arr (Ty.int IntKind.i64) false :: TB.arr (Ty.int IntKind.i64) false :: ([] : List TB)) :: ([] : List LSh)
def sclT (k : Int) (x : TripD) : TripD := (k * x.1, k * x.2.1, k * x.2.2.1, ())
def dotE (p : Int) (r : TripD) (a b c : Int) : Int := (r.1 * a + r.2.1 * b + r.2.2.1 * c) % p
def rowE (p : Int) (r : TripD) (m : MatD) : TripD := (dotE p r m.1.1 m.2.1.1 m.2.2.1.1, dotE p r m.1.2.1 m.2.1.2.1 m.2.2.1.2.1, dotE p r m.1.2.2.1 m.2.1.2.2.1 m.2.2.1.2.2.1, ())
def mulE (p : Int) (t m : MatD) : MatD := (rowE p t.1 m, rowE p t.2.1 m, rowE p t.2.2.1 m, ())
noncomputable def candM (p : Int) (a b : QuadD) (k n : Int) : MatD := mulE p (colsF (pt p b.1) (sclT k (pt p b.2.1)) (sclT n (pt p b.2.2.1))) (invM p (colsF (pt p a.1) (pt p a.2.1) (pt p a.2.2.1)))
noncomputable def candQ (p : Int) (a b : QuadD) (k n : Int) : Bool := ieq (nmR p (timR (candM p a b k n) (pt p a.2.2.2.1))) b.2.2.2.1
noncomputable def frmN (p : Int) (a b : QuadD) (k : Int) : Nat → Int → Option MatD
  | 0, _ => none
  | c + 1, n => if candQ p a b k n = true then some (fstL p (candM p a b k n) (p - 1).toNat 1) else frmN p a b k c (n + 1)
noncomputable def frmK (p : Int) (a b : QuadD) : Nat → Int → Option MatD
  | 0, _ => none
  | c + 1, k => match frmN p a b k (p - 1).toNat 1 with | some m => some m | none => frmK p a b c (k + 1)
noncomputable def frmR (p : Int) (a b : QuadD) : MatD := (frmK p a b (p - 1).toNat 1).getD zM
noncomputable def con53 : Con := mkC 53 [.d I64, .d Quad, .d Quad] [Mat] (fun (p : Int) (a b : QuadD) => [isP p, allIn p a, allIn p b]) (fun (p : Int) (a b : QuadD) => (frmR p a b, ()))
noncomputable def g53_l0 (x0 : Int) (d6 d7 : Int × List Int × List Int × List Int × List Int × List Int × List Int × Unit) : Option (Lp (Int × List Int × List Int × List Int × List Int × List Int × List Int × Unit) (Lp (Int × List Int × List Int × List Int × List Int × List Int × List Int × Unit) (Lp (Int × List Int × List Int × List Int × List Int × List Int × List Int × Unit) (Lp (Int × List Int × List Int × List Int × List Int × Unit) (Lp (Int × List Int × List Int × List Int × List Int × Unit) (((Int × Int × Int × Unit) × (Int × Int × Int × Unit) × (Int × Int × Int × Unit) × Unit) × Unit)))))) := bif ilt d7.1 (3 : Int) then gd ((0 : Int) ≤ d6.1 ∧ d6.1 < (3 : Int)) (gd ((0 : Nat) + Int.toNat d6.1 * (3 : Nat) + (0 : Nat) < List.length d7.2.2.2.2.2.1) (gd ((0 : Int) ≤ d7.1 ∧ d7.1 < (3 : Int)) (gd ((0 : Nat) + Int.toNat d7.1 * (1 : Nat) < List.length d7.2.2.2.2.1) (gd ((0 : Int) ≤ d6.1 ∧ d6.1 < (3 : Int)) (gd ((0 : Nat) + Int.toNat d6.1 * (3 : Nat) + (1 : Nat) < List.length d7.2.2.2.2.2.1) (gd ((0 : Int) ≤ d7.1 ∧ d7.1 < (3 : Int)) (gd ((3 : Nat) + Int.toNat d7.1 * (1 : Nat) < List.length d7.2.2.2.2.1) (gd ((0 : Int) ≤ d6.1 ∧ d6.1 < (3 : Int)) (gd ((0 : Nat) + Int.toNat d6.1 * (3 : Nat) + (2 : Nat) < List.length d7.2.2.2.2.2.1) (gd ((0 : Int) ≤ d7.1 ∧ d7.1 < (3 : Int)) (gd ((6 : Nat) + Int.toNat d7.1 * (1 : Nat) < List.length d7.2.2.2.2.1) (gd (x0 ≠ (0 : Int)) (gd ((0 : Int) ≤ d6.1 ∧ d6.1 < (3 : Int)) (gd ((0 : Int) ≤ d7.1 ∧ d7.1 < (3 : Int)) (gd ((0 : Nat) + Int.toNat d6.1 * (3 : Nat) + Int.toNat d7.1 * (1 : Nat) < List.length d7.2.2.2.2.2.2.1) (some (Lp.go ((wr IntKind.i64 (d7.1 + (1 : Int)), d7.2.1, d7.2.2.1, d7.2.2.2.1, d7.2.2.2.2.1, d7.2.2.2.2.2.1, List.set d7.2.2.2.2.2.2.1 ((0 : Nat) + Int.toNat d6.1 * (3 : Nat) + Int.toNat d7.1 * (1 : Nat)) (Int.tmod (wr IntKind.i64 (wr IntKind.i64 (wr IntKind.i64 (List.getD d7.2.2.2.2.2.1 ((0 : Nat) + Int.toNat d6.1 * (3 : Nat) + (0 : Nat)) (0 : Int) * List.getD d7.2.2.2.2.1 ((0 : Nat) + Int.toNat d7.1 * (1 : Nat)) (0 : Int)) + wr IntKind.i64 (List.getD d7.2.2.2.2.2.1 ((0 : Nat) + Int.toNat d6.1 * (3 : Nat) + (1 : Nat)) (0 : Int) * List.getD d7.2.2.2.2.1 ((3 : Nat) + Int.toNat d7.1 * (1 : Nat)) (0 : Int))) + wr IntKind.i64 (List.getD d7.2.2.2.2.2.1 ((0 : Nat) + Int.toNat d6.1 * (3 : Nat) + (2 : Nat)) (0 : Int) * List.getD d7.2.2.2.2.1 ((6 : Nat) + Int.toNat d7.1 * (1 : Nat)) (0 : Int)))) x0), ()) : Int × List Int × List Int × List Int × List Int × List Int × List Int × Unit)))))))))))))))))) else some (Lp.out (Lp.go ((wr IntKind.i64 (d6.1 + (1 : Int)), d7.2.1, d7.2.2.1, d7.2.2.2.1, d7.2.2.2.2.1, d7.2.2.2.2.2.1, d7.2.2.2.2.2.2.1, ()) : Int × List Int × List Int × List Int × List Int × List Int × List Int × Unit)))
noncomputable def g53_l1 (x0 : Int) (d4 : Int × List Int × List Int × List Int × List Int × Unit) (d6 : Int × List Int × List Int × List Int × List Int × List Int × List Int × Unit) : Option (Lp (Int × List Int × List Int × List Int × List Int × List Int × List Int × Unit) (Lp (Int × List Int × List Int × List Int × List Int × List Int × List Int × Unit) (Lp (Int × List Int × List Int × List Int × List Int × Unit) (Lp (Int × List Int × List Int × List Int × List Int × Unit) (((Int × Int × Int × Unit) × (Int × Int × Int × Unit) × (Int × Int × Int × Unit) × Unit) × Unit))))) := bif ilt d6.1 (3 : Int) then whileO (g53_l0 x0 d6) (((0 : Int), d6.2.1, d6.2.2.1, d6.2.2.2.1, d6.2.2.2.2.1, d6.2.2.2.2.2.1, d6.2.2.2.2.2.2.1, ()) : Int × List Int × List Int × List Int × List Int × List Int × List Int × Unit) else gd ((9 : Nat) ≤ List.length d6.2.2.2.2.2.2.1) (gd ((3 : Nat) < List.length d6.2.1) (gd ((0 : Int) ≤ List.getD d6.2.1 (3 : Nat) (0 : Int) ∧ List.getD d6.2.1 (3 : Nat) (0 : Int) < (↑(List.length (ptsC x0)) : Int)) (gd (inM (7 : Int) ((((List.getD d6.2.2.2.2.2.2.1 (0 : Nat) (0 : Int), List.getD d6.2.2.2.2.2.2.1 (1 : Nat) (0 : Int), List.getD d6.2.2.2.2.2.2.1 (2 : Nat) (0 : Int), ()) : Int × Int × Int × Unit), ((List.getD d6.2.2.2.2.2.2.1 (3 : Nat) (0 : Int), List.getD d6.2.2.2.2.2.2.1 (4 : Nat) (0 : Int), List.getD d6.2.2.2.2.2.2.1 (5 : Nat) (0 : Int), ()) : Int × Int × Int × Unit), ((List.getD d6.2.2.2.2.2.2.1 (6 : Nat) (0 : Int), List.getD d6.2.2.2.2.2.2.1 (7 : Nat) (0 : Int), List.getD d6.2.2.2.2.2.2.1 (8 : Nat) (0 : Int), ()) : Int × Int × Int × Unit), ()) : (Int × Int × Int × Unit) × (Int × Int × Int × Unit) × (Int × Int × Int × Unit) × Unit)) (gd (((0 : Int) ≤ (List.getD (ptsC x0) (Int.toNat (List.getD d6.2.1 (3 : Nat) (0 : Int))) (((0 : Int), (0 : Int), (0 : Int), ()) : Int × Int × Int × Unit)).1 ∧ (List.getD (ptsC x0) (Int.toNat (List.getD d6.2.1 (3 : Nat) (0 : Int))) (((0 : Int), (0 : Int), (0 : Int), ()) : Int × Int × Int × Unit)).1 < (7 : Int)) ∧ ((0 : Int) ≤ (List.getD (ptsC x0) (Int.toNat (List.getD d6.2.1 (3 : Nat) (0 : Int))) (((0 : Int), (0 : Int), (0 : Int), ()) : Int × Int × Int × Unit)).2.1 ∧ (List.getD (ptsC x0) (Int.toNat (List.getD d6.2.1 (3 : Nat) (0 : Int))) (((0 : Int), (0 : Int), (0 : Int), ()) : Int × Int × Int × Unit)).2.1 < (7 : Int)) ∧ (0 : Int) ≤ (List.getD (ptsC x0) (Int.toNat (List.getD d6.2.1 (3 : Nat) (0 : Int))) (((0 : Int), (0 : Int), (0 : Int), ()) : Int × Int × Int × Unit)).2.2.1 ∧ (List.getD (ptsC x0) (Int.toNat (List.getD d6.2.1 (3 : Nat) (0 : Int))) (((0 : Int), (0 : Int), (0 : Int), ()) : Int × Int × Int × Unit)).2.2.1 < (7 : Int)) (gd (isP x0) (gd (bdT (timR ((((List.getD d6.2.2.2.2.2.2.1 (0 : Nat) (0 : Int), List.getD d6.2.2.2.2.2.2.1 (1 : Nat) (0 : Int), List.getD d6.2.2.2.2.2.2.1 (2 : Nat) (0 : Int), ()) : Int × Int × Int × Unit), ((List.getD d6.2.2.2.2.2.2.1 (3 : Nat) (0 : Int), List.getD d6.2.2.2.2.2.2.1 (4 : Nat) (0 : Int), List.getD d6.2.2.2.2.2.2.1 (5 : Nat) (0 : Int), ()) : Int × Int × Int × Unit), ((List.getD d6.2.2.2.2.2.2.1 (6 : Nat) (0 : Int), List.getD d6.2.2.2.2.2.2.1 (7 : Nat) (0 : Int), List.getD d6.2.2.2.2.2.2.1 (8 : Nat) (0 : Int), ()) : Int × Int × Int × Unit), ()) : (Int × Int × Int × Unit) × (Int × Int × Int × Unit) × (Int × Int × Int × Unit) × Unit) (List.getD (ptsC x0) (Int.toNat (List.getD d6.2.1 (3 : Nat) (0 : Int))) (((0 : Int), (0 : Int), (0 : Int), ()) : Int × Int × Int × Unit)))) (gd ((3 : Nat) < List.length d6.2.2.1) (bif ieq (nmR x0 (timR ((((List.getD d6.2.2.2.2.2.2.1 (0 : Nat) (0 : Int), List.getD d6.2.2.2.2.2.2.1 (1 : Nat) (0 : Int), List.getD d6.2.2.2.2.2.2.1 (2 : Nat) (0 : Int), ()) : Int × Int × Int × Unit), ((List.getD d6.2.2.2.2.2.2.1 (3 : Nat) (0 : Int), List.getD d6.2.2.2.2.2.2.1 (4 : Nat) (0 : Int), List.getD d6.2.2.2.2.2.2.1 (5 : Nat) (0 : Int), ()) : Int × Int × Int × Unit), ((List.getD d6.2.2.2.2.2.2.1 (6 : Nat) (0 : Int), List.getD d6.2.2.2.2.2.2.1 (7 : Nat) (0 : Int), List.getD d6.2.2.2.2.2.2.1 (8 : Nat) (0 : Int), ()) : Int × Int × Int × Unit), ()) : (Int × Int × Int × Unit) × (Int × Int × Int × Unit) × (Int × Int × Int × Unit) × Unit) (List.getD (ptsC x0) (Int.toNat (List.getD d6.2.1 (3 : Nat) (0 : Int))) (((0 : Int), (0 : Int), (0 : Int), ()) : Int × Int × Int × Unit)))) (List.getD d6.2.2.1 (3 : Nat) (0 : Int)) then gd ((9 : Nat) ≤ List.length d6.2.2.2.2.2.2.1) (gd (isP x0) (gd (inM x0 ((((List.getD d6.2.2.2.2.2.2.1 (0 : Nat) (0 : Int), List.getD d6.2.2.2.2.2.2.1 (1 : Nat) (0 : Int), List.getD d6.2.2.2.2.2.2.1 (2 : Nat) (0 : Int), ()) : Int × Int × Int × Unit), ((List.getD d6.2.2.2.2.2.2.1 (3 : Nat) (0 : Int), List.getD d6.2.2.2.2.2.2.1 (4 : Nat) (0 : Int), List.getD d6.2.2.2.2.2.2.1 (5 : Nat) (0 : Int), ()) : Int × Int × Int × Unit), ((List.getD d6.2.2.2.2.2.2.1 (6 : Nat) (0 : Int), List.getD d6.2.2.2.2.2.2.1 (7 : Nat) (0 : Int), List.getD d6.2.2.2.2.2.2.1 (8 : Nat) (0 : Int), ()) : Int × Int × Int × Unit), ()) : (Int × Int × Int × Unit) × (Int × Int × Int × Unit) × (Int × Int × Int × Unit) × Unit)) (gd ((9 : Nat) ≤ List.length d6.2.2.2.1) (gd ((9 : Nat) ≤ List.length (setMany d6.2.2.2.1 (0 : Nat) ((fstL x0 ((((List.getD d6.2.2.2.2.2.2.1 (0 : Nat) (0 : Int), List.getD d6.2.2.2.2.2.2.1 (1 : Nat) (0 : Int), List.getD d6.2.2.2.2.2.2.1 (2 : Nat) (0 : Int), ()) : Int × Int × Int × Unit), ((List.getD d6.2.2.2.2.2.2.1 (3 : Nat) (0 : Int), List.getD d6.2.2.2.2.2.2.1 (4 : Nat) (0 : Int), List.getD d6.2.2.2.2.2.2.1 (5 : Nat) (0 : Int), ()) : Int × Int × Int × Unit), ((List.getD d6.2.2.2.2.2.2.1 (6 : Nat) (0 : Int), List.getD d6.2.2.2.2.2.2.1 (7 : Nat) (0 : Int), List.getD d6.2.2.2.2.2.2.1 (8 : Nat) (0 : Int), ()) : Int × Int × Int × Unit), ()) : (Int × Int × Int × Unit) × (Int × Int × Int × Unit) × (Int × Int × Int × Unit) × Unit) (Int.toNat (x0 - (1 : Int))) (1 : Int)).1.1 :: (fstL x0 ((((List.getD d6.2.2.2.2.2.2.1 (0 : Nat) (0 : Int), List.getD d6.2.2.2.2.2.2.1 (1 : Nat) (0 : Int), List.getD d6.2.2.2.2.2.2.1 (2 : Nat) (0 : Int), ()) : Int × Int × Int × Unit), ((List.getD d6.2.2.2.2.2.2.1 (3 : Nat) (0 : Int), List.getD d6.2.2.2.2.2.2.1 (4 : Nat) (0 : Int), List.getD d6.2.2.2.2.2.2.1 (5 : Nat) (0 : Int), ()) : Int × Int × Int × Unit), ((List.getD d6.2.2.2.2.2.2.1 (6 : Nat) (0 : Int), List.getD d6.2.2.2.2.2.2.1 (7 : Nat) (0 : Int), List.getD d6.2.2.2.2.2.2.1 (8 : Nat) (0 : Int), ()) : Int × Int × Int × Unit), ()) : (Int × Int × Int × Unit) × (Int × Int × Int × Unit) × (Int × Int × Int × Unit) × Unit) (Int.toNat (x0 - (1 : Int))) (1 : Int)).1.2.1 :: (fstL x0 ((((List.getD d6.2.2.2.2.2.2.1 (0 : Nat) (0 : Int), List.getD d6.2.2.2.2.2.2.1 (1 : Nat) (0 : Int), List.getD d6.2.2.2.2.2.2.1 (2 : Nat) (0 : Int), ()) : Int × Int × Int × Unit), ((List.getD d6.2.2.2.2.2.2.1 (3 : Nat) (0 : Int), List.getD d6.2.2.2.2.2.2.1 (4 : Nat) (0 : Int), List.getD d6.2.2.2.2.2.2.1 (5 : Nat) (0 : Int), ()) : Int × Int × Int × Unit), ((List.getD d6.2.2.2.2.2.2.1 (6 : Nat) (0 : Int), List.getD d6.2.2.2.2.2.2.1 (7 : Nat) (0 : Int), List.getD d6.2.2.2.2.2.2.1 (8 : Nat) (0 : Int), ()) : Int × Int × Int × Unit), ()) : (Int × Int × Int × Unit) × (Int × Int × Int × Unit) × (Int × Int × Int × Unit) × Unit) (Int.toNat (x0 - (1 : Int))) (1 : Int)).1.2.2.1 :: (fstL x0 ((((List.getD d6.2.2.2.2.2.2.1 (0 : Nat) (0 : Int), List.getD d6.2.2.2.2.2.2.1 (1 : Nat) (0 : Int), List.getD d6.2.2.2.2.2.2.1 (2 : Nat) (0 : Int), ()) : Int × Int × Int × Unit), ((List.getD d6.2.2.2.2.2.2.1 (3 : Nat) (0 : Int), List.getD d6.2.2.2.2.2.2.1 (4 : Nat) (0 : Int), List.getD d6.2.2.2.2.2.2.1 (5 : Nat) (0 : Int), ()) : Int × Int × Int × Unit), ((List.getD d6.2.2.2.2.2.2.1 (6 : Nat) (0 : Int), List.getD d6.2.2.2.2.2.2.1 (7 : Nat) (0 : Int), List.getD d6.2.2.2.2.2.2.1 (8 : Nat) (0 : Int), ()) : Int × Int × Int × Unit), ()) : (Int × Int × Int × Unit) × (Int × Int × Int × Unit) × (Int × Int × Int × Unit) × Unit) (Int.toNat (x0 - (1 : Int))) (1 : Int)).2.1.1 :: (fstL x0 ((((List.getD d6.2.2.2.2.2.2.1 (0 : Nat) (0 : Int), List.getD d6.2.2.2.2.2.2.1 (1 : Nat) (0 : Int), List.getD d6.2.2.2.2.2.2.1 (2 : Nat) (0 : Int), ()) : Int × Int × Int × Unit), ((List.getD d6.2.2.2.2.2.2.1 (3 : Nat) (0 : Int), List.getD d6.2.2.2.2.2.2.1 (4 : Nat) (0 : Int), List.getD d6.2.2.2.2.2.2.1 (5 : Nat) (0 : Int), ()) : Int × Int × Int × Unit), ((List.getD d6.2.2.2.2.2.2.1 (6 : Nat) (0 : Int), List.getD d6.2.2.2.2.2.2.1 (7 : Nat) (0 : Int), List.getD d6.2.2.2.2.2.2.1 (8 : Nat) (0 : Int), ()) : Int × Int × Int × Unit), ()) : (Int × Int × Int × Unit) × (Int × Int × Int × Unit) × (Int × Int × Int × Unit) × Unit) (Int.toNat (x0 - (1 : Int))) (1 : Int)).2.1.2.1 :: (fstL x0 ((((List.getD d6.2.2.2.2.2.2.1 (0 : Nat) (0 : Int), List.getD d6.2.2.2.2.2.2.1 (1 : Nat) (0 : Int), List.getD d6.2.2.2.2.2.2.1 (2 : Nat) (0 : Int), ()) : Int × Int × Int × Unit), ((List.getD d6.2.2.2.2.2.2.1 (3 : Nat) (0 : Int), List.getD d6.2.2.2.2.2.2.1 (4 : Nat) (0 : Int), List.getD d6.2.2.2.2.2.2.1 (5 : Nat) (0 : Int), ()) : Int × Int × Int × Unit), ((List.getD d6.2.2.2.2.2.2.1 (6 : Nat) (0 : Int), List.getD d6.2.2.2.2.2.2.1 (7 : Nat) (0 : Int), List.getD d6.2.2.2.2.2.2.1 (8 : Nat) (0 : Int), ()) : Int × Int × Int × Unit), ()) : (Int × Int × Int × Unit) × (Int × Int × Int × Unit) × (Int × Int × Int × Unit) × Unit) (Int.toNat (x0 - (1 : Int))) (1 : Int)).2.1.2.2.1 :: (fstL x0 ((((List.getD d6.2.2.2.2.2.2.1 (0 : Nat) (0 : Int), List.getD d6.2.2.2.2.2.2.1 (1 : Nat) (0 : Int), List.getD d6.2.2.2.2.2.2.1 (2 : Nat) (0 : Int), ()) : Int × Int × Int × Unit), ((List.getD d6.2.2.2.2.2.2.1 (3 : Nat) (0 : Int), List.getD d6.2.2.2.2.2.2.1 (4 : Nat) (0 : Int), List.getD d6.2.2.2.2.2.2.1 (5 : Nat) (0 : Int), ()) : Int × Int × Int × Unit), ((List.getD d6.2.2.2.2.2.2.1 (6 : Nat) (0 : Int), List.getD d6.2.2.2.2.2.2.1 (7 : Nat) (0 : Int), List.getD d6.2.2.2.2.2.2.1 (8 : Nat) (0 : Int), ()) : Int × Int × Int × Unit), ()) : (Int × Int × Int × Unit) × (Int × Int × Int × Unit) × (Int × Int × Int × Unit) × Unit) (Int.toNat (x0 - (1 : Int))) (1 : Int)).2.2.1.1 :: (fstL x0 ((((List.getD d6.2.2.2.2.2.2.1 (0 : Nat) (0 : Int), List.getD d6.2.2.2.2.2.2.1 (1 : Nat) (0 : Int), List.getD d6.2.2.2.2.2.2.1 (2 : Nat) (0 : Int), ()) : Int × Int × Int × Unit), ((List.getD d6.2.2.2.2.2.2.1 (3 : Nat) (0 : Int), List.getD d6.2.2.2.2.2.2.1 (4 : Nat) (0 : Int), List.getD d6.2.2.2.2.2.2.1 (5 : Nat) (0 : Int), ()) : Int × Int × Int × Unit), ((List.getD d6.2.2.2.2.2.2.1 (6 : Nat) (0 : Int), List.getD d6.2.2.2.2.2.2.1 (7 : Nat) (0 : Int), List.getD d6.2.2.2.2.2.2.1 (8 : Nat) (0 : Int), ()) : Int × Int × Int × Unit), ()) : (Int × Int × Int × Unit) × (Int × Int × Int × Unit) × (Int × Int × Int × Unit) × Unit) (Int.toNat (x0 - (1 : Int))) (1 : Int)).2.2.1.2.1 :: (fstL x0 ((((List.getD d6.2.2.2.2.2.2.1 (0 : Nat) (0 : Int), List.getD d6.2.2.2.2.2.2.1 (1 : Nat) (0 : Int), List.getD d6.2.2.2.2.2.2.1 (2 : Nat) (0 : Int), ()) : Int × Int × Int × Unit), ((List.getD d6.2.2.2.2.2.2.1 (3 : Nat) (0 : Int), List.getD d6.2.2.2.2.2.2.1 (4 : Nat) (0 : Int), List.getD d6.2.2.2.2.2.2.1 (5 : Nat) (0 : Int), ()) : Int × Int × Int × Unit), ((List.getD d6.2.2.2.2.2.2.1 (6 : Nat) (0 : Int), List.getD d6.2.2.2.2.2.2.1 (7 : Nat) (0 : Int), List.getD d6.2.2.2.2.2.2.1 (8 : Nat) (0 : Int), ()) : Int × Int × Int × Unit), ()) : (Int × Int × Int × Unit) × (Int × Int × Int × Unit) × (Int × Int × Int × Unit) × Unit) (Int.toNat (x0 - (1 : Int))) (1 : Int)).2.2.1.2.2.1 :: ([] : List Int)))) (some (Lp.out (Lp.out (Lp.out (Lp.out ((((((List.getD (setMany d6.2.2.2.1 (0 : Nat) ((fstL x0 ((((List.getD d6.2.2.2.2.2.2.1 (0 : Nat) (0 : Int), List.getD d6.2.2.2.2.2.2.1 (1 : Nat) (0 : Int), List.getD d6.2.2.2.2.2.2.1 (2 : Nat) (0 : Int), ()) : Int × Int × Int × Unit), ((List.getD d6.2.2.2.2.2.2.1 (3 : Nat) (0 : Int), List.getD d6.2.2.2.2.2.2.1 (4 : Nat) (0 : Int), List.getD d6.2.2.2.2.2.2.1 (5 : Nat) (0 : Int), ()) : Int × Int × Int × Unit), ((List.getD d6.2.2.2.2.2.2.1 (6 : Nat) (0 : Int), List.getD d6.2.2.2.2.2.2.1 (7 : Nat) (0 : Int), List.getD d6.2.2.2.2.2.2.1 (8 : Nat) (0 : Int), ()) : Int × Int × Int × Unit), ()) : (Int × Int × Int × Unit) × (Int × Int × Int × Unit) × (Int × Int × Int × Unit) × Unit) (Int.toNat (x0 - (1 : Int))) (1 : Int)).1.1 :: (fstL x0 ((((List.getD d6.2.2.2.2.2.2.1 (0 : Nat) (0 : Int), List.getD d6.2.2.2.2.2.2.1 (1 : Nat) (0 : Int), List.getD d6.2.2.2.2.2.2.1 (2 : Nat) (0 : Int), ()) : Int × Int × Int × Unit), ((List.getD d6.2.2.2.2.2.2.1 (3 : Nat) (0 : Int), List.getD d6.2.2.2.2.2.2.1 (4 : Nat) (0 : Int), List.getD d6.2.2.2.2.2.2.1 (5 : Nat) (0 : Int), ()) : Int × Int × Int × Unit), ((List.getD d6.2.2.2.2.2.2.1 (6 : Nat) (0 : Int), List.getD d6.2.2.2.2.2.2.1 (7 : Nat) (0 : Int), List.getD d6.2.2.2.2.2.2.1 (8 : Nat) (0 : Int), ()) : Int × Int × Int × Unit), ()) : (Int × Int × Int × Unit) × (Int × Int × Int × Unit) × (Int × Int × Int × Unit) × Unit) (Int.toNat (x0 - (1 : Int))) (1 : Int)).1.2.1 :: (fstL x0 ((((List.getD d6.2.2.2.2.2.2.1 (0 : Nat) (0 : Int), List.getD d6.2.2.2.2.2.2.1 (1 : Nat) (0 : Int), List.getD d6.2.2.2.2.2.2.1 (2 : Nat) (0 : Int), ()) : Int × Int × Int × Unit), ((List.getD d6.2.2.2.2.2.2.1 (3 : Nat) (0 : Int), List.getD d6.2.2.2.2.2.2.1 (4 : Nat) (0 : Int), List.getD d6.2.2.2.2.2.2.1 (5 : Nat) (0 : Int), ()) : Int × Int × Int × Unit), ((List.getD d6.2.2.2.2.2.2.1 (6 : Nat) (0 : Int), List.getD d6.2.2.2.2.2.2.1 (7 : Nat) (0 : Int), List.getD d6.2.2.2.2.2.2.1 (8 : Nat) (0 : Int), ()) : Int × Int × Int × Unit), ()) : (Int × Int × Int × Unit) × (Int × Int × Int × Unit) × (Int × Int × Int × Unit) × Unit) (Int.toNat (x0 - (1 : Int))) (1 : Int)).1.2.2.1 :: (fstL x0 ((((List.getD d6.2.2.2.2.2.2.1 (0 : Nat) (0 : Int), List.getD d6.2.2.2.2.2.2.1 (1 : Nat) (0 : Int), List.getD d6.2.2.2.2.2.2.1 (2 : Nat) (0 : Int), ()) : Int × Int × Int × Unit), ((List.getD d6.2.2.2.2.2.2.1 (3 : Nat) (0 : Int), List.getD d6.2.2.2.2.2.2.1 (4 : Nat) (0 : Int), List.getD d6.2.2.2.2.2.2.1 (5 : Nat) (0 : Int), ()) : Int × Int × Int × Unit), ((List.getD d6.2.2.2.2.2.2.1 (6 : Nat) (0 : Int), List.getD d6.2.2.2.2.2.2.1 (7 : Nat) (0 : Int), List.getD d6.2.2.2.2.2.2.1 (8 : Nat) (0 : Int), ()) : Int × Int × Int × Unit), ()) : (Int × Int × Int × Unit) × (Int × Int × Int × Unit) × (Int × Int × Int × Unit) × Unit) (Int.toNat (x0 - (1 : Int))) (1 : Int)).2.1.1 :: (fstL x0 ((((List.getD d6.2.2.2.2.2.2.1 (0 : Nat) (0 : Int), List.getD d6.2.2.2.2.2.2.1 (1 : Nat) (0 : Int), List.getD d6.2.2.2.2.2.2.1 (2 : Nat) (0 : Int), ()) : Int × Int × Int × Unit), ((List.getD d6.2.2.2.2.2.2.1 (3 : Nat) (0 : Int), List.getD d6.2.2.2.2.2.2.1 (4 : Nat) (0 : Int), List.getD d6.2.2.2.2.2.2.1 (5 : Nat) (0 : Int), ()) : Int × Int × Int × Unit), ((List.getD d6.2.2.2.2.2.2.1 (6 : Nat) (0 : Int), List.getD d6.2.2.2.2.2.2.1 (7 : Nat) (0 : Int), List.getD d6.2.2.2.2.2.2.1 (8 : Nat) (0 : Int), ()) : Int × Int × Int × Unit), ()) : (Int × Int × Int × Unit) × (Int × Int × Int × Unit) × (Int × Int × Int × Unit) × Unit) (Int.toNat (x0 - (1 : Int))) (1 : Int)).2.1.2.1 :: (fstL x0 ((((List.getD d6.2.2.2.2.2.2.1 (0 : Nat) (0 : Int), List.getD d6.2.2.2.2.2.2.1 (1 : Nat) (0 : Int), List.getD d6.2.2.2.2.2.2.1 (2 : Nat) (0 : Int), ()) : Int × Int × Int × Unit), ((List.getD d6.2.2.2.2.2.2.1 (3 : Nat) (0 : Int), List.getD d6.2.2.2.2.2.2.1 (4 : Nat) (0 : Int), List.getD d6.2.2.2.2.2.2.1 (5 : Nat) (0 : Int), ()) : Int × Int × Int × Unit), ((List.getD d6.2.2.2.2.2.2.1 (6 : Nat) (0 : Int), List.getD d6.2.2.2.2.2.2.1 (7 : Nat) (0 : Int), List.getD d6.2.2.2.2.2.2.1 (8 : Nat) (0 : Int), ()) : Int × Int × Int × Unit), ()) : (Int × Int × Int × Unit) × (Int × Int × Int × Unit) × (Int × Int × Int × Unit) × Unit) (Int.toNat (x0 - (1 : Int))) (1 : Int)).2.1.2.2.1 :: (fstL x0 ((((List.getD d6.2.2.2.2.2.2.1 (0 : Nat) (0 : Int), List.getD d6.2.2.2.2.2.2.1 (1 : Nat) (0 : Int), List.getD d6.2.2.2.2.2.2.1 (2 : Nat) (0 : Int), ()) : Int × Int × Int × Unit), ((List.getD d6.2.2.2.2.2.2.1 (3 : Nat) (0 : Int), List.getD d6.2.2.2.2.2.2.1 (4 : Nat) (0 : Int), List.getD d6.2.2.2.2.2.2.1 (5 : Nat) (0 : Int), ()) : Int × Int × Int × Unit), ((List.getD d6.2.2.2.2.2.2.1 (6 : Nat) (0 : Int), List.getD d6.2.2.2.2.2.2.1 (7 : Nat) (0 : Int), List.getD d6.2.2.2.2.2.2.1 (8 : Nat) (0 : Int), ()) : Int × Int × Int × Unit), ()) : (Int × Int × Int × Unit) × (Int × Int × Int × Unit) × (Int × Int × Int × Unit) × Unit) (Int.toNat (x0 - (1 : Int))) (1 : Int)).2.2.1.1 :: (fstL x0 ((((List.getD d6.2.2.2.2.2.2.1 (0 : Nat) (0 : Int), List.getD d6.2.2.2.2.2.2.1 (1 : Nat) (0 : Int), List.getD d6.2.2.2.2.2.2.1 (2 : Nat) (0 : Int), ()) : Int × Int × Int × Unit), ((List.getD d6.2.2.2.2.2.2.1 (3 : Nat) (0 : Int), List.getD d6.2.2.2.2.2.2.1 (4 : Nat) (0 : Int), List.getD d6.2.2.2.2.2.2.1 (5 : Nat) (0 : Int), ()) : Int × Int × Int × Unit), ((List.getD d6.2.2.2.2.2.2.1 (6 : Nat) (0 : Int), List.getD d6.2.2.2.2.2.2.1 (7 : Nat) (0 : Int), List.getD d6.2.2.2.2.2.2.1 (8 : Nat) (0 : Int), ()) : Int × Int × Int × Unit), ()) : (Int × Int × Int × Unit) × (Int × Int × Int × Unit) × (Int × Int × Int × Unit) × Unit) (Int.toNat (x0 - (1 : Int))) (1 : Int)).2.2.1.2.1 :: (fstL x0 ((((List.getD d6.2.2.2.2.2.2.1 (0 : Nat) (0 : Int), List.getD d6.2.2.2.2.2.2.1 (1 : Nat) (0 : Int), List.getD d6.2.2.2.2.2.2.1 (2 : Nat) (0 : Int), ()) : Int × Int × Int × Unit), ((List.getD d6.2.2.2.2.2.2.1 (3 : Nat) (0 : Int), List.getD d6.2.2.2.2.2.2.1 (4 : Nat) (0 : Int), List.getD d6.2.2.2.2.2.2.1 (5 : Nat) (0 : Int), ()) : Int × Int × Int × Unit), ((List.getD d6.2.2.2.2.2.2.1 (6 : Nat) (0 : Int), List.getD d6.2.2.2.2.2.2.1 (7 : Nat) (0 : Int), List.getD d6.2.2.2.2.2.2.1 (8 : Nat) (0 : Int), ()) : Int × Int × Int × Unit), ()) : (Int × Int × Int × Unit) × (Int × Int × Int × Unit) × (Int × Int × Int × Unit) × Unit) (Int.toNat (x0 - (1 : Int))) (1 : Int)).2.2.1.2.2.1 :: ([] : List Int))) (0 : Nat) (0 : Int), List.getD (setMany d6.2.2.2.1 (0 : Nat) ((fstL x0 ((((List.getD d6.2.2.2.2.2.2.1 (0 : Nat) (0 : Int), List.getD d6.2.2.2.2.2.2.1 (1 : Nat) (0 : Int), List.getD d6.2.2.2.2.2.2.1 (2 : Nat) (0 : Int), ()) : Int × Int × Int × Unit), ((List.getD d6.2.2.2.2.2.2.1 (3 : Nat) (0 : Int), List.getD d6.2.2.2.2.2.2.1 (4 : Nat) (0 : Int), List.getD d6.2.2.2.2.2.2.1 (5 : Nat) (0 : Int), ()) : Int × Int × Int × Unit), ((List.getD d6.2.2.2.2.2.2.1 (6 : Nat) (0 : Int), List.getD d6.2.2.2.2.2.2.1 (7 : Nat) (0 : Int), List.getD d6.2.2.2.2.2.2.1 (8 : Nat) (0 : Int), ()) : Int × Int × Int × Unit), ()) : (Int × Int × Int × Unit) × (Int × Int × Int × Unit) × (Int × Int × Int × Unit) × Unit) (Int.toNat (x0 - (1 : Int))) (1 : Int)).1.1 :: (fstL x0 ((((List.getD d6.2.2.2.2.2.2.1 (0 : Nat) (0 : Int), List.getD d6.2.2.2.2.2.2.1 (1 : Nat) (0 : Int), List.getD d6.2.2.2.2.2.2.1 (2 : Nat) (0 : Int), ()) : Int × Int × Int × Unit), ((List.getD d6.2.2.2.2.2.2.1 (3 : Nat) (0 : Int), List.getD d6.2.2.2.2.2.2.1 (4 : Nat) (0 : Int), List.getD d6.2.2.2.2.2.2.1 (5 : Nat) (0 : Int), ()) : Int × Int × Int × Unit), ((List.getD d6.2.2.2.2.2.2.1 (6 : Nat) (0 : Int), List.getD d6.2.2.2.2.2.2.1 (7 : Nat) (0 : Int), List.getD d6.2.2.2.2.2.2.1 (8 : Nat) (0 : Int), ()) : Int × Int × Int × Unit), ()) : (Int × Int × Int × Unit) × (Int × Int × Int × Unit) × (Int × Int × Int × Unit) × Unit) (Int.toNat (x0 - (1 : Int))) (1 : Int)).1.2.1 :: (fstL x0 ((((List.getD d6.2.2.2.2.2.2.1 (0 : Nat) (0 : Int), List.getD d6.2.2.2.2.2.2.1 (1 : Nat) (0 : Int), List.getD d6.2.2.2.2.2.2.1 (2 : Nat) (0 : Int), ()) : Int × Int × Int × Unit), ((List.getD d6.2.2.2.2.2.2.1 (3 : Nat) (0 : Int), List.getD d6.2.2.2.2.2.2.1 (4 : Nat) (0 : Int), List.getD d6.2.2.2.2.2.2.1 (5 : Nat) (0 : Int), ()) : Int × Int × Int × Unit), ((List.getD d6.2.2.2.2.2.2.1 (6 : Nat) (0 : Int), List.getD d6.2.2.2.2.2.2.1 (7 : Nat) (0 : Int), List.getD d6.2.2.2.2.2.2.1 (8 : Nat) (0 : Int), ()) : Int × Int × Int × Unit), ()) : (Int × Int × Int × Unit) × (Int × Int × Int × Unit) × (Int × Int × Int × Unit) × Unit) (Int.toNat (x0 - (1 : Int))) (1 : Int)).1.2.2.1 :: (fstL x0 ((((List.getD d6.2.2.2.2.2.2.1 (0 : Nat) (0 : Int), List.getD d6.2.2.2.2.2.2.1 (1 : Nat) (0 : Int), List.getD d6.2.2.2.2.2.2.1 (2 : Nat) (0 : Int), ()) : Int × Int × Int × Unit), ((List.getD d6.2.2.2.2.2.2.1 (3 : Nat) (0 : Int), List.getD d6.2.2.2.2.2.2.1 (4 : Nat) (0 : Int), List.getD d6.2.2.2.2.2.2.1 (5 : Nat) (0 : Int), ()) : Int × Int × Int × Unit), ((List.getD d6.2.2.2.2.2.2.1 (6 : Nat) (0 : Int), List.getD d6.2.2.2.2.2.2.1 (7 : Nat) (0 : Int), List.getD d6.2.2.2.2.2.2.1 (8 : Nat) (0 : Int), ()) : Int × Int × Int × Unit), ()) : (Int × Int × Int × Unit) × (Int × Int × Int × Unit) × (Int × Int × Int × Unit) × Unit) (Int.toNat (x0 - (1 : Int))) (1 : Int)).2.1.1 :: (fstL x0 ((((List.getD d6.2.2.2.2.2.2.1 (0 : Nat) (0 : Int), List.getD d6.2.2.2.2.2.2.1 (1 : Nat) (0 : Int), List.getD d6.2.2.2.2.2.2.1 (2 : Nat) (0 : Int), ()) : Int × Int × Int × Unit), ((List.getD d6.2.2.2.2.2.2.1 (3 : Nat) (0 : Int), List.getD d6.2.2.2.2.2.2.1 (4 : Nat) (0 : Int), List.getD d6.2.2.2.2.2.2.1 (5 : Nat) (0 : Int), ()) : Int × Int × Int × Unit), ((List.getD d6.2.2.2.2.2.2.1 (6 : Nat) (0 : Int), List.getD d6.2.2.2.2.2.2.1 (7 : Nat) (0 : Int), List.getD d6.2.2.2.2.2.2.1 (8 : Nat) (0 : Int), ()) : Int × Int × Int × Unit), ()) : (Int × Int × Int × Unit) × (Int × Int × Int × Unit) × (Int × Int × Int × Unit) × Unit) (Int.toNat (x0 - (1 : Int))) (1 : Int)).2.1.2.1 :: (fstL x0 ((((List.getD d6.2.2.2.2.2.2.1 (0 : Nat) (0 : Int), List.getD d6.2.2.2.2.2.2.1 (1 : Nat) (0 : Int), List.getD d6.2.2.2.2.2.2.1 (2 : Nat) (0 : Int), ()) : Int × Int × Int × Unit), ((List.getD d6.2.2.2.2.2.2.1 (3 : Nat) (0 : Int), List.getD d6.2.2.2.2.2.2.1 (4 : Nat) (0 : Int), List.getD d6.2.2.2.2.2.2.1 (5 : Nat) (0 : Int), ()) : Int × Int × Int × Unit), ((List.getD d6.2.2.2.2.2.2.1 (6 : Nat) (0 : Int), List.getD d6.2.2.2.2.2.2.1 (7 : Nat) (0 : Int), List.getD d6.2.2.2.2.2.2.1 (8 : Nat) (0 : Int), ()) : Int × Int × Int × Unit), ()) : (Int × Int × Int × Unit) × (Int × Int × Int × Unit) × (Int × Int × Int × Unit) × Unit) (Int.toNat (x0 - (1 : Int))) (1 : Int)).2.1.2.2.1 :: (fstL x0 ((((List.getD d6.2.2.2.2.2.2.1 (0 : Nat) (0 : Int), List.getD d6.2.2.2.2.2.2.1 (1 : Nat) (0 : Int), List.getD d6.2.2.2.2.2.2.1 (2 : Nat) (0 : Int), ()) : Int × Int × Int × Unit), ((List.getD d6.2.2.2.2.2.2.1 (3 : Nat) (0 : Int), List.getD d6.2.2.2.2.2.2.1 (4 : Nat) (0 : Int), List.getD d6.2.2.2.2.2.2.1 (5 : Nat) (0 : Int), ()) : Int × Int × Int × Unit), ((List.getD d6.2.2.2.2.2.2.1 (6 : Nat) (0 : Int), List.getD d6.2.2.2.2.2.2.1 (7 : Nat) (0 : Int), List.getD d6.2.2.2.2.2.2.1 (8 : Nat) (0 : Int), ()) : Int × Int × Int × Unit), ()) : (Int × Int × Int × Unit) × (Int × Int × Int × Unit) × (Int × Int × Int × Unit) × Unit) (Int.toNat (x0 - (1 : Int))) (1 : Int)).2.2.1.1 :: (fstL x0 ((((List.getD d6.2.2.2.2.2.2.1 (0 : Nat) (0 : Int), List.getD d6.2.2.2.2.2.2.1 (1 : Nat) (0 : Int), List.getD d6.2.2.2.2.2.2.1 (2 : Nat) (0 : Int), ()) : Int × Int × Int × Unit), ((List.getD d6.2.2.2.2.2.2.1 (3 : Nat) (0 : Int), List.getD d6.2.2.2.2.2.2.1 (4 : Nat) (0 : Int), List.getD d6.2.2.2.2.2.2.1 (5 : Nat) (0 : Int), ()) : Int × Int × Int × Unit), ((List.getD d6.2.2.2.2.2.2.1 (6 : Nat) (0 : Int), List.getD d6.2.2.2.2.2.2.1 (7 : Nat) (0 : Int), List.getD d6.2.2.2.2.2.2.1 (8 : Nat) (0 : Int), ()) : Int × Int × Int × Unit), ()) : (Int × Int × Int × Unit) × (Int × Int × Int × Unit) × (Int × Int × Int × Unit) × Unit) (Int.toNat (x0 - (1 : Int))) (1 : Int)).2.2.1.2.1 :: (fstL x0 ((((List.getD d6.2.2.2.2.2.2.1 (0 : Nat) (0 : Int), List.getD d6.2.2.2.2.2.2.1 (1 : Nat) (0 : Int), List.getD d6.2.2.2.2.2.2.1 (2 : Nat) (0 : Int), ()) : Int × Int × Int × Unit), ((List.getD d6.2.2.2.2.2.2.1 (3 : Nat) (0 : Int), List.getD d6.2.2.2.2.2.2.1 (4 : Nat) (0 : Int), List.getD d6.2.2.2.2.2.2.1 (5 : Nat) (0 : Int), ()) : Int × Int × Int × Unit), ((List.getD d6.2.2.2.2.2.2.1 (6 : Nat) (0 : Int), List.getD d6.2.2.2.2.2.2.1 (7 : Nat) (0 : Int), List.getD d6.2.2.2.2.2.2.1 (8 : Nat) (0 : Int), ()) : Int × Int × Int × Unit), ()) : (Int × Int × Int × Unit) × (Int × Int × Int × Unit) × (Int × Int × Int × Unit) × Unit) (Int.toNat (x0 - (1 : Int))) (1 : Int)).2.2.1.2.2.1 :: ([] : List Int))) (1 : Nat) (0 : Int), List.getD (setMany d6.2.2.2.1 (0 : Nat) ((fstL x0 ((((List.getD d6.2.2.2.2.2.2.1 (0 : Nat) (0 : Int), List.getD d6.2.2.2.2.2.2.1 (1 : Nat) (0 : Int), List.getD d6.2.2.2.2.2.2.1 (2 : Nat) (0 : Int), ()) : Int × Int × Int × Unit), ((List.getD d6.2.2.2.2.2.2.1 (3 : Nat) (0 : Int), List.getD d6.2.2.2.2.2.2.1 (4 : Nat) (0 : Int), List.getD d6.2.2.2.2.2.2.1 (5 : Nat) (0 : Int), ()) : Int × Int × Int × Unit), ((List.getD d6.2.2.2.2.2.2.1 (6 : Nat) (0 : Int), List.getD d6.2.2.2.2.2.2.1 (7 : Nat) (0 : Int), List.getD d6.2.2.2.2.2.2.1 (8 : Nat) (0 : Int), ()) : Int × Int × Int × Unit), ()) : (Int × Int × Int × Unit) × (Int × Int × Int × Unit) × (Int × Int × Int × Unit) × Unit) (Int.toNat (x0 - (1 : Int))) (1 : Int)).1.1 :: (fstL x0 ((((List.getD d6.2.2.2.2.2.2.1 (0 : Nat) (0 : Int), List.getD d6.2.2.2.2.2.2.1 (1 : Nat) (0 : Int), List.getD d6.2.2.2.2.2.2.1 (2 : Nat) (0 : Int), ()) : Int × Int × Int × Unit), ((List.getD d6.2.2.2.2.2.2.1 (3 : Nat) (0 : Int), List.getD d6.2.2.2.2.2.2.1 (4 : Nat) (0 : Int), List.getD d6.2.2.2.2.2.2.1 (5 : Nat) (0 : Int), ()) : Int × Int × Int × Unit), ((List.getD d6.2.2.2.2.2.2.1 (6 : Nat) (0 : Int), List.getD d6.2.2.2.2.2.2.1 (7 : Nat) (0 : Int), List.getD d6.2.2.2.2.2.2.1 (8 : Nat) (0 : Int), ()) : Int × Int × Int × Unit), ()) : (Int × Int × Int × Unit) × (Int × Int × Int × Unit) × (Int × Int × Int × Unit) × Unit) (Int.toNat (x0 - (1 : Int))) (1 : Int)).1.2.1 :: (fstL x0 ((((List.getD d6.2.2.2.2.2.2.1 (0 : Nat) (0 : Int), List.getD d6.2.2.2.2.2.2.1 (1 : Nat) (0 : Int), List.getD d6.2.2.2.2.2.2.1 (2 : Nat) (0 : Int), ()) : Int × Int × Int × Unit), ((List.getD d6.2.2.2.2.2.2.1 (3 : Nat) (0 : Int), List.getD d6.2.2.2.2.2.2.1 (4 : Nat) (0 : Int), List.getD d6.2.2.2.2.2.2.1 (5 : Nat) (0 : Int), ()) : Int × Int × Int × Unit), ((List.getD d6.2.2.2.2.2.2.1 (6 : Nat) (0 : Int), List.getD d6.2.2.2.2.2.2.1 (7 : Nat) (0 : Int), List.getD d6.2.2.2.2.2.2.1 (8 : Nat) (0 : Int), ()) : Int × Int × Int × Unit), ()) : (Int × Int × Int × Unit) × (Int × Int × Int × Unit) × (Int × Int × Int × Unit) × Unit) (Int.toNat (x0 - (1 : Int))) (1 : Int)).1.2.2.1 :: (fstL x0 ((((List.getD d6.2.2.2.2.2.2.1 (0 : Nat) (0 : Int), List.getD d6.2.2.2.2.2.2.1 (1 : Nat) (0 : Int), List.getD d6.2.2.2.2.2.2.1 (2 : Nat) (0 : Int), ()) : Int × Int × Int × Unit), ((List.getD d6.2.2.2.2.2.2.1 (3 : Nat) (0 : Int), List.getD d6.2.2.2.2.2.2.1 (4 : Nat) (0 : Int), List.getD d6.2.2.2.2.2.2.1 (5 : Nat) (0 : Int), ()) : Int × Int × Int × Unit), ((List.getD d6.2.2.2.2.2.2.1 (6 : Nat) (0 : Int), List.getD d6.2.2.2.2.2.2.1 (7 : Nat) (0 : Int), List.getD d6.2.2.2.2.2.2.1 (8 : Nat) (0 : Int), ()) : Int × Int × Int × Unit), ()) : (Int × Int × Int × Unit) × (Int × Int × Int × Unit) × (Int × Int × Int × Unit) × Unit) (Int.toNat (x0 - (1 : Int))) (1 : Int)).2.1.1 :: (fstL x0 ((((List.getD d6.2.2.2.2.2.2.1 (0 : Nat) (0 : Int), List.getD d6.2.2.2.2.2.2.1 (1 : Nat) (0 : Int), List.getD d6.2.2.2.2.2.2.1 (2 : Nat) (0 : Int), ()) : Int × Int × Int × Unit), ((List.getD d6.2.2.2.2.2.2.1 (3 : Nat) (0 : Int), List.getD d6.2.2.2.2.2.2.1 (4 : Nat) (0 : Int), List.getD d6.2.2.2.2.2.2.1 (5 : Nat) (0 : Int), ()) : Int × Int × Int × Unit), ((List.getD d6.2.2.2.2.2.2.1 (6 : Nat) (0 : Int), List.getD d6.2.2.2.2.2.2.1 (7 : Nat) (0 : Int), List.getD d6.2.2.2.2.2.2.1 (8 : Nat) (0 : Int), ()) : Int × Int × Int × Unit), ()) : (Int × Int × Int × Unit) × (Int × Int × Int × Unit) × (Int × Int × Int × Unit) × Unit) (Int.toNat (x0 - (1 : Int))) (1 : Int)).2.1.2.1 :: (fstL x0 ((((List.getD d6.2.2.2.2.2.2.1 (0 : Nat) (0 : Int), List.getD d6.2.2.2.2.2.2.1 (1 : Nat) (0 : Int), List.getD d6.2.2.2.2.2.2.1 (2 : Nat) (0 : Int), ()) : Int × Int × Int × Unit), ((List.getD d6.2.2.2.2.2.2.1 (3 : Nat) (0 : Int), List.getD d6.2.2.2.2.2.2.1 (4 : Nat) (0 : Int), List.getD d6.2.2.2.2.2.2.1 (5 : Nat) (0 : Int), ()) : Int × Int × Int × Unit), ((List.getD d6.2.2.2.2.2.2.1 (6 : Nat) (0 : Int), List.getD d6.2.2.2.2.2.2.1 (7 : Nat) (0 : Int), List.getD d6.2.2.2.2.2.2.1 (8 : Nat) (0 : Int), ()) : Int × Int × Int × Unit), ()) : (Int × Int × Int × Unit) × (Int × Int × Int × Unit) × (Int × Int × Int × Unit) × Unit) (Int.toNat (x0 - (1 : Int))) (1 : Int)).2.1.2.2.1 :: (fstL x0 ((((List.getD d6.2.2.2.2.2.2.1 (0 : Nat) (0 : Int), List.getD d6.2.2.2.2.2.2.1 (1 : Nat) (0 : Int), List.getD d6.2.2.2.2.2.2.1 (2 : Nat) (0 : Int), ()) : Int × Int × Int × Unit), ((List.getD d6.2.2.2.2.2.2.1 (3 : Nat) (0 : Int), List.getD d6.2.2.2.2.2.2.1 (4 : Nat) (0 : Int), List.getD d6.2.2.2.2.2.2.1 (5 : Nat) (0 : Int), ()) : Int × Int × Int × Unit), ((List.getD d6.2.2.2.2.2.2.1 (6 : Nat) (0 : Int), List.getD d6.2.2.2.2.2.2.1 (7 : Nat) (0 : Int), List.getD d6.2.2.2.2.2.2.1 (8 : Nat) (0 : Int), ()) : Int × Int × Int × Unit), ()) : (Int × Int × Int × Unit) × (Int × Int × Int × Unit) × (Int × Int × Int × Unit) × Unit) (Int.toNat (x0 - (1 : Int))) (1 : Int)).2.2.1.1 :: (fstL x0 ((((List.getD d6.2.2.2.2.2.2.1 (0 : Nat) (0 : Int), List.getD d6.2.2.2.2.2.2.1 (1 : Nat) (0 : Int), List.getD d6.2.2.2.2.2.2.1 (2 : Nat) (0 : Int), ()) : Int × Int × Int × Unit), ((List.getD d6.2.2.2.2.2.2.1 (3 : Nat) (0 : Int), List.getD d6.2.2.2.2.2.2.1 (4 : Nat) (0 : Int), List.getD d6.2.2.2.2.2.2.1 (5 : Nat) (0 : Int), ()) : Int × Int × Int × Unit), ((List.getD d6.2.2.2.2.2.2.1 (6 : Nat) (0 : Int), List.getD d6.2.2.2.2.2.2.1 (7 : Nat) (0 : Int), List.getD d6.2.2.2.2.2.2.1 (8 : Nat) (0 : Int), ()) : Int × Int × Int × Unit), ()) : (Int × Int × Int × Unit) × (Int × Int × Int × Unit) × (Int × Int × Int × Unit) × Unit) (Int.toNat (x0 - (1 : Int))) (1 : Int)).2.2.1.2.1 :: (fstL x0 ((((List.getD d6.2.2.2.2.2.2.1 (0 : Nat) (0 : Int), List.getD d6.2.2.2.2.2.2.1 (1 : Nat) (0 : Int), List.getD d6.2.2.2.2.2.2.1 (2 : Nat) (0 : Int), ()) : Int × Int × Int × Unit), ((List.getD d6.2.2.2.2.2.2.1 (3 : Nat) (0 : Int), List.getD d6.2.2.2.2.2.2.1 (4 : Nat) (0 : Int), List.getD d6.2.2.2.2.2.2.1 (5 : Nat) (0 : Int), ()) : Int × Int × Int × Unit), ((List.getD d6.2.2.2.2.2.2.1 (6 : Nat) (0 : Int), List.getD d6.2.2.2.2.2.2.1 (7 : Nat) (0 : Int), List.getD d6.2.2.2.2.2.2.1 (8 : Nat) (0 : Int), ()) : Int × Int × Int × Unit), ()) : (Int × Int × Int × Unit) × (Int × Int × Int × Unit) × (Int × Int × Int × Unit) × Unit) (Int.toNat (x0 - (1 : Int))) (1 : Int)).2.2.1.2.2.1 :: ([] : List Int))) (2 : Nat) (0 : Int), ()) : Int × Int × Int × Unit), ((List.getD (setMany d6.2.2.2.1 (0 : Nat) ((fstL x0 ((((List.getD d6.2.2.2.2.2.2.1 (0 : Nat) (0 : Int), List.getD d6.2.2.2.2.2.2.1 (1 : Nat) (0 : Int), List.getD d6.2.2.2.2.2.2.1 (2 : Nat) (0 : Int), ()) : Int × Int × Int × Unit), ((List.getD d6.2.2.2.2.2.2.1 (3 : Nat) (0 : Int), List.getD d6.2.2.2.2.2.2.1 (4 : Nat) (0 : Int), List.getD d6.2.2.2.2.2.2.1 (5 : Nat) (0 : Int), ()) : Int × Int × Int × Unit), ((List.getD d6.2.2.2.2.2.2.1 (6 : Nat) (0 : Int), List.getD d6.2.2.2.2.2.2.1 (7 : Nat) (0 : Int), List.getD d6.2.2.2.2.2.2.1 (8 : Nat) (0 : Int), ()) : Int × Int × Int × Unit), ()) : (Int × Int × Int × Unit) × (Int × Int × Int × Unit) × (Int × Int × Int × Unit) × Unit) (Int.toNat (x0 - (1 : Int))) (1 : Int)).1.1 :: (fstL x0 ((((List.getD d6.2.2.2.2.2.2.1 (0 : Nat) (0 : Int), List.getD d6.2.2.2.2.2.2.1 (1 : Nat) (0 : Int), List.getD d6.2.2.2.2.2.2.1 (2 : Nat) (0 : Int), ()) : Int × Int × Int × Unit), ((List.getD d6.2.2.2.2.2.2.1 (3 : Nat) (0 : Int), List.getD d6.2.2.2.2.2.2.1 (4 : Nat) (0 : Int), List.getD d6.2.2.2.2.2.2.1 (5 : Nat) (0 : Int), ()) : Int × Int × Int × Unit), ((List.getD d6.2.2.2.2.2.2.1 (6 : Nat) (0 : Int), List.getD d6.2.2.2.2.2.2.1 (7 : Nat) (0 : Int), List.getD d6.2.2.2.2.2.2.1 (8 : Nat) (0 : Int), ()) : Int × Int × Int × Unit), ()) : (Int × Int × Int × Unit) × (Int × Int × Int × Unit) × (Int × Int × Int × Unit) × Unit) (Int.toNat (x0 - (1 : Int))) (1 : Int)).1.2.1 :: (fstL x0 ((((List.getD d6.2.2.2.2.2.2.1 (0 : Nat) (0 : Int), List.getD d6.2.2.2.2.2.2.1 (1 : Nat) (0 : Int), List.getD d6.2.2.2.2.2.2.1 (2 : Nat) (0 : Int), ()) : Int × Int × Int × Unit), ((List.getD d6.2.2.2.2.2.2.1 (3 : Nat) (0 : Int), List.getD d6.2.2.2.2.2.2.1 (4 : Nat) (0 : Int), List.getD d6.2.2.2.2.2.2.1 (5 : Nat) (0 : Int), ()) : Int × Int × Int × Unit), ((List.getD d6.2.2.2.2.2.2.1 (6 : Nat) (0 : Int), List.getD d6.2.2.2.2.2.2.1 (7 : Nat) (0 : Int), List.getD d6.2.2.2.2.2.2.1 (8 : Nat) (0 : Int), ()) : Int × Int × Int × Unit), ()) : (Int × Int × Int × Unit) × (Int × Int × Int × Unit) × (Int × Int × Int × Unit) × Unit) (Int.toNat (x0 - (1 : Int))) (1 : Int)).1.2.2.1 :: (fstL x0 ((((List.getD d6.2.2.2.2.2.2.1 (0 : Nat) (0 : Int), List.getD d6.2.2.2.2.2.2.1 (1 : Nat) (0 : Int), List.getD d6.2.2.2.2.2.2.1 (2 : Nat) (0 : Int), ()) : Int × Int × Int × Unit), ((List.getD d6.2.2.2.2.2.2.1 (3 : Nat) (0 : Int), List.getD d6.2.2.2.2.2.2.1 (4 : Nat) (0 : Int), List.getD d6.2.2.2.2.2.2.1 (5 : Nat) (0 : Int), ()) : Int × Int × Int × Unit), ((List.getD d6.2.2.2.2.2.2.1 (6 : Nat) (0 : Int), List.getD d6.2.2.2.2.2.2.1 (7 : Nat) (0 : Int), List.getD d6.2.2.2.2.2.2.1 (8 : Nat) (0 : Int), ()) : Int × Int × Int × Unit), ()) : (Int × Int × Int × Unit) × (Int × Int × Int × Unit) × (Int × Int × Int × Unit) × Unit) (Int.toNat (x0 - (1 : Int))) (1 : Int)).2.1.1 :: (fstL x0 ((((List.getD d6.2.2.2.2.2.2.1 (0 : Nat) (0 : Int), List.getD d6.2.2.2.2.2.2.1 (1 : Nat) (0 : Int), List.getD d6.2.2.2.2.2.2.1 (2 : Nat) (0 : Int), ()) : Int × Int × Int × Unit), ((List.getD d6.2.2.2.2.2.2.1 (3 : Nat) (0 : Int), List.getD d6.2.2.2.2.2.2.1 (4 : Nat) (0 : Int), List.getD d6.2.2.2.2.2.2.1 (5 : Nat) (0 : Int), ()) : Int × Int × Int × Unit), ((List.getD d6.2.2.2.2.2.2.1 (6 : Nat) (0 : Int), List.getD d6.2.2.2.2.2.2.1 (7 : Nat) (0 : Int), List.getD d6.2.2.2.2.2.2.1 (8 : Nat) (0 : Int), ()) : Int × Int × Int × Unit), ()) : (Int × Int × Int × Unit) × (Int × Int × Int × Unit) × (Int × Int × Int × Unit) × Unit) (Int.toNat (x0 - (1 : Int))) (1 : Int)).2.1.2.1 :: (fstL x0 ((((List.getD d6.2.2.2.2.2.2.1 (0 : Nat) (0 : Int), List.getD d6.2.2.2.2.2.2.1 (1 : Nat) (0 : Int), List.getD d6.2.2.2.2.2.2.1 (2 : Nat) (0 : Int), ()) : Int × Int × Int × Unit), ((List.getD d6.2.2.2.2.2.2.1 (3 : Nat) (0 : Int), List.getD d6.2.2.2.2.2.2.1 (4 : Nat) (0 : Int), List.getD d6.2.2.2.2.2.2.1 (5 : Nat) (0 : Int), ()) : Int × Int × Int × Unit), ((List.getD d6.2.2.2.2.2.2.1 (6 : Nat) (0 : Int), List.getD d6.2.2.2.2.2.2.1 (7 : Nat) (0 : Int), List.getD d6.2.2.2.2.2.2.1 (8 : Nat) (0 : Int), ()) : Int × Int × Int × Unit), ()) : (Int × Int × Int × Unit) × (Int × Int × Int × Unit) × (Int × Int × Int × Unit) × Unit) (Int.toNat (x0 - (1 : Int))) (1 : Int)).2.1.2.2.1 :: (fstL x0 ((((List.getD d6.2.2.2.2.2.2.1 (0 : Nat) (0 : Int), List.getD d6.2.2.2.2.2.2.1 (1 : Nat) (0 : Int), List.getD d6.2.2.2.2.2.2.1 (2 : Nat) (0 : Int), ()) : Int × Int × Int × Unit), ((List.getD d6.2.2.2.2.2.2.1 (3 : Nat) (0 : Int), List.getD d6.2.2.2.2.2.2.1 (4 : Nat) (0 : Int), List.getD d6.2.2.2.2.2.2.1 (5 : Nat) (0 : Int), ()) : Int × Int × Int × Unit), ((List.getD d6.2.2.2.2.2.2.1 (6 : Nat) (0 : Int), List.getD d6.2.2.2.2.2.2.1 (7 : Nat) (0 : Int), List.getD d6.2.2.2.2.2.2.1 (8 : Nat) (0 : Int), ()) : Int × Int × Int × Unit), ()) : (Int × Int × Int × Unit) × (Int × Int × Int × Unit) × (Int × Int × Int × Unit) × Unit) (Int.toNat (x0 - (1 : Int))) (1 : Int)).2.2.1.1 :: (fstL x0 ((((List.getD d6.2.2.2.2.2.2.1 (0 : Nat) (0 : Int), List.getD d6.2.2.2.2.2.2.1 (1 : Nat) (0 : Int), List.getD d6.2.2.2.2.2.2.1 (2 : Nat) (0 : Int), ()) : Int × Int × Int × Unit), ((List.getD d6.2.2.2.2.2.2.1 (3 : Nat) (0 : Int), List.getD d6.2.2.2.2.2.2.1 (4 : Nat) (0 : Int), List.getD d6.2.2.2.2.2.2.1 (5 : Nat) (0 : Int), ()) : Int × Int × Int × Unit), ((List.getD d6.2.2.2.2.2.2.1 (6 : Nat) (0 : Int), List.getD d6.2.2.2.2.2.2.1 (7 : Nat) (0 : Int), List.getD d6.2.2.2.2.2.2.1 (8 : Nat) (0 : Int), ()) : Int × Int × Int × Unit), ()) : (Int × Int × Int × Unit) × (Int × Int × Int × Unit) × (Int × Int × Int × Unit) × Unit) (Int.toNat (x0 - (1 : Int))) (1 : Int)).2.2.1.2.1 :: (fstL x0 ((((List.getD d6.2.2.2.2.2.2.1 (0 : Nat) (0 : Int), List.getD d6.2.2.2.2.2.2.1 (1 : Nat) (0 : Int), List.getD d6.2.2.2.2.2.2.1 (2 : Nat) (0 : Int), ()) : Int × Int × Int × Unit), ((List.getD d6.2.2.2.2.2.2.1 (3 : Nat) (0 : Int), List.getD d6.2.2.2.2.2.2.1 (4 : Nat) (0 : Int), List.getD d6.2.2.2.2.2.2.1 (5 : Nat) (0 : Int), ()) : Int × Int × Int × Unit), ((List.getD d6.2.2.2.2.2.2.1 (6 : Nat) (0 : Int), List.getD d6.2.2.2.2.2.2.1 (7 : Nat) (0 : Int), List.getD d6.2.2.2.2.2.2.1 (8 : Nat) (0 : Int), ()) : Int × Int × Int × Unit), ()) : (Int × Int × Int × Unit) × (Int × Int × Int × Unit) × (Int × Int × Int × Unit) × Unit) (Int.toNat (x0 - (1 : Int))) (1 : Int)).2.2.1.2.2.1 :: ([] : List Int))) (3 : Nat) (0 : Int), List.getD (setMany d6.2.2.2.1 (0 : Nat) ((fstL x0 ((((List.getD d6.2.2.2.2.2.2.1 (0 : Nat) (0 : Int), List.getD d6.2.2.2.2.2.2.1 (1 : Nat) (0 : Int), List.getD d6.2.2.2.2.2.2.1 (2 : Nat) (0 : Int), ()) : Int × Int × Int × Unit), ((List.getD d6.2.2.2.2.2.2.1 (3 : Nat) (0 : Int), List.getD d6.2.2.2.2.2.2.1 (4 : Nat) (0 : Int), List.getD d6.2.2.2.2.2.2.1 (5 : Nat) (0 : Int), ()) : Int × Int × Int × Unit), ((List.getD d6.2.2.2.2.2.2.1 (6 : Nat) (0 : Int), List.getD d6.2.2.2.2.2.2.1 (7 : Nat) (0 : Int), List.getD d6.2.2.2.2.2.2.1 (8 : Nat) (0 : Int), ()) : Int × Int × Int × Unit), ()) : (Int × Int × Int × Unit) × (Int × Int × Int × Unit) × (Int × Int × Int × Unit) × Unit) (Int.toNat (x0 - (1 : Int))) (1 : Int)).1.1 :: (fstL x0 ((((List.getD d6.2.2.2.2.2.2.1 (0 : Nat) (0 : Int), List.getD d6.2.2.2.2.2.2.1 (1 : Nat) (0 : Int), List.getD d6.2.2.2.2.2.2.1 (2 : Nat) (0 : Int), ()) : Int × Int × Int × Unit), ((List.getD d6.2.2.2.2.2.2.1 (3 : Nat) (0 : Int), List.getD d6.2.2.2.2.2.2.1 (4 : Nat) (0 : Int), List.getD d6.2.2.2.2.2.2.1 (5 : Nat) (0 : Int), ()) : Int × Int × Int × Unit), ((List.getD d6.2.2.2.2.2.2.1 (6 : Nat) (0 : Int), List.getD d6.2.2.2.2.2.2.1 (7 : Nat) (0 : Int), List.getD d6.2.2.2.2.2.2.1 (8 : Nat) (0 : Int), ()) : Int × Int × Int × Unit), ()) : (Int × Int × Int × Unit) × (Int × Int × Int × Unit) × (Int × Int × Int × Unit) × Unit) (Int.toNat (x0 - (1 : Int))) (1 : Int)).1.2.1 :: (fstL x0 ((((List.getD d6.2.2.2.2.2.2.1 (0 : Nat) (0 : Int), List.getD d6.2.2.2.2.2.2.1 (1 : Nat) (0 : Int), List.getD d6.2.2.2.2.2.2.1 (2 : Nat) (0 : Int), ()) : Int × Int × Int × Unit), ((List.getD d6.2.2.2.2.2.2.1 (3 : Nat) (0 : Int), List.getD d6.2.2.2.2.2.2.1 (4 : Nat) (0 : Int), List.getD d6.2.2.2.2.2.2.1 (5 : Nat) (0 : Int), ()) : Int × Int × Int × Unit), ((List.getD d6.2.2.2.2.2.2.1 (6 : Nat) (0 : Int), List.getD d6.2.2.2.2.2.2.1 (7 : Nat) (0 : Int), List.getD d6.2.2.2.2.2.2.1 (8 : Nat) (0 : Int), ()) : Int × Int × Int × Unit), ()) : (Int × Int × Int × Unit) × (Int × Int × Int × Unit) × (Int × Int × Int × Unit) × Unit) (Int.toNat (x0 - (1 : Int))) (1 : Int)).1.2.2.1 :: (fstL x0 ((((List.getD d6.2.2.2.2.2.2.1 (0 : Nat) (0 : Int), List.getD d6.2.2.2.2.2.2.1 (1 : Nat) (0 : Int), List.getD d6.2.2.2.2.2.2.1 (2 : Nat) (0 : Int), ()) : Int × Int × Int × Unit), ((List.getD d6.2.2.2.2.2.2.1 (3 : Nat) (0 : Int), List.getD d6.2.2.2.2.2.2.1 (4 : Nat) (0 : Int), List.getD d6.2.2.2.2.2.2.1 (5 : Nat) (0 : Int), ()) : Int × Int × Int × Unit), ((List.getD d6.2.2.2.2.2.2.1 (6 : Nat) (0 : Int), List.getD d6.2.2.2.2.2.2.1 (7 : Nat) (0 : Int), List.getD d6.2.2.2.2.2.2.1 (8 : Nat) (0 : Int), ()) : Int × Int × Int × Unit), ()) : (Int × Int × Int × Unit) × (Int × Int × Int × Unit) × (Int × Int × Int × Unit) × Unit) (Int.toNat (x0 - (1 : Int))) (1 : Int)).2.1.1 :: (fstL x0 ((((List.getD d6.2.2.2.2.2.2.1 (0 : Nat) (0 : Int), List.getD d6.2.2.2.2.2.2.1 (1 : Nat) (0 : Int), List.getD d6.2.2.2.2.2.2.1 (2 : Nat) (0 : Int), ()) : Int × Int × Int × Unit), ((List.getD d6.2.2.2.2.2.2.1 (3 : Nat) (0 : Int), List.getD d6.2.2.2.2.2.2.1 (4 : Nat) (0 : Int), List.getD d6.2.2.2.2.2.2.1 (5 : Nat) (0 : Int), ()) : Int × Int × Int × Unit), ((List.getD d6.2.2.2.2.2.2.1 (6 : Nat) (0 : Int), List.getD d6.2.2.2.2.2.2.1 (7 : Nat) (0 : Int), List.getD d6.2.2.2.2.2.2.1 (8 : Nat) (0 : Int), ()) : Int × Int × Int × Unit), ()) : (Int × Int × Int × Unit) × (Int × Int × Int × Unit) × (Int × Int × Int × Unit) × Unit) (Int.toNat (x0 - (1 : Int))) (1 : Int)).2.1.2.1 :: (fstL x0 ((((List.getD d6.2.2.2.2.2.2.1 (0 : Nat) (0 : Int), List.getD d6.2.2.2.2.2.2.1 (1 : Nat) (0 : Int), List.getD d6.2.2.2.2.2.2.1 (2 : Nat) (0 : Int), ()) : Int × Int × Int × Unit), ((List.getD d6.2.2.2.2.2.2.1 (3 : Nat) (0 : Int), List.getD d6.2.2.2.2.2.2.1 (4 : Nat) (0 : Int), List.getD d6.2.2.2.2.2.2.1 (5 : Nat) (0 : Int), ()) : Int × Int × Int × Unit), ((List.getD d6.2.2.2.2.2.2.1 (6 : Nat) (0 : Int), List.getD d6.2.2.2.2.2.2.1 (7 : Nat) (0 : Int), List.getD d6.2.2.2.2.2.2.1 (8 : Nat) (0 : Int), ()) : Int × Int × Int × Unit), ()) : (Int × Int × Int × Unit) × (Int × Int × Int × Unit) × (Int × Int × Int × Unit) × Unit) (Int.toNat (x0 - (1 : Int))) (1 : Int)).2.1.2.2.1 :: (fstL x0 ((((List.getD d6.2.2.2.2.2.2.1 (0 : Nat) (0 : Int), List.getD d6.2.2.2.2.2.2.1 (1 : Nat) (0 : Int), List.getD d6.2.2.2.2.2.2.1 (2 : Nat) (0 : Int), ()) : Int × Int × Int × Unit), ((List.getD d6.2.2.2.2.2.2.1 (3 : Nat) (0 : Int), List.getD d6.2.2.2.2.2.2.1 (4 : Nat) (0 : Int), List.getD d6.2.2.2.2.2.2.1 (5 : Nat) (0 : Int), ()) : Int × Int × Int × Unit), ((List.getD d6.2.2.2.2.2.2.1 (6 : Nat) (0 : Int), List.getD d6.2.2.2.2.2.2.1 (7 : Nat) (0 : Int), List.getD d6.2.2.2.2.2.2.1 (8 : Nat) (0 : Int), ()) : Int × Int × Int × Unit), ()) : (Int × Int × Int × Unit) × (Int × Int × Int × Unit) × (Int × Int × Int × Unit) × Unit) (Int.toNat (x0 - (1 : Int))) (1 : Int)).2.2.1.1 :: (fstL x0 ((((List.getD d6.2.2.2.2.2.2.1 (0 : Nat) (0 : Int), List.getD d6.2.2.2.2.2.2.1 (1 : Nat) (0 : Int), List.getD d6.2.2.2.2.2.2.1 (2 : Nat) (0 : Int), ()) : Int × Int × Int × Unit), ((List.getD d6.2.2.2.2.2.2.1 (3 : Nat) (0 : Int), List.getD d6.2.2.2.2.2.2.1 (4 : Nat) (0 : Int), List.getD d6.2.2.2.2.2.2.1 (5 : Nat) (0 : Int), ()) : Int × Int × Int × Unit), ((List.getD d6.2.2.2.2.2.2.1 (6 : Nat) (0 : Int), List.getD d6.2.2.2.2.2.2.1 (7 : Nat) (0 : Int), List.getD d6.2.2.2.2.2.2.1 (8 : Nat) (0 : Int), ()) : Int × Int × Int × Unit), ()) : (Int × Int × Int × Unit) × (Int × Int × Int × Unit) × (Int × Int × Int × Unit) × Unit) (Int.toNat (x0 - (1 : Int))) (1 : Int)).2.2.1.2.1 :: (fstL x0 ((((List.getD d6.2.2.2.2.2.2.1 (0 : Nat) (0 : Int), List.getD d6.2.2.2.2.2.2.1 (1 : Nat) (0 : Int), List.getD d6.2.2.2.2.2.2.1 (2 : Nat) (0 : Int), ()) : Int × Int × Int × Unit), ((List.getD d6.2.2.2.2.2.2.1 (3 : Nat) (0 : Int), List.getD d6.2.2.2.2.2.2.1 (4 : Nat) (0 : Int), List.getD d6.2.2.2.2.2.2.1 (5 : Nat) (0 : Int), ()) : Int × Int × Int × Unit), ((List.getD d6.2.2.2.2.2.2.1 (6 : Nat) (0 : Int), List.getD d6.2.2.2.2.2.2.1 (7 : Nat) (0 : Int), List.getD d6.2.2.2.2.2.2.1 (8 : Nat) (0 : Int), ()) : Int × Int × Int × Unit), ()) : (Int × Int × Int × Unit) × (Int × Int × Int × Unit) × (Int × Int × Int × Unit) × Unit) (Int.toNat (x0 - (1 : Int))) (1 : Int)).2.2.1.2.2.1 :: ([] : List Int))) (4 : Nat) (0 : Int), List.getD (setMany d6.2.2.2.1 (0 : Nat) ((fstL x0 ((((List.getD d6.2.2.2.2.2.2.1 (0 : Nat) (0 : Int), List.getD d6.2.2.2.2.2.2.1 (1 : Nat) (0 : Int), List.getD d6.2.2.2.2.2.2.1 (2 : Nat) (0 : Int), ()) : Int × Int × Int × Unit), ((List.getD d6.2.2.2.2.2.2.1 (3 : Nat) (0 : Int), List.getD d6.2.2.2.2.2.2.1 (4 : Nat) (0 : Int), List.getD d6.2.2.2.2.2.2.1 (5 : Nat) (0 : Int), ()) : Int × Int × Int × Unit), ((List.getD d6.2.2.2.2.2.2.1 (6 : Nat) (0 : Int), List.getD d6.2.2.2.2.2.2.1 (7 : Nat) (0 : Int), List.getD d6.2.2.2.2.2.2.1 (8 : Nat) (0 : Int), ()) : Int × Int × Int × Unit), ()) : (Int × Int × Int × Unit) × (Int × Int × Int × Unit) × (Int × Int × Int × Unit) × Unit) (Int.toNat (x0 - (1 : Int))) (1 : Int)).1.1 :: (fstL x0 ((((List.getD d6.2.2.2.2.2.2.1 (0 : Nat) (0 : Int), List.getD d6.2.2.2.2.2.2.1 (1 : Nat) (0 : Int), List.getD d6.2.2.2.2.2.2.1 (2 : Nat) (0 : Int), ()) : Int × Int × Int × Unit), ((List.getD d6.2.2.2.2.2.2.1 (3 : Nat) (0 : Int), List.getD d6.2.2.2.2.2.2.1 (4 : Nat) (0 : Int), List.getD d6.2.2.2.2.2.2.1 (5 : Nat) (0 : Int), ()) : Int × Int × Int × Unit), ((List.getD d6.2.2.2.2.2.2.1 (6 : Nat) (0 : Int), List.getD d6.2.2.2.2.2.2.1 (7 : Nat) (0 : Int), List.getD d6.2.2.2.2.2.2.1 (8 : Nat) (0 : Int), ()) : Int × Int × Int × Unit), ()) : (Int × Int × Int × Unit) × (Int × Int × Int × Unit) × (Int × Int × Int × Unit) × Unit) (Int.toNat (x0 - (1 : Int))) (1 : Int)).1.2.1 :: (fstL x0 ((((List.getD d6.2.2.2.2.2.2.1 (0 : Nat) (0 : Int), List.getD d6.2.2.2.2.2.2.1 (1 : Nat) (0 : Int), List.getD d6.2.2.2.2.2.2.1 (2 : Nat) (0 : Int), ()) : Int × Int × Int × Unit), ((List.getD d6.2.2.2.2.2.2.1 (3 : Nat) (0 : Int), List.getD d6.2.2.2.2.2.2.1 (4 : Nat) (0 : Int), List.getD d6.2.2.2.2.2.2.1 (5 : Nat) (0 : Int), ()) : Int × Int × Int × Unit), ((List.getD d6.2.2.2.2.2.2.1 (6 : Nat) (0 : Int), List.getD d6.2.2.2.2.2.2.1 (7 : Nat) (0 : Int), List.getD d6.2.2.2.2.2.2.1 (8 : Nat) (0 : Int), ()) : Int × Int × Int × Unit), ()) : (Int × Int × Int × Unit) × (Int × Int × Int × Unit) × (Int × Int × Int × Unit) × Unit) (Int.toNat (x0 - (1 : Int))) (1 : Int)).1.2.2.1 :: (fstL x0 ((((List.getD d6.2.2.2.2.2.2.1 (0 : Nat) (0 : Int), List.getD d6.2.2.2.2.2.2.1 (1 : Nat) (0 : Int), List.getD d6.2.2.2.2.2.2.1 (2 : Nat) (0 : Int), ()) : Int × Int × Int × Unit), ((List.getD d6.2.2.2.2.2.2.1 (3 : Nat) (0 : Int), List.getD d6.2.2.2.2.2.2.1 (4 : Nat) (0 : Int), List.getD d6.2.2.2.2.2.2.1 (5 : Nat) (0 : Int), ()) : Int × Int × Int × Unit), ((List.getD d6.2.2.2.2.2.2.1 (6 : Nat) (0 : Int), List.getD d6.2.2.2.2.2.2.1 (7 : Nat) (0 : Int), List.getD d6.2.2.2.2.2.2.1 (8 : Nat) (0 : Int), ()) : Int × Int × Int × Unit), ()) : (Int × Int × Int × Unit) × (Int × Int × Int × Unit) × (Int × Int × Int × Unit) × Unit) (Int.toNat (x0 - (1 : Int))) (1 : Int)).2.1.1 :: (fstL x0 ((((List.getD d6.2.2.2.2.2.2.1 (0 : Nat) (0 : Int), List.getD d6.2.2.2.2.2.2.1 (1 : Nat) (0 : Int), List.getD d6.2.2.2.2.2.2.1 (2 : Nat) (0 : Int), ()) : Int × Int × Int × Unit), ((List.getD d6.2.2.2.2.2.2.1 (3 : Nat) (0 : Int), List.getD d6.2.2.2.2.2.2.1 (4 : Nat) (0 : Int), List.getD d6.2.2.2.2.2.2.1 (5 : Nat) (0 : Int), ()) : Int × Int × Int × Unit), ((List.getD d6.2.2.2.2.2.2.1 (6 : Nat) (0 : Int), List.getD d6.2.2.2.2.2.2.1 (7 : Nat) (0 : Int), List.getD d6.2.2.2.2.2.2.1 (8 : Nat) (0 : Int), ()) : Int × Int × Int × Unit), ()) : (Int × Int × Int × Unit) × (Int × Int × Int × Unit) × (Int × Int × Int × Unit) × Unit) (Int.toNat (x0 - (1 : Int))) (1 : Int)).2.1.2.1 :: (fstL x0 ((((List.getD d6.2.2.2.2.2.2.1 (0 : Nat) (0 : Int), List.getD d6.2.2.2.2.2.2.1 (1 : Nat) (0 : Int), List.getD d6.2.2.2.2.2.2.1 (2 : Nat) (0 : Int), ()) : Int × Int × Int × Unit), ((List.getD d6.2.2.2.2.2.2.1 (3 : Nat) (0 : Int), List.getD d6.2.2.2.2.2.2.1 (4 : Nat) (0 : Int), List.getD d6.2.2.2.2.2.2.1 (5 : Nat) (0 : Int), ()) : Int × Int × Int × Unit), ((List.getD d6.2.2.2.2.2.2.1 (6 : Nat) (0 : Int), List.getD d6.2.2.2.2.2.2.1 (7 : Nat) (0 : Int), List.getD d6.2.2.2.2.2.2.1 (8 : Nat) (0 : Int), ()) : Int × Int × Int × Unit), ()) : (Int × Int × Int × Unit) × (Int × Int × Int × Unit) × (Int × Int × Int × Unit) × Unit) (Int.toNat (x0 - (1 : Int))) (1 : Int)).2.1.2.2.1 :: (fstL x0 ((((List.getD d6.2.2.2.2.2.2.1 (0 : Nat) (0 : Int), List.getD d6.2.2.2.2.2.2.1 (1 : Nat) (0 : Int), List.getD d6.2.2.2.2.2.2.1 (2 : Nat) (0 : Int), ()) : Int × Int × Int × Unit), ((List.getD d6.2.2.2.2.2.2.1 (3 : Nat) (0 : Int), List.getD d6.2.2.2.2.2.2.1 (4 : Nat) (0 : Int), List.getD d6.2.2.2.2.2.2.1 (5 : Nat) (0 : Int), ()) : Int × Int × Int × Unit), ((List.getD d6.2.2.2.2.2.2.1 (6 : Nat) (0 : Int), List.getD d6.2.2.2.2.2.2.1 (7 : Nat) (0 : Int), List.getD d6.2.2.2.2.2.2.1 (8 : Nat) (0 : Int), ()) : Int × Int × Int × Unit), ()) : (Int × Int × Int × Unit) × (Int × Int × Int × Unit) × (Int × Int × Int × Unit) × Unit) (Int.toNat (x0 - (1 : Int))) (1 : Int)).2.2.1.1 :: (fstL x0 ((((List.getD d6.2.2.2.2.2.2.1 (0 : Nat) (0 : Int), List.getD d6.2.2.2.2.2.2.1 (1 : Nat) (0 : Int), List.getD d6.2.2.2.2.2.2.1 (2 : Nat) (0 : Int), ()) : Int × Int × Int × Unit), ((List.getD d6.2.2.2.2.2.2.1 (3 : Nat) (0 : Int), List.getD d6.2.2.2.2.2.2.1 (4 : Nat) (0 : Int), List.getD d6.2.2.2.2.2.2.1 (5 : Nat) (0 : Int), ()) : Int × Int × Int × Unit), ((List.getD d6.2.2.2.2.2.2.1 (6 : Nat) (0 : Int), List.getD d6.2.2.2.2.2.2.1 (7 : Nat) (0 : Int), List.getD d6.2.2.2.2.2.2.1 (8 : Nat) (0 : Int), ()) : Int × Int × Int × Unit), ()) : (Int × Int × Int × Unit) × (Int × Int × Int × Unit) × (Int × Int × Int × Unit) × Unit) (Int.toNat (x0 - (1 : Int))) (1 : Int)).2.2.1.2.1 :: (fstL x0 ((((List.getD d6.2.2.2.2.2.2.1 (0 : Nat) (0 : Int), List.getD d6.2.2.2.2.2.2.1 (1 : Nat) (0 : Int), List.getD d6.2.2.2.2.2.2.1 (2 : Nat) (0 : Int), ()) : Int × Int × Int × Unit), ((List.getD d6.2.2.2.2.2.2.1 (3 : Nat) (0 : Int), List.getD d6.2.2.2.2.2.2.1 (4 : Nat) (0 : Int), List.getD d6.2.2.2.2.2.2.1 (5 : Nat) (0 : Int), ()) : Int × Int × Int × Unit), ((List.getD d6.2.2.2.2.2.2.1 (6 : Nat) (0 : Int), List.getD d6.2.2.2.2.2.2.1 (7 : Nat) (0 : Int), List.getD d6.2.2.2.2.2.2.1 (8 : Nat) (0 : Int), ()) : Int × Int × Int × Unit), ()) : (Int × Int × Int × Unit) × (Int × Int × Int × Unit) × (Int × Int × Int × Unit) × Unit) (Int.toNat (x0 - (1 : Int))) (1 : Int)).2.2.1.2.2.1 :: ([] : List Int))) (5 : Nat) (0 : Int), ()) : Int × Int × Int × Unit), ((List.getD (setMany d6.2.2.2.1 (0 : Nat) ((fstL x0 ((((List.getD d6.2.2.2.2.2.2.1 (0 : Nat) (0 : Int), List.getD d6.2.2.2.2.2.2.1 (1 : Nat) (0 : Int), List.getD d6.2.2.2.2.2.2.1 (2 : Nat) (0 : Int), ()) : Int × Int × Int × Unit), ((List.getD d6.2.2.2.2.2.2.1 (3 : Nat) (0 : Int), List.getD d6.2.2.2.2.2.2.1 (4 : Nat) (0 : Int), List.getD d6.2.2.2.2.2.2.1 (5 : Nat) (0 : Int), ()) : Int × Int × Int × Unit), ((List.getD d6.2.2.2.2.2.2.1 (6 : Nat) (0 : Int), List.getD d6.2.2.2.2.2.2.1 (7 : Nat) (0 : Int), List.getD d6.2.2.2.2.2.2.1 (8 : Nat) (0 : Int), ()) : Int × Int × Int × Unit), ()) : (Int × Int × Int × Unit) × (Int × Int × Int × Unit) × (Int × Int × Int × Unit) × Unit) (Int.toNat (x0 - (1 : Int))) (1 : Int)).1.1 :: (fstL x0 ((((List.getD d6.2.2.2.2.2.2.1 (0 : Nat) (0 : Int), List.getD d6.2.2.2.2.2.2.1 (1 : Nat) (0 : Int), List.getD d6.2.2.2.2.2.2.1 (2 : Nat) (0 : Int), ()) : Int × Int × Int × Unit), ((List.getD d6.2.2.2.2.2.2.1 (3 : Nat) (0 : Int), List.getD d6.2.2.2.2.2.2.1 (4 : Nat) (0 : Int), List.getD d6.2.2.2.2.2.2.1 (5 : Nat) (0 : Int), ()) : Int × Int × Int × Unit), ((List.getD d6.2.2.2.2.2.2.1 (6 : Nat) (0 : Int), List.getD d6.2.2.2.2.2.2.1 (7 : Nat) (0 : Int), List.getD d6.2.2.2.2.2.2.1 (8 : Nat) (0 : Int), ()) : Int × Int × Int × Unit), ()) : (Int × Int × Int × Unit) × (Int × Int × Int × Unit) × (Int × Int × Int × Unit) × Unit) (Int.toNat (x0 - (1 : Int))) (1 : Int)).1.2.1 :: (fstL x0 ((((List.getD d6.2.2.2.2.2.2.1 (0 : Nat) (0 : Int), List.getD d6.2.2.2.2.2.2.1 (1 : Nat) (0 : Int), List.getD d6.2.2.2.2.2.2.1 (2 : Nat) (0 : Int), ()) : Int × Int × Int × Unit), ((List.getD d6.2.2.2.2.2.2.1 (3 : Nat) (0 : Int), List.getD d6.2.2.2.2.2.2.1 (4 : Nat) (0 : Int), List.getD d6.2.2.2.2.2.2.1 (5 : Nat) (0 : Int), ()) : Int × Int × Int × Unit), ((List.getD d6.2.2.2.2.2.2.1 (6 : Nat) (0 : Int), List.getD d6.2.2.2.2.2.2.1 (7 : Nat) (0 : Int), List.getD d6.2.2.2.2.2.2.1 (8 : Nat) (0 : Int), ()) : Int × Int × Int × Unit), ()) : (Int × Int × Int × Unit) × (Int × Int × Int × Unit) × (Int × Int × Int × Unit) × Unit) (Int.toNat (x0 - (1 : Int))) (1 : Int)).1.2.2.1 :: (fstL x0 ((((List.getD d6.2.2.2.2.2.2.1 (0 : Nat) (0 : Int), List.getD d6.2.2.2.2.2.2.1 (1 : Nat) (0 : Int), List.getD d6.2.2.2.2.2.2.1 (2 : Nat) (0 : Int), ()) : Int × Int × Int × Unit), ((List.getD d6.2.2.2.2.2.2.1 (3 : Nat) (0 : Int), List.getD d6.2.2.2.2.2.2.1 (4 : Nat) (0 : Int), List.getD d6.2.2.2.2.2.2.1 (5 : Nat) (0 : Int), ()) : Int × Int × Int × Unit), ((List.getD d6.2.2.2.2.2.2.1 (6 : Nat) (0 : Int), List.getD d6.2.2.2.2.2.2.1 (7 : Nat) (0 : Int), List.getD d6.2.2.2.2.2.2.1 (8 : Nat) (0 : Int), ()) : Int × Int × Int × Unit), ()) : (Int × Int × Int × Unit) × (Int × Int × Int × Unit) × (Int × Int × Int × Unit) × Unit) (Int.toNat (x0 - (1 : Int))) (1 : Int)).2.1.1 :: (fstL x0 ((((List.getD d6.2.2.2.2.2.2.1 (0 : Nat) (0 : Int), List.getD d6.2.2.2.2.2.2.1 (1 : Nat) (0 : Int), List.getD d6.2.2.2.2.2.2.1 (2 : Nat) (0 : Int), ()) : Int × Int × Int × Unit), ((List.getD d6.2.2.2.2.2.2.1 (3 : Nat) (0 : Int), List.getD d6.2.2.2.2.2.2.1 (4 : Nat) (0 : Int), List.getD d6.2.2.2.2.2.2.1 (5 : Nat) (0 : Int), ()) : Int × Int × Int × Unit), ((List.getD d6.2.2.2.2.2.2.1 (6 : Nat) (0 : Int), List.getD d6.2.2.2.2.2.2.1 (7 : Nat) (0 : Int), List.getD d6.2.2.2.2.2.2.1 (8 : Nat) (0 : Int), ()) : Int × Int × Int × Unit), ()) : (Int × Int × Int × Unit) × (Int × Int × Int × Unit) × (Int × Int × Int × Unit) × Unit) (Int.toNat (x0 - (1 : Int))) (1 : Int)).2.1.2.1 :: (fstL x0 ((((List.getD d6.2.2.2.2.2.2.1 (0 : Nat) (0 : Int), List.getD d6.2.2.2.2.2.2.1 (1 : Nat) (0 : Int), List.getD d6.2.2.2.2.2.2.1 (2 : Nat) (0 : Int), ()) : Int × Int × Int × Unit), ((List.getD d6.2.2.2.2.2.2.1 (3 : Nat) (0 : Int), List.getD d6.2.2.2.2.2.2.1 (4 : Nat) (0 : Int), List.getD d6.2.2.2.2.2.2.1 (5 : Nat) (0 : Int), ()) : Int × Int × Int × Unit), ((List.getD d6.2.2.2.2.2.2.1 (6 : Nat) (0 : Int), List.getD d6.2.2.2.2.2.2.1 (7 : Nat) (0 : Int), List.getD d6.2.2.2.2.2.2.1 (8 : Nat) (0 : Int), ()) : Int × Int × Int × Unit), ()) : (Int × Int × Int × Unit) × (Int × Int × Int × Unit) × (Int × Int × Int × Unit) × Unit) (Int.toNat (x0 - (1 : Int))) (1 : Int)).2.1.2.2.1 :: (fstL x0 ((((List.getD d6.2.2.2.2.2.2.1 (0 : Nat) (0 : Int), List.getD d6.2.2.2.2.2.2.1 (1 : Nat) (0 : Int), List.getD d6.2.2.2.2.2.2.1 (2 : Nat) (0 : Int), ()) : Int × Int × Int × Unit), ((List.getD d6.2.2.2.2.2.2.1 (3 : Nat) (0 : Int), List.getD d6.2.2.2.2.2.2.1 (4 : Nat) (0 : Int), List.getD d6.2.2.2.2.2.2.1 (5 : Nat) (0 : Int), ()) : Int × Int × Int × Unit), ((List.getD d6.2.2.2.2.2.2.1 (6 : Nat) (0 : Int), List.getD d6.2.2.2.2.2.2.1 (7 : Nat) (0 : Int), List.getD d6.2.2.2.2.2.2.1 (8 : Nat) (0 : Int), ()) : Int × Int × Int × Unit), ()) : (Int × Int × Int × Unit) × (Int × Int × Int × Unit) × (Int × Int × Int × Unit) × Unit) (Int.toNat (x0 - (1 : Int))) (1 : Int)).2.2.1.1 :: (fstL x0 ((((List.getD d6.2.2.2.2.2.2.1 (0 : Nat) (0 : Int), List.getD d6.2.2.2.2.2.2.1 (1 : Nat) (0 : Int), List.getD d6.2.2.2.2.2.2.1 (2 : Nat) (0 : Int), ()) : Int × Int × Int × Unit), ((List.getD d6.2.2.2.2.2.2.1 (3 : Nat) (0 : Int), List.getD d6.2.2.2.2.2.2.1 (4 : Nat) (0 : Int), List.getD d6.2.2.2.2.2.2.1 (5 : Nat) (0 : Int), ()) : Int × Int × Int × Unit), ((List.getD d6.2.2.2.2.2.2.1 (6 : Nat) (0 : Int), List.getD d6.2.2.2.2.2.2.1 (7 : Nat) (0 : Int), List.getD d6.2.2.2.2.2.2.1 (8 : Nat) (0 : Int), ()) : Int × Int × Int × Unit), ()) : (Int × Int × Int × Unit) × (Int × Int × Int × Unit) × (Int × Int × Int × Unit) × Unit) (Int.toNat (x0 - (1 : Int))) (1 : Int)).2.2.1.2.1 :: (fstL x0 ((((List.getD d6.2.2.2.2.2.2.1 (0 : Nat) (0 : Int), List.getD d6.2.2.2.2.2.2.1 (1 : Nat) (0 : Int), List.getD d6.2.2.2.2.2.2.1 (2 : Nat) (0 : Int), ()) : Int × Int × Int × Unit), ((List.getD d6.2.2.2.2.2.2.1 (3 : Nat) (0 : Int), List.getD d6.2.2.2.2.2.2.1 (4 : Nat) (0 : Int), List.getD d6.2.2.2.2.2.2.1 (5 : Nat) (0 : Int), ()) : Int × Int × Int × Unit), ((List.getD d6.2.2.2.2.2.2.1 (6 : Nat) (0 : Int), List.getD d6.2.2.2.2.2.2.1 (7 : Nat) (0 : Int), List.getD d6.2.2.2.2.2.2.1 (8 : Nat) (0 : Int), ()) : Int × Int × Int × Unit), ()) : (Int × Int × Int × Unit) × (Int × Int × Int × Unit) × (Int × Int × Int × Unit) × Unit) (Int.toNat (x0 - (1 : Int))) (1 : Int)).2.2.1.2.2.1 :: ([] : List Int))) (6 : Nat) (0 : Int), List.getD (setMany d6.2.2.2.1 (0 : Nat) ((fstL x0 ((((List.getD d6.2.2.2.2.2.2.1 (0 : Nat) (0 : Int), List.getD d6.2.2.2.2.2.2.1 (1 : Nat) (0 : Int), List.getD d6.2.2.2.2.2.2.1 (2 : Nat) (0 : Int), ()) : Int × Int × Int × Unit), ((List.getD d6.2.2.2.2.2.2.1 (3 : Nat) (0 : Int), List.getD d6.2.2.2.2.2.2.1 (4 : Nat) (0 : Int), List.getD d6.2.2.2.2.2.2.1 (5 : Nat) (0 : Int), ()) : Int × Int × Int × Unit), ((List.getD d6.2.2.2.2.2.2.1 (6 : Nat) (0 : Int), List.getD d6.2.2.2.2.2.2.1 (7 : Nat) (0 : Int), List.getD d6.2.2.2.2.2.2.1 (8 : Nat) (0 : Int), ()) : Int × Int × Int × Unit), ()) : (Int × Int × Int × Unit) × (Int × Int × Int × Unit) × (Int × Int × Int × Unit) × Unit) (Int.toNat (x0 - (1 : Int))) (1 : Int)).1.1 :: (fstL x0 ((((List.getD d6.2.2.2.2.2.2.1 (0 : Nat) (0 : Int), List.getD d6.2.2.2.2.2.2.1 (1 : Nat) (0 : Int), List.getD d6.2.2.2.2.2.2.1 (2 : Nat) (0 : Int), ()) : Int × Int × Int × Unit), ((List.getD d6.2.2.2.2.2.2.1 (3 : Nat) (0 : Int), List.getD d6.2.2.2.2.2.2.1 (4 : Nat) (0 : Int), List.getD d6.2.2.2.2.2.2.1 (5 : Nat) (0 : Int), ()) : Int × Int × Int × Unit), ((List.getD d6.2.2.2.2.2.2.1 (6 : Nat) (0 : Int), List.getD d6.2.2.2.2.2.2.1 (7 : Nat) (0 : Int), List.getD d6.2.2.2.2.2.2.1 (8 : Nat) (0 : Int), ()) : Int × Int × Int × Unit), ()) : (Int × Int × Int × Unit) × (Int × Int × Int × Unit) × (Int × Int × Int × Unit) × Unit) (Int.toNat (x0 - (1 : Int))) (1 : Int)).1.2.1 :: (fstL x0 ((((List.getD d6.2.2.2.2.2.2.1 (0 : Nat) (0 : Int), List.getD d6.2.2.2.2.2.2.1 (1 : Nat) (0 : Int), List.getD d6.2.2.2.2.2.2.1 (2 : Nat) (0 : Int), ()) : Int × Int × Int × Unit), ((List.getD d6.2.2.2.2.2.2.1 (3 : Nat) (0 : Int), List.getD d6.2.2.2.2.2.2.1 (4 : Nat) (0 : Int), List.getD d6.2.2.2.2.2.2.1 (5 : Nat) (0 : Int), ()) : Int × Int × Int × Unit), ((List.getD d6.2.2.2.2.2.2.1 (6 : Nat) (0 : Int), List.getD d6.2.2.2.2.2.2.1 (7 : Nat) (0 : Int), List.getD d6.2.2.2.2.2.2.1 (8 : Nat) (0 : Int), ()) : Int × Int × Int × Unit), ()) : (Int × Int × Int × Unit) × (Int × Int × Int × Unit) × (Int × Int × Int × Unit) × Unit) (Int.toNat (x0 - (1 : Int))) (1 : Int)).1.2.2.1 :: (fstL x0 ((((List.getD d6.2.2.2.2.2.2.1 (0 : Nat) (0 : Int), List.getD d6.2.2.2.2.2.2.1 (1 : Nat) (0 : Int), List.getD d6.2.2.2.2.2.2.1 (2 : Nat) (0 : Int), ()) : Int × Int × Int × Unit), ((List.getD d6.2.2.2.2.2.2.1 (3 : Nat) (0 : Int), List.getD d6.2.2.2.2.2.2.1 (4 : Nat) (0 : Int), List.getD d6.2.2.2.2.2.2.1 (5 : Nat) (0 : Int), ()) : Int × Int × Int × Unit), ((List.getD d6.2.2.2.2.2.2.1 (6 : Nat) (0 : Int), List.getD d6.2.2.2.2.2.2.1 (7 : Nat) (0 : Int), List.getD d6.2.2.2.2.2.2.1 (8 : Nat) (0 : Int), ()) : Int × Int × Int × Unit), ()) : (Int × Int × Int × Unit) × (Int × Int × Int × Unit) × (Int × Int × Int × Unit) × Unit) (Int.toNat (x0 - (1 : Int))) (1 : Int)).2.1.1 :: (fstL x0 ((((List.getD d6.2.2.2.2.2.2.1 (0 : Nat) (0 : Int), List.getD d6.2.2.2.2.2.2.1 (1 : Nat) (0 : Int), List.getD d6.2.2.2.2.2.2.1 (2 : Nat) (0 : Int), ()) : Int × Int × Int × Unit), ((List.getD d6.2.2.2.2.2.2.1 (3 : Nat) (0 : Int), List.getD d6.2.2.2.2.2.2.1 (4 : Nat) (0 : Int), List.getD d6.2.2.2.2.2.2.1 (5 : Nat) (0 : Int), ()) : Int × Int × Int × Unit), ((List.getD d6.2.2.2.2.2.2.1 (6 : Nat) (0 : Int), List.getD d6.2.2.2.2.2.2.1 (7 : Nat) (0 : Int), List.getD d6.2.2.2.2.2.2.1 (8 : Nat) (0 : Int), ()) : Int × Int × Int × Unit), ()) : (Int × Int × Int × Unit) × (Int × Int × Int × Unit) × (Int × Int × Int × Unit) × Unit) (Int.toNat (x0 - (1 : Int))) (1 : Int)).2.1.2.1 :: (fstL x0 ((((List.getD d6.2.2.2.2.2.2.1 (0 : Nat) (0 : Int), List.getD d6.2.2.2.2.2.2.1 (1 : Nat) (0 : Int), List.getD d6.2.2.2.2.2.2.1 (2 : Nat) (0 : Int), ()) : Int × Int × Int × Unit), ((List.getD d6.2.2.2.2.2.2.1 (3 : Nat) (0 : Int), List.getD d6.2.2.2.2.2.2.1 (4 : Nat) (0 : Int), List.getD d6.2.2.2.2.2.2.1 (5 : Nat) (0 : Int), ()) : Int × Int × Int × Unit), ((List.getD d6.2.2.2.2.2.2.1 (6 : Nat) (0 : Int), List.getD d6.2.2.2.2.2.2.1 (7 : Nat) (0 : Int), List.getD d6.2.2.2.2.2.2.1 (8 : Nat) (0 : Int), ()) : Int × Int × Int × Unit), ()) : (Int × Int × Int × Unit) × (Int × Int × Int × Unit) × (Int × Int × Int × Unit) × Unit) (Int.toNat (x0 - (1 : Int))) (1 : Int)).2.1.2.2.1 :: (fstL x0 ((((List.getD d6.2.2.2.2.2.2.1 (0 : Nat) (0 : Int), List.getD d6.2.2.2.2.2.2.1 (1 : Nat) (0 : Int), List.getD d6.2.2.2.2.2.2.1 (2 : Nat) (0 : Int), ()) : Int × Int × Int × Unit), ((List.getD d6.2.2.2.2.2.2.1 (3 : Nat) (0 : Int), List.getD d6.2.2.2.2.2.2.1 (4 : Nat) (0 : Int), List.getD d6.2.2.2.2.2.2.1 (5 : Nat) (0 : Int), ()) : Int × Int × Int × Unit), ((List.getD d6.2.2.2.2.2.2.1 (6 : Nat) (0 : Int), List.getD d6.2.2.2.2.2.2.1 (7 : Nat) (0 : Int), List.getD d6.2.2.2.2.2.2.1 (8 : Nat) (0 : Int), ()) : Int × Int × Int × Unit), ()) : (Int × Int × Int × Unit) × (Int × Int × Int × Unit) × (Int × Int × Int × Unit) × Unit) (Int.toNat (x0 - (1 : Int))) (1 : Int)).2.2.1.1 :: (fstL x0 ((((List.getD d6.2.2.2.2.2.2.1 (0 : Nat) (0 : Int), List.getD d6.2.2.2.2.2.2.1 (1 : Nat) (0 : Int), List.getD d6.2.2.2.2.2.2.1 (2 : Nat) (0 : Int), ()) : Int × Int × Int × Unit), ((List.getD d6.2.2.2.2.2.2.1 (3 : Nat) (0 : Int), List.getD d6.2.2.2.2.2.2.1 (4 : Nat) (0 : Int), List.getD d6.2.2.2.2.2.2.1 (5 : Nat) (0 : Int), ()) : Int × Int × Int × Unit), ((List.getD d6.2.2.2.2.2.2.1 (6 : Nat) (0 : Int), List.getD d6.2.2.2.2.2.2.1 (7 : Nat) (0 : Int), List.getD d6.2.2.2.2.2.2.1 (8 : Nat) (0 : Int), ()) : Int × Int × Int × Unit), ()) : (Int × Int × Int × Unit) × (Int × Int × Int × Unit) × (Int × Int × Int × Unit) × Unit) (Int.toNat (x0 - (1 : Int))) (1 : Int)).2.2.1.2.1 :: (fstL x0 ((((List.getD d6.2.2.2.2.2.2.1 (0 : Nat) (0 : Int), List.getD d6.2.2.2.2.2.2.1 (1 : Nat) (0 : Int), List.getD d6.2.2.2.2.2.2.1 (2 : Nat) (0 : Int), ()) : Int × Int × Int × Unit), ((List.getD d6.2.2.2.2.2.2.1 (3 : Nat) (0 : Int), List.getD d6.2.2.2.2.2.2.1 (4 : Nat) (0 : Int), List.getD d6.2.2.2.2.2.2.1 (5 : Nat) (0 : Int), ()) : Int × Int × Int × Unit), ((List.getD d6.2.2.2.2.2.2.1 (6 : Nat) (0 : Int), List.getD d6.2.2.2.2.2.2.1 (7 : Nat) (0 : Int), List.getD d6.2.2.2.2.2.2.1 (8 : Nat) (0 : Int), ()) : Int × Int × Int × Unit), ()) : (Int × Int × Int × Unit) × (Int × Int × Int × Unit) × (Int × Int × Int × Unit) × Unit) (Int.toNat (x0 - (1 : Int))) (1 : Int)).2.2.1.2.2.1 :: ([] : List Int))) (7 : Nat) (0 : Int), List.getD (setMany d6.2.2.2.1 (0 : Nat) ((fstL x0 ((((List.getD d6.2.2.2.2.2.2.1 (0 : Nat) (0 : Int), List.getD d6.2.2.2.2.2.2.1 (1 : Nat) (0 : Int), List.getD d6.2.2.2.2.2.2.1 (2 : Nat) (0 : Int), ()) : Int × Int × Int × Unit), ((List.getD d6.2.2.2.2.2.2.1 (3 : Nat) (0 : Int), List.getD d6.2.2.2.2.2.2.1 (4 : Nat) (0 : Int), List.getD d6.2.2.2.2.2.2.1 (5 : Nat) (0 : Int), ()) : Int × Int × Int × Unit), ((List.getD d6.2.2.2.2.2.2.1 (6 : Nat) (0 : Int), List.getD d6.2.2.2.2.2.2.1 (7 : Nat) (0 : Int), List.getD d6.2.2.2.2.2.2.1 (8 : Nat) (0 : Int), ()) : Int × Int × Int × Unit), ()) : (Int × Int × Int × Unit) × (Int × Int × Int × Unit) × (Int × Int × Int × Unit) × Unit) (Int.toNat (x0 - (1 : Int))) (1 : Int)).1.1 :: (fstL x0 ((((List.getD d6.2.2.2.2.2.2.1 (0 : Nat) (0 : Int), List.getD d6.2.2.2.2.2.2.1 (1 : Nat) (0 : Int), List.getD d6.2.2.2.2.2.2.1 (2 : Nat) (0 : Int), ()) : Int × Int × Int × Unit), ((List.getD d6.2.2.2.2.2.2.1 (3 : Nat) (0 : Int), List.getD d6.2.2.2.2.2.2.1 (4 : Nat) (0 : Int), List.getD d6.2.2.2.2.2.2.1 (5 : Nat) (0 : Int), ()) : Int × Int × Int × Unit), ((List.getD d6.2.2.2.2.2.2.1 (6 : Nat) (0 : Int), List.getD d6.2.2.2.2.2.2.1 (7 : Nat) (0 : Int), List.getD d6.2.2.2.2.2.2.1 (8 : Nat) (0 : Int), ()) : Int × Int × Int × Unit), ()) : (Int × Int × Int × Unit) × (Int × Int × Int × Unit) × (Int × Int × Int × Unit) × Unit) (Int.toNat (x0 - (1 : Int))) (1 : Int)).1.2.1 :: (fstL x0 ((((List.getD d6.2.2.2.2.2.2.1 (0 : Nat) (0 : Int), List.getD d6.2.2.2.2.2.2.1 (1 : Nat) (0 : Int), List.getD d6.2.2.2.2.2.2.1 (2 : Nat) (0 : Int), ()) : Int × Int × Int × Unit), ((List.getD d6.2.2.2.2.2.2.1 (3 : Nat) (0 : Int), List.getD d6.2.2.2.2.2.2.1 (4 : Nat) (0 : Int), List.getD d6.2.2.2.2.2.2.1 (5 : Nat) (0 : Int), ()) : Int × Int × Int × Unit), ((List.getD d6.2.2.2.2.2.2.1 (6 : Nat) (0 : Int), List.getD d6.2.2.2.2.2.2.1 (7 : Nat) (0 : Int), List.getD d6.2.2.2.2.2.2.1 (8 : Nat) (0 : Int), ()) : Int × Int × Int × Unit), ()) : (Int × Int × Int × Unit) × (Int × Int × Int × Unit) × (Int × Int × Int × Unit) × Unit) (Int.toNat (x0 - (1 : Int))) (1 : Int)).1.2.2.1 :: (fstL x0 ((((List.getD d6.2.2.2.2.2.2.1 (0 : Nat) (0 : Int), List.getD d6.2.2.2.2.2.2.1 (1 : Nat) (0 : Int), List.getD d6.2.2.2.2.2.2.1 (2 : Nat) (0 : Int), ()) : Int × Int × Int × Unit), ((List.getD d6.2.2.2.2.2.2.1 (3 : Nat) (0 : Int), List.getD d6.2.2.2.2.2.2.1 (4 : Nat) (0 : Int), List.getD d6.2.2.2.2.2.2.1 (5 : Nat) (0 : Int), ()) : Int × Int × Int × Unit), ((List.getD d6.2.2.2.2.2.2.1 (6 : Nat) (0 : Int), List.getD d6.2.2.2.2.2.2.1 (7 : Nat) (0 : Int), List.getD d6.2.2.2.2.2.2.1 (8 : Nat) (0 : Int), ()) : Int × Int × Int × Unit), ()) : (Int × Int × Int × Unit) × (Int × Int × Int × Unit) × (Int × Int × Int × Unit) × Unit) (Int.toNat (x0 - (1 : Int))) (1 : Int)).2.1.1 :: (fstL x0 ((((List.getD d6.2.2.2.2.2.2.1 (0 : Nat) (0 : Int), List.getD d6.2.2.2.2.2.2.1 (1 : Nat) (0 : Int), List.getD d6.2.2.2.2.2.2.1 (2 : Nat) (0 : Int), ()) : Int × Int × Int × Unit), ((List.getD d6.2.2.2.2.2.2.1 (3 : Nat) (0 : Int), List.getD d6.2.2.2.2.2.2.1 (4 : Nat) (0 : Int), List.getD d6.2.2.2.2.2.2.1 (5 : Nat) (0 : Int), ()) : Int × Int × Int × Unit), ((List.getD d6.2.2.2.2.2.2.1 (6 : Nat) (0 : Int), List.getD d6.2.2.2.2.2.2.1 (7 : Nat) (0 : Int), List.getD d6.2.2.2.2.2.2.1 (8 : Nat) (0 : Int), ()) : Int × Int × Int × Unit), ()) : (Int × Int × Int × Unit) × (Int × Int × Int × Unit) × (Int × Int × Int × Unit) × Unit) (Int.toNat (x0 - (1 : Int))) (1 : Int)).2.1.2.1 :: (fstL x0 ((((List.getD d6.2.2.2.2.2.2.1 (0 : Nat) (0 : Int), List.getD d6.2.2.2.2.2.2.1 (1 : Nat) (0 : Int), List.getD d6.2.2.2.2.2.2.1 (2 : Nat) (0 : Int), ()) : Int × Int × Int × Unit), ((List.getD d6.2.2.2.2.2.2.1 (3 : Nat) (0 : Int), List.getD d6.2.2.2.2.2.2.1 (4 : Nat) (0 : Int), List.getD d6.2.2.2.2.2.2.1 (5 : Nat) (0 : Int), ()) : Int × Int × Int × Unit), ((List.getD d6.2.2.2.2.2.2.1 (6 : Nat) (0 : Int), List.getD d6.2.2.2.2.2.2.1 (7 : Nat) (0 : Int), List.getD d6.2.2.2.2.2.2.1 (8 : Nat) (0 : Int), ()) : Int × Int × Int × Unit), ()) : (Int × Int × Int × Unit) × (Int × Int × Int × Unit) × (Int × Int × Int × Unit) × Unit) (Int.toNat (x0 - (1 : Int))) (1 : Int)).2.1.2.2.1 :: (fstL x0 ((((List.getD d6.2.2.2.2.2.2.1 (0 : Nat) (0 : Int), List.getD d6.2.2.2.2.2.2.1 (1 : Nat) (0 : Int), List.getD d6.2.2.2.2.2.2.1 (2 : Nat) (0 : Int), ()) : Int × Int × Int × Unit), ((List.getD d6.2.2.2.2.2.2.1 (3 : Nat) (0 : Int), List.getD d6.2.2.2.2.2.2.1 (4 : Nat) (0 : Int), List.getD d6.2.2.2.2.2.2.1 (5 : Nat) (0 : Int), ()) : Int × Int × Int × Unit), ((List.getD d6.2.2.2.2.2.2.1 (6 : Nat) (0 : Int), List.getD d6.2.2.2.2.2.2.1 (7 : Nat) (0 : Int), List.getD d6.2.2.2.2.2.2.1 (8 : Nat) (0 : Int), ()) : Int × Int × Int × Unit), ()) : (Int × Int × Int × Unit) × (Int × Int × Int × Unit) × (Int × Int × Int × Unit) × Unit) (Int.toNat (x0 - (1 : Int))) (1 : Int)).2.2.1.1 :: (fstL x0 ((((List.getD d6.2.2.2.2.2.2.1 (0 : Nat) (0 : Int), List.getD d6.2.2.2.2.2.2.1 (1 : Nat) (0 : Int), List.getD d6.2.2.2.2.2.2.1 (2 : Nat) (0 : Int), ()) : Int × Int × Int × Unit), ((List.getD d6.2.2.2.2.2.2.1 (3 : Nat) (0 : Int), List.getD d6.2.2.2.2.2.2.1 (4 : Nat) (0 : Int), List.getD d6.2.2.2.2.2.2.1 (5 : Nat) (0 : Int), ()) : Int × Int × Int × Unit), ((List.getD d6.2.2.2.2.2.2.1 (6 : Nat) (0 : Int), List.getD d6.2.2.2.2.2.2.1 (7 : Nat) (0 : Int), List.getD d6.2.2.2.2.2.2.1 (8 : Nat) (0 : Int), ()) : Int × Int × Int × Unit), ()) : (Int × Int × Int × Unit) × (Int × Int × Int × Unit) × (Int × Int × Int × Unit) × Unit) (Int.toNat (x0 - (1 : Int))) (1 : Int)).2.2.1.2.1 :: (fstL x0 ((((List.getD d6.2.2.2.2.2.2.1 (0 : Nat) (0 : Int), List.getD d6.2.2.2.2.2.2.1 (1 : Nat) (0 : Int), List.getD d6.2.2.2.2.2.2.1 (2 : Nat) (0 : Int), ()) : Int × Int × Int × Unit), ((List.getD d6.2.2.2.2.2.2.1 (3 : Nat) (0 : Int), List.getD d6.2.2.2.2.2.2.1 (4 : Nat) (0 : Int), List.getD d6.2.2.2.2.2.2.1 (5 : Nat) (0 : Int), ()) : Int × Int × Int × Unit), ((List.getD d6.2.2.2.2.2.2.1 (6 : Nat) (0 : Int), List.getD d6.2.2.2.2.2.2.1 (7 : Nat) (0 : Int), List.getD d6.2.2.2.2.2.2.1 (8 : Nat) (0 : Int), ()) : Int × Int × Int × Unit), ()) : (Int × Int × Int × Unit) × (Int × Int × Int × Unit) × (Int × Int × Int × Unit) × Unit) (Int.toNat (x0 - (1 : Int))) (1 : Int)).2.2.1.2.2.1 :: ([] : List Int))) (8 : Nat) (0 : Int), ()) : Int × Int × Int × Unit), ()) : (Int × Int × Int × Unit) × (Int × Int × Int × Unit) × (Int × Int × Int × Unit) × Unit), ()) : ((Int × Int × Int × Unit) × (Int × Int × Int × Unit) × (Int × Int × Int × Unit) × Unit) × Unit)))))))))) else some (Lp.out (Lp.out (Lp.go ((wr IntKind.i64 (d4.1 + (1 : Int)), d6.2.1, d6.2.2.1, d6.2.2.2.1, d6.2.2.2.2.1, ()) : Int × List Int × List Int × List Int × List Int × Unit))))))))))))
noncomputable def g53_l2 (x0 : Int) (d3 d4 : Int × List Int × List Int × List Int × List Int × Unit) (d5 : Int × List Int × List Int × List Int × List Int × List Int × List Int × Unit) : Option (Lp (Int × List Int × List Int × List Int × List Int × List Int × List Int × Unit) (Lp (Int × List Int × List Int × List Int × List Int × Unit) (Lp (Int × List Int × List Int × List Int × List Int × Unit) (((Int × Int × Int × Unit) × (Int × Int × Int × Unit) × (Int × Int × Int × Unit) × Unit) × Unit)))) := bif ilt d5.1 (3 : Int) then gd ((1 : Nat) < List.length d5.2.2.1) (gd ((0 : Int) ≤ List.getD d5.2.2.1 (1 : Nat) (0 : Int) ∧ List.getD d5.2.2.1 (1 : Nat) (0 : Int) < (↑(List.length (ptsC x0)) : Int)) (gd ((0 : Int) ≤ d5.1 ∧ d5.1 < (3 : Int)) (gd ((2 : Nat) < List.length d5.2.2.1) (gd ((0 : Int) ≤ List.getD d5.2.2.1 (2 : Nat) (0 : Int) ∧ List.getD d5.2.2.1 (2 : Nat) (0 : Int) < (↑(List.length (ptsC x0)) : Int)) (gd ((0 : Int) ≤ d5.1 ∧ d5.1 < (3 : Int)) (gd ((0 : Int) ≤ d5.1 ∧ d5.1 < (3 : Int)) (gd ((0 : Nat) + Int.toNat d5.1 * (1 : Nat) < List.length d5.2.2.2.2.2.1) (gd ((0 : Int) ≤ d5.1 ∧ d5.1 < (3 : Int)) (gd ((0 : Nat) + Int.toNat d5.1 * (1 : Nat) < List.length d5.2.2.2.2.2.2.1) (some (Lp.go ((wr IntKind.i64 (d5.1 + (1 : Int)), d5.2.1, d5.2.2.1, d5.2.2.2.1, d5.2.2.2.2.1, List.set d5.2.2.2.2.2.1 ((0 : Nat) + Int.toNat d5.1 * (1 : Nat)) (wr IntKind.i64 (d3.1 * (@id Int (arrGet (3 : Nat) (Ty.int IntKind.i64) (List.getD (ptsC x0) (Int.toNat (List.getD d5.2.2.1 (1 : Nat) (0 : Int))) (((0 : Int), (0 : Int), (0 : Int), ()) : Int × Int × Int × Unit) : Int × Int × Int × Unit) (Int.toNat d5.1))))), List.set d5.2.2.2.2.2.2.1 ((0 : Nat) + Int.toNat d5.1 * (1 : Nat)) (wr IntKind.i64 (d4.1 * (@id Int (arrGet (3 : Nat) (Ty.int IntKind.i64) (List.getD (ptsC x0) (Int.toNat (List.getD d5.2.2.1 (2 : Nat) (0 : Int))) (((0 : Int), (0 : Int), (0 : Int), ()) : Int × Int × Int × Unit) : Int × Int × Int × Unit) (Int.toNat d5.1))))), ()) : Int × List Int × List Int × List Int × List Int × List Int × List Int × Unit)))))))))))) else gd ((0 : Nat) < List.length d5.2.2.1) (gd ((0 : Int) ≤ List.getD d5.2.2.1 (0 : Nat) (0 : Int) ∧ List.getD d5.2.2.1 (0 : Nat) (0 : Int) < (↑(List.length (ptsC x0)) : Int)) (gd ((3 : Nat) ≤ List.length d5.2.2.2.2.2.1) (gd ((3 : Nat) ≤ List.length d5.2.2.2.2.2.2.1) (gd ((9 : Nat) ≤ (9 : Nat)) (whileO (g53_l1 x0 d4) (((0 : Int), d5.2.1, d5.2.2.1, d5.2.2.2.1, d5.2.2.2.2.1, (colsF (List.getD (ptsC x0) (Int.toNat (List.getD d5.2.2.1 (0 : Nat) (0 : Int))) (((0 : Int), (0 : Int), (0 : Int), ()) : Int × Int × Int × Unit)) ((List.getD d5.2.2.2.2.2.1 (0 : Nat) (0 : Int), List.getD d5.2.2.2.2.2.1 (1 : Nat) (0 : Int), List.getD d5.2.2.2.2.2.1 (2 : Nat) (0 : Int), ()) : Int × Int × Int × Unit) ((List.getD d5.2.2.2.2.2.2.1 (0 : Nat) (0 : Int), List.getD d5.2.2.2.2.2.2.1 (1 : Nat) (0 : Int), List.getD d5.2.2.2.2.2.2.1 (2 : Nat) (0 : Int), ()) : Int × Int × Int × Unit)).1.1 :: (colsF (List.getD (ptsC x0) (Int.toNat (List.getD d5.2.2.1 (0 : Nat) (0 : Int))) (((0 : Int), (0 : Int), (0 : Int), ()) : Int × Int × Int × Unit)) ((List.getD d5.2.2.2.2.2.1 (0 : Nat) (0 : Int), List.getD d5.2.2.2.2.2.1 (1 : Nat) (0 : Int), List.getD d5.2.2.2.2.2.1 (2 : Nat) (0 : Int), ()) : Int × Int × Int × Unit) ((List.getD d5.2.2.2.2.2.2.1 (0 : Nat) (0 : Int), List.getD d5.2.2.2.2.2.2.1 (1 : Nat) (0 : Int), List.getD d5.2.2.2.2.2.2.1 (2 : Nat) (0 : Int), ()) : Int × Int × Int × Unit)).1.2.1 :: (colsF (List.getD (ptsC x0) (Int.toNat (List.getD d5.2.2.1 (0 : Nat) (0 : Int))) (((0 : Int), (0 : Int), (0 : Int), ()) : Int × Int × Int × Unit)) ((List.getD d5.2.2.2.2.2.1 (0 : Nat) (0 : Int), List.getD d5.2.2.2.2.2.1 (1 : Nat) (0 : Int), List.getD d5.2.2.2.2.2.1 (2 : Nat) (0 : Int), ()) : Int × Int × Int × Unit) ((List.getD d5.2.2.2.2.2.2.1 (0 : Nat) (0 : Int), List.getD d5.2.2.2.2.2.2.1 (1 : Nat) (0 : Int), List.getD d5.2.2.2.2.2.2.1 (2 : Nat) (0 : Int), ()) : Int × Int × Int × Unit)).1.2.2.1 :: (colsF (List.getD (ptsC x0) (Int.toNat (List.getD d5.2.2.1 (0 : Nat) (0 : Int))) (((0 : Int), (0 : Int), (0 : Int), ()) : Int × Int × Int × Unit)) ((List.getD d5.2.2.2.2.2.1 (0 : Nat) (0 : Int), List.getD d5.2.2.2.2.2.1 (1 : Nat) (0 : Int), List.getD d5.2.2.2.2.2.1 (2 : Nat) (0 : Int), ()) : Int × Int × Int × Unit) ((List.getD d5.2.2.2.2.2.2.1 (0 : Nat) (0 : Int), List.getD d5.2.2.2.2.2.2.1 (1 : Nat) (0 : Int), List.getD d5.2.2.2.2.2.2.1 (2 : Nat) (0 : Int), ()) : Int × Int × Int × Unit)).2.1.1 :: (colsF (List.getD (ptsC x0) (Int.toNat (List.getD d5.2.2.1 (0 : Nat) (0 : Int))) (((0 : Int), (0 : Int), (0 : Int), ()) : Int × Int × Int × Unit)) ((List.getD d5.2.2.2.2.2.1 (0 : Nat) (0 : Int), List.getD d5.2.2.2.2.2.1 (1 : Nat) (0 : Int), List.getD d5.2.2.2.2.2.1 (2 : Nat) (0 : Int), ()) : Int × Int × Int × Unit) ((List.getD d5.2.2.2.2.2.2.1 (0 : Nat) (0 : Int), List.getD d5.2.2.2.2.2.2.1 (1 : Nat) (0 : Int), List.getD d5.2.2.2.2.2.2.1 (2 : Nat) (0 : Int), ()) : Int × Int × Int × Unit)).2.1.2.1 :: (colsF (List.getD (ptsC x0) (Int.toNat (List.getD d5.2.2.1 (0 : Nat) (0 : Int))) (((0 : Int), (0 : Int), (0 : Int), ()) : Int × Int × Int × Unit)) ((List.getD d5.2.2.2.2.2.1 (0 : Nat) (0 : Int), List.getD d5.2.2.2.2.2.1 (1 : Nat) (0 : Int), List.getD d5.2.2.2.2.2.1 (2 : Nat) (0 : Int), ()) : Int × Int × Int × Unit) ((List.getD d5.2.2.2.2.2.2.1 (0 : Nat) (0 : Int), List.getD d5.2.2.2.2.2.2.1 (1 : Nat) (0 : Int), List.getD d5.2.2.2.2.2.2.1 (2 : Nat) (0 : Int), ()) : Int × Int × Int × Unit)).2.1.2.2.1 :: (colsF (List.getD (ptsC x0) (Int.toNat (List.getD d5.2.2.1 (0 : Nat) (0 : Int))) (((0 : Int), (0 : Int), (0 : Int), ()) : Int × Int × Int × Unit)) ((List.getD d5.2.2.2.2.2.1 (0 : Nat) (0 : Int), List.getD d5.2.2.2.2.2.1 (1 : Nat) (0 : Int), List.getD d5.2.2.2.2.2.1 (2 : Nat) (0 : Int), ()) : Int × Int × Int × Unit) ((List.getD d5.2.2.2.2.2.2.1 (0 : Nat) (0 : Int), List.getD d5.2.2.2.2.2.2.1 (1 : Nat) (0 : Int), List.getD d5.2.2.2.2.2.2.1 (2 : Nat) (0 : Int), ()) : Int × Int × Int × Unit)).2.2.1.1 :: (colsF (List.getD (ptsC x0) (Int.toNat (List.getD d5.2.2.1 (0 : Nat) (0 : Int))) (((0 : Int), (0 : Int), (0 : Int), ()) : Int × Int × Int × Unit)) ((List.getD d5.2.2.2.2.2.1 (0 : Nat) (0 : Int), List.getD d5.2.2.2.2.2.1 (1 : Nat) (0 : Int), List.getD d5.2.2.2.2.2.1 (2 : Nat) (0 : Int), ()) : Int × Int × Int × Unit) ((List.getD d5.2.2.2.2.2.2.1 (0 : Nat) (0 : Int), List.getD d5.2.2.2.2.2.2.1 (1 : Nat) (0 : Int), List.getD d5.2.2.2.2.2.2.1 (2 : Nat) (0 : Int), ()) : Int × Int × Int × Unit)).2.2.1.2.1 :: (colsF (List.getD (ptsC x0) (Int.toNat (List.getD d5.2.2.1 (0 : Nat) (0 : Int))) (((0 : Int), (0 : Int), (0 : Int), ()) : Int × Int × Int × Unit)) ((List.getD d5.2.2.2.2.2.1 (0 : Nat) (0 : Int), List.getD d5.2.2.2.2.2.1 (1 : Nat) (0 : Int), List.getD d5.2.2.2.2.2.1 (2 : Nat) (0 : Int), ()) : Int × Int × Int × Unit) ((List.getD d5.2.2.2.2.2.2.1 (0 : Nat) (0 : Int), List.getD d5.2.2.2.2.2.2.1 (1 : Nat) (0 : Int), List.getD d5.2.2.2.2.2.2.1 (2 : Nat) (0 : Int), ()) : Int × Int × Int × Unit)).2.2.1.2.2.1 :: ([] : List Int), (0 : Int) :: (0 : Int) :: (0 : Int) :: (0 : Int) :: (0 : Int) :: (0 : Int) :: (0 : Int) :: (0 : Int) :: (0 : Int) :: ([] : List Int), ()) : Int × List Int × List Int × List Int × List Int × List Int × List Int × Unit))))))
noncomputable def g53_l3 (x0 : Int) (d3 d4 : Int × List Int × List Int × List Int × List Int × Unit) : Option (Lp (Int × List Int × List Int × List Int × List Int × Unit) (Lp (Int × List Int × List Int × List Int × List Int × Unit) (((Int × Int × Int × Unit) × (Int × Int × Int × Unit) × (Int × Int × Int × Unit) × Unit) × Unit))) := bif ilt d4.1 x0 then whileO (g53_l2 x0 d3 d4) (((0 : Int), d4.2.1, d4.2.2.1, d4.2.2.2.1, d4.2.2.2.2.1, (0 : Int) :: (0 : Int) :: (0 : Int) :: ([] : List Int), (0 : Int) :: (0 : Int) :: (0 : Int) :: ([] : List Int), ()) : Int × List Int × List Int × List Int × List Int × List Int × List Int × Unit) else some (Lp.out (Lp.go ((wr IntKind.i64 (d3.1 + (1 : Int)), d4.2.1, d4.2.2.1, d4.2.2.2.1, d4.2.2.2.2.1, ()) : Int × List Int × List Int × List Int × List Int × Unit)))
noncomputable def g53 (x0 : Int) (x1 x2 : Int × Int × Int × Int × Unit) : Option (((Int × Int × Int × Unit) × (Int × Int × Int × Unit) × (Int × Int × Int × Unit) × Unit) × Unit) := gd (isP x0) (gd ((0 : Nat) < (4 : Nat)) (gd ((0 : Int) ≤ x1.1 ∧ x1.1 < (↑(List.length (ptsC x0)) : Int)) (gd ((1 : Nat) < (4 : Nat)) (gd ((0 : Int) ≤ x1.2.1 ∧ x1.2.1 < (↑(List.length (ptsC x0)) : Int)) (gd ((2 : Nat) < (4 : Nat)) (gd ((0 : Int) ≤ x1.2.2.1 ∧ x1.2.2.1 < (↑(List.length (ptsC x0)) : Int)) (gd (isP x0) (gd (inM x0 (colsF (List.getD (ptsC x0) (Int.toNat x1.1) (((0 : Int), (0 : Int), (0 : Int), ()) : Int × Int × Int × Unit)) (List.getD (ptsC x0) (Int.toNat x1.2.1) (((0 : Int), (0 : Int), (0 : Int), ()) : Int × Int × Int × Unit)) (List.getD (ptsC x0) (Int.toNat x1.2.2.1) (((0 : Int), (0 : Int), (0 : Int), ()) : Int × Int × Int × Unit)))) (gd ((9 : Nat) ≤ (9 : Nat)) (whileO (fun (d3 : Int × List Int × List Int × List Int × List Int × Unit) => bif ilt d3.1 x0 then whileO (g53_l3 x0 d3) (((1 : Int), d3.2.1, d3.2.2.1, d3.2.2.2.1, d3.2.2.2.2.1, ()) : Int × List Int × List Int × List Int × List Int × Unit) else gd ((9 : Nat) ≤ List.length d3.2.2.2.1) (gd ((9 : Nat) ≤ List.length (setMany d3.2.2.2.1 (0 : Nat) ((0 : Int) :: (0 : Int) :: (0 : Int) :: (0 : Int) :: (0 : Int) :: (0 : Int) :: (0 : Int) :: (0 : Int) :: (0 : Int) :: ([] : List Int)))) (some (Lp.out ((((((List.getD (setMany d3.2.2.2.1 (0 : Nat) ((0 : Int) :: (0 : Int) :: (0 : Int) :: (0 : Int) :: (0 : Int) :: (0 : Int) :: (0 : Int) :: (0 : Int) :: (0 : Int) :: ([] : List Int))) (0 : Nat) (0 : Int), List.getD (setMany d3.2.2.2.1 (0 : Nat) ((0 : Int) :: (0 : Int) :: (0 : Int) :: (0 : Int) :: (0 : Int) :: (0 : Int) :: (0 : Int) :: (0 : Int) :: (0 : Int) :: ([] : List Int))) (1 : Nat) (0 : Int), List.getD (setMany d3.2.2.2.1 (0 : Nat) ((0 : Int) :: (0 : Int) :: (0 : Int) :: (0 : Int) :: (0 : Int) :: (0 : Int) :: (0 : Int) :: (0 : Int) :: (0 : Int) :: ([] : List Int))) (2 : Nat) (0 : Int), ()) : Int × Int × Int × Unit), ((List.getD (setMany d3.2.2.2.1 (0 : Nat) ((0 : Int) :: (0 : Int) :: (0 : Int) :: (0 : Int) :: (0 : Int) :: (0 : Int) :: (0 : Int) :: (0 : Int) :: (0 : Int) :: ([] : List Int))) (3 : Nat) (0 : Int), List.getD (setMany d3.2.2.2.1 (0 : Nat) ((0 : Int) :: (0 : Int) :: (0 : Int) :: (0 : Int) :: (0 : Int) :: (0 : Int) :: (0 : Int) :: (0 : Int) :: (0 : Int) :: ([] : List Int))) (4 : Nat) (0 : Int), List.getD (setMany d3.2.2.2.1 (0 : Nat) ((0 : Int) :: (0 : Int) :: (0 : Int) :: (0 : Int) :: (0 : Int) :: (0 : Int) :: (0 : Int) :: (0 : Int) :: (0 : Int) :: ([] : List Int))) (5 : Nat) (0 : Int), ()) : Int × Int × Int × Unit), ((List.getD (setMany d3.2.2.2.1 (0 : Nat) ((0 : Int) :: (0 : Int) :: (0 : Int) :: (0 : Int) :: (0 : Int) :: (0 : Int) :: (0 : Int) :: (0 : Int) :: (0 : Int) :: ([] : List Int))) (6 : Nat) (0 : Int), List.getD (setMany d3.2.2.2.1 (0 : Nat) ((0 : Int) :: (0 : Int) :: (0 : Int) :: (0 : Int) :: (0 : Int) :: (0 : Int) :: (0 : Int) :: (0 : Int) :: (0 : Int) :: ([] : List Int))) (7 : Nat) (0 : Int), List.getD (setMany d3.2.2.2.1 (0 : Nat) ((0 : Int) :: (0 : Int) :: (0 : Int) :: (0 : Int) :: (0 : Int) :: (0 : Int) :: (0 : Int) :: (0 : Int) :: (0 : Int) :: ([] : List Int))) (8 : Nat) (0 : Int), ()) : Int × Int × Int × Unit), ()) : (Int × Int × Int × Unit) × (Int × Int × Int × Unit) × (Int × Int × Int × Unit) × Unit), ()) : ((Int × Int × Int × Unit) × (Int × Int × Int × Unit) × (Int × Int × Int × Unit) × Unit) × Unit))))) (((1 : Int), x1.1 :: x1.2.1 :: x1.2.2.1 :: x1.2.2.2.1 :: ([] : List Int), x2.1 :: x2.2.1 :: x2.2.2.1 :: x2.2.2.2.1 :: ([] : List Int), (0 : Int) :: (0 : Int) :: (0 : Int) :: (0 : Int) :: (0 : Int) :: (0 : Int) :: (0 : Int) :: (0 : Int) :: (0 : Int) :: ([] : List Int), (invM x0 (colsF (List.getD (ptsC x0) (Int.toNat x1.1) (((0 : Int), (0 : Int), (0 : Int), ()) : Int × Int × Int × Unit)) (List.getD (ptsC x0) (Int.toNat x1.2.1) (((0 : Int), (0 : Int), (0 : Int), ()) : Int × Int × Int × Unit)) (List.getD (ptsC x0) (Int.toNat x1.2.2.1) (((0 : Int), (0 : Int), (0 : Int), ()) : Int × Int × Int × Unit)))).1.1 :: (invM x0 (colsF (List.getD (ptsC x0) (Int.toNat x1.1) (((0 : Int), (0 : Int), (0 : Int), ()) : Int × Int × Int × Unit)) (List.getD (ptsC x0) (Int.toNat x1.2.1) (((0 : Int), (0 : Int), (0 : Int), ()) : Int × Int × Int × Unit)) (List.getD (ptsC x0) (Int.toNat x1.2.2.1) (((0 : Int), (0 : Int), (0 : Int), ()) : Int × Int × Int × Unit)))).1.2.1 :: (invM x0 (colsF (List.getD (ptsC x0) (Int.toNat x1.1) (((0 : Int), (0 : Int), (0 : Int), ()) : Int × Int × Int × Unit)) (List.getD (ptsC x0) (Int.toNat x1.2.1) (((0 : Int), (0 : Int), (0 : Int), ()) : Int × Int × Int × Unit)) (List.getD (ptsC x0) (Int.toNat x1.2.2.1) (((0 : Int), (0 : Int), (0 : Int), ()) : Int × Int × Int × Unit)))).1.2.2.1 :: (invM x0 (colsF (List.getD (ptsC x0) (Int.toNat x1.1) (((0 : Int), (0 : Int), (0 : Int), ()) : Int × Int × Int × Unit)) (List.getD (ptsC x0) (Int.toNat x1.2.1) (((0 : Int), (0 : Int), (0 : Int), ()) : Int × Int × Int × Unit)) (List.getD (ptsC x0) (Int.toNat x1.2.2.1) (((0 : Int), (0 : Int), (0 : Int), ()) : Int × Int × Int × Unit)))).2.1.1 :: (invM x0 (colsF (List.getD (ptsC x0) (Int.toNat x1.1) (((0 : Int), (0 : Int), (0 : Int), ()) : Int × Int × Int × Unit)) (List.getD (ptsC x0) (Int.toNat x1.2.1) (((0 : Int), (0 : Int), (0 : Int), ()) : Int × Int × Int × Unit)) (List.getD (ptsC x0) (Int.toNat x1.2.2.1) (((0 : Int), (0 : Int), (0 : Int), ()) : Int × Int × Int × Unit)))).2.1.2.1 :: (invM x0 (colsF (List.getD (ptsC x0) (Int.toNat x1.1) (((0 : Int), (0 : Int), (0 : Int), ()) : Int × Int × Int × Unit)) (List.getD (ptsC x0) (Int.toNat x1.2.1) (((0 : Int), (0 : Int), (0 : Int), ()) : Int × Int × Int × Unit)) (List.getD (ptsC x0) (Int.toNat x1.2.2.1) (((0 : Int), (0 : Int), (0 : Int), ()) : Int × Int × Int × Unit)))).2.1.2.2.1 :: (invM x0 (colsF (List.getD (ptsC x0) (Int.toNat x1.1) (((0 : Int), (0 : Int), (0 : Int), ()) : Int × Int × Int × Unit)) (List.getD (ptsC x0) (Int.toNat x1.2.1) (((0 : Int), (0 : Int), (0 : Int), ()) : Int × Int × Int × Unit)) (List.getD (ptsC x0) (Int.toNat x1.2.2.1) (((0 : Int), (0 : Int), (0 : Int), ()) : Int × Int × Int × Unit)))).2.2.1.1 :: (invM x0 (colsF (List.getD (ptsC x0) (Int.toNat x1.1) (((0 : Int), (0 : Int), (0 : Int), ()) : Int × Int × Int × Unit)) (List.getD (ptsC x0) (Int.toNat x1.2.1) (((0 : Int), (0 : Int), (0 : Int), ()) : Int × Int × Int × Unit)) (List.getD (ptsC x0) (Int.toNat x1.2.2.1) (((0 : Int), (0 : Int), (0 : Int), ()) : Int × Int × Int × Unit)))).2.2.1.2.1 :: (invM x0 (colsF (List.getD (ptsC x0) (Int.toNat x1.1) (((0 : Int), (0 : Int), (0 : Int), ()) : Int × Int × Int × Unit)) (List.getD (ptsC x0) (Int.toNat x1.2.1) (((0 : Int), (0 : Int), (0 : Int), ()) : Int × Int × Int × Unit)) (List.getD (ptsC x0) (Int.toNat x1.2.2.1) (((0 : Int), (0 : Int), (0 : Int), ()) : Int × Int × Int × Unit)))).2.2.1.2.2.1 :: ([] : List Int), ()) : Int × List Int × List Int × List Int × List Int × Unit)))))))))))
noncomputable def g53_sh : List LSh := LSh.mk (((4, TV.ref (0) (1 : Nat) (0 : Nat) (0 : Nat)) : Nat × TV) :: ((5, TV.ref (1) (1 : Nat) (0 : Nat) (0 : Nat)) : Nat × TV) :: ((6, TV.ref (2) (1 : Nat) (0 : Nat) (0 : Nat)) : Nat × TV) :: ((8, TV.ref (3) (1 : Nat) (0 : Nat) (0 : Nat)) : Nat × TV) :: ((9, TV.v (Ty.int IntKind.i64)) : Nat × TV) :: ([] : List (Nat × TV))) (TB.arr (Ty.int IntKind.i64) false :: TB.arr (Ty.int IntKind.i64) false :: TB.arr (Ty.int IntKind.i64) false :: TB.arr (Ty.int IntKind.i64) false :: ([] : List TB)) :: LSh.mk (((4, TV.ref (0) (1 : Nat) (0 : Nat) (0 : Nat)) : Nat × TV) :: ((5, TV.ref (1) (1 : Nat) (0 : Nat) (0 : Nat)) : Nat × TV) :: ((6, TV.ref (2) (1 : Nat) (0 : Nat) (0 : Nat)) : Nat × TV) :: ((8, TV.ref (3) (1 : Nat) (0 : Nat) (0 : Nat)) : Nat × TV) :: ((10, TV.v (Ty.int IntKind.i64)) : Nat × TV) :: ([] : List (Nat × TV))) (TB.arr (Ty.int IntKind.i64) false :: TB.arr (Ty.int IntKind.i64) false :: TB.arr (Ty.int IntKind.i64) false :: TB.arr (Ty.int IntKind.i64) false :: ([] : List TB)) :: LSh.mk (((4, TV.ref (0) (1 : Nat) (0 : Nat) (0 : Nat)) : Nat × TV) :: ((5, TV.ref (1) (1 : Nat) (0 : Nat) (0 : Nat)) : Nat × TV) :: ((6, TV.ref (2) (1 : Nat) (0 : Nat) (0 : Nat)) : Nat × TV) :: ((8, TV.ref (3) (1 : Nat) (0 : Nat) (0 : Nat)) : Nat × TV) :: ((11, TV.ref (4) (1 : Nat) (0 : Nat) (0 : Nat)) : Nat × TV) :: ((12, TV.ref (5) (1 : Nat) (0 : Nat) (0 : Nat)) : Nat × TV) :: ((48, TV.v (Ty.int IntKind.i64)) : Nat × TV) :: ([] : List (Nat × TV))) (TB.arr (Ty.int IntKind.i64) false :: TB.arr (Ty.int IntKind.i64) false :: TB.arr (Ty.int IntKind.i64) false :: TB.arr (Ty.int IntKind.i64) false :: TB.arr (Ty.int IntKind.i64) false :: TB.arr (Ty.int IntKind.i64) false :: ([] : List TB)) :: LSh.mk (((4, TV.ref (0) (1 : Nat) (0 : Nat) (0 : Nat)) : Nat × TV) :: ((5, TV.ref (1) (1 : Nat) (0 : Nat) (0 : Nat)) : Nat × TV) :: ((6, TV.ref (2) (1 : Nat) (0 : Nat) (0 : Nat)) : Nat × TV) :: ((8, TV.ref (3) (1 : Nat) (0 : Nat) (0 : Nat)) : Nat × TV) :: ((14, TV.ref (4) (1 : Nat) (0 : Nat) (0 : Nat)) : Nat × TV) :: ((15, TV.ref (5) (1 : Nat) (0 : Nat) (0 : Nat)) : Nat × TV) :: ((82, TV.v (Ty.int IntKind.i64)) : Nat × TV) :: ([] : List (Nat × TV))) (TB.arr (Ty.int IntKind.i64) false :: TB.arr (Ty.int IntKind.i64) false :: TB.arr (Ty.int IntKind.i64) false :: TB.arr (Ty.int IntKind.i64) false :: TB.arr (Ty.int IntKind.i64) false :: TB.arr (Ty.int IntKind.i64) false :: ([] : List TB)) :: LSh.mk (((4, TV.ref (0) (1 : Nat) (0 : Nat) (0 : Nat)) : Nat × TV) :: ((5, TV.ref (1) (1 : Nat) (0 : Nat) (0 : Nat)) : Nat × TV) :: ((6, TV.ref (2) (1 : Nat) (0 : Nat) (0 : Nat)) : Nat × TV) :: ((8, TV.ref (3) (1 : Nat) (0 : Nat) (0 : Nat)) : Nat × TV) :: ((14, TV.ref (4) (1 : Nat) (0 : Nat) (0 : Nat)) : Nat × TV) :: ((15, TV.ref (5) (1 : Nat) (0 : Nat) (0 : Nat)) : Nat × TV) :: ((85, TV.v (Ty.int IntKind.i64)) : Nat × TV) :: ([] : List (Nat × TV))) (TB.arr (Ty.int IntKind.i64) false :: TB.arr (Ty.int IntKind.i64) false :: TB.arr (Ty.int IntKind.i64) false :: TB.arr (Ty.int IntKind.i64) false :: TB.arr (Ty.int IntKind.i64) false :: TB.arr (Ty.int IntKind.i64) false :: ([] : List TB)) :: ([] : List LSh)
noncomputable def con11 : Con := mkC 11 [.d I64, .d Mat, .d I64, .d Quad, .d Quad] [.bool] (fun (p : Int) (m : MatD) (x : Int) (a b : QuadD) => []) (fun (p : Int) (m : MatD) (x : Int) (a b : QuadD) => (true, ()))
noncomputable def g11_c0 (x0 : Int) (x1 : (Int × Int × Int × Unit) × (Int × Int × Int × Unit) × (Int × Int × Int × Unit) × Unit) (x2 : Int) : Int := (applyX x0 ((((x1.1.1, x1.1.2.1, x1.1.2.2.1, ()) : Int × Int × Int × Unit), ((x1.2.1.1, x1.2.1.2.1, x1.2.1.2.2.1, ()) : Int × Int × Int × Unit), ((x1.2.2.1.1, x1.2.2.1.2.1, x1.2.2.1.2.2.1, ()) : Int × Int × Int × Unit), ()) : (Int × Int × Int × Unit) × (Int × Int × Int × Unit) × (Int × Int × Int × Unit) × Unit) x2).1
noncomputable def g11_c1 (x0 : Int) (x1 : (Int × Int × Int × Unit) × (Int × Int × Int × Unit) × (Int × Int × Int × Unit) × Unit) (x2 : Int) : Int := (applyX x0 ((((x1.1.1, x1.1.2.1, x1.1.2.2.1, ()) : Int × Int × Int × Unit), ((x1.2.1.1, x1.2.1.2.1, x1.2.1.2.2.1, ()) : Int × Int × Int × Unit), ((x1.2.2.1.1, x1.2.2.1.2.1, x1.2.2.1.2.2.1, ()) : Int × Int × Int × Unit), ()) : (Int × Int × Int × Unit) × (Int × Int × Int × Unit) × (Int × Int × Int × Unit) × Unit) x2).2.1
noncomputable def g11_c2 (x0 : Int) (x3 x4 : Int × Int × Int × Int × Unit) : Int := (frameX x0 ((x3.1, x3.2.1, x3.2.2.1, x3.2.2.2.1, ()) : Int × Int × Int × Int × Unit) ((x4.1, x4.2.1, x4.2.2.1, x4.2.2.2.1, ()) : Int × Int × Int × Int × Unit)).2.1
noncomputable def g11_c3 (x0 : Int) (x1 : (Int × Int × Int × Unit) × (Int × Int × Int × Unit) × (Int × Int × Int × Unit) × Unit) : Bool := isMapF x0 ((((x1.1.1, x1.1.2.1, x1.1.2.2.1, ()) : Int × Int × Int × Unit), ((x1.2.1.1, x1.2.1.2.1, x1.2.1.2.2.1, ()) : Int × Int × Int × Unit), ((x1.2.2.1.1, x1.2.2.1.2.1, x1.2.2.1.2.2.1, ()) : Int × Int × Int × Unit), ()) : (Int × Int × Int × Unit) × (Int × Int × Int × Unit) × (Int × Int × Int × Unit) × Unit)
noncomputable def g11_c4 (x0 : Int) (x1 : (Int × Int × Int × Unit) × (Int × Int × Int × Unit) × (Int × Int × Int × Unit) × Unit) (x2 : Int) : Int := nmR x0 (timR ((((x1.1.1, x1.1.2.1, x1.1.2.2.1, ()) : Int × Int × Int × Unit), ((x1.2.1.1, x1.2.1.2.1, x1.2.1.2.2.1, ()) : Int × Int × Int × Unit), ((x1.2.2.1.1, x1.2.2.1.2.1, x1.2.2.1.2.2.1, ()) : Int × Int × Int × Unit), ()) : (Int × Int × Int × Unit) × (Int × Int × Int × Unit) × (Int × Int × Int × Unit) × Unit) (pt x0 x2))
noncomputable def g11_c5 (x0 : Int) (x3 x4 : Int × Int × Int × Int × Unit) : Bool := bif !(isPb x0 && List.all (x3.1 :: x3.2.1 :: x3.2.2.1 :: x3.2.2.2.1 :: ([] : List Int)) (inPt x0)) then true else !(isPb x0 && List.all (x4.1 :: x4.2.1 :: x4.2.2.1 :: x4.2.2.2.1 :: ([] : List Int)) (inPt x0))
noncomputable def g11_c6 (x0 : Int) (x3 x4 : Int × Int × Int × Int × Unit) : Bool := deq (Ty.prod (Ty.prod (Ty.int IntKind.i64) (Ty.prod (Ty.int IntKind.i64) (Ty.prod (Ty.int IntKind.i64) Ty.unit))) (Ty.prod (Ty.prod (Ty.int IntKind.i64) (Ty.prod (Ty.int IntKind.i64) (Ty.prod (Ty.int IntKind.i64) Ty.unit))) (Ty.prod (Ty.prod (Ty.int IntKind.i64) (Ty.prod (Ty.int IntKind.i64) (Ty.prod (Ty.int IntKind.i64) Ty.unit))) Ty.unit))) ((((((frameX x0 ((x3.1, x3.2.1, x3.2.2.1, x3.2.2.2.1, ()) : Int × Int × Int × Int × Unit) ((x4.1, x4.2.1, x4.2.2.1, x4.2.2.2.1, ()) : Int × Int × Int × Int × Unit)).1.1.1, (frameX x0 ((x3.1, x3.2.1, x3.2.2.1, x3.2.2.2.1, ()) : Int × Int × Int × Int × Unit) ((x4.1, x4.2.1, x4.2.2.1, x4.2.2.2.1, ()) : Int × Int × Int × Int × Unit)).1.1.2.1, (frameX x0 ((x3.1, x3.2.1, x3.2.2.1, x3.2.2.2.1, ()) : Int × Int × Int × Int × Unit) ((x4.1, x4.2.1, x4.2.2.1, x4.2.2.2.1, ()) : Int × Int × Int × Int × Unit)).1.1.2.2.1, ()) : Int × Int × Int × Unit), (((frameX x0 ((x3.1, x3.2.1, x3.2.2.1, x3.2.2.2.1, ()) : Int × Int × Int × Int × Unit) ((x4.1, x4.2.1, x4.2.2.1, x4.2.2.2.1, ()) : Int × Int × Int × Int × Unit)).1.2.1.1, (frameX x0 ((x3.1, x3.2.1, x3.2.2.1, x3.2.2.2.1, ()) : Int × Int × Int × Int × Unit) ((x4.1, x4.2.1, x4.2.2.1, x4.2.2.2.1, ()) : Int × Int × Int × Int × Unit)).1.2.1.2.1, (frameX x0 ((x3.1, x3.2.1, x3.2.2.1, x3.2.2.2.1, ()) : Int × Int × Int × Int × Unit) ((x4.1, x4.2.1, x4.2.2.1, x4.2.2.2.1, ()) : Int × Int × Int × Int × Unit)).1.2.1.2.2.1, ()) : Int × Int × Int × Unit), (((frameX x0 ((x3.1, x3.2.1, x3.2.2.1, x3.2.2.2.1, ()) : Int × Int × Int × Int × Unit) ((x4.1, x4.2.1, x4.2.2.1, x4.2.2.2.1, ()) : Int × Int × Int × Int × Unit)).1.2.2.1.1, (frameX x0 ((x3.1, x3.2.1, x3.2.2.1, x3.2.2.2.1, ()) : Int × Int × Int × Int × Unit) ((x4.1, x4.2.1, x4.2.2.1, x4.2.2.2.1, ()) : Int × Int × Int × Int × Unit)).1.2.2.1.2.1, (frameX x0 ((x3.1, x3.2.1, x3.2.2.1, x3.2.2.2.1, ()) : Int × Int × Int × Int × Unit) ((x4.1, x4.2.1, x4.2.2.1, x4.2.2.2.1, ()) : Int × Int × Int × Int × Unit)).1.2.2.1.2.2.1, ()) : Int × Int × Int × Unit), ()) : (Int × Int × Int × Unit) × (Int × Int × Int × Unit) × (Int × Int × Int × Unit) × Unit) : (Int × Int × Int × Unit) × (Int × Int × Int × Unit) × (Int × Int × Int × Unit) × Unit) ((((((0 : Int), (0 : Int), (0 : Int), ()) : Int × Int × Int × Unit), (((0 : Int), (0 : Int), (0 : Int), ()) : Int × Int × Int × Unit), (((0 : Int), (0 : Int), (0 : Int), ()) : Int × Int × Int × Unit), ()) : (Int × Int × Int × Unit) × (Int × Int × Int × Unit) × (Int × Int × Int × Unit) × Unit) : (Int × Int × Int × Unit) × (Int × Int × Int × Unit) × (Int × Int × Int × Unit) × Unit)
noncomputable def g11_c7 (x0 : Int) (x3 x4 : Int × Int × Int × Int × Unit) : Bool := bif !isFrR x0 ((x3.1, x3.2.1, x3.2.2.1, x3.2.2.2.1, ()) : Int × Int × Int × Int × Unit) then true else !isFrR x0 ((x4.1, x4.2.1, x4.2.2.1, x4.2.2.2.1, ()) : Int × Int × Int × Int × Unit)
noncomputable def g11_c8 (x0 : Int) (x3 x4 : Int × Int × Int × Int × Unit) : Bool := deq (Ty.prod (Ty.prod (Ty.int IntKind.i64) (Ty.prod (Ty.int IntKind.i64) (Ty.prod (Ty.int IntKind.i64) Ty.unit))) (Ty.prod (Ty.prod (Ty.int IntKind.i64) (Ty.prod (Ty.int IntKind.i64) (Ty.prod (Ty.int IntKind.i64) Ty.unit))) (Ty.prod (Ty.prod (Ty.int IntKind.i64) (Ty.prod (Ty.int IntKind.i64) (Ty.prod (Ty.int IntKind.i64) Ty.unit))) Ty.unit))) ((((((frameX x0 ((x3.1, x3.2.1, x3.2.2.1, x3.2.2.2.1, ()) : Int × Int × Int × Int × Unit) ((x4.1, x4.2.1, x4.2.2.1, x4.2.2.2.1, ()) : Int × Int × Int × Int × Unit)).1.1.1, (frameX x0 ((x3.1, x3.2.1, x3.2.2.1, x3.2.2.2.1, ()) : Int × Int × Int × Int × Unit) ((x4.1, x4.2.1, x4.2.2.1, x4.2.2.2.1, ()) : Int × Int × Int × Int × Unit)).1.1.2.1, (frameX x0 ((x3.1, x3.2.1, x3.2.2.1, x3.2.2.2.1, ()) : Int × Int × Int × Int × Unit) ((x4.1, x4.2.1, x4.2.2.1, x4.2.2.2.1, ()) : Int × Int × Int × Int × Unit)).1.1.2.2.1, ()) : Int × Int × Int × Unit), (((frameX x0 ((x3.1, x3.2.1, x3.2.2.1, x3.2.2.2.1, ()) : Int × Int × Int × Int × Unit) ((x4.1, x4.2.1, x4.2.2.1, x4.2.2.2.1, ()) : Int × Int × Int × Int × Unit)).1.2.1.1, (frameX x0 ((x3.1, x3.2.1, x3.2.2.1, x3.2.2.2.1, ()) : Int × Int × Int × Int × Unit) ((x4.1, x4.2.1, x4.2.2.1, x4.2.2.2.1, ()) : Int × Int × Int × Int × Unit)).1.2.1.2.1, (frameX x0 ((x3.1, x3.2.1, x3.2.2.1, x3.2.2.2.1, ()) : Int × Int × Int × Int × Unit) ((x4.1, x4.2.1, x4.2.2.1, x4.2.2.2.1, ()) : Int × Int × Int × Int × Unit)).1.2.1.2.2.1, ()) : Int × Int × Int × Unit), (((frameX x0 ((x3.1, x3.2.1, x3.2.2.1, x3.2.2.2.1, ()) : Int × Int × Int × Int × Unit) ((x4.1, x4.2.1, x4.2.2.1, x4.2.2.2.1, ()) : Int × Int × Int × Int × Unit)).1.2.2.1.1, (frameX x0 ((x3.1, x3.2.1, x3.2.2.1, x3.2.2.2.1, ()) : Int × Int × Int × Int × Unit) ((x4.1, x4.2.1, x4.2.2.1, x4.2.2.2.1, ()) : Int × Int × Int × Int × Unit)).1.2.2.1.2.1, (frameX x0 ((x3.1, x3.2.1, x3.2.2.1, x3.2.2.2.1, ()) : Int × Int × Int × Int × Unit) ((x4.1, x4.2.1, x4.2.2.1, x4.2.2.2.1, ()) : Int × Int × Int × Int × Unit)).1.2.2.1.2.2.1, ()) : Int × Int × Int × Unit), ()) : (Int × Int × Int × Unit) × (Int × Int × Int × Unit) × (Int × Int × Int × Unit) × Unit) : (Int × Int × Int × Unit) × (Int × Int × Int × Unit) × (Int × Int × Int × Unit) × Unit) (frmR x0 ((x3.1, x3.2.1, x3.2.2.1, x3.2.2.2.1, ()) : Int × Int × Int × Int × Unit) ((x4.1, x4.2.1, x4.2.2.1, x4.2.2.2.1, ()) : Int × Int × Int × Int × Unit) : MatD)
noncomputable def g11 (x0 : Int) (x1 : (Int × Int × Int × Unit) × (Int × Int × Int × Unit) × (Int × Int × Int × Unit) × Unit) (x2 : Int) (x3 x4 : Int × Int × Int × Int × Unit) : Option (Bool × Unit) := gd ((9 : Nat) ≤ (9 : Nat)) (gd ((4 : Nat) ≤ (4 : Nat)) (gd ((4 : Nat) ≤ (4 : Nat)) (gd ((9 : Nat) ≤ (9 : Nat)) (gd (isPb x0 = true → (9 : Nat) ≤ (9 : Nat)) (gd (isPb x0 = true → isPb x0 = true ∧ isPb x0 = true ∧ isP x0) (gd (isPb x0 = true → isPb x0 = true) (gd ((bif isPb x0 then g11_c3 x0 x1 else false) = true → (bif isPb x0 then g11_c3 x0 x1 else false) = true ∧ (bif isPb x0 then g11_c3 x0 x1 else false) = true ∧ isP x0) (gd ((bif isPb x0 then g11_c3 x0 x1 else false) = true → (bif isPb x0 then g11_c3 x0 x1 else false) = true) (bif bif bif isPb x0 then g11_c3 x0 x1 else false then inPt x0 x2 else false then gd ((9 : Nat) ≤ (9 : Nat)) (gd (isP x0) (gd ((((0 : Int) ≤ x1.1.1 ∧ x1.1.1 < x0) ∧ ((0 : Int) ≤ x1.1.2.1 ∧ x1.1.2.1 < x0) ∧ (0 : Int) ≤ x1.1.2.2.1 ∧ x1.1.2.2.1 < x0) ∧ (((0 : Int) ≤ x1.2.1.1 ∧ x1.2.1.1 < x0) ∧ ((0 : Int) ≤ x1.2.1.2.1 ∧ x1.2.1.2.1 < x0) ∧ (0 : Int) ≤ x1.2.1.2.2.1 ∧ x1.2.1.2.2.1 < x0) ∧ ((0 : Int) ≤ x1.2.2.1.1 ∧ x1.2.2.1.1 < x0) ∧ ((0 : Int) ≤ x1.2.2.1.2.1 ∧ x1.2.2.1.2.1 < x0) ∧ (0 : Int) ≤ x1.2.2.1.2.2.1 ∧ x1.2.2.1.2.2.1 < x0) (gd (inPt x0 x2 = true) (gd ((!!ieq (g11_c0 x0 x1 x2) (g11_c4 x0 x1 x2)) = true → (!!ieq (g11_c0 x0 x1 x2) (g11_c4 x0 x1 x2)) = true) (gd ((!ieq (g11_c0 x0 x1 x2) (g11_c4 x0 x1 x2)) = false → (!!ieq (g11_c0 x0 x1 x2) (g11_c4 x0 x1 x2)) = true) (bif bif !ieq (g11_c0 x0 x1 x2) (g11_c4 x0 x1 x2) then true else !ieq (g11_c1 x0 x1 x2) (0 : Int) then some ((false, ()) : Bool × Unit) else gd ((4 : Nat) ≤ (4 : Nat)) (gd (small (x3.1 :: x3.2.1 :: x3.2.2.1 :: x3.2.2.2.1 :: ([] : List Int))) (gd ((!!(isPb x0 && List.all (x3.1 :: x3.2.1 :: x3.2.2.1 :: x3.2.2.2.1 :: ([] : List Int)) (inPt x0))) = true → (!!(isPb x0 && List.all (x3.1 :: x3.2.1 :: x3.2.2.1 :: x3.2.2.2.1 :: ([] : List Int)) (inPt x0))) = true ∧ (!!(isPb x0 && List.all (x3.1 :: x3.2.1 :: x3.2.2.1 :: x3.2.2.2.1 :: ([] : List Int)) (inPt x0))) = true ∧ (4 : Nat) ≤ (4 : Nat) ∧ small (x4.1 :: x4.2.1 :: x4.2.2.1 :: x4.2.2.2.1 :: ([] : List Int))) (gd ((!!(isPb x0 && List.all (x3.1 :: x3.2.1 :: x3.2.2.1 :: x3.2.2.2.1 :: ([] : List Int)) (inPt x0))) = true → (!!(isPb x0 && List.all (x3.1 :: x3.2.1 :: x3.2.2.1 :: x3.2.2.2.1 :: ([] : List Int)) (inPt x0))) = true) (gd ((!(isPb x0 && List.all (x3.1 :: x3.2.1 :: x3.2.2.1 :: x3.2.2.2.1 :: ([] : List Int)) (inPt x0))) = false → (!!(isPb x0 && List.all (x3.1 :: x3.2.1 :: x3.2.2.1 :: x3.2.2.2.1 :: ([] : List Int)) (inPt x0))) = true) (bif g11_c5 x0 x3 x4 then gd ((9 : Nat) ≤ (9 : Nat)) (gd (g11_c6 x0 x3 x4 = true → g11_c6 x0 x3 x4 = true) (gd (g11_c6 x0 x3 x4 = true → g11_c6 x0 x3 x4 = true) (gd ((bif g11_c6 x0 x3 x4 then ieq (g11_c2 x0 x3 x4) (2 : Int) else false) = true → (bif g11_c6 x0 x3 x4 then ieq (g11_c2 x0 x3 x4) (2 : Int) else false) = true) (some ((bif bif g11_c6 x0 x3 x4 then ieq (g11_c2 x0 x3 x4) (2 : Int) else false then true else false, ()) : Bool × Unit))))) else gd ((4 : Nat) ≤ (4 : Nat)) (gd (isP x0) (gd (allIn x0 ((x3.1, x3.2.1, x3.2.2.1, x3.2.2.2.1, ()) : Int × Int × Int × Int × Unit)) (gd ((!!isFrR x0 ((x3.1, x3.2.1, x3.2.2.1, x3.2.2.2.1, ()) : Int × Int × Int × Int × Unit)) = true → (4 : Nat) ≤ (4 : Nat)) (gd ((!!isFrR x0 ((x3.1, x3.2.1, x3.2.2.1, x3.2.2.2.1, ()) : Int × Int × Int × Int × Unit)) = true → (!!isFrR x0 ((x3.1, x3.2.1, x3.2.2.1, x3.2.2.2.1, ()) : Int × Int × Int × Int × Unit)) = true ∧ (!!isFrR x0 ((x3.1, x3.2.1, x3.2.2.1, x3.2.2.2.1, ()) : Int × Int × Int × Int × Unit)) = true ∧ isP x0 ∧ allIn x0 ((x4.1, x4.2.1, x4.2.2.1, x4.2.2.2.1, ()) : Int × Int × Int × Int × Unit)) (gd ((!!isFrR x0 ((x3.1, x3.2.1, x3.2.2.1, x3.2.2.2.1, ()) : Int × Int × Int × Int × Unit)) = true → (!!isFrR x0 ((x3.1, x3.2.1, x3.2.2.1, x3.2.2.2.1, ()) : Int × Int × Int × Int × Unit)) = true) (gd ((!isFrR x0 ((x3.1, x3.2.1, x3.2.2.1, x3.2.2.2.1, ()) : Int × Int × Int × Int × Unit)) = false → (!!isFrR x0 ((x3.1, x3.2.1, x3.2.2.1, x3.2.2.2.1, ()) : Int × Int × Int × Int × Unit)) = true) (bif g11_c7 x0 x3 x4 then gd ((9 : Nat) ≤ (9 : Nat)) (gd (g11_c6 x0 x3 x4 = true → g11_c6 x0 x3 x4 = true) (gd (g11_c6 x0 x3 x4 = true → g11_c6 x0 x3 x4 = true) (gd ((bif g11_c6 x0 x3 x4 then ieq (g11_c2 x0 x3 x4) (5 : Int) else false) = true → (bif g11_c6 x0 x3 x4 then ieq (g11_c2 x0 x3 x4) (5 : Int) else false) = true) (some ((bif bif g11_c6 x0 x3 x4 then ieq (g11_c2 x0 x3 x4) (5 : Int) else false then true else false, ()) : Bool × Unit))))) else gd ((9 : Nat) ≤ (9 : Nat)) (gd ((4 : Nat) ≤ (4 : Nat)) (gd ((4 : Nat) ≤ (4 : Nat)) (gd (isP x0) (gd (allIn x0 ((x3.1, x3.2.1, x3.2.2.1, x3.2.2.2.1, ()) : Int × Int × Int × Int × Unit)) (gd (allIn x0 ((x4.1, x4.2.1, x4.2.2.1, x4.2.2.2.1, ()) : Int × Int × Int × Int × Unit)) (gd (g11_c8 x0 x3 x4 = true → g11_c8 x0 x3 x4 = true) (gd (g11_c8 x0 x3 x4 = true → g11_c8 x0 x3 x4 = true) (gd ((bif g11_c8 x0 x3 x4 then ieq (g11_c2 x0 x3 x4) (0 : Int) else false) = true → (bif g11_c8 x0 x3 x4 then ieq (g11_c2 x0 x3 x4) (0 : Int) else false) = true) (some ((bif bif g11_c8 x0 x3 x4 then ieq (g11_c2 x0 x3 x4) (0 : Int) else false then true else false, ()) : Bool × Unit)))))))))))))))))))))))))))) else gd ((!!ieq (g11_c0 x0 x1 x2) (0 : Int)) = true → (!!ieq (g11_c0 x0 x1 x2) (0 : Int)) = true) (gd ((!ieq (g11_c0 x0 x1 x2) (0 : Int)) = false → (!!ieq (g11_c0 x0 x1 x2) (0 : Int)) = true) (bif bif !ieq (g11_c0 x0 x1 x2) (0 : Int) then true else !ieq (g11_c1 x0 x1 x2) (2 : Int) then some ((false, ()) : Bool × Unit) else gd ((4 : Nat) ≤ (4 : Nat)) (gd (small (x3.1 :: x3.2.1 :: x3.2.2.1 :: x3.2.2.2.1 :: ([] : List Int))) (gd ((!!(isPb x0 && List.all (x3.1 :: x3.2.1 :: x3.2.2.1 :: x3.2.2.2.1 :: ([] : List Int)) (inPt x0))) = true → (!!(isPb x0 && List.all (x3.1 :: x3.2.1 :: x3.2.2.1 :: x3.2.2.2.1 :: ([] : List Int)) (inPt x0))) = true ∧ (!!(isPb x0 && List.all (x3.1 :: x3.2.1 :: x3.2.2.1 :: x3.2.2.2.1 :: ([] : List Int)) (inPt x0))) = true ∧ (4 : Nat) ≤ (4 : Nat) ∧ small (x4.1 :: x4.2.1 :: x4.2.2.1 :: x4.2.2.2.1 :: ([] : List Int))) (gd ((!!(isPb x0 && List.all (x3.1 :: x3.2.1 :: x3.2.2.1 :: x3.2.2.2.1 :: ([] : List Int)) (inPt x0))) = true → (!!(isPb x0 && List.all (x3.1 :: x3.2.1 :: x3.2.2.1 :: x3.2.2.2.1 :: ([] : List Int)) (inPt x0))) = true) (gd ((!(isPb x0 && List.all (x3.1 :: x3.2.1 :: x3.2.2.1 :: x3.2.2.2.1 :: ([] : List Int)) (inPt x0))) = false → (!!(isPb x0 && List.all (x3.1 :: x3.2.1 :: x3.2.2.1 :: x3.2.2.2.1 :: ([] : List Int)) (inPt x0))) = true) (bif g11_c5 x0 x3 x4 then gd ((9 : Nat) ≤ (9 : Nat)) (gd (g11_c6 x0 x3 x4 = true → g11_c6 x0 x3 x4 = true) (gd (g11_c6 x0 x3 x4 = true → g11_c6 x0 x3 x4 = true) (gd ((bif g11_c6 x0 x3 x4 then ieq (g11_c2 x0 x3 x4) (2 : Int) else false) = true → (bif g11_c6 x0 x3 x4 then ieq (g11_c2 x0 x3 x4) (2 : Int) else false) = true) (some ((bif bif g11_c6 x0 x3 x4 then ieq (g11_c2 x0 x3 x4) (2 : Int) else false then true else false, ()) : Bool × Unit))))) else gd ((4 : Nat) ≤ (4 : Nat)) (gd (isP x0) (gd (allIn x0 ((x3.1, x3.2.1, x3.2.2.1, x3.2.2.2.1, ()) : Int × Int × Int × Int × Unit)) (gd ((!!isFrR x0 ((x3.1, x3.2.1, x3.2.2.1, x3.2.2.2.1, ()) : Int × Int × Int × Int × Unit)) = true → (4 : Nat) ≤ (4 : Nat)) (gd ((!!isFrR x0 ((x3.1, x3.2.1, x3.2.2.1, x3.2.2.2.1, ()) : Int × Int × Int × Int × Unit)) = true → (!!isFrR x0 ((x3.1, x3.2.1, x3.2.2.1, x3.2.2.2.1, ()) : Int × Int × Int × Int × Unit)) = true ∧ (!!isFrR x0 ((x3.1, x3.2.1, x3.2.2.1, x3.2.2.2.1, ()) : Int × Int × Int × Int × Unit)) = true ∧ isP x0 ∧ allIn x0 ((x4.1, x4.2.1, x4.2.2.1, x4.2.2.2.1, ()) : Int × Int × Int × Int × Unit)) (gd ((!!isFrR x0 ((x3.1, x3.2.1, x3.2.2.1, x3.2.2.2.1, ()) : Int × Int × Int × Int × Unit)) = true → (!!isFrR x0 ((x3.1, x3.2.1, x3.2.2.1, x3.2.2.2.1, ()) : Int × Int × Int × Int × Unit)) = true) (gd ((!isFrR x0 ((x3.1, x3.2.1, x3.2.2.1, x3.2.2.2.1, ()) : Int × Int × Int × Int × Unit)) = false → (!!isFrR x0 ((x3.1, x3.2.1, x3.2.2.1, x3.2.2.2.1, ()) : Int × Int × Int × Int × Unit)) = true) (bif g11_c7 x0 x3 x4 then gd ((9 : Nat) ≤ (9 : Nat)) (gd (g11_c6 x0 x3 x4 = true → g11_c6 x0 x3 x4 = true) (gd (g11_c6 x0 x3 x4 = true → g11_c6 x0 x3 x4 = true) (gd ((bif g11_c6 x0 x3 x4 then ieq (g11_c2 x0 x3 x4) (5 : Int) else false) = true → (bif g11_c6 x0 x3 x4 then ieq (g11_c2 x0 x3 x4) (5 : Int) else false) = true) (some ((bif bif g11_c6 x0 x3 x4 then ieq (g11_c2 x0 x3 x4) (5 : Int) else false then true else false, ()) : Bool × Unit))))) else gd ((9 : Nat) ≤ (9 : Nat)) (gd ((4 : Nat) ≤ (4 : Nat)) (gd ((4 : Nat) ≤ (4 : Nat)) (gd (isP x0) (gd (allIn x0 ((x3.1, x3.2.1, x3.2.2.1, x3.2.2.2.1, ()) : Int × Int × Int × Int × Unit)) (gd (allIn x0 ((x4.1, x4.2.1, x4.2.2.1, x4.2.2.2.1, ()) : Int × Int × Int × Int × Unit)) (gd (g11_c8 x0 x3 x4 = true → g11_c8 x0 x3 x4 = true) (gd (g11_c8 x0 x3 x4 = true → g11_c8 x0 x3 x4 = true) (gd ((bif g11_c8 x0 x3 x4 then ieq (g11_c2 x0 x3 x4) (0 : Int) else false) = true → (bif g11_c8 x0 x3 x4 then ieq (g11_c2 x0 x3 x4) (0 : Int) else false) = true) (some ((bif bif g11_c8 x0 x3 x4 then ieq (g11_c2 x0 x3 x4) (0 : Int) else false then true else false, ()) : Bool × Unit)))))))))))))))))))))))))))))))))
noncomputable def g11_sh : List LSh := ([] : List LSh)


end Go.Arcs

set_option linter.unusedVariables false
set_option linter.unusedSimpArgs false
namespace Go.Arcs
open Go Go.Ab Go.Proofs

theorem goal95s : con95s.goal Try.prog (spS [] []) g95s_sh [] lm30 := by
  have e : (∀ (l : List Int) (x : Int), l.length ≤ 1000 → g95s l x = some (withL l x, ())) = con95s.goal Try.prog (spS [] []) g95s_sh [] lm30 := by kernel_rfl
  rw [← e]
  intro l x hl
  unfold g95s
  rw [gd_pos rfl]
  let A : List Int := l.filter (fun y => ilt y x)
  have hA : A.length ≤ l.length := List.length_filter_le _ _
  have hA' : (l.filter (fun y => ilt y x)).length ≤ l.length := List.length_filter_le _ _
  refine whileO_nat (st := fun i : Nat => (((i : Int), (l.take i).filter (fun y => ilt y x), ()) : Row)) (lo := 0) (hi := l.length) (Nat.zero_le _) (fun i _ hi => ?_) ?_
  · have h1 := fil_len (q := fun y => ilt y x) (l := l) (i := i)
    simp only [Int.toNat_natCast, Nat.le_refl, gd_true, List.take_length, List.length_append, List.length_singleton]
    rw [cond_t (ilt_iff.2 (by omega)), gd_pos (by omega), gd_pos (by omega), cast1 (by omega), fil_take hi]
    cases ilt (l.getD i 0) x <;> simp
  · simp only [List.take_length, Nat.le_refl, gd_true]
    rw [cond_f (ilt_false.2 (by omega)), gd_pos (by omega)]
    refine (congrArg (whileO _) (?_ : _ = ((((A ++ x :: (l.take 0).filter (fun y => ilt x y)).length : Int), ((0 : Nat) : Int), A ++ x :: (l.take 0).filter (fun y => ilt x y), ()) : Int × Int × List Int × Unit))).trans ?_
    · simp [A]
    refine whileO_nat (st := fun i : Nat => ((((A ++ x :: (l.take i).filter (fun y => ilt x y)).length : Int), (i : Int), A ++ x :: (l.take i).filter (fun y => ilt x y), ()) : Int × Int × List Int × Unit)) (lo := 0) (hi := l.length) (Nat.zero_le _) (fun i _ hi => ?_) ?_
    · have h1 := fil_len (q := fun y => ilt x y) (l := l) (i := i)
      have h2 : (A ++ x :: (l.take i).filter (fun y => ilt x y)).length ≤ 2001 := by
        rw [List.length_append, List.length_cons]; omega
      simp only [Int.toNat_natCast, Nat.le_refl, gd_true, List.take_length]
      rw [cond_t (ilt_iff.2 (by omega)), gd_pos (by omega), gd_pos (by omega), cast1 (by omega), fil_take hi]
      cases ilt x (l.getD i 0) <;> simp [Nat.add_assoc]
    · simp only [Int.toNat_natCast, List.take_length]
      rw [cond_f (ilt_false.2 (by omega)), gd_pos trivial]
      rfl
set_option maxRecDepth 100000 in
theorem ok95s : con95s.Ok Try.prog := SCon.of_goal mixed okN okS0 con95s goal95s

/-! IsFrame -/
theorem frame_loop {step : Row → Option (Lp Row (Bool × Unit))} {a b c d : Int} (out : List Int → Bool)
    (hs : ∀ (i : Nat) (L : List Int), i < 4 → L.length ≤ 10 → step (((i : Int), L, ()) : Row) = some (if L.contains ([a, b, c, d].getD i 0) = true then .out (false, ()) else .go ((((i + 1 : Nat) : Int), withL L ([a, b, c, d].getD i 0), ()) : Row)))
    (hend : (set4 (a, b, c, d, ())).length ≤ 10 → step ((4, set4 (a, b, c, d, ()), ()) : Row) = some (.out (out (set4 (a, b, c, d, ())), ()))) :
    whileO step ((0, [], ()) : Row) = some (!has4 (a, b, c, d, ()) && out (set4 (a, b, c, d, ())), ()) := by
  have cw : ∀ {l : List Int} {x y : Int}, x ∉ l → (withL l x).contains y = (ieq x y || l.contains y) := fun {l x y} hx => by
    rw [Bool.eq_iff_iff, List.contains_iff_mem, (with_perm hx).mem_iff, List.mem_cons, Bool.or_eq_true, ieq_iff, List.contains_iff_mem]
    exact or_congr eq_comm Iff.rfl
  have wl : ∀ {l : List Int} {x : Int}, x ∉ l → (withL l x).length = l.length + 1 := with_len
  have nc : ∀ {l : List Int} {x : Int}, l.contains x = false → x ∉ l := fun {l x} h => by simpa using h
  have m0 : a ∉ ([] : List Int) := List.not_mem_nil
  have l0 : (withL [] a).length = 1 := rfl
  refine (whileO_go (s' := (((1 : Nat) : Int), withL [] a, ())) (hs 0 [] (by omega) (by simp))).trans ?_
  have k1 : (withL [] a).contains b = ieq a b := by rw [cw m0]; simp
  have h1 := hs 1 (withL [] a) (by omega) (by omega)
  simp only [List.getD_cons_succ, List.getD_cons_zero, k1] at h1
  unfold has4 set4
  simp only
  cases e1 : ieq a b with
  | true => rw [e1, if_pos rfl] at h1; rw [whileO_out h1]; simp
  | false =>
    rw [e1, if_neg (by simp)] at h1
    have m1 : b ∉ withL [] a := nc (by rw [k1]; exact e1)
    have l1 := wl m1
    refine (whileO_go h1).trans ?_
    have k2 : (withL (withL [] a) b).contains c = (ieq b c || ieq a c) := by rw [cw m1, cw m0]; simp
    have h2 := hs 2 (withL (withL [] a) b) (by omega) (by omega)
    simp only [List.getD_cons_succ, List.getD_cons_zero, k2] at h2
    cases e2 : (ieq b c || ieq a c) with
    | true =>
      rw [e2, if_pos rfl] at h2
      rw [whileO_out h2]
      rcases Bool.or_eq_true _ _ ▸ e2 with h | h <;> simp [h]
    | false =>
      rw [e2, if_neg (by simp)] at h2
      have m2 : c ∉ withL (withL [] a) b := nc (by rw [k2]; exact e2)
      have l2 := wl m2
      refine (whileO_go h2).trans ?_
      have k3 : (withL (withL (withL [] a) b) c).contains d = (ieq c d || (ieq b d || ieq a d)) := by rw [cw m2, cw m1, cw m0]; simp
      have h3 := hs 3 (withL (withL (withL [] a) b) c) (by omega) (by omega)
      simp only [List.getD_cons_succ, List.getD_cons_zero, k3] at h3
      obtain ⟨e21, e22⟩ := Bool.or_eq_false_iff.1 e2
      cases e3 : (ieq c d || (ieq b d || ieq a d)) with
      | true =>
        rw [e3, if_pos rfl] at h3
        rw [whileO_out h3]
        cases q1 : ieq c d <;> cases q2 : ieq b d <;> cases q3 : ieq a d <;> rw [q1, q2, q3] at e3 <;> simp [q1, q2, q3] at e3 ⊢
      | false =>
        rw [e3, if_neg (by simp)] at h3
        have m3 : d ∉ withL (withL (withL [] a) b) c := nc (by rw [k3]; exact e3)
        have l3 := wl m3
        refine (whileO_go h3).trans ?_
        obtain ⟨e31, e32⟩ := Bool.or_eq_false_iff.1 e3
        obtain ⟨e33, e34⟩ := Bool.or_eq_false_iff.1 e32
        refine (whileO_out (show step ((((3 + 1 : Nat) : Int), withL (withL (withL (withL [] a) b) c) d, ()) : Row) = _ from hend (by unfold set4; simp only; omega))).trans ?_
        simp [e21, e22, e31, e33, e34, set4]
theorem goal52 : con52.goal Try.prog (spS [con95s] [con94, con59]) g52_sh [] lm30 := by
  have e : (∀ (p : Int) (l : QuadD), isP p → allIn p l → g52 p l = some (isFrR p l, ())) = con52.goal Try.prog (spS [con95s] [con94, con59]) g52_sh [] lm30 := by kernel_rfl
  rw [← e]
  rintro p ⟨a, b, c, d, ⟨⟩⟩ hp ⟨ha, hb, hc, hd⟩
  unfold g52 isFrR
  rw [gd_pos (Nat.le_refl _), gd_pos rfl]
  have hall : (set4 (a, b, c, d, ())).all (inPt p) = true := with_all (with_all (with_all (with_all rfl ha) hb) hc) hd
  refine frame_loop (out := fun L => arcR p L) (fun i L hi hL => ?_) (fun hL => ?_)
  · have sm : small L := by unfold small; omega
    have hg : (@id Int (arrGet 4 (Ty.int .i64) ((a, b, c, d, ()) : Int × Int × Int × Int × Unit) i)) = [a, b, c, d].getD i 0 := by
      have : i = 0 ∨ i = 1 ∨ i = 2 ∨ i = 3 := by omega
      rcases this with rfl | rfl | rfl | rfl <;> rfl
    simp only [Int.toNat_natCast, hg, Nat.zero_add, Nat.le_refl, gd_true, List.take_length, List.drop_zero, gd_pos sm]
    rw [cond_t (ilt_iff.2 (by omega)), gd_pos (by omega), gd_pos (show L.length ≤ 1000 by omega), cast1 (by omega)]
    cases L.contains ([a, b, c, d].getD i 0) <;> rfl
  · simp only [Nat.zero_add, Nat.le_refl, gd_true, List.take_length, List.drop_zero]
    rw [cond_f (ilt_false.2 (by omega)), gd_pos hp, gd_pos ⟨hall, by omega⟩]
set_option maxRecDepth 100000 in
theorem ok52 : con52.Ok Try.prog := Con.of_goalS mixed (okC ok94 (okC ok59 okN)) (okS ok95s okS0) con52 goal52
end Go.Arcs

set_option linter.unusedVariables false
set_option linter.unusedSimpArgs false
namespace Go.Arcs
open Go Go.Ab Go.Proofs

theorem str_eq2 {p a b c : Int} (hp : isP p) (h : a = b ∨ a = c ∨ b = c) : strF p a b c = true := by
  rw [str_trip hp]
  rcases h with rfl | rfl | rfl
  · exact ⟨0, by unfold trip detM colsF; simp only; grind⟩
  · exact ⟨0, by unfold trip detM colsF; simp only; grind⟩
  · exact ⟨0, by unfold trip detM colsF; simp only; grind⟩
theorem set4_perm {a b c d : Int} (h : has4 (a, b, c, d, ()) = false) : (set4 (a, b, c, d, ())).Perm [d, c, b, a] := by
  unfold has4 at h
  simp only [Bool.or_eq_false_iff, ieq_false] at h
  obtain ⟨⟨⟨⟨⟨h1, h2⟩, h3⟩, h4⟩, h5⟩, h6⟩ := h
  unfold set4
  simp only
  have m0 : a ∉ ([] : List Int) := List.not_mem_nil
  have p1 := with_perm m0
  have m1 : b ∉ withL [] a := fun hm => by
    have := p1.mem_iff.1 hm; simp at this; exact h1 this.symm
  have p2 := (with_perm m1).trans (p1.cons b)
  have m2 : c ∉ withL (withL [] a) b := fun hm => by
    have := p2.mem_iff.1 hm; simp at this
    rcases this with e | e
    · exact h3 e.symm
    · exact h2 e.symm
  have p3 := (with_perm m2).trans (p2.cons c)
  have m3 : d ∉ withL (withL (withL [] a) b) c := fun hm => by
    have := p3.mem_iff.1 hm; simp at this
    rcases this with e | e | e
    · exact h6 e.symm
    · exact h5 e.symm
    · exact h4 e.symm
  exact (with_perm m3).trans (p3.cons d)
theorem frame_eq {p : Int} {l : QuadD} (hp : isP p) (hl : allIn p l) : isFrR p l = isFrF p l := by
  obtain ⟨a, b, c, d, ⟨⟩⟩ := l
  obtain ⟨ha, hb, hc, hd⟩ := hl
  unfold isFrR isFrF
  simp only at ha hb hc hd ⊢
  cases h : has4 (a, b, c, d, ()) with
  | true =>
    unfold has4 at h
    simp only [Bool.or_eq_true, ieq_iff] at h
    rcases h with ((((h | h) | h) | h) | h) | h
    · rw [str_eq2 hp (.inl h)]; rfl
    · rw [str_eq2 hp (.inr (.inl h))]; rfl
    · rw [str_eq2 hp (.inr (.inr h))]; rfl
    · rw [str_eq2 (a := a) (b := b) (c := d) hp (.inr (.inl h))]; simp
    · rw [str_eq2 (a := a) (b := b) (c := d) hp (.inr (.inr h))]; simp
    · rw [str_eq2 (a := a) (b := c) (c := d) hp (.inr (.inr h))]; simp
  | false =>
    have hperm := set4_perm h
    unfold has4 at h
    simp only [Bool.or_eq_false_iff, ieq_false] at h
    obtain ⟨⟨⟨⟨⟨h1, h2⟩, h3⟩, h4⟩, h5⟩, h6⟩ := h
    have hall : (set4 (a, b, c, d, ())).all (inPt p) = true := with_all (with_all (with_all (with_all rfl ha) hb) hc) hd
    rw [Bool.not_false, Bool.true_and, Bool.eq_iff_iff, arcR_iff hp hall]
    have cnt : ∀ k : Nat, meetsF p (set4 (a, b, c, d, ())) k = ((((if onF p d k = true then 1 else 0) + (if onF p c k = true then 1 else 0) + (if onF p b k = true then 1 else 0) + (if onF p a k = true then 1 else 0) : Nat)) : Int) := fun k => by
      unfold meetsF
      rw [hperm.countP_eq]
      simp only [List.countP_cons, List.countP_nil]
      congr 1
      omega
    simp only [Bool.and_eq_true, Bool.not_eq_true', Bool.eq_false_iff, ne_eq, str_iff hp ha hb hc h1, str_iff hp ha hb hd h1, str_iff hp ha hc hd h2, str_iff hp hb hc hd h3]
    constructor
    · intro H
      refine ⟨⟨⟨?_, ?_⟩, ?_⟩, ?_⟩ <;> rintro ⟨k, k1, k2, k3, k4⟩ <;> have := H k k1 <;> rw [cnt k, k2, k3, k4] at this <;> simp at this <;> split at this <;> omega
    · rintro ⟨⟨⟨q1, q2⟩, q3⟩, q4⟩ k hk
      rw [cnt k]
      cases ea : onF p a k <;> cases eb : onF p b k <;> cases ec : onF p c k <;> cases ed : onF p d k <;> simp <;> first
        | exact q1 ⟨k, hk, ea, eb, ec⟩
        | exact q2 ⟨k, hk, ea, eb, ed⟩
        | exact q3 ⟨k, hk, ea, ec, ed⟩
        | exact q4 ⟨k, hk, eb, ec, ed⟩
end Go.Arcs

set_option linter.unusedVariables false
set_option linter.unusedSimpArgs false
namespace Go.Arcs
open Go Go.Ab Go.Proofs

theorem ixA_loop {α S X : Type} {step : S → Option (Lp S X)} (st : Nat → S) (out : Int → X) {q : α → Bool} {z : α} {l : List α}
    (h1 : ∀ i, i < l.length → q (l.getD i z) = true → step (st i) = some (.out (out i))) (h2 : ∀ i, i < l.length → q (l.getD i z) = false → step (st i) = some (.go (st (i + 1)))) (h3 : step (st l.length) = some (.out (out (-1)))) :
    ∀ (n i : Nat), i + n = l.length → whileO step (st i) = some (out (ixA q (l.drop i) i))
  | 0, i, hi => by
    have : i = l.length := by omega
    subst this
    rw [whileO_out h3, List.drop_length]; rfl
  | n + 1, i, hi => by
    have hil : i < l.length := by omega
    have e : l.drop i = l.getD i z :: l.drop (i + 1) := by rw [List.drop_eq_getElem_cons hil, gd_at hil]
    rw [e]
    simp only [ixA]
    cases hq : q (l.getD i z) with
    | true => rw [whileO_out (h1 i hil hq), if_pos rfl]
    | false =>
      rw [whileO_go (h2 i hil hq), if_neg (by simp)]
      exact ixA_loop st out h1 h2 h3 n (i + 1) (by omega)
theorem goal92 : con92.goal Try.prog (spOf [con76, con31]) g92_sh [] lm30 := by
  have e : (∀ (p : Int) (x : TripD), isP p → bdT x → g92 p x = some (nmR p x, ())) = con92.goal Try.prog (spOf [con76, con31]) g92_sh [] lm30 := by kernel_rfl
  rw [← e]
  rintro p ⟨x, y, z, ⟨⟩⟩ hp hb
  have h57 := pts_57 hp
  unfold g92 nmR
  rw [gd_pos (Nat.le_refl _), gd_pos hp, gd_pos hb, gd_pos (Nat.le_refl _), gd_pos hp]
  refine ixA_loop (α := TripD) (q := fun q => deq Trip q (unitF p ((x, y, z, ()) : TripD))) (z := ((0, 0, 0, ()) : TripD)) (l := ptsC p) (st := fun i => (((i : Int), [(unitF p (x, y, z, ())).1, (unitF p (x, y, z, ())).2.1, (unitF p (x, y, z, ())).2.2.1], ()) : Row)) (out := fun i => ((i, ()) : Int × Unit)) (fun i hi hq => ?_) (fun i hi hq => ?_) ?_ (ptsC p).length 0 (Nat.zero_add _)
  · refine (cond_t (ilt_iff.2 (Int.ofNat_lt.2 hi))).trans ?_
    refine (gd_pos ⟨Int.natCast_nonneg _, Int.ofNat_lt.2 hi⟩).trans ?_
    refine (gd_pos (Nat.le_refl _)).trans ?_
    refine (gd_pos (Nat.le_refl _)).trans ?_
    refine (gd_pos (by simp)).trans ?_
    exact cond_t hq
  · refine (cond_t (ilt_iff.2 (Int.ofNat_lt.2 hi))).trans ?_
    refine (gd_pos ⟨Int.natCast_nonneg _, Int.ofNat_lt.2 hi⟩).trans ?_
    refine (gd_pos (Nat.le_refl _)).trans ?_
    refine (gd_pos (Nat.le_refl _)).trans ?_
    refine (gd_pos (by simp)).trans ?_
    refine (cond_f hq).trans ?_
    have hi' : i < (ptsC p).length := hi
    rw [cast1 (by omega)]
  · exact cond_f (ilt_false.2 (Int.le_refl _))
set_option maxRecDepth 100000 in
theorem ok92 : con92.Ok Try.prog := Con.of_goal mixed (okC ok76 (okC ok31 okN)) con92 goal92
end Go.Arcs

set_option linter.unusedVariables false
set_option linter.unusedSimpArgs false
namespace Go.Arcs
open Go Go.Ab Go.Proofs

theorem mul7 {a b : Int} (ha : 0 ≤ a ∧ a < 7) (hb : 0 ≤ b ∧ b < 7) : 0 ≤ a * b ∧ a * b ≤ 36 :=
  ⟨Int.mul_nonneg ha.1 hb.1, Int.le_trans (Int.mul_le_mul (show a ≤ 6 by omega) (show b ≤ 6 by omega) hb.1 (by omega)) (by omega)⟩
theorem dot7 {a b c x y z : Int} (ha : 0 ≤ a ∧ a < 7) (hb : 0 ≤ b ∧ b < 7) (hc : 0 ≤ c ∧ c < 7) (hx : 0 ≤ x ∧ x < 7) (hy : 0 ≤ y ∧ y < 7) (hz : 0 ≤ z ∧ z < 7) :
    wr .i64 (wr .i64 (wr .i64 (a * x) + wr .i64 (b * y)) + wr .i64 (c * z)) = a * x + b * y + c * z := by
  have h1 := mul7 ha hx
  have h2 := mul7 hb hy
  have h3 := mul7 hc hz
  rw [wr_id (n := a * x) (by omega), wr_id (n := b * y) (by omega), wr_id (n := c * z) (by omega), wr_id (n := a * x + b * y) (by omega), wr_id (by omega)]
theorem goal93 : con93.goal Try.prog (spOf []) g93_sh [] lm30 := by
  have e : (∀ (m : MatD) (t : TripD), inM 7 m → inR 7 t → g93 m t = some (timR m t, ())) = con93.goal Try.prog (spOf []) g93_sh [] lm30 := by kernel_rfl
  rw [← e]
  rintro ⟨⟨a1, a2, a3, ⟨⟩⟩, ⟨b1, b2, b3, ⟨⟩⟩, ⟨c1, c2, c3, ⟨⟩⟩, ⟨⟩⟩ ⟨x, y, z, ⟨⟩⟩ ⟨⟨ha1, ha2, ha3⟩, ⟨hb1, hb2, hb3⟩, ⟨hc1, hc2, hc3⟩⟩ ⟨hx, hy, hz⟩
  simp only at ha1 ha2 ha3 hb1 hb2 hb3 hc1 hc2 hc3 hx hy hz
  have d1 := dot7 ha1 ha2 ha3 hx hy hz
  have d2 := dot7 hb1 hb2 hb3 hx hy hz
  have d3 := dot7 hc1 hc2 hc3 hx hy hz
  have w1 : wr .i64 1 = 1 := by decide
  have w2 : wr .i64 2 = 2 := by decide
  have w3 : wr .i64 3 = 3 := by decide
  unfold g93 timR
  rw [gd_pos (Nat.le_refl _)]
  refine (whileO_go (s' := ((1, [x, y, z], [0, 0, 0], [a1 * x + a2 * y + a3 * z, 0, 0], ()) : Int × List Int × List Int × List Int × Unit)) ?_).trans ?_
  · simp [ilt, gd_true, arrGet, id, d1, w1]
  refine (whileO_go (s' := ((2, [x, y, z], [0, 0, 0], [a1 * x + a2 * y + a3 * z, b1 * x + b2 * y + b3 * z, 0], ()) : Int × List Int × List Int × List Int × Unit)) ?_).trans ?_
  · simp [ilt, gd_true, arrGet, id, d2, w2]
  refine (whileO_go (s' := ((3, [x, y, z], [0, 0, 0], [a1 * x + a2 * y + a3 * z, b1 * x + b2 * y + b3 * z, c1 * x + c2 * y + c3 * z], ()) : Int × List Int × List Int × List Int × Unit)) ?_).trans ?_
  · simp [ilt, gd_true, arrGet, id, d3, w3]
  refine whileO_out ?_
  simp [ilt, gd_true, setMany]
set_option maxRecDepth 100000 in
theorem ok93 : con93.Ok Try.prog := Con.of_goal mixed okN con93 goal93
end Go.Arcs

set_option linter.unusedVariables false
set_option linter.unusedSimpArgs false
namespace Go.Arcs
open Go Go.Ab Go.Proofs

theorem goal97 : con97.goal Try.prog (spOf []) g97_sh [] lm30 := by
  have e : (∀ (a b c : TripD), g97 a b c = some (colsF a b c, ())) = con97.goal Try.prog (spOf []) g97_sh [] lm30 := by kernel_rfl
  rw [← e]
  rintro ⟨a1, a2, a3, ⟨⟩⟩ ⟨b1, b2, b3, ⟨⟩⟩ ⟨c1, c2, c3, ⟨⟩⟩
  have w1 : wr .i64 1 = 1 := by decide
  have w2 : wr .i64 2 = 2 := by decide
  have w3 : wr .i64 3 = 3 := by decide
  unfold g97 colsF
  refine (whileO_go (s' := ((1, [a1, a2, a3], [b1, b2, b3], [c1, c2, c3], [0, 0, 0, 0, 0, 0, 0, 0, 0], [a1, b1, c1, 0, 0, 0, 0, 0, 0], ()) : Int × List Int × List Int × List Int × List Int × List Int × Unit)) ?_).trans ?_
  · simp [ilt, gd_true, setMany, w1]
  refine (whileO_go (s' := ((2, [a1, a2, a3], [b1, b2, b3], [c1, c2, c3], [0, 0, 0, 0, 0, 0, 0, 0, 0], [a1, b1, c1, a2, b2, c2, 0, 0, 0], ()) : Int × List Int × List Int × List Int × List Int × List Int × Unit)) ?_).trans ?_
  · simp [ilt, gd_true, setMany, w2]
  refine (whileO_go (s' := ((3, [a1, a2, a3], [b1, b2, b3], [c1, c2, c3], [0, 0, 0, 0, 0, 0, 0, 0, 0], [a1, b1, c1, a2, b2, c2, a3, b3, c3], ()) : Int × List Int × List Int × List Int × List Int × List Int × Unit)) ?_).trans ?_
  · simp [ilt, gd_true, setMany, w3]
  refine whileO_out ?_
  simp [ilt, gd_true, setMany]
set_option maxRecDepth 100000 in
theorem ok97 : con97.Ok Try.prog := Con.of_goal mixed okN con97 goal97
end Go.Arcs

set_option linter.unusedVariables false
set_option linter.unusedSimpArgs false
namespace Go.Arcs
open Go Go.Ab Go.Proofs

theorem inM_7 {p : Int} (hp : isP p) {m : MatD} (hm : inM p m) : inM 7 m := by
  have h7 := isP_bd hp
  have r {x : TripD} (h : inR p x) : inR 7 x := ⟨⟨h.1.1, by have := h.1.2; omega⟩, ⟨h.2.1.1, by have := h.2.1.2; omega⟩, ⟨h.2.2.1, by have := h.2.2.2; omega⟩⟩
  exact ⟨r hm.1, r hm.2.1, r hm.2.2⟩
theorem inR_7 {p : Int} (hp : isP p) {x : TripD} (h : inR p x) : inR 7 x := by
  have h7 := isP_bd hp
  exact ⟨⟨h.1.1, by have := h.1.2; omega⟩, ⟨h.2.1.1, by have := h.2.1.2; omega⟩, ⟨h.2.2.1, by have := h.2.2.2; omega⟩⟩
theorem tim_bd {m : MatD} {x : TripD} (hm : inM 7 m) (hx : inR 7 x) : bdT (timR m x) := by
  obtain ⟨⟨a1, a2, a3, ⟨⟩⟩, ⟨b1, b2, b3, ⟨⟩⟩, ⟨c1, c2, c3, ⟨⟩⟩, ⟨⟩⟩ := m
  obtain ⟨x, y, z, ⟨⟩⟩ := x
  obtain ⟨⟨ha1, ha2, ha3⟩, ⟨hb1, hb2, hb3⟩, ⟨hc1, hc2, hc3⟩⟩ := hm
  obtain ⟨hx, hy, hz⟩ := hx
  simp only at ha1 ha2 ha3 hb1 hb2 hb3 hc1 hc2 hc3 hx hy hz
  have q1 := mul7 ha1 hx
  have q2 := mul7 ha2 hy
  have q3 := mul7 ha3 hz
  have q4 := mul7 hb1 hx
  have q5 := mul7 hb2 hy
  have q6 := mul7 hb3 hz
  have q7 := mul7 hc1 hx
  have q8 := mul7 hc2 hy
  have q9 := mul7 hc3 hz
  simp only [bdT, timR]
  refine ⟨⟨?_, ?_⟩, ⟨?_, ?_⟩, ?_, ?_⟩ <;> omega
theorem goal51 : con51.goal Try.prog (spOf [con31, con92, con93]) g51_sh [] lm30 := by
  have e : (∀ (p : Int) (m : MatD) (a : Int), isP p → inM p m → inPt p a = true → g51 p m a = some (nmR p (timR m (pt p a)), ())) = con51.goal Try.prog (spOf [con31, con92, con93]) g51_sh [] lm30 := by kernel_rfl
  rw [← e]
  intro p m a hp hm ha
  have i1 := inPt_iff.1 ha
  have hl := pts_len p (isP_mem hp)
  have l1 : a < ((ptsC p).length : Int) := by omega
  have hx := pt_in hp ha
  unfold g51
  refine (gd_pos (Nat.le_refl _)).trans ((gd_pos hp).trans ((gd_pos ⟨i1.1, l1⟩).trans ((gd_pos (inM_7 hp hm)).trans ((gd_pos (inR_7 hp hx)).trans ((gd_pos hp).trans ((gd_pos (tim_bd (inM_7 hp hm) (inR_7 hp hx))).trans ?_))))))
  rfl
set_option maxRecDepth 100000 in
theorem ok51 : con51.Ok Try.prog := Con.of_goal mixed (okC ok31 (okC ok92 (okC ok93 okN))) con51 goal51

theorem ent96 {p a b c d : Int} (hp : isP p) (ha : 0 ≤ a ∧ a < p) (hb : 0 ≤ b ∧ b < p) (hc : 0 ≤ c ∧ c < p) (hd : 0 ≤ d ∧ d < p) :
    Int.tmod (wr .i64 (Int.tmod (wr .i64 (wr .i64 (a * b) - wr .i64 (c * d))) p + p)) p = (a * b - c * d) % p := by
  have h7 := isP_bd hp
  have h1 := mul7 (a := a) (b := b) ⟨ha.1, by omega⟩ ⟨hb.1, by omega⟩
  have h2 := mul7 (a := c) (b := d) ⟨hc.1, by omega⟩ ⟨hd.1, by omega⟩
  rw [wr_id (n := a * b) (by omega), wr_id (n := c * d) (by omega), wr_id (n := a * b - c * d) (by omega)]
  exact modF_eq (by omega)
theorem goal96 : con96.goal Try.prog (spOf []) g96_sh [] lm30 := by
  have e : (∀ (p : Int) (m : MatD), isP p → inM p m → g96 p m = some (invM p m, ())) = con96.goal Try.prog (spOf []) g96_sh [] lm30 := by kernel_rfl
  rw [← e]
  rintro p ⟨⟨a1, a2, a3, ⟨⟩⟩, ⟨b1, b2, b3, ⟨⟩⟩, ⟨c1, c2, c3, ⟨⟩⟩, ⟨⟩⟩ hp ⟨⟨ha1, ha2, ha3⟩, ⟨hb1, hb2, hb3⟩, ⟨hc1, hc2, hc3⟩⟩
  simp only at ha1 ha2 ha3 hb1 hb2 hb3 hc1 hc2 hc3
  have h7 := isP_bd hp
  have hp0 : p ≠ 0 := by omega
  have q1 := ent96 hp hb2 hc3 hb3 hc2
  have q2 := ent96 hp hc2 ha3 hc3 ha2
  have q3 := ent96 hp ha2 hb3 ha3 hb2
  have q4 := ent96 hp hb3 hc1 hb1 hc3
  have q5 := ent96 hp hc3 ha1 hc1 ha3
  have q6 := ent96 hp ha3 hb1 ha1 hb3
  have q7 := ent96 hp hb1 hc2 hb2 hc1
  have q8 := ent96 hp hc1 ha2 hc2 ha1
  have q9 := ent96 hp ha1 hb2 ha2 hb1
  have w1 : wr .i64 1 = 1 := by decide
  have w2 : wr .i64 2 = 2 := by decide
  have w3 : wr .i64 3 = 3 := by decide
  have w4 : wr .i64 4 = 4 := by decide
  have t1 : Int.tmod 1 3 = 1 := by decide
  have t2 : Int.tmod 2 3 = 2 := by decide
  have t3 : Int.tmod 3 3 = 0 := by decide
  have t4 : Int.tmod 4 3 = 1 := by decide
  have hi : invM p ((a1, a2, a3, ()), (b1, b2, b3, ()), (c1, c2, c3, ()), ()) = (((b2 * c3 - b3 * c2) % p, (c2 * a3 - c3 * a2) % p, (a2 * b3 - a3 * b2) % p, ()), ((b3 * c1 - b1 * c3) % p, (c3 * a1 - c1 * a3) % p, (a3 * b1 - a1 * b3) % p, ()), ((b1 * c2 - b2 * c1) % p, (c1 * a2 - c2 * a1) % p, (a1 * b2 - a2 * b1) % p, ()), ()) := by
    simp only [invM, crossF, colF, reduceIte, Int.reduceEq, Prod.mk.injEq, and_true, true_and]
    refine ⟨⟨?_, ?_, ?_⟩, ⟨?_, ?_, ?_⟩, ?_, ?_, ?_⟩ <;> (congr 1; grind)
  rw [hi]
  generalize (b2 * c3 - b3 * c2) % p = e1 at *
  generalize (c2 * a3 - c3 * a2) % p = e2 at *
  generalize (a2 * b3 - a3 * b2) % p = e3 at *
  generalize (b3 * c1 - b1 * c3) % p = e4 at *
  generalize (c3 * a1 - c1 * a3) % p = e5 at *
  generalize (a3 * b1 - a1 * b3) % p = e6 at *
  generalize (b1 * c2 - b2 * c1) % p = e7 at *
  generalize (c1 * a2 - c2 * a1) % p = e8 at *
  generalize (a1 * b2 - a2 * b1) % p = e9 at *
  unfold g96
  refine (whileO_go (s' := ((1, [a1, a2, a3, b1, b2, b3, c1, c2, c3], [0, 0, 0, 0, 0, 0, 0, 0, 0], [e1, e2, e3, 0, 0, 0, 0, 0, 0], ()) : Int × List Int × List Int × List Int × Unit)) ?_).trans ?_
  · refine (cond_t (by simp [ilt])).trans ?_
    refine (whileO_go (s' := ((1, [a1, a2, a3, b1, b2, b3, c1, c2, c3], [0, 0, 0, 0, 0, 0, 0, 0, 0], [e1, 0, 0, 0, 0, 0, 0, 0, 0], ()) : Int × List Int × List Int × List Int × Unit)) ?_).trans ?_
    · simp [g96_l0, ilt, gd_true, w1, w2, w3, w4, t1, t2, t3, t4, hp0, q1]
    refine (whileO_go (s' := ((2, [a1, a2, a3, b1, b2, b3, c1, c2, c3], [0, 0, 0, 0, 0, 0, 0, 0, 0], [e1, e2, 0, 0, 0, 0, 0, 0, 0], ()) : Int × List Int × List Int × List Int × Unit)) ?_).trans ?_
    · simp [g96_l0, ilt, gd_true, w1, w2, w3, w4, t1, t2, t3, t4, hp0, q2]
    refine (whileO_go (s' := ((3, [a1, a2, a3, b1, b2, b3, c1, c2, c3], [0, 0, 0, 0, 0, 0, 0, 0, 0], [e1, e2, e3, 0, 0, 0, 0, 0, 0], ()) : Int × List Int × List Int × List Int × Unit)) ?_).trans ?_
    · simp [g96_l0, ilt, gd_true, w1, w2, w3, w4, t1, t2, t3, t4, hp0, q3]
    refine whileO_out ?_
    simp [g96_l0, ilt, w1]
  refine (whileO_go (s' := ((2, [a1, a2, a3, b1, b2, b3, c1, c2, c3], [0, 0, 0, 0, 0, 0, 0, 0, 0], [e1, e2, e3, e4, e5, e6, 0, 0, 0], ()) : Int × List Int × List Int × List Int × Unit)) ?_).trans ?_
  · refine (cond_t (by simp [ilt])).trans ?_
    refine (whileO_go (s' := ((1, [a1, a2, a3, b1, b2, b3, c1, c2, c3], [0, 0, 0, 0, 0, 0, 0, 0, 0], [e1, e2, e3, e4, 0, 0, 0, 0, 0], ()) : Int × List Int × List Int × List Int × Unit)) ?_).trans ?_
    · simp [g96_l0, ilt, gd_true, w1, w2, w3, w4, t1, t2, t3, t4, hp0, q4]
    refine (whileO_go (s' := ((2, [a1, a2, a3, b1, b2, b3, c1, c2, c3], [0, 0, 0, 0, 0, 0, 0, 0, 0], [e1, e2, e3, e4, e5, 0, 0, 0, 0], ()) : Int × List Int × List Int × List Int × Unit)) ?_).trans ?_
    · simp [g96_l0, ilt, gd_true, w1, w2, w3, w4, t1, t2, t3, t4, hp0, q5]
    refine (whileO_go (s' := ((3, [a1, a2, a3, b1, b2, b3, c1, c2, c3], [0, 0, 0, 0, 0, 0, 0, 0, 0], [e1, e2, e3, e4, e5, e6, 0, 0, 0], ()) : Int × List Int × List Int × List Int × Unit)) ?_).trans ?_
    · simp [g96_l0, ilt, gd_true, w1, w2, w3, w4, t1, t2, t3, t4, hp0, q6]
    refine whileO_out ?_
    simp [g96_l0, ilt, w2]
  refine (whileO_go (s' := ((3, [a1, a2, a3, b1, b2, b3, c1, c2, c3], [0, 0, 0, 0, 0, 0, 0, 0, 0], [e1, e2, e3, e4, e5, e6, e7, e8, e9], ()) : Int × List Int × List Int × List Int × Unit)) ?_).trans ?_
  · refine (cond_t (by simp [ilt])).trans ?_
    refine (whileO_go (s' := ((1, [a1, a2, a3, b1, b2, b3, c1, c2, c3], [0, 0, 0, 0, 0, 0, 0, 0, 0], [e1, e2, e3, e4, e5, e6, e7, 0, 0], ()) : Int × List Int × List Int × List Int × Unit)) ?_).trans ?_
    · simp [g96_l0, ilt, gd_true, w1, w2, w3, w4, t1, t2, t3, t4, hp0, q7]
    refine (whileO_go (s' := ((2, [a1, a2, a3, b1, b2, b3, c1, c2, c3], [0, 0, 0, 0, 0, 0, 0, 0, 0], [e1, e2, e3, e4, e5, e6, e7, e8, 0], ()) : Int × List Int × List Int × List Int × Unit)) ?_).trans ?_
    · simp [g96_l0, ilt, gd_true, w1, w2, w3, w4, t1, t2, t3, t4, hp0, q8]
    refine (whileO_go (s' := ((3, [a1, a2, a3, b1, b2, b3, c1, c2, c3], [0, 0, 0, 0, 0, 0, 0, 0, 0], [e1, e2, e3, e4, e5, e6, e7, e8, e9], ()) : Int × List Int × List Int × List Int × Unit)) ?_).trans ?_
    · simp [g96_l0, ilt, gd_true, w1, w2, w3, w4, t1, t2, t3, t4, hp0, q9]
    refine whileO_out ?_
    simp [g96_l0, ilt, w3]
  refine whileO_out ?_
  simp [ilt, gd_true, setMany]
set_option maxRecDepth 100000 in
theorem ok96 : con96.Ok Try.prog := Con.of_goal mixed okN con96 goal96

theorem up_loop {S X : Type} {step : S → Option (Lp S X)} {p : Int} (st : Int → S) (R : Nat → Int → X) (lo : Int) (h0 : step (st p) = some (.out (R 0 p)))
    (h1 : ∀ (c : Nat) (k : Int), lo ≤ k → k + ((c + 1 : Nat) : Int) = p → step (st k) = some (.out (R (c + 1) k)) ∨ (step (st k) = some (.go (st (k + 1))) ∧ R (c + 1) k = R c (k + 1))) :
    ∀ (c : Nat) (k : Int), lo ≤ k → k + (c : Int) = p → whileO step (st k) = some (R c k)
  | 0, k, hl, hk => by
    have : k = p := by omega
    subst this
    exact whileO_out h0
  | c + 1, k, hl, hk => by
    rcases h1 c k hl hk with h | ⟨h, g⟩
    · exact whileO_out h
    · rw [g]
      exact (whileO_go h).trans (up_loop st R lo h0 h1 c (k + 1) (by omega) (by omega))
theorem ent98 {p k a : Int} (hp : isP p) (hk : 0 ≤ k ∧ k < p) (ha : 0 ≤ a ∧ a < p) : Int.tmod (wr .i64 (k * a)) p = a * k % p := by
  have h7 := isP_bd hp
  have h1 := mul7 (a := k) (b := a) ⟨hk.1, by omega⟩ ⟨ha.1, by omega⟩
  rw [wr_id (by omega), Int.mul_comm, Int.tmod_eq_emod_of_nonneg (by rw [Int.mul_comm]; omega)]
end Go.Arcs

set_option linter.unusedVariables false
set_option linter.unusedSimpArgs false
namespace Go.Arcs
open Go Go.Ab Go.Proofs

theorem goal98m : con98m.goal Try.prog (spOf [con49]) g98m_sh [] lm30 := by
  have e : (∀ (p : Int) (m : MatD), isP p → inM p m → g98m p m = some (fstL p m (p - 1).toNat 1, ())) = con98m.goal Try.prog (spOf [con49]) g98m_sh [] lm30 := by kernel_rfl
  rw [← e]
  rintro p ⟨⟨a1, a2, a3, ⟨⟩⟩, ⟨b1, b2, b3, ⟨⟩⟩, ⟨c1, c2, c3, ⟨⟩⟩, ⟨⟩⟩ hp ⟨⟨ha1, ha2, ha3⟩, ⟨hb1, hb2, hb3⟩, ⟨hc1, hc2, hc3⟩⟩
  simp only at ha1 ha2 ha3 hb1 hb2 hb3 hc1 hc2 hc3
  have h7 := isP_bd hp
  have hp0 : p ≠ 0 := by omega
  have w1 : wr .i64 1 = 1 := by decide
  have w2 : wr .i64 2 = 2 := by decide
  have w3 : wr .i64 3 = 3 := by decide
  unfold g98m
  refine up_loop (p := p) (fun k => ((k, [a1, a2, a3, b1, b2, b3, c1, c2, c3], [0, 0, 0, 0, 0, 0, 0, 0, 0], ()) : Int × List Int × List Int × Unit)) (fun c k => ((fstL p ((a1, a2, a3, ()), (b1, b2, b3, ()), (c1, c2, c3, ()), ()) c k, ()) : MatD × Unit)) 1 ?_ (fun c k h1 h2 => ?_) (p - 1).toNat 1 (Int.le_refl _) (by omega)
  · simp [ilt, gd_true, setMany, fstL]
  ·   have hk : 0 ≤ k ∧ k < p := ⟨by omega, by omega⟩
      have wk : wr .i64 (k + 1) = k + 1 := wr_id (by omega)
      have q1 := ent98 hp hk ha1
      have q2 := ent98 hp hk ha2
      have q3 := ent98 hp hk ha3
      have q4 := ent98 hp hk hb1
      have q5 := ent98 hp hk hb2
      have q6 := ent98 hp hk hb3
      have q7 := ent98 hp hk hc1
      have q8 := ent98 hp hk hc2
      have q9 := ent98 hp hk hc3
      have hs : sclM p k ((a1, a2, a3, ()), (b1, b2, b3, ()), (c1, c2, c3, ()), ()) = ((a1 * k % p, a2 * k % p, a3 * k % p, ()), (b1 * k % p, b2 * k % p, b3 * k % p, ()), (c1 * k % p, c2 * k % p, c3 * k % p, ()), ()) := rfl
      simp only [fstL, hs]
      revert q1 q2 q3 q4 q5 q6 q7 q8 q9
      generalize a1 * k % p = e1
      generalize a2 * k % p = e2
      generalize a3 * k % p = e3
      generalize b1 * k % p = e4
      generalize b2 * k % p = e5
      generalize b3 * k % p = e6
      generalize c1 * k % p = e7
      generalize c2 * k % p = e8
      generalize c3 * k % p = e9
      intro q1 q2 q3 q4 q5 q6 q7 q8 q9
      have hin : whileO (g98m_l1 p ((k, [a1, a2, a3, b1, b2, b3, c1, c2, c3], [0, 0, 0, 0, 0, 0, 0, 0, 0], ()) : Int × List Int × List Int × Unit)) ((0, [a1, a2, a3, b1, b2, b3, c1, c2, c3], [0, 0, 0, 0, 0, 0, 0, 0, 0], [0, 0, 0, 0, 0, 0, 0, 0, 0], ()) : Int × List Int × List Int × List Int × Unit) =
          (if isMapF p ((e1, e2, e3, ()), (e4, e5, e6, ()), (e7, e8, e9, ()), ()) = true then some (Lp.out ((((e1, e2, e3, ()), (e4, e5, e6, ()), (e7, e8, e9, ()), ()) : MatD), ())) else some (Lp.go (k + 1, [a1, a2, a3, b1, b2, b3, c1, c2, c3], [0, 0, 0, 0, 0, 0, 0, 0, 0], ()))) := by
        refine (whileO_go (s' := ((1, [a1, a2, a3, b1, b2, b3, c1, c2, c3], [0, 0, 0, 0, 0, 0, 0, 0, 0], [e1, e2, e3, 0, 0, 0, 0, 0, 0], ()) : Int × List Int × List Int × List Int × Unit)) ?_).trans ?_
        · refine (cond_t (by simp [ilt])).trans ?_
          refine (whileO_go (s' := ((1, [a1, a2, a3, b1, b2, b3, c1, c2, c3], [0, 0, 0, 0, 0, 0, 0, 0, 0], [e1, 0, 0, 0, 0, 0, 0, 0, 0], ()) : Int × List Int × List Int × List Int × Unit)) ?_).trans ?_
          · simp [g98m_l0, ilt, gd_true, w1, hp0, q1]
          refine (whileO_go (s' := ((2, [a1, a2, a3, b1, b2, b3, c1, c2, c3], [0, 0, 0, 0, 0, 0, 0, 0, 0], [e1, e2, 0, 0, 0, 0, 0, 0, 0], ()) : Int × List Int × List Int × List Int × Unit)) ?_).trans ?_
          · simp [g98m_l0, ilt, gd_true, w2, hp0, q2]
          refine (whileO_go (s' := ((3, [a1, a2, a3, b1, b2, b3, c1, c2, c3], [0, 0, 0, 0, 0, 0, 0, 0, 0], [e1, e2, e3, 0, 0, 0, 0, 0, 0], ()) : Int × List Int × List Int × List Int × Unit)) ?_).trans ?_
          · simp [g98m_l0, ilt, gd_true, w3, hp0, q3]
          refine whileO_out ?_
          simp [g98m_l0, ilt, w1]
        refine (whileO_go (s' := ((2, [a1, a2, a3, b1, b2, b3, c1, c2, c3], [0, 0, 0, 0, 0, 0, 0, 0, 0], [e1, e2, e3, e4, e5, e6, 0, 0, 0], ()) : Int × List Int × List Int × List Int × Unit)) ?_).trans ?_
        · refine (cond_t (by simp [ilt])).trans ?_
          refine (whileO_go (s' := ((1, [a1, a2, a3, b1, b2, b3, c1, c2, c3], [0, 0, 0, 0, 0, 0, 0, 0, 0], [e1, e2, e3, e4, 0, 0, 0, 0, 0], ()) : Int × List Int × List Int × List Int × Unit)) ?_).trans ?_
          · simp [g98m_l0, ilt, gd_true, w1, hp0, q4]
          refine (whileO_go (s' := ((2, [a1, a2, a3, b1, b2, b3, c1, c2, c3], [0, 0, 0, 0, 0, 0, 0, 0, 0], [e1, e2, e3, e4, e5, 0, 0, 0, 0], ()) : Int × List Int × List Int × List Int × Unit)) ?_).trans ?_
          · simp [g98m_l0, ilt, gd_true, w2, hp0, q5]
          refine (whileO_go (s' := ((3, [a1, a2, a3, b1, b2, b3, c1, c2, c3], [0, 0, 0, 0, 0, 0, 0, 0, 0], [e1, e2, e3, e4, e5, e6, 0, 0, 0], ()) : Int × List Int × List Int × List Int × Unit)) ?_).trans ?_
          · simp [g98m_l0, ilt, gd_true, w3, hp0, q6]
          refine whileO_out ?_
          simp [g98m_l0, ilt, w2]
        refine (whileO_go (s' := ((3, [a1, a2, a3, b1, b2, b3, c1, c2, c3], [0, 0, 0, 0, 0, 0, 0, 0, 0], [e1, e2, e3, e4, e5, e6, e7, e8, e9], ()) : Int × List Int × List Int × List Int × Unit)) ?_).trans ?_
        · refine (cond_t (by simp [ilt])).trans ?_
          refine (whileO_go (s' := ((1, [a1, a2, a3, b1, b2, b3, c1, c2, c3], [0, 0, 0, 0, 0, 0, 0, 0, 0], [e1, e2, e3, e4, e5, e6, e7, 0, 0], ()) : Int × List Int × List Int × List Int × Unit)) ?_).trans ?_
          · simp [g98m_l0, ilt, gd_true, w1, hp0, q7]
          refine (whileO_go (s' := ((2, [a1, a2, a3, b1, b2, b3, c1, c2, c3], [0, 0, 0, 0, 0, 0, 0, 0, 0], [e1, e2, e3, e4, e5, e6, e7, e8, 0], ()) : Int × List Int × List Int × List Int × Unit)) ?_).trans ?_
          · simp [g98m_l0, ilt, gd_true, w2, hp0, q8]
          refine (whileO_go (s' := ((3, [a1, a2, a3, b1, b2, b3, c1, c2, c3], [0, 0, 0, 0, 0, 0, 0, 0, 0], [e1, e2, e3, e4, e5, e6, e7, e8, e9], ()) : Int × List Int × List Int × List Int × Unit)) ?_).trans ?_
          · simp [g98m_l0, ilt, gd_true, w3, hp0, q9]
          refine whileO_out ?_
          simp [g98m_l0, ilt, w3]
        by_cases hm : isMapF p ((e1, e2, e3, ()), (e4, e5, e6, ()), (e7, e8, e9, ()), ()) = true
        · rw [if_pos hm]
          refine whileO_out ?_
          simp [ilt, gd_true, setMany, g98m_l1, hm, hp]
        · rw [if_neg hm]
          refine whileO_out ?_
          simp [ilt, gd_true, setMany, g98m_l1, hm, hp, wk]
      by_cases hm : isMapF p ((e1, e2, e3, ()), (e4, e5, e6, ()), (e7, e8, e9, ()), ()) = true
      · rw [if_pos hm] at hin
        rw [if_pos hm]
        exact .inl ((cond_t (ilt_iff.2 hk.2)).trans hin)
      · rw [if_neg hm] at hin
        rw [if_neg hm]
        exact .inr ⟨(cond_t (ilt_iff.2 hk.2)).trans hin, rfl⟩
set_option maxRecDepth 100000 in
theorem ok98m : con98m.Ok Try.prog := Con.of_goal mixed (okC ok49 okN) con98m goal98m
end Go.Arcs

set_option linter.unusedVariables false
set_option linter.unusedSimpArgs false
namespace Go.Arcs
open Go Go.Ab Go.Proofs

abbrev L4 := Int × List Int × List Int × List Int × List Int × Unit
abbrev L6 := Int × List Int × List Int × List Int × List Int × List Int × List Int × Unit
theorem entE {p a b c x y z : Int} (hp : isP p) (ha : 0 ≤ a ∧ a ≤ 50) (hb : 0 ≤ b ∧ b ≤ 50) (hc : 0 ≤ c ∧ c ≤ 50) (hx : 0 ≤ x ∧ x < p) (hy : 0 ≤ y ∧ y < p) (hz : 0 ≤ z ∧ z < p) :
    Int.tmod (wr .i64 (wr .i64 (wr .i64 (a * x) + wr .i64 (b * y)) + wr .i64 (c * z))) p = (a * x + b * y + c * z) % p := by
  have h7 := isP_bd hp
  have m {a x : Int} (ha : 0 ≤ a ∧ a ≤ 50) (hx : 0 ≤ x ∧ x < p) : 0 ≤ a * x ∧ a * x ≤ 2500 := mul_bd (c := 50) ha ⟨hx.1, by omega⟩
  have h1 := m ha hx
  have h2 := m hb hy
  have h3 := m hc hz
  rw [wr_id (n := a * x) (by omega), wr_id (n := b * y) (by omega), wr_id (n := c * z) (by omega), wr_id (n := a * x + b * y) (by omega), wr_id (by omega), Int.tmod_eq_emod_of_nonneg (by omega)]
theorem mod_in {p x : Int} (hp : isP p) : 0 ≤ x % p ∧ x % p < p := by
  have := isP_bd hp
  exact ⟨Int.emod_nonneg _ (by omega), Int.emod_lt_of_pos _ (by omega)⟩
theorem mulE_in {p : Int} (hp : isP p) {t m : MatD} : inM p (mulE p t m) := ⟨⟨mod_in hp, mod_in hp, mod_in hp⟩, ⟨mod_in hp, mod_in hp, mod_in hp⟩, mod_in hp, mod_in hp, mod_in hp⟩
theorem ep53 {p : Int} (q : Int) : List.getD (ptsC p) (Int.toNat q) ((0, 0, 0, ()) : TripD) = pt p q := rfl

theorem l1_53 {p n a1 a2 a3 a4 b1 b2 b3 b4 : Int} (hp : isP p) (ha4 : inPt p a4 = true) (hn : wr .i64 (n + 1) = n + 1)
    {t1 t2 t3 t4 t5 t6 t7 t8 t9 r1 r2 r3 r4 r5 r6 r7 r8 r9 : Int}
    (hT : bdM ((t1, t2, t3, ()), (t4, t5, t6, ()), (t7, t8, t9, ()), ())) (hR : inM p ((r1, r2, r3, ()), (r4, r5, r6, ()), (r7, r8, r9, ()), ()))
    (M : MatD) (hM : mulE p ((t1, t2, t3, ()), (t4, t5, t6, ()), (t7, t8, t9, ()), ()) ((r1, r2, r3, ()), (r4, r5, r6, ()), (r7, r8, r9, ()), ()) = M) :
    whileO (g53_l1 p ((n, [a1, a2, a3, a4], [b1, b2, b3, b4], [0, 0, 0, 0, 0, 0, 0, 0, 0], [r1, r2, r3, r4, r5, r6, r7, r8, r9], ()) : L4))
      ((0, [a1, a2, a3, a4], [b1, b2, b3, b4], [0, 0, 0, 0, 0, 0, 0, 0, 0], [r1, r2, r3, r4, r5, r6, r7, r8, r9], [t1, t2, t3, t4, t5, t6, t7, t8, t9], [0, 0, 0, 0, 0, 0, 0, 0, 0], ()) : L6) =
    (if ieq (nmR p (timR M (pt p a4))) b4 = true then some (Lp.out (Lp.out (Lp.out ((fstL p M (p - 1).toNat 1, ()) : MatD × Unit)))) else some (Lp.out (Lp.go ((n + 1, [a1, a2, a3, a4], [b1, b2, b3, b4], [0, 0, 0, 0, 0, 0, 0, 0, 0], [r1, r2, r3, r4, r5, r6, r7, r8, r9], ()) : L4)))) := by
  have hMi : inM p M := by rw [← hM]; exact mulE_in hp
  obtain ⟨⟨ht1, ht2, ht3⟩, ⟨ht4, ht5, ht6⟩, ht7, ht8, ht9⟩ := hT
  obtain ⟨⟨hr1, hr2, hr3⟩, ⟨hr4, hr5, hr6⟩, hr7, hr8, hr9⟩ := hR
  simp only at ht1 ht2 ht3 ht4 ht5 ht6 ht7 ht8 ht9 hr1 hr2 hr3 hr4 hr5 hr6 hr7 hr8 hr9
  have h7 := isP_bd hp
  have hp0 : p ≠ 0 := by omega
  have q1 := entE hp ht1 ht2 ht3 hr1 hr4 hr7
  have q2 := entE hp ht1 ht2 ht3 hr2 hr5 hr8
  have q3 := entE hp ht1 ht2 ht3 hr3 hr6 hr9
  have q4 := entE hp ht4 ht5 ht6 hr1 hr4 hr7
  have q5 := entE hp ht4 ht5 ht6 hr2 hr5 hr8
  have q6 := entE hp ht4 ht5 ht6 hr3 hr6 hr9
  have q7 := entE hp ht7 ht8 ht9 hr1 hr4 hr7
  have q8 := entE hp ht7 ht8 ht9 hr2 hr5 hr8
  have q9 := entE hp ht7 ht8 ht9 hr3 hr6 hr9
  have w1 : wr .i64 1 = 1 := by decide
  have w2 : wr .i64 2 = 2 := by decide
  have w3 : wr .i64 3 = 3 := by decide
  simp only [mulE, rowE, dotE] at hM
  revert hM q1 q2 q3 q4 q5 q6 q7 q8 q9
  generalize (t1 * r1 + t2 * r4 + t3 * r7) % p = e1
  generalize (t1 * r2 + t2 * r5 + t3 * r8) % p = e2
  generalize (t1 * r3 + t2 * r6 + t3 * r9) % p = e3
  generalize (t4 * r1 + t5 * r4 + t6 * r7) % p = e4
  generalize (t4 * r2 + t5 * r5 + t6 * r8) % p = e5
  generalize (t4 * r3 + t5 * r6 + t6 * r9) % p = e6
  generalize (t7 * r1 + t8 * r4 + t9 * r7) % p = e7
  generalize (t7 * r2 + t8 * r5 + t9 * r8) % p = e8
  generalize (t7 * r3 + t8 * r6 + t9 * r9) % p = e9
  intro hM q1 q2 q3 q4 q5 q6 q7 q8 q9
  subst hM
  refine (whileO_go (s' := ((1, [a1, a2, a3, a4], [b1, b2, b3, b4], [0, 0, 0, 0, 0, 0, 0, 0, 0], [r1, r2, r3, r4, r5, r6, r7, r8, r9], [t1, t2, t3, t4, t5, t6, t7, t8, t9], [e1, e2, e3, 0, 0, 0, 0, 0, 0], ()) : L6)) ?_).trans ?_
  · refine (cond_t (by simp [ilt])).trans ?_
    refine (whileO_go (s' := ((1, [a1, a2, a3, a4], [b1, b2, b3, b4], [0, 0, 0, 0, 0, 0, 0, 0, 0], [r1, r2, r3, r4, r5, r6, r7, r8, r9], [t1, t2, t3, t4, t5, t6, t7, t8, t9], [e1, 0, 0, 0, 0, 0, 0, 0, 0], ()) : L6)) ?_).trans ?_
    · simp [g53_l0, ilt, gd_true, w1, hp0, q1]
    refine (whileO_go (s' := ((2, [a1, a2, a3, a4], [b1, b2, b3, b4], [0, 0, 0, 0, 0, 0, 0, 0, 0], [r1, r2, r3, r4, r5, r6, r7, r8, r9], [t1, t2, t3, t4, t5, t6, t7, t8, t9], [e1, e2, 0, 0, 0, 0, 0, 0, 0], ()) : L6)) ?_).trans ?_
    · simp [g53_l0, ilt, gd_true, w2, hp0, q2]
    refine (whileO_go (s' := ((3, [a1, a2, a3, a4], [b1, b2, b3, b4], [0, 0, 0, 0, 0, 0, 0, 0, 0], [r1, r2, r3, r4, r5, r6, r7, r8, r9], [t1, t2, t3, t4, t5, t6, t7, t8, t9], [e1, e2, e3, 0, 0, 0, 0, 0, 0], ()) : L6)) ?_).trans ?_
    · simp [g53_l0, ilt, gd_true, w3, hp0, q3]
    refine whileO_out ?_
    simp [g53_l0, ilt, w1]
  refine (whileO_go (s' := ((2, [a1, a2, a3, a4], [b1, b2, b3, b4], [0, 0, 0, 0, 0, 0, 0, 0, 0], [r1, r2, r3, r4, r5, r6, r7, r8, r9], [t1, t2, t3, t4, t5, t6, t7, t8, t9], [e1, e2, e3, e4, e5, e6, 0, 0, 0], ()) : L6)) ?_).trans ?_
  · refine (cond_t (by simp [ilt])).trans ?_
    refine (whileO_go (s' := ((1, [a1, a2, a3, a4], [b1, b2, b3, b4], [0, 0, 0, 0, 0, 0, 0, 0, 0], [r1, r2, r3, r4, r5, r6, r7, r8, r9], [t1, t2, t3, t4, t5, t6, t7, t8, t9], [e1, e2, e3, e4, 0, 0, 0, 0, 0], ()) : L6)) ?_).trans ?_
    · simp [g53_l0, ilt, gd_true, w1, hp0, q4]
    refine (whileO_go (s' := ((2, [a1, a2, a3, a4], [b1, b2, b3, b4], [0, 0, 0, 0, 0, 0, 0, 0, 0], [r1, r2, r3, r4, r5, r6, r7, r8, r9], [t1, t2, t3, t4, t5, t6, t7, t8, t9], [e1, e2, e3, e4, e5, 0, 0, 0, 0], ()) : L6)) ?_).trans ?_
    · simp [g53_l0, ilt, gd_true, w2, hp0, q5]
    refine (whileO_go (s' := ((3, [a1, a2, a3, a4], [b1, b2, b3, b4], [0, 0, 0, 0, 0, 0, 0, 0, 0], [r1, r2, r3, r4, r5, r6, r7, r8, r9], [t1, t2, t3, t4, t5, t6, t7, t8, t9], [e1, e2, e3, e4, e5, e6, 0, 0, 0], ()) : L6)) ?_).trans ?_
    · simp [g53_l0, ilt, gd_true, w3, hp0, q6]
    refine whileO_out ?_
    simp [g53_l0, ilt, w2]
  refine (whileO_go (s' := ((3, [a1, a2, a3, a4], [b1, b2, b3, b4], [0, 0, 0, 0, 0, 0, 0, 0, 0], [r1, r2, r3, r4, r5, r6, r7, r8, r9], [t1, t2, t3, t4, t5, t6, t7, t8, t9], [e1, e2, e3, e4, e5, e6, e7, e8, e9], ()) : L6)) ?_).trans ?_
  · refine (cond_t (by simp [ilt])).trans ?_
    refine (whileO_go (s' := ((1, [a1, a2, a3, a4], [b1, b2, b3, b4], [0, 0, 0, 0, 0, 0, 0, 0, 0], [r1, r2, r3, r4, r5, r6, r7, r8, r9], [t1, t2, t3, t4, t5, t6, t7, t8, t9], [e1, e2, e3, e4, e5, e6, e7, 0, 0], ()) : L6)) ?_).trans ?_
    · simp [g53_l0, ilt, gd_true, w1, hp0, q7]
    refine (whileO_go (s' := ((2, [a1, a2, a3, a4], [b1, b2, b3, b4], [0, 0, 0, 0, 0, 0, 0, 0, 0], [r1, r2, r3, r4, r5, r6, r7, r8, r9], [t1, t2, t3, t4, t5, t6, t7, t8, t9], [e1, e2, e3, e4, e5, e6, e7, e8, 0], ()) : L6)) ?_).trans ?_
    · simp [g53_l0, ilt, gd_true, w2, hp0, q8]
    refine (whileO_go (s' := ((3, [a1, a2, a3, a4], [b1, b2, b3, b4], [0, 0, 0, 0, 0, 0, 0, 0, 0], [r1, r2, r3, r4, r5, r6, r7, r8, r9], [t1, t2, t3, t4, t5, t6, t7, t8, t9], [e1, e2, e3, e4, e5, e6, e7, e8, e9], ()) : L6)) ?_).trans ?_
    · simp [g53_l0, ilt, gd_true, w3, hp0, q9]
    refine whileO_out ?_
    simp [g53_l0, ilt, w3]
  have i1 := inPt_iff.1 ha4
  have hl := pts_len p (isP_mem hp)
  have la : a4 < ((ptsC p).length : Int) := by omega
  have hx7 := inR_7 hp (pt_in hp ha4)
  have hM7 := inM_7 hp hMi
  have hbd := tim_bd hM7 hx7
  have ep : ((ptsC p)[a4.toNat]?).getD ((0, 0, 0, ()) : TripD) = pt p a4 := by rw [← List.getD_eq_getElem?_getD]; rfl
  obtain ⟨hat, eat⟩ := pt_at hp ha4
  have eat := eat.symm
  have hT : (p - 1).toNat = p.toNat - 1 := by omega
  obtain ⟨⟨k1, k2⟩, ⟨k3, k4⟩, k5, k6⟩ := hx7
  have hia := i1.1
  by_cases hc : ieq (nmR p (timR ((e1, e2, e3, ()), (e4, e5, e6, ()), (e7, e8, e9, ()), ()) (pt p a4))) b4 = true
  · rw [if_pos hc]
    generalize hF : fstL p ((e1, e2, e3, ()), (e4, e5, e6, ()), (e7, e8, e9, ()), ()) (p - 1).toNat 1 = F
    obtain ⟨⟨f1, f2, f3, ⟨⟩⟩, ⟨f4, f5, f6, ⟨⟩⟩, ⟨f7, f8, f9, ⟨⟩⟩, ⟨⟩⟩ := F
    refine whileO_out ?_
    rw [hT] at hF
    unfold g53_l1
    refine (cond_f (by simp [ilt])).trans ?_
    simp [gd_true, ep, eat, hc, hF, setMany, hp, hMi, hM7, hbd, la, hia, k1, k2, k3, k4, k5, k6]
  · rw [if_neg hc]
    refine whileO_out ?_
    unfold g53_l1
    refine (cond_f (by simp [ilt])).trans ?_
    simp [gd_true, ep, eat, hc, hp, hMi, hM7, hbd, la, hia, k1, k2, k3, k4, k5, k6, hn]

theorem col_bd {p k n : Int} (hp : isP p) {x y z : TripD} (hx : inR p x) (hy : inR p y) (hz : inR p z) (hk : 0 ≤ k ∧ k < p) (hn : 0 ≤ n ∧ n < p) : bdM (colsF x (sclT k y) (sclT n z)) := by
  have h7 := isP_bd hp
  have m {a x : Int} (ha : 0 ≤ a ∧ a < p) (hx : 0 ≤ x ∧ x < p) : 0 ≤ a * x ∧ a * x ≤ 50 := by
    have := mul7 (a := a) (b := x) ⟨ha.1, by omega⟩ ⟨hx.1, by omega⟩
    omega
  have b {x : Int} (hx : 0 ≤ x ∧ x < p) : 0 ≤ x ∧ x ≤ 50 := ⟨hx.1, by omega⟩
  exact ⟨⟨b hx.1, m hk hy.1, m hn hz.1⟩, ⟨b hx.2.1, m hk hy.2.1, m hn hz.2.1⟩, b hx.2.2, m hk hy.2.2, m hn hz.2.2⟩

theorem l2_53 {p k n a1 a2 a3 a4 b1 b2 b3 b4 : Int} (hp : isP p) (ha4 : inPt p a4 = true) (hb1 : inPt p b1 = true) (hb2 : inPt p b2 = true) (hb3 : inPt p b3 = true) (hk : 0 ≤ k ∧ k < p) (hn : 0 ≤ n ∧ n < p)
    {r1 r2 r3 r4 r5 r6 r7 r8 r9 : Int} (hR : inM p ((r1, r2, r3, ()), (r4, r5, r6, ()), (r7, r8, r9, ()), ())) (z : L4) (hz : z.1 = k) :
    whileO (g53_l2 p z ((n, [a1, a2, a3, a4], [b1, b2, b3, b4], [0, 0, 0, 0, 0, 0, 0, 0, 0], [r1, r2, r3, r4, r5, r6, r7, r8, r9], ()) : L4))
      ((0, [a1, a2, a3, a4], [b1, b2, b3, b4], [0, 0, 0, 0, 0, 0, 0, 0, 0], [r1, r2, r3, r4, r5, r6, r7, r8, r9], [0, 0, 0], [0, 0, 0], ()) : L6) =
    (if ieq (nmR p (timR (mulE p (colsF (pt p b1) (sclT k (pt p b2)) (sclT n (pt p b3))) ((r1, r2, r3, ()), (r4, r5, r6, ()), (r7, r8, r9, ()), ())) (pt p a4))) b4 = true
     then some (Lp.out (Lp.out ((fstL p (mulE p (colsF (pt p b1) (sclT k (pt p b2)) (sclT n (pt p b3))) ((r1, r2, r3, ()), (r4, r5, r6, ()), (r7, r8, r9, ()), ())) (p - 1).toNat 1, ()) : MatD × Unit)))
     else some (Lp.go ((n + 1, [a1, a2, a3, a4], [b1, b2, b3, b4], [0, 0, 0, 0, 0, 0, 0, 0, 0], [r1, r2, r3, r4, r5, r6, r7, r8, r9], ()) : L4))) := by
  have h7 := isP_bd hp
  have hwn : wr .i64 (n + 1) = n + 1 := wr_id (by omega)
  have hbm := col_bd hp (pt_in hp hb1) (pt_in hp hb2) (pt_in hp hb3) hk hn
  have l1 := fun M hM => l1_53 (p := p) (n := n) (a1 := a1) (a2 := a2) (a3 := a3) (a4 := a4) (b1 := b1) (b2 := b2) (b3 := b3) (b4 := b4) hp ha4 hwn hbm hR M hM
  have w1 : wr .i64 1 = 1 := by decide
  have w2 : wr .i64 2 = 2 := by decide
  have w3 : wr .i64 3 = 3 := by decide
  have hl := pts_len p (isP_mem hp)
  have i1 := inPt_iff.1 hb1
  have i2 := inPt_iff.1 hb2
  have i3 := inPt_iff.1 hb3
  have u1 : b1 < ((ptsC p).length : Int) := by omega
  have u2 : b2 < ((ptsC p).length : Int) := by omega
  have u3 : b3 < ((ptsC p).length : Int) := by omega
  have v1 := i1.1
  have v2 := i2.1
  have v3 := i3.1
  have ep1 : ((ptsC p)[b1.toNat]?).getD ((0, 0, 0, ()) : TripD) = pt p b1 := by rw [← List.getD_eq_getElem?_getD]; rfl
  have ep2 : ((ptsC p)[b2.toNat]?).getD ((0, 0, 0, ()) : TripD) = pt p b2 := by rw [← List.getD_eq_getElem?_getD]; rfl
  have ep3 : ((ptsC p)[b3.toNat]?).getD ((0, 0, 0, ()) : TripD) = pt p b3 := by rw [← List.getD_eq_getElem?_getD]; rfl
  obtain ⟨at1, eat1⟩ := pt_at hp hb1
  obtain ⟨at2, eat2⟩ := pt_at hp hb2
  obtain ⟨at3, eat3⟩ := pt_at hp hb3
  have eat1 := eat1.symm
  have eat2 := eat2.symm
  have eat3 := eat3.symm
  obtain ⟨hy1, hy2, hy3⟩ := pt_in hp hb2
  obtain ⟨hz1, hz2, hz3⟩ := pt_in hp hb3
  have m {a x : Int} (ha : 0 ≤ a ∧ a < p) (hx : 0 ≤ x ∧ x < p) : wr .i64 (a * x) = a * x := by
    have := mul7 (a := a) (b := x) ⟨ha.1, by omega⟩ ⟨hx.1, by omega⟩
    exact wr_id (by omega)
  have m1 := m hk hy1
  have m2 := m hk hy2
  have m3 := m hk hy3
  have m4 := m hn hz1
  have m5 := m hn hz2
  have m6 := m hn hz3
  simp only [colsF, sclT] at l1 ⊢
  revert l1 ep1 ep2 ep3 eat1 eat2 eat3 m1 m2 m3 m4 m5 m6
  clear hbm hy1 hy2 hy3 hz1 hz2 hz3
  generalize pt p b1 = P1
  generalize pt p b2 = P2
  generalize pt p b3 = P3
  obtain ⟨x1, x2, x3, ⟨⟩⟩ := P1
  obtain ⟨y1, y2, y3, ⟨⟩⟩ := P2
  obtain ⟨z1, z2, z3, ⟨⟩⟩ := P3
  intro l1 ep1 ep2 ep3 eat1 eat2 eat3 m1 m2 m3 m4 m5 m6
  simp only at m1 m2 m3 m4 m5 m6 l1 ⊢
  have l1' := l1 _ rfl
  refine (whileO_go (s' := ((1, [a1, a2, a3, a4], [b1, b2, b3, b4], [0, 0, 0, 0, 0, 0, 0, 0, 0], [r1, r2, r3, r4, r5, r6, r7, r8, r9], [k * y1, 0, 0], [n * z1, 0, 0], ()) : L6)) ?_).trans ?_
  · simp [g53_l2, ilt, gd_true, w1, hz, u1, u2, u3, v1, v2, v3, ep1, ep2, ep3, eat1, eat2, eat3, arrGet, id, m1, m2, m3, m4, m5, m6]
  refine (whileO_go (s' := ((2, [a1, a2, a3, a4], [b1, b2, b3, b4], [0, 0, 0, 0, 0, 0, 0, 0, 0], [r1, r2, r3, r4, r5, r6, r7, r8, r9], [k * y1, k * y2, 0], [n * z1, n * z2, 0], ()) : L6)) ?_).trans ?_
  · simp [g53_l2, ilt, gd_true, w2, hz, u1, u2, u3, v1, v2, v3, ep1, ep2, ep3, eat1, eat2, eat3, arrGet, id, m1, m2, m3, m4, m5, m6]
  refine (whileO_go (s' := ((3, [a1, a2, a3, a4], [b1, b2, b3, b4], [0, 0, 0, 0, 0, 0, 0, 0, 0], [r1, r2, r3, r4, r5, r6, r7, r8, r9], [k * y1, k * y2, k * y3], [n * z1, n * z2, n * z3], ()) : L6)) ?_).trans ?_
  · simp [g53_l2, ilt, gd_true, w3, hz, u1, u2, u3, v1, v2, v3, ep1, ep2, ep3, eat1, eat2, eat3, arrGet, id, m1, m2, m3, m4, m5, m6]
  have hs : g53_l2 p z ((n, [a1, a2, a3, a4], [b1, b2, b3, b4], [0, 0, 0, 0, 0, 0, 0, 0, 0], [r1, r2, r3, r4, r5, r6, r7, r8, r9], ()) : L4)
      ((3, [a1, a2, a3, a4], [b1, b2, b3, b4], [0, 0, 0, 0, 0, 0, 0, 0, 0], [r1, r2, r3, r4, r5, r6, r7, r8, r9], [k * y1, k * y2, k * y3], [n * z1, n * z2, n * z3], ()) : L6) =
      whileO (g53_l1 p ((n, [a1, a2, a3, a4], [b1, b2, b3, b4], [0, 0, 0, 0, 0, 0, 0, 0, 0], [r1, r2, r3, r4, r5, r6, r7, r8, r9], ()) : L4))
      ((0, [a1, a2, a3, a4], [b1, b2, b3, b4], [0, 0, 0, 0, 0, 0, 0, 0, 0], [r1, r2, r3, r4, r5, r6, r7, r8, r9], [x1, k * y1, n * z1, x2, k * y2, n * z2, x3, k * y3, n * z3], [0, 0, 0, 0, 0, 0, 0, 0, 0], ()) : L6) := by
    unfold g53_l2
    refine (cond_f (by simp [ilt])).trans ?_
    simp [gd_true, u1, v1, ep1, eat1, colsF]
  rw [l1'] at hs
  by_cases hc : ieq (nmR p (timR (mulE p ((x1, k * y1, n * z1, ()), (x2, k * y2, n * z2, ()), (x3, k * y3, n * z3, ()), ()) ((r1, r2, r3, ()), (r4, r5, r6, ()), (r7, r8, r9, ()), ())) (pt p a4))) b4 = true
  · exact (whileO_out (hs.trans (if_pos hc))).trans (if_pos hc).symm
  · exact (whileO_out (hs.trans (if_neg hc))).trans (if_neg hc).symm

theorem goal53 : con53.goal Try.prog (spOf [con31, con97, con96, con93, con92, con98m]) g53_sh [] lm30 := by
  have e : (∀ (p : Int) (a b : QuadD), isP p → allIn p a → allIn p b → g53 p a b = some (frmR p a b, ())) = con53.goal Try.prog (spOf [con31, con97, con96, con93, con92, con98m]) g53_sh [] lm30 := by kernel_rfl
  rw [← e]
  rintro p ⟨a1, a2, a3, a4, ⟨⟩⟩ ⟨b1, b2, b3, b4, ⟨⟩⟩ hp ⟨ha1, ha2, ha3, ha4⟩ ⟨hb1, hb2, hb3, hb4⟩
  simp only at ha1 ha2 ha3 ha4 hb1 hb2 hb3 hb4
  have h7 := isP_bd hp
  have hl := pts_len p (isP_mem hp)
  have i1 := inPt_iff.1 ha1
  have i2 := inPt_iff.1 ha2
  have i3 := inPt_iff.1 ha3
  have hC : inM p (colsF (pt p a1) (pt p a2) (pt p a3)) := cols_in (pt_in hp ha1) (pt_in hp ha2) (pt_in hp ha3)
  have hI : inM p (invM p (colsF (pt p a1) (pt p a2) (pt p a3))) := inv_in hp
  unfold g53
  have u1 : a1 < ((ptsC p).length : Int) := by omega
  have u2 : a2 < ((ptsC p).length : Int) := by omega
  have u3 : a3 < ((ptsC p).length : Int) := by omega
  refine (gd_pos hp).trans ((gd_pos (by decide)).trans ((gd_pos ⟨i1.1, u1⟩).trans ((gd_pos (by decide)).trans ((gd_pos ⟨i2.1, u2⟩).trans ((gd_pos (by decide)).trans ((gd_pos ⟨i3.1, u3⟩).trans ((gd_pos hp).trans ((gd_pos hC).trans ((gd_pos (by decide)).trans ?_)))))))))
  simp only [ep53]
  unfold frmR
  have hcand : ∀ k n, candM p (a1, a2, a3, a4, ()) (b1, b2, b3, b4, ()) k n = mulE p (colsF (pt p b1) (sclT k (pt p b2)) (sclT n (pt p b3))) (invM p (colsF (pt p a1) (pt p a2) (pt p a3))) := fun _ _ => rfl
  revert hcand hI
  generalize invM p (colsF (pt p a1) (pt p a2) (pt p a3)) = R
  obtain ⟨⟨r1, r2, r3, ⟨⟩⟩, ⟨r4, r5, r6, ⟨⟩⟩, ⟨r7, r8, r9, ⟨⟩⟩, ⟨⟩⟩ := R
  intro hI hcand
  have l2 := fun k n hk hn z hz => l2_53 (k := k) (n := n) (a1 := a1) (a2 := a2) (a3 := a3) (a4 := a4) (b1 := b1) (b2 := b2) (b3 := b3) (b4 := b4) hp ha4 hb1 hb2 hb3 hk hn hI z hz
  simp only [← hcand] at l2
  have l3 : ∀ k, 1 ≤ k ∧ k < p → ∀ z : L4, z.1 = k → z.2 = ([a1, a2, a3, a4], [b1, b2, b3, b4], [0, 0, 0, 0, 0, 0, 0, 0, 0], [r1, r2, r3, r4, r5, r6, r7, r8, r9], ()) → whileO (g53_l3 p z) ((1, [a1, a2, a3, a4], [b1, b2, b3, b4], [0, 0, 0, 0, 0, 0, 0, 0, 0], [r1, r2, r3, r4, r5, r6, r7, r8, r9], ()) : L4) =
      some (match frmN p (a1, a2, a3, a4, ()) (b1, b2, b3, b4, ()) k (p - 1).toNat 1 with | some m => Lp.out ((m, ()) : MatD × Unit) | none => Lp.go ((k + 1, [a1, a2, a3, a4], [b1, b2, b3, b4], [0, 0, 0, 0, 0, 0, 0, 0, 0], [r1, r2, r3, r4, r5, r6, r7, r8, r9], ()) : L4)) := by
    intro k hk z hz hz2
    refine up_loop (p := p) (fun n => ((n, [a1, a2, a3, a4], [b1, b2, b3, b4], [0, 0, 0, 0, 0, 0, 0, 0, 0], [r1, r2, r3, r4, r5, r6, r7, r8, r9], ()) : L4))
      (fun c n => match frmN p (a1, a2, a3, a4, ()) (b1, b2, b3, b4, ()) k c n with | some m => Lp.out ((m, ()) : MatD × Unit) | none => Lp.go ((k + 1, [a1, a2, a3, a4], [b1, b2, b3, b4], [0, 0, 0, 0, 0, 0, 0, 0, 0], [r1, r2, r3, r4, r5, r6, r7, r8, r9], ()) : L4)) 1 ?_ (fun c n h1 h2 => ?_) (p - 1).toNat 1 (Int.le_refl _) (by omega)
    · have wk : wr .i64 (k + 1) = k + 1 := wr_id (by omega)
      simp [g53_l3, ilt, frmN, hz, wk]
    · have hn : 0 ≤ n ∧ n < p := ⟨by omega, by omega⟩
      have h := l2 k n ⟨by omega, hk.2⟩ hn z hz
      by_cases hc : ieq (nmR p (timR (candM p (a1, a2, a3, a4, ()) (b1, b2, b3, b4, ()) k n) (pt p a4))) b4 = true
      · have hN : frmN p (a1, a2, a3, a4, ()) (b1, b2, b3, b4, ()) k (c + 1) n = some (fstL p (candM p (a1, a2, a3, a4, ()) (b1, b2, b3, b4, ()) k n) (p - 1).toNat 1) := if_pos hc
        rw [hN]
        exact .inl ((cond_t (ilt_iff.2 hn.2)).trans (h.trans (if_pos hc)))
      · have hN : frmN p (a1, a2, a3, a4, ()) (b1, b2, b3, b4, ()) k (c + 1) n = frmN p (a1, a2, a3, a4, ()) (b1, b2, b3, b4, ()) k c (n + 1) := if_neg hc
        rw [hN]
        exact .inr ⟨(cond_t (ilt_iff.2 hn.2)).trans (h.trans (if_neg hc)), rfl⟩
  refine up_loop (p := p) (fun k => ((k, [a1, a2, a3, a4], [b1, b2, b3, b4], [0, 0, 0, 0, 0, 0, 0, 0, 0], [r1, r2, r3, r4, r5, r6, r7, r8, r9], ()) : L4))
      (fun c k => (((frmK p (a1, a2, a3, a4, ()) (b1, b2, b3, b4, ()) c k).getD zM, ()) : MatD × Unit)) 1 ?_ (fun c k h1 h2 => ?_) (p - 1).toNat 1 (Int.le_refl _) (by omega)
  · simp [ilt, gd_true, setMany, frmK, zM]
  · have hk : 1 ≤ k ∧ k < p := ⟨by omega, by omega⟩
    have h := l3 k hk ((k, [a1, a2, a3, a4], [b1, b2, b3, b4], [0, 0, 0, 0, 0, 0, 0, 0, 0], [r1, r2, r3, r4, r5, r6, r7, r8, r9], ()) : L4) rfl rfl
    simp only [frmK]
    cases hf : frmN p (a1, a2, a3, a4, ()) (b1, b2, b3, b4, ()) k (p - 1).toNat 1 with
    | some m =>
      rw [hf] at h
      exact .inl ((cond_t (ilt_iff.2 hk.2)).trans h)
    | none =>
      rw [hf] at h
      exact .inr ⟨(cond_t (ilt_iff.2 hk.2)).trans h, rfl⟩
set_option maxRecDepth 100000 in
theorem ok53 : con53.Ok Try.prog := Con.of_goal mixed (okC ok31 (okC ok97 (okC ok96 (okC ok93 (okC ok92 (okC ok98m okN)))))) con53 goal53
end Go.Arcs

set_option linter.unusedVariables false
set_option linter.unusedSimpArgs false
namespace Go.Arcs
open Go Go.Ab Go.Proofs

theorem ix_tab : ∀ p ∈ ([2, 3, 5, 7] : List Int), ∀ x ∈ ptsC p, ixA (fun q => deq Trip q x) (ptsC p) 0 = numC p x := by decide +kernel

/-- the number of a triple's point -/
theorem nm_num {p : Int} (hp : isP p) {t : TripD} (h0 : ¬ Z3 p t) : nmR p t = numC p (lowF p (modT p t)) ∧ inPt p (nmR p t) = true ∧ Pr p (pt p (nmR p t)) t := by
  have h1 : ¬ (t.1 % p = 0 ∧ t.2.1 % p = 0 ∧ t.2.2.1 % p = 0) := fun h => h0 ⟨Int.dvd_of_emod_eq_zero h.1, Int.dvd_of_emod_eq_zero h.2.1, Int.dvd_of_emod_eq_zero h.2.2⟩
  have hin : inR p (modT p t) := ⟨mod_in hp, mod_in hp, mod_in hp⟩
  obtain ⟨s1, s2, s3⟩ := low_spec hp hin h1
  have e : nmR p t = numC p (lowF p (modT p t)) := by
    unfold nmR unitF
    rw [if_neg h1]
    exact ix_tab p (isP_mem hp) _ s1
  refine ⟨e, by rw [e]; exact s2, ?_⟩
  rw [e, s3]
  obtain ⟨l, mu, hu, hc⟩ := low_cv hp hin h1
  refine ⟨l, unit_nd hp hu, CV.trans hc ?_⟩
  exact ⟨Ce.rfl'.mul Ce.mod, Ce.rfl'.mul Ce.mod, Ce.rfl'.mul Ce.mod⟩

theorem pt_nz {p a : Int} (hp : isP p) (ha : inPt p a = true) : ¬ Z3 p (pt p a) := fun h =>
  (notOb_iff.1 (pts_notO p (isP_mem hp) _ (pt_mem hp ha))) (Z3_zero (pt_in hp ha) h)
theorem map_nz {p : Int} (hp : isP p) {m : MatD} (hd : ¬ p ∣ detM m) {x : TripD} (hx : ¬ Z3 p x) : ¬ Z3 p (mulV m x) := fun h =>
  hx (mulV_inj hp (fun h0 => hd (Int.dvd_of_emod_eq_zero h0)) h)
theorem nm_iff {p : Int} (hp : isP p) {t : TripD} (h0 : ¬ Z3 p t) {b : Int} (hb : inPt p b = true) : nmR p t = b ↔ Pr p t (pt p b) := by
  obtain ⟨_, h2, h3⟩ := nm_num hp h0
  constructor
  · rintro rfl
    exact h3.symm hp
  · intro h
    exact Pr.eqp hp h2 hb (h3.trans hp h)

/-- Apply is the reference's. -/
theorem app_ref {p : Int} (hp : isP p) {m : MatD} (hm : isMapF p m = true) {a : Int} (ha : inPt p a = true) : imgF p m a = nmR p (timR m (pt p a)) := by
  have hd := (det_iff hp).1 (isMap_det hm)
  obtain ⟨h1, h2⟩ := img_Pr hp hm ha
  exact ((nm_iff hp (map_nz hp hd (pt_nz hp ha)) h1).2 (h2.symm hp)).symm

/-! the first multiple -/
theorem scl_in {p k : Int} (hp : isP p) {m : MatD} : inM p (sclM p k m) := ⟨mul_in hp, mul_in hp, mul_in hp⟩
theorem fstM_scl {p k : Int} (hp : isP p) {m : MatD} (hm : inM p m) (hk : ¬ p ∣ k) : fstM (sclM p k m) = fstM m * k % p := by
  have hb := isP_bd hp
  have step {f : Int} {t : TripD} (hf : 0 ≤ f ∧ f < p) (ht : inR p t) : fstR (f * k % p) (mulR p k t) = fstR f t * k % p ∧ 0 ≤ fstR f t ∧ fstR f t < p := by
    have h1 := fstI_rng hf ht.1
    have h2 := fstI_rng h1 ht.2.1
    have h3 := fstI_rng h2 ht.2.2
    refine ⟨?_, h3⟩
    unfold fstR mulR
    simp only
    rw [fst_low hp hk hf ht.1, fst_low hp hk h1 ht.2.1, fst_low hp hk h2 ht.2.2]
  obtain ⟨q1, r1⟩ := step (f := 0) ⟨by omega, by omega⟩ hm.1
  obtain ⟨q2, r2⟩ := step r1 hm.2.1
  obtain ⟨q3, r3⟩ := step r2 hm.2.2
  unfold fstM sclM
  simp only [Int.zero_mul, Int.zero_emod] at q1
  simp only [q1, q2, q3]
theorem scl_CM {p k : Int} {m : MatD} : CM p (sclM p k m) (smulM k m) := by
  have r {x k : Int} : Ce p (x * k % p) (k * x) := by rw [Int.mul_comm]; exact Ce.mod
  exact ⟨⟨r, r, r⟩, ⟨r, r, r⟩, ⟨r, r, r⟩⟩
theorem scl_det {p k : Int} (hp : isP p) (hk : ¬ p ∣ k) {m : MatD} (hd : ¬ p ∣ detM m) : ¬ p ∣ detM (sclM p k m) := by
  refine (detM_cong scl_CM).symm.nd ?_
  rw [det_smul]
  exact nd_mul hp (nd_mul hp (nd_mul hp hk hk) hk) hd
theorem map_fst {p : Int} (hp : isP p) {m : MatD} (hm : inM p m) (hd : ¬ p ∣ detM m) : isMapF p m = true ↔ fstM m = 1 := by
  have h0 := (det_iff hp).2 hd
  simp only [isMapF, Bool.and_eq_true, Bool.not_eq_true', ieq_d, decide_eq_false_iff_not]
  rw [map_iff hp hm h0, ieq_iff]
  exact ⟨fun h => h.2, fun h => ⟨⟨inMb_iff.2 hm, h0⟩, h⟩⟩
theorem fstL_at {p : Int} {m : MatD} : ∀ (c : Nat) (k k0 : Int), k ≤ k0 → k0 < k + c → isMapF p (sclM p k0 m) = true → (∀ j, k ≤ j → j < k0 → isMapF p (sclM p j m) = false) → fstL p m c k = sclM p k0 m
  | 0, k, k0, h1, h2, _, _ => by omega
  | c + 1, k, k0, h1, h2, h3, h4 => by
    unfold fstL
    by_cases e : k = k0
    · subst e; rw [if_pos h3]
    · rw [if_neg (by rw [h4 k (Int.le_refl _) (by omega)]; simp)]
      exact fstL_at c (k + 1) k0 (by omega) (by omega) h3 (fun j hj hj2 => h4 j (by omega) hj2)
/-- two multiples of a matrix that are maps are one -/
theorem fst_lows {p c : Int} (hp : isP p) {m t : MatD} (hm : inM p m) (ht : inM p t) (hd : ¬ p ∣ detM m) (hc : ¬ p ∣ c) (hct : CM p t (smulM c m)) : fstL p m (p - 1).toNat 1 = lowM p t := by
  have h7 := isP_bd hp
  have hdt : ¬ p ∣ detM t := by
    refine (detM_cong hct).symm.nd ?_
    rw [det_smul]
    exact nd_mul hp (nd_mul hp (nd_mul hp hc hc) hc) hd
  have hbt := unit_nd hp (by_unit hp ht hdt)
  have hk : ¬ p ∣ (byM p t * c) % p := fun h => nd_mul hp hbt hc (Int.dvd_of_emod_eq_zero (by rw [← Int.emod_emod_of_dvd _ (Int.dvd_refl p)]; exact Int.emod_eq_zero_of_dvd h))
  have hkr := mod_in (x := byM p t * c) hp
  have hk0 : byM p t * c % p ≠ 0 := fun h => hk (by rw [h]; exact Int.dvd_zero p)
  have hl : lowM p t = sclM p ((byM p t * c) % p) m := by
    have r {x y : Int} (h : Ce p x (c * y)) : x * byM p t % p = y * (byM p t * c % p) % p := by
      obtain ⟨n, hn⟩ := h
      have e := Int.emod_add_mul_ediv (byM p t * c) p
      rw [Int.emod_eq_emod_iff_emod_sub_eq_zero]
      refine Int.emod_eq_zero_of_dvd ⟨n * byM p t + y * (byM p t * c / p), ?_⟩
      have : x = p * n + c * y := by omega
      subst this
      generalize byM p t * c % p = u at *
      generalize byM p t * c / p = v at *
      have : u = byM p t * c - p * v := by omega
      subst this
      grind
    obtain ⟨⟨a1, a2, a3⟩, ⟨b1, b2, b3⟩, c1, c2, c3⟩ := hct
    unfold lowM sclM mulR
    rw [r a1, r a2, r a3, r b1, r b2, r b3, r c1, r c2, r c3]
  rw [hl]
  have hf : fstM (sclM p ((byM p t * c) % p) m) = 1 := by rw [← hl]; exact fstM_low hp ht hdt
  refine fstL_at _ 1 _ (by omega) (by omega) ((map_fst hp (scl_in hp) (scl_det hp hk hd)).2 hf) (fun j hj hj2 => ?_)
  rw [Bool.eq_false_iff]
  intro hmj
  have hjn : ¬ p ∣ j := nd_of ⟨by omega, by omega⟩ (by omega)
  have g := (map_fst hp (scl_in hp) (scl_det hp hjn hd)).1 hmj
  rw [fstM_scl hp hm hjn] at g
  rw [fstM_scl hp hm hk] at hf
  have hfd : p ∣ (byM p t * c % p - j) * fstM m := by
    have e1 := Int.emod_add_mul_ediv (fstM m * j) p
    have e2 := Int.emod_add_mul_ediv (fstM m * (byM p t * c % p)) p
    rw [g] at e1
    rw [hf] at e2
    refine ⟨fstM m * (byM p t * c % p) / p - fstM m * j / p, ?_⟩
    generalize fstM m * (byM p t * c % p) / p = q2 at *
    generalize fstM m * j / p = q1 at *
    generalize byM p t * c % p = u at *
    generalize fstM m = F at *
    clear g hf hl hkr hk hk0
    grind
  have hfm : ¬ p ∣ fstM m := by
    obtain ⟨_, h0, h1⟩ := by_gM hp hm
    exact nd_of ⟨h0, h1⟩ (fun h => hd (fst_dvd hm h))
  have := cancel hp hfm hfd
  have := dvd_zero (x := byM p t * c % p - j) ⟨by omega, by omega⟩ this
  omega
end Go.Arcs

set_option linter.unusedVariables false
set_option linter.unusedSimpArgs false
namespace Go.Arcs
open Go Go.Ab Go.Proofs

theorem mulE_CM {p : Int} {t m t' m' : MatD} (ht : CM p t t') (hm : CM p m m') : CM p (mulE p t m) (mulM t' m') := by
  obtain ⟨⟨a1, a2, a3⟩, ⟨b1, b2, b3⟩, ⟨c1, c2, c3⟩⟩ := ht
  obtain ⟨⟨d1, d2, d3⟩, ⟨e1, e2, e3⟩, ⟨f1, f2, f3⟩⟩ := hm
  exact ⟨⟨Ce.mod.trans (((a1.mul d1).add (a2.mul e1)).add (a3.mul f1)), Ce.mod.trans (((a1.mul d2).add (a2.mul e2)).add (a3.mul f2)), Ce.mod.trans (((a1.mul d3).add (a2.mul e3)).add (a3.mul f3))⟩,
    ⟨Ce.mod.trans (((b1.mul d1).add (b2.mul e1)).add (b3.mul f1)), Ce.mod.trans (((b1.mul d2).add (b2.mul e2)).add (b3.mul f2)), Ce.mod.trans (((b1.mul d3).add (b2.mul e3)).add (b3.mul f3))⟩,
    ⟨Ce.mod.trans (((c1.mul d1).add (c2.mul e1)).add (c3.mul f1)), Ce.mod.trans (((c1.mul d2).add (c2.mul e2)).add (c3.mul f2)), Ce.mod.trans (((c1.mul d3).add (c2.mul e3)).add (c3.mul f3))⟩⟩

theorem CV.refl' {p : Int} (x : TripD) : CV p x x := ⟨Ce.rfl', Ce.rfl', Ce.rfl'⟩
/-- what a frame gives: the multiples of the first three that sum to the fourth -/
theorem fr_by {p : Int} (hp : isP p) {l : QuadD} (hf : isFrF p l = true) :
    ∃ x y z : Int, byV p l = (x, y, z, ()) ∧ ¬ p ∣ x ∧ ¬ p ∣ y ∧ ¬ p ∣ z ∧ ¬ p ∣ detM (colsF (pt p l.1) (pt p l.2.1) (pt p l.2.2.1)) ∧
      CM p (stdF p l) (colsF (smul x (pt p l.1)) (smul y (pt p l.2.1)) (smul z (pt p l.2.2.1))) ∧
      CV p (byV p l) (mulV (adjM (colsF (pt p l.1) (pt p l.2.1) (pt p l.2.2.1))) (pt p l.2.2.2.1)) := by
  simp only [isFrF, Bool.and_eq_true, Bool.not_eq_true'] at hf
  obtain ⟨⟨⟨f1, f2⟩, f3⟩, f4⟩ := hf
  have d1 := col_ne hp f1
  have d2 := col_ne hp f2
  have d3 := col_ne hp f3
  have d4 := col_ne hp f4
  have hv := byV_CV (p := p) (l := l)
  have hS : CM p (stdF p l) (colsF (smul (byV p l).1 (pt p l.1)) (smul (byV p l).2.1 (pt p l.2.1)) (smul (byV p l).2.2.1 (pt p l.2.2.1))) := by
    have r {x k : Int} : Ce p (x * k % p) (k * x) := by rw [Int.mul_comm]; exact Ce.mod
    exact ⟨⟨r, r, r⟩, ⟨r, r, r⟩, ⟨r, r, r⟩⟩
  have hw : CV p (byV p l) (mulV (adjM (colsF (pt p l.1) (pt p l.2.1) (pt p l.2.2.1))) (pt p l.2.2.2.1)) := by
    unfold byV
    refine CV.trans (y := mulV (invM p (colsF (pt p l.1) (pt p l.2.1) (pt p l.2.2.1))) (pt p l.2.2.2.1)) ⟨Ce.mod, Ce.mod, Ce.mod⟩ ?_
    exact mulV_cong inv_CM ⟨Ce.rfl', Ce.rfl', Ce.rfl'⟩
  obtain ⟨v1, v2, v3⟩ := hv
  simp only at v1 v2 v3
  have e2 : trip (pt p l.1) (pt p l.2.2.2.1) (pt p l.2.2.1) = - trip (pt p l.1) (pt p l.2.2.1) (pt p l.2.2.2.1) := by rw [← trip_rot, trip_swap, trip_rot]
  refine ⟨(byV p l).1, (byV p l).2.1, (byV p l).2.2.1, rfl, ?_, ?_, ?_, d1, hS, hw⟩
  · exact v1.symm.nd (by rw [← trip_rot]; exact d4)
  · exact v2.symm.nd (by rw [e2, Int.dvd_neg]; exact d3)
  · exact v3.symm.nd d2

theorem adj_cols (x y z : Int) (A B C : TripD) : adjM (colsF (smul x A) (smul y B) (smul z C)) = (smul (y * z) (adjM (colsF A B C)).1, smul (x * z) (adjM (colsF A B C)).2.1, smul (x * y) (adjM (colsF A B C)).2.2.1, ()) := by
  obtain ⟨a1, a2, a3, ⟨⟩⟩ := A
  obtain ⟨b1, b2, b3, ⟨⟩⟩ := B
  obtain ⟨c1, c2, c3, ⟨⟩⟩ := C
  simp only [adjM, cro, colsF, colF, smul, reduceIte, Int.reduceEq, Prod.mk.injEq, and_true, true_and]
  refine ⟨⟨?_, ?_, ?_⟩, ⟨?_, ?_, ?_⟩, ?_, ?_, ?_⟩ <;> grind
theorem adj_CM {p : Int} {m n : MatD} (h : CM p m n) : CM p (adjM m) (adjM n) := by
  obtain ⟨⟨a1, a2, a3⟩, ⟨b1, b2, b3⟩, ⟨c1, c2, c3⟩⟩ := h
  exact ⟨⟨(b2.mul c3).sub (c2.mul b3), (c2.mul a3).sub (a2.mul c3), (a2.mul b3).sub (b2.mul a3)⟩, ⟨(b3.mul c1).sub (c3.mul b1), (c3.mul a1).sub (a3.mul c1), (a3.mul b1).sub (b3.mul a1)⟩, (b1.mul c2).sub (c1.mul b2), (c1.mul a2).sub (a1.mul c2), (a1.mul b2).sub (b1.mul a2)⟩

def comb (B : TripD) (C : TripD) (D : TripD) (k n : Int) : MatD := colsF B (smul k C) (smul n D)
theorem cand_CM {p k n : Int} (hp : isP p) {a b : QuadD} : CM p (candM p a b k n) (mulM (comb (pt p b.1) (pt p b.2.1) (pt p b.2.2.1) k n) (adjM (colsF (pt p a.1) (pt p a.2.1) (pt p a.2.2.1)))) :=
  mulE_CM CM.refl inv_CM
/-- the product of the two matrices of frames is a multiple of the right candidate -/
theorem cand_mul {p k n x y z u v w : Int} {A : MatD} {B C D : TripD} (hk : p ∣ k * (u * y) - v * x) (hn : p ∣ n * (u * z) - w * x) :
    CM p (mulM (colsF (smul u B) (smul v C) (smul w D)) (smul (y * z) A.1, smul (x * z) A.2.1, smul (x * y) A.2.2.1, ())) (smulM (u * (y * z)) (mulM (comb B C D k n) A)) := by
  obtain ⟨q, hq⟩ := hk
  obtain ⟨r, hr⟩ := hn
  obtain ⟨⟨a1, a2, a3, ⟨⟩⟩, ⟨b1, b2, b3, ⟨⟩⟩, ⟨c1, c2, c3, ⟨⟩⟩, ⟨⟩⟩ := A
  obtain ⟨x1, x2, x3, ⟨⟩⟩ := B
  obtain ⟨y1, y2, y3, ⟨⟩⟩ := C
  obtain ⟨z1, z2, z3, ⟨⟩⟩ := D
  have key : ∀ (X Y Z a b c : Int), p ∣ (u * X * (y * z * a) + v * Y * (x * z * b) + w * Z * (x * y * c)) - u * (y * z) * (X * a + k * Y * b + n * Z * c) := by
    intro X Y Z a b c
    exact ⟨-(q * z * Y * b + r * y * Z * c), by grind⟩
  exact ⟨⟨key _ _ _ _ _ _, key _ _ _ _ _ _, key _ _ _ _ _ _⟩, ⟨key _ _ _ _ _ _, key _ _ _ _ _ _, key _ _ _ _ _ _⟩, key _ _ _ _ _ _, key _ _ _ _ _ _, key _ _ _ _ _ _⟩

theorem comb_mul (B C D : TripD) (k n : Int) (v : TripD) : mulV (comb B C D k n) v = mulV (colsF B C D) (v.1, k * v.2.1, n * v.2.2.1, ()) := by
  simp only [mulV, comb, colsF, smul, Prod.mk.injEq, and_true]
  refine ⟨?_, ?_, ?_⟩ <;> grind

/-- which candidate is right -/
theorem cand_iff {p k n : Int} (hp : isP p) {a b : QuadD} (ha : isFrF p a = true) (hb : isFrF p b = true) (ia : allIn p a) (ib : allIn p b) (hk : ¬ p ∣ k) (hn : ¬ p ∣ n) :
    candQ p a b k n = true ↔ (p ∣ k * ((byV p b).1 * (byV p a).2.1) - (byV p b).2.1 * (byV p a).1) ∧ p ∣ n * ((byV p b).1 * (byV p a).2.2.1) - (byV p b).2.2.1 * (byV p a).1 := by
  obtain ⟨x, y, z, ea, nx, ny, nz, dA, _, wa⟩ := fr_by hp ha
  obtain ⟨u, v, w, eb, nu, nv, nw, dB, _, wb⟩ := fr_by hp hb
  rw [ea] at wa
  rw [eb] at wb
  rw [ea, eb]
  simp only
  have hC := cand_CM (k := k) (n := n) hp (a := a) (b := b)
  have dC : ¬ p ∣ detM (candM p a b k n) := by
    refine (detM_cong hC).symm.nd ?_
    rw [det_mul, det_adj]
    refine nd_mul hp ?_ (nd_mul hp dA dA)
    have : detM (comb (pt p b.1) (pt p b.2.1) (pt p b.2.2.1) k n) = k * n * detM (colsF (pt p b.1) (pt p b.2.1) (pt p b.2.2.1)) := by
      simp only [comb, detM, colsF, smul]; grind
    rw [this]
    exact nd_mul hp (nd_mul hp hk hn) dB
  have hz := map_nz hp dC (pt_nz hp ia.2.2.2)
  unfold candQ
  rw [ieq_iff]
  refine (nm_iff hp (t := mulV (candM p a b k n) (pt p a.2.2.2.1)) hz ib.2.2.2).trans ?_
  -- both sides through the matrix of b's first three
  have h1 : CV p (mulV (candM p a b k n) (pt p a.2.2.2.1)) (mulV (colsF (pt p b.1) (pt p b.2.1) (pt p b.2.2.1)) (x, k * y, n * z, ())) := by
    refine (mulV_cong hC (CV.refl' _)).trans ?_
    rw [mul_mul, comb_mul]
    obtain ⟨w1, w2, w3⟩ := wa
    exact mulV_cong CM.refl ⟨w1.symm, Ce.rfl'.mul w2.symm, Ce.rfl'.mul w3.symm⟩
  have h2 : Pr p (mulV (colsF (pt p b.1) (pt p b.2.1) (pt p b.2.2.1)) (u, v, w, ())) (pt p b.2.2.2.1) := by
    refine ⟨_, dB, (mulV_cong CM.refl wb).trans ?_⟩
    rw [mul_adj]
    exact CV.refl' _
  have h3 : Pr p (mulV (candM p a b k n) (pt p a.2.2.2.1)) (pt p b.2.2.2.1) ↔ Pr p (x, k * y, n * z, ()) (u, v, w, ()) := by
    constructor
    · intro h
      have g := ((Pr.of hp h1.symm).trans hp h).trans hp (h2.symm hp)
      have g := g.map (adjM (colsF (pt p b.1) (pt p b.2.1) (pt p b.2.2.1)))
      rw [adj_mul, adj_mul] at g
      exact ((Pr.smul dB).symm hp).trans hp (g.trans hp (Pr.smul dB))
    · intro h
      exact ((Pr.of hp h1).trans hp (h.map _)).trans hp h2
  refine h3.trans ?_
  constructor
  · rintro ⟨c, hc, ⟨q1, g1⟩, ⟨q2, g2⟩, ⟨q3, g3⟩⟩
    simp only [smul] at g1 g2 g3
    exact ⟨⟨u * q2 - v * q1, by grind⟩, ⟨u * q3 - w * q1, by grind⟩⟩
  · rintro ⟨⟨q1, g1⟩, ⟨q2, g2⟩⟩
    obtain ⟨s, r, hs⟩ := unit_ex hp nu
    refine ⟨x * s, nd_mul hp nx (unit_nd hp ⟨r, hs⟩), ⟨-(x * r), ?_⟩, ⟨q1 * s - k * y * r, ?_⟩, ⟨q2 * s - n * z * r, ?_⟩⟩ <;> simp only [smul] <;> grind

theorem frmN_find {p k : Int} {a b : QuadD} : ∀ (c : Nat) (n n0 : Int), n ≤ n0 → n0 < n + c → candQ p a b k n0 = true → ∃ n1, n ≤ n1 ∧ n1 < n + c ∧ candQ p a b k n1 = true ∧ frmN p a b k c n = some (fstL p (candM p a b k n1) (p - 1).toNat 1)
  | 0, n, n0, h1, h2, _ => by omega
  | c + 1, n, n0, h1, h2, h3 => by
    unfold frmN
    by_cases hq : candQ p a b k n = true
    · exact ⟨n, Int.le_refl _, by omega, hq, by rw [if_pos hq]⟩
    · rw [if_neg hq]
      have : n ≠ n0 := fun e => hq (e ▸ h3)
      obtain ⟨n1, g1, g2, g3, g4⟩ := frmN_find c (n + 1) n0 (by omega) (by omega) h3
      exact ⟨n1, by omega, by omega, g3, g4⟩
theorem frmN_some {p k : Int} {a b : QuadD} {m : MatD} : ∀ (c : Nat) (n : Int), frmN p a b k c n = some m → ∃ n1, n ≤ n1 ∧ n1 < n + c ∧ candQ p a b k n1 = true ∧ m = fstL p (candM p a b k n1) (p - 1).toNat 1
  | 0, n, h => by simp [frmN] at h
  | c + 1, n, h => by
    unfold frmN at h
    by_cases hq : candQ p a b k n = true
    · rw [if_pos hq] at h
      exact ⟨n, Int.le_refl _, by omega, hq, by injection h with h; exact h.symm⟩
    · rw [if_neg hq] at h
      obtain ⟨n1, g1, g2, g3, g4⟩ := frmN_some c (n + 1) h
      exact ⟨n1, by omega, by omega, g3, g4⟩
theorem frmK_find {p : Int} {a b : QuadD} : ∀ (c : Nat) (k k0 n0 : Int), k ≤ k0 → k0 < k + c → 1 ≤ n0 → n0 < p → candQ p a b k0 n0 = true →
    ∃ k1 n1, (k ≤ k1 ∧ k1 < k + c) ∧ (1 ≤ n1 ∧ n1 < p) ∧ candQ p a b k1 n1 = true ∧ frmK p a b c k = some (fstL p (candM p a b k1 n1) (p - 1).toNat 1)
  | 0, k, k0, n0, h1, h2, _, _, _ => by omega
  | c + 1, k, k0, n0, h1, h2, h3, h4, h5 => by
    unfold frmK
    cases hq : frmN p a b k (p - 1).toNat 1 with
    | some m =>
      obtain ⟨n1, g1, g2, g3, g4⟩ := frmN_some _ _ hq
      exact ⟨k, n1, ⟨Int.le_refl _, by omega⟩, ⟨g1, by omega⟩, g3, by simp only [g4]⟩
    | none =>
      by_cases e : k = k0
      · subst e
        obtain ⟨n1, _, _, _, g4⟩ := frmN_find (p - 1).toNat 1 n0 h3 (by omega) h5
        rw [hq] at g4
        cases g4
      · obtain ⟨k1, n1, g1, g2, g3, g4⟩ := frmK_find c (k + 1) k0 n0 (by omega) (by omega) h3 h4 h5
        exact ⟨k1, n1, ⟨by omega, by omega⟩, g2, g3, g4⟩

/-- The reference's map of a frame is the program's. -/
theorem frm_eq {p : Int} (hp : isP p) {a b : QuadD} (ha : isFrF p a = true) (hb : isFrF p b = true) (ia : allIn p a) (ib : allIn p b) : frmR p a b = frM p a b := by
  have h7 := isP_bd hp
  obtain ⟨x, y, z, ea, nx, ny, nz, dA, sA, wa⟩ := fr_by hp ha
  obtain ⟨u, v, w, eb, nu, nv, nw, dB, sB, wb⟩ := fr_by hp hb
  -- the right candidate
  have ex {c d : Int} (hc : ¬ p ∣ c) (hd : ¬ p ∣ d) : ∃ k, 1 ≤ k ∧ k < p ∧ p ∣ k * c - d := by
    obtain ⟨s, r, hs⟩ := unit_ex hp hc
    have hds : ¬ p ∣ d * s := nd_mul hp hd (unit_nd hp ⟨r, hs⟩)
    have hr := mod_in (x := d * s) hp
    have h0 : d * s % p ≠ 0 := fun h => hds (Int.dvd_of_emod_eq_zero h)
    have e := Int.emod_add_mul_ediv (d * s) p
    refine ⟨d * s % p, by omega, hr.2, ⟨d * r - d * s / p * c, ?_⟩⟩
    have : d * s % p = d * s - p * (d * s / p) := by omega
    rw [this]
    generalize d * s / p = q
    grind
  obtain ⟨k0, hk1, hk2, hk3⟩ := ex (nd_mul hp nu ny) (nd_mul hp nv nx)
  obtain ⟨n0, hn1, hn2, hn3⟩ := ex (nd_mul hp nu nz) (nd_mul hp nw nx)
  have nd1 {k : Int} (h1 : 1 ≤ k) (h2 : k < p) : ¬ p ∣ k := nd_of ⟨by omega, h2⟩ (by omega)
  have hq := (cand_iff hp ha hb ia ib (nd1 hk1 hk2) (nd1 hn1 hn2)).2 (by rw [ea, eb]; exact ⟨hk3, hn3⟩)
  obtain ⟨k, n, ⟨g1, g2⟩, ⟨g3, g4⟩, g5, g6⟩ := frmK_find (p - 1).toNat 1 k0 n0 hk1 (by omega) hn1 hn2 hq
  have hk := nd1 g1 (by omega)
  have hn := nd1 g3 g4
  obtain ⟨r1, r2⟩ := (cand_iff hp ha hb ia ib hk hn).1 g5
  rw [ea, eb] at r1 r2
  simp only at r1 r2
  unfold frmR
  rw [g6]
  have hT : CM p (timesF p (stdF p b) (invM p (stdF p a))) (smulM (u * (y * z)) (mulM (comb (pt p b.1) (pt p b.2.1) (pt p b.2.2.1) k n) (adjM (colsF (pt p a.1) (pt p a.2.1) (pt p a.2.2.1))))) := by
    refine (times_CM sB (inv_CM.trans (adj_CM sA))).trans ?_
    rw [adj_cols]
    exact cand_mul r1 r2
  have hC := cand_CM (k := k) (n := n) hp (a := a) (b := b)
  have dC : ¬ p ∣ detM (candM p a b k n) := by
    refine (detM_cong hC).symm.nd ?_
    rw [det_mul, det_adj]
    refine nd_mul hp ?_ (nd_mul hp dA dA)
    have : detM (comb (pt p b.1) (pt p b.2.1) (pt p b.2.2.1) k n) = k * n * detM (colsF (pt p b.1) (pt p b.2.1) (pt p b.2.2.1)) := by
      simp only [comb, detM, colsF, smul]; grind
    rw [this]
    exact nd_mul hp (nd_mul hp hk hn) dB
  have hC' : CM p (smulM (u * (y * z)) (mulM (comb (pt p b.1) (pt p b.2.1) (pt p b.2.2.1) k n) (adjM (colsF (pt p a.1) (pt p a.2.1) (pt p a.2.2.1))))) (smulM (u * (y * z)) (candM p a b k n)) := by
    obtain ⟨⟨a1, a2, a3⟩, ⟨b1, b2, b3⟩, c1, c2, c3⟩ := hC
    exact ⟨⟨Ce.rfl'.mul a1.symm, Ce.rfl'.mul a2.symm, Ce.rfl'.mul a3.symm⟩, ⟨Ce.rfl'.mul b1.symm, Ce.rfl'.mul b2.symm, Ce.rfl'.mul b3.symm⟩, Ce.rfl'.mul c1.symm, Ce.rfl'.mul c2.symm, Ce.rfl'.mul c3.symm⟩
  exact fst_lows hp (mulE_in hp) (app_inM hp) dC (nd_mul hp nu (nd_mul hp ny nz)) (hT.trans hC')
end Go.Arcs

set_option linter.unusedVariables false
set_option linter.unusedSimpArgs false
namespace Go.Arcs
open Go Go.Ab Go.Proofs

theorem deqM_iff {x y : MatD} : deq Mat x y = true ↔ x = y := deq_iff (t := Mat) rfl

theorem goal11 : con11.goal Try.prog (spOf [con45, con48, con25, con49, con50, con51, con21, con22, con52, con53]) g11_sh [] lm30 := by
  have e : (∀ (p : Int) (m : MatD) (x : Int) (a b : QuadD), g11 p m x a b = some (true, ())) = con11.goal Try.prog (spOf [con45, con48, con25, con49, con50, con51, con21, con22, con52, con53]) g11_sh [] lm30 := by kernel_rfl
  rw [← e]
  intro p m q a b
  have hPi : isPb p = true → isP p := isPb_iff.1
  have hsa : small [a.1, a.2.1, a.2.2.1, a.2.2.2.1] := by simp [small]
  have hsb : small [b.1, b.2.1, b.2.2.1, b.2.2.2.1] := by simp [small]
  -- the answers of Apply
  have hA : (isPb p = true ∧ isMapF p m = true ∧ inPt p q = true ∧ inM p m ∧ g11_c0 p m q = g11_c4 p m q ∧ g11_c1 p m q = 0) ∨ ((bif bif isPb p then g11_c3 p m else false then inPt p q else false) = false ∧ g11_c0 p m q = 0 ∧ g11_c1 p m q = 2) := by
    by_cases h : isPb p = true ∧ isMapF p m = true ∧ inPt p q = true
    · obtain ⟨h1, h2, h3⟩ := h
      have hx : applyX p m q = (imgF p m q, 0, ()) := by rw [applyX, if_pos ⟨h1, h3, h2⟩]; rfl
      have hi : inM p m := by
        have := h2
        simp only [isMapF, Bool.and_eq_true] at this
        exact inMb_iff.1 this.1.1
      refine .inl ⟨h1, h2, h3, hi, ?_, ?_⟩
      · show (applyX p m q).1 = nmR p (timR m (pt p q))
        rw [hx]; exact app_ref (hPi h1) h2 h3
      · show (applyX p m q).2.1 = 0
        rw [hx]
    · have hx : applyX p m q = (0, 2, ()) := by rw [applyX, if_neg (fun g => h ⟨g.1, g.2.2, g.2.1⟩)]
      refine .inr ⟨?_, ?_, ?_⟩
      · rw [Bool.eq_false_iff]
        intro g
        apply h
        have : (bif bif isPb p then isMapF p m else false then inPt p q else false) = true := g
        revert this
        cases isPb p <;> cases isMapF p m <;> cases inPt p q <;> simp
      · show (applyX p m q).1 = 0
        rw [hx]
      · show (applyX p m q).2.1 = 2
        rw [hx]
  -- the answers of Frame
  have hF : (g11_c5 p a b = true ∧ g11_c6 p a b = true ∧ g11_c2 p a b = 2) ∨ (g11_c5 p a b = false ∧ isPb p = true ∧ allIn p a ∧ allIn p b ∧
      ((g11_c7 p a b = true ∧ g11_c6 p a b = true ∧ g11_c2 p a b = 5) ∨ (g11_c7 p a b = false ∧ g11_c8 p a b = true ∧ g11_c2 p a b = 0))) := by
    by_cases h : isPb p = true ∧ allInb p a = true ∧ allInb p b = true
    · obtain ⟨h1, h2, h3⟩ := h
      have hp := hPi h1
      have ia := allInb_iff.1 h2
      have ib := allInb_iff.1 h3
      refine .inr ⟨?_, h1, ia, ib, ?_⟩
      · have ea : (isPb p && List.all [a.1, a.2.1, a.2.2.1, a.2.2.2.1] (inPt p)) = true := by simp [h1, show inPt p a.1 = true from ia.1, show inPt p a.2.1 = true from ia.2.1, show inPt p a.2.2.1 = true from ia.2.2.1, show inPt p a.2.2.2.1 = true from ia.2.2.2]
        have eb : (isPb p && List.all [b.1, b.2.1, b.2.2.1, b.2.2.2.1] (inPt p)) = true := by simp [h1, show inPt p b.1 = true from ib.1, show inPt p b.2.1 = true from ib.2.1, show inPt p b.2.2.1 = true from ib.2.2.1, show inPt p b.2.2.2.1 = true from ib.2.2.2]
        unfold g11_c5
        rw [ea, eb]
        rfl
      · have e7 : g11_c7 p a b = (bif !isFrF p a then true else !isFrF p b) := by
          rw [← frame_eq hp ia, ← frame_eq hp ib]; rfl
        by_cases hf : isFrF p a = true ∧ isFrF p b = true
        · have hx : frameX p a b = (frM p a b, 0, ()) := by rw [frameX, if_pos ⟨h1, h2, h3⟩, if_pos hf]; rfl
          refine .inr ⟨by rw [e7, hf.1, hf.2]; rfl, ?_, ?_⟩
          · refine deqM_iff.2 ?_
            show (frameX p a b).1 = frmR p a b
            rw [hx, frm_eq hp hf.1 hf.2 ia ib]
          · show (frameX p a b).2.1 = 0
            rw [hx]
        · have hx : frameX p a b = (zM, 5, ()) := by rw [frameX, if_pos ⟨h1, h2, h3⟩, if_neg hf]
          refine .inl ⟨?_, ?_, ?_⟩
          · rw [e7]
            revert hf
            cases isFrF p a <;> cases isFrF p b <;> simp
          · refine deqM_iff.2 ?_
            show (frameX p a b).1 = zM
            rw [hx]
          · show (frameX p a b).2.1 = 5
            rw [hx]
    · have hx : frameX p a b = (zM, 2, ()) := by rw [frameX, if_neg h]
      refine .inl ⟨?_, ?_, ?_⟩
      · unfold g11_c5
        cases ha : (isPb p && List.all [a.1, a.2.1, a.2.2.1, a.2.2.2.1] (inPt p)) with
        | false => rfl
        | true =>
          cases hb : (isPb p && List.all [b.1, b.2.1, b.2.2.1, b.2.2.2.1] (inPt p)) with
          | false => rfl
          | true =>
            exfalso
            apply h
            simp only [List.all_cons, List.all_nil, Bool.and_true, Bool.and_eq_true] at ha hb
            exact ⟨ha.1, by simp only [allInb, Bool.and_eq_true, and_assoc]; exact ha.2, by simp only [allInb, Bool.and_eq_true, and_assoc]; exact hb.2⟩
      · refine deqM_iff.2 ?_
        show (frameX p a b).1 = zM
        rw [hx]
      · show (frameX p a b).2.1 = 2
        rw [hx]
  have i0 : ieq 0 0 = true := rfl
  have i2 : ieq 2 2 = true := rfl
  have i5 : ieq 5 5 = true := rfl
  have ir : ∀ x : Int, ieq x x = true := fun x => ieq_iff.2 rfl
  have hc3 : g11_c3 p m = isMapF p m := rfl
  have c5n : g11_c5 p a b = false → isPb p = true ∧ allIn p a ∧ allIn p b := fun h => by
    rcases hF with ⟨h5, _⟩ | ⟨_, h1, h2, h3, _⟩
    · rw [h5] at h; cases h
    · exact ⟨h1, h2, h3⟩
  unfold g11
  rcases hA with ⟨h1, h2, h3, h4, h5, h6⟩ | ⟨hn, h5, h6⟩
  · have hp := hPi h1
    have h4 : inM p m := h4
    obtain ⟨⟨⟨q1, q2⟩, ⟨q3, q4⟩, q5, q6⟩, ⟨⟨q7, q8⟩, ⟨q9, q10⟩, q11, q12⟩, ⟨q13, q14⟩, ⟨q15, q16⟩, q17, q18⟩ := h4
    rcases hF with ⟨k1, k2, k3⟩ | ⟨k1, _, ia, ib, ⟨k2, k3, k4⟩ | ⟨k2, k3, k4⟩⟩
    · simp [gd_true, h1, hc3, h2, h3, h5, h6, k1, k2, k3, ir, hp, hsa, hsb, q1, q2, q3, q4, q5, q6, q7, q8, q9, q10, q11, q12, q13, q14, q15, q16, q17, q18]
    · simp [gd_true, h1, hc3, h2, h3, h5, h6, k1, k2, k3, k4, ir, hp, hsa, hsb, q1, q2, q3, q4, q5, q6, q7, q8, q9, q10, q11, q12, q13, q14, q15, q16, q17, q18, show allIn p (a.1, a.2.1, a.2.2.1, a.2.2.2.1, ()) from ia, show allIn p (b.1, b.2.1, b.2.2.1, b.2.2.2.1, ()) from ib]
    · simp [gd_true, h1, hc3, h2, h3, h5, h6, k1, k2, k3, k4, ir, hp, hsa, hsb, q1, q2, q3, q4, q5, q6, q7, q8, q9, q10, q11, q12, q13, q14, q15, q16, q17, q18, show allIn p (a.1, a.2.1, a.2.2.1, a.2.2.2.1, ()) from ia, show allIn p (b.1, b.2.1, b.2.2.1, b.2.2.2.1, ()) from ib]
  · rw [gd_pos (Nat.le_refl _), gd_pos (Nat.le_refl _), gd_pos (Nat.le_refl _), gd_pos (Nat.le_refl _), gd_pos (fun _ => Nat.le_refl _), gd_pos (fun h => ⟨h, h, hPi h⟩), gd_pos id, gd_pos (fun h => ⟨h, h, hPi (by revert h; cases isPb p <;> simp)⟩), gd_pos id]
    refine (cond_f hn).trans ?_
    rcases hF with ⟨k1, k2, k3⟩ | ⟨k1, h1, ia, ib, ⟨k2, k3, k4⟩ | ⟨k2, k3, k4⟩⟩
    · simp [gd_true, h5, h6, k1, k2, k3, ir, hsa, hsb]
    · have hp := hPi h1
      simp [gd_true, h5, h6, k1, k2, k3, k4, ir, hp, hsa, hsb, show allIn p (a.1, a.2.1, a.2.2.1, a.2.2.2.1, ()) from ia, show allIn p (b.1, b.2.1, b.2.2.1, b.2.2.2.1, ()) from ib]
    · have hp := hPi h1
      simp [gd_true, h5, h6, k1, k2, k3, k4, ir, hp, hsa, hsb, show allIn p (a.1, a.2.1, a.2.2.1, a.2.2.2.1, ()) from ia, show allIn p (b.1, b.2.1, b.2.2.1, b.2.2.2.1, ()) from ib]
set_option maxRecDepth 100000 in
theorem ok11 : con11.Ok Try.prog := Con.of_goal mixed (okC ok45 (okC ok48 (okC ok25 (okC ok49 (okC ok50 (okC ok51 (okC ok21 (okC ok22 (okC ok52 (okC ok53 okN)))))))))) con11 goal11
end Go.Arcs
