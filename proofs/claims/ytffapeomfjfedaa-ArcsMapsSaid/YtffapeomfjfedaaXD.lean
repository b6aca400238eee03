/- Maps of the plane: contracts. -/
import Derived.Test.YtffapeomfjfedaaXC
set_option linter.unusedVariables false
set_option linter.unusedSimpArgs false
namespace Go.Arcs
open Go Go.Ab Go.Proofs

abbrev Mat : Ty := .prod Trip (.prod Trip (.prod Trip .unit))
abbrev MatD := TripD × TripD × TripD × Unit
def colF (m : MatD) (j : Int) : TripD := if j = 0 then (m.1.1, m.2.1.1, m.2.2.1.1, ()) else if j = 1 then (m.1.2.1, m.2.1.2.1, m.2.2.1.2.1, ()) else (m.1.2.2.1, m.2.1.2.2.1, m.2.2.1.2.2.1, ())
noncomputable def con119 : Con := mkC 119 [.d Mat, .d I64] [Trip] (fun (m : MatD) (j : Int) => [0 ≤ j ∧ j < 3]) (fun (m : MatD) (j : Int) => (colF m j, ()))
noncomputable def g119 (x0 : (Int × Int × Int × Unit) × (Int × Int × Int × Unit) × (Int × Int × Int × Unit) × Unit) (x1 : Int) : Option ((Int × Int × Int × Unit) × Unit) := gd ((0 : Int) ≤ x1 ∧ x1 < (3 : Int)) (gd ((0 : Nat) + Int.toNat x1 * (1 : Nat) < (9 : Nat)) (gd ((0 : Int) ≤ x1 ∧ x1 < (3 : Int)) (gd ((3 : Nat) + Int.toNat x1 * (1 : Nat) < (9 : Nat)) (gd ((0 : Int) ≤ x1 ∧ x1 < (3 : Int)) (gd ((6 : Nat) + Int.toNat x1 * (1 : Nat) < (9 : Nat)) (gd ((3 : Nat) ≤ (3 : Nat)) (gd ((3 : Nat) ≤ (3 : Nat)) (some ((((List.getD (x0.1.1 :: x0.1.2.1 :: x0.1.2.2.1 :: x0.2.1.1 :: x0.2.1.2.1 :: x0.2.1.2.2.1 :: x0.2.2.1.1 :: x0.2.2.1.2.1 :: x0.2.2.1.2.2.1 :: ([] : List Int)) ((0 : Nat) + Int.toNat x1 * (1 : Nat)) (0 : Int), List.getD (x0.1.1 :: x0.1.2.1 :: x0.1.2.2.1 :: x0.2.1.1 :: x0.2.1.2.1 :: x0.2.1.2.2.1 :: x0.2.2.1.1 :: x0.2.2.1.2.1 :: x0.2.2.1.2.2.1 :: ([] : List Int)) ((3 : Nat) + Int.toNat x1 * (1 : Nat)) (0 : Int), List.getD (x0.1.1 :: x0.1.2.1 :: x0.1.2.2.1 :: x0.2.1.1 :: x0.2.1.2.1 :: x0.2.1.2.2.1 :: x0.2.2.1.1 :: x0.2.2.1.2.1 :: x0.2.2.1.2.2.1 :: ([] : List Int)) ((6 : Nat) + Int.toNat x1 * (1 : Nat)) (0 : Int), ()) : Int × Int × Int × Unit), ()) : (Int × Int × Int × Unit) × Unit)))))))))
noncomputable def g119_sh : List LSh := ([] : List LSh)
def inM (p : Int) (m : MatD) : Prop := inR p m.1 ∧ inR p m.2.1 ∧ inR p m.2.2.1
def detF (p : Int) (m : MatD) : Int := dotC p (crossF p (colF m 0) (colF m 1)) (colF m 2)
noncomputable def con116 : Con := mkC 116 [.d (.ptr Plane), .d Mat] [I64] (fun (k : PlaneD) (m : MatD) => [isP k.1, inM k.1 m]) (fun (k : PlaneD) (m : MatD) => (detF k.1 m, ()))
noncomputable def g116 (x0 : Int × List (Int × Int × Int × Unit) × List ((Int × Int × Int × Unit) × Int) × Unit) (x1 : (Int × Int × Int × Unit) × (Int × Int × Int × Unit) × (Int × Int × Int × Unit) × Unit) : Option (Int × Unit) := gd ((9 : Nat) ≤ (9 : Nat)) (gd ((0 : Int) ≤ (0 : Int) ∧ (0 : Int) < (3 : Int)) (gd ((9 : Nat) ≤ (9 : Nat)) (gd ((0 : Int) ≤ (1 : Int) ∧ (1 : Int) < (3 : Int)) (gd (isP x0.1) (gd (inR x0.1 (colF ((((x1.1.1, x1.1.2.1, x1.1.2.2.1, ()) : Int × Int × Int × Unit), ((x1.2.1.1, x1.2.1.2.1, x1.2.1.2.2.1, ()) : Int × Int × Int × Unit), ((x1.2.2.1.1, x1.2.2.1.2.1, x1.2.2.1.2.2.1, ()) : Int × Int × Int × Unit), ()) : (Int × Int × Int × Unit) × (Int × Int × Int × Unit) × (Int × Int × Int × Unit) × Unit) (0 : Int))) (gd (inR x0.1 (colF ((((x1.1.1, x1.1.2.1, x1.1.2.2.1, ()) : Int × Int × Int × Unit), ((x1.2.1.1, x1.2.1.2.1, x1.2.1.2.2.1, ()) : Int × Int × Int × Unit), ((x1.2.2.1.1, x1.2.2.1.2.1, x1.2.2.1.2.2.1, ()) : Int × Int × Int × Unit), ()) : (Int × Int × Int × Unit) × (Int × Int × Int × Unit) × (Int × Int × Int × Unit) × Unit) (1 : Int))) (gd ((9 : Nat) ≤ (9 : Nat)) (gd ((0 : Int) ≤ (2 : Int) ∧ (2 : Int) < (3 : Int)) (gd (isP x0.1) (gd (inR x0.1 (crossF x0.1 (colF ((((x1.1.1, x1.1.2.1, x1.1.2.2.1, ()) : Int × Int × Int × Unit), ((x1.2.1.1, x1.2.1.2.1, x1.2.1.2.2.1, ()) : Int × Int × Int × Unit), ((x1.2.2.1.1, x1.2.2.1.2.1, x1.2.2.1.2.2.1, ()) : Int × Int × Int × Unit), ()) : (Int × Int × Int × Unit) × (Int × Int × Int × Unit) × (Int × Int × Int × Unit) × Unit) (0 : Int)) (colF ((((x1.1.1, x1.1.2.1, x1.1.2.2.1, ()) : Int × Int × Int × Unit), ((x1.2.1.1, x1.2.1.2.1, x1.2.1.2.2.1, ()) : Int × Int × Int × Unit), ((x1.2.2.1.1, x1.2.2.1.2.1, x1.2.2.1.2.2.1, ()) : Int × Int × Int × Unit), ()) : (Int × Int × Int × Unit) × (Int × Int × Int × Unit) × (Int × Int × Int × Unit) × Unit) (1 : Int)))) (gd (inR x0.1 (colF ((((x1.1.1, x1.1.2.1, x1.1.2.2.1, ()) : Int × Int × Int × Unit), ((x1.2.1.1, x1.2.1.2.1, x1.2.1.2.2.1, ()) : Int × Int × Int × Unit), ((x1.2.2.1.1, x1.2.2.1.2.1, x1.2.2.1.2.2.1, ()) : Int × Int × Int × Unit), ()) : (Int × Int × Int × Unit) × (Int × Int × Int × Unit) × (Int × Int × Int × Unit) × Unit) (2 : Int))) (some ((dotC x0.1 (crossF x0.1 (colF ((((x1.1.1, x1.1.2.1, x1.1.2.2.1, ()) : Int × Int × Int × Unit), ((x1.2.1.1, x1.2.1.2.1, x1.2.1.2.2.1, ()) : Int × Int × Int × Unit), ((x1.2.2.1.1, x1.2.2.1.2.1, x1.2.2.1.2.2.1, ()) : Int × Int × Int × Unit), ()) : (Int × Int × Int × Unit) × (Int × Int × Int × Unit) × (Int × Int × Int × Unit) × Unit) (0 : Int)) (colF ((((x1.1.1, x1.1.2.1, x1.1.2.2.1, ()) : Int × Int × Int × Unit), ((x1.2.1.1, x1.2.1.2.1, x1.2.1.2.2.1, ()) : Int × Int × Int × Unit), ((x1.2.2.1.1, x1.2.2.1.2.1, x1.2.2.1.2.2.1, ()) : Int × Int × Int × Unit), ()) : (Int × Int × Int × Unit) × (Int × Int × Int × Unit) × (Int × Int × Int × Unit) × Unit) (1 : Int))) (colF ((((x1.1.1, x1.1.2.1, x1.1.2.2.1, ()) : Int × Int × Int × Unit), ((x1.2.1.1, x1.2.1.2.1, x1.2.1.2.2.1, ()) : Int × Int × Int × Unit), ((x1.2.2.1.1, x1.2.2.1.2.1, x1.2.2.1.2.2.1, ()) : Int × Int × Int × Unit), ()) : (Int × Int × Int × Unit) × (Int × Int × Int × Unit) × (Int × Int × Int × Unit) × Unit) (2 : Int)), ()) : Int × Unit)))))))))))))
noncomputable def g116_sh : List LSh := ([] : List LSh)
def appF (p : Int) (m : MatD) (x : TripD) : TripD := (dotC p m.1 x, dotC p m.2.1 x, dotC p m.2.2.1 x, ())
noncomputable def con84 : Con := mkC 84 [.d (.ptr Plane), .d Mat, .d Trip] [Trip] (fun (k : PlaneD) (m : MatD) (x : TripD) => [isP k.1, inM k.1 m, inR k.1 x]) (fun (k : PlaneD) (m : MatD) (x : TripD) => (appF k.1 m x, ()))
noncomputable def g84 (x0 : Int × List (Int × Int × Int × Unit) × List ((Int × Int × Int × Unit) × Int) × Unit) (x1 : (Int × Int × Int × Unit) × (Int × Int × Int × Unit) × (Int × Int × Int × Unit) × Unit) (x2 : Int × Int × Int × Unit) : Option ((Int × Int × Int × Unit) × Unit) := gd ((3 : Nat) ≤ (9 : Nat)) (gd ((3 : Nat) ≤ (3 : Nat)) (gd (isP x0.1) (gd (inR x0.1 ((x1.1.1, x1.1.2.1, x1.1.2.2.1, ()) : Int × Int × Int × Unit)) (gd (inR x0.1 ((x2.1, x2.2.1, x2.2.2.1, ()) : Int × Int × Int × Unit)) (gd ((6 : Nat) ≤ (9 : Nat)) (gd ((3 : Nat) ≤ (3 : Nat)) (gd (isP x0.1) (gd (inR x0.1 ((x1.2.1.1, x1.2.1.2.1, x1.2.1.2.2.1, ()) : Int × Int × Int × Unit)) (gd (inR x0.1 ((x2.1, x2.2.1, x2.2.2.1, ()) : Int × Int × Int × Unit)) (gd ((9 : Nat) ≤ (9 : Nat)) (gd ((3 : Nat) ≤ (3 : Nat)) (gd (isP x0.1) (gd (inR x0.1 ((x1.2.2.1.1, x1.2.2.1.2.1, x1.2.2.1.2.2.1, ()) : Int × Int × Int × Unit)) (gd (inR x0.1 ((x2.1, x2.2.1, x2.2.2.1, ()) : Int × Int × Int × Unit)) (gd ((3 : Nat) ≤ (3 : Nat)) (gd ((3 : Nat) ≤ (3 : Nat)) (some ((((dotC x0.1 ((x1.1.1, x1.1.2.1, x1.1.2.2.1, ()) : Int × Int × Int × Unit) ((x2.1, x2.2.1, x2.2.2.1, ()) : Int × Int × Int × Unit), dotC x0.1 ((x1.2.1.1, x1.2.1.2.1, x1.2.1.2.2.1, ()) : Int × Int × Int × Unit) ((x2.1, x2.2.1, x2.2.2.1, ()) : Int × Int × Int × Unit), dotC x0.1 ((x1.2.2.1.1, x1.2.2.1.2.1, x1.2.2.1.2.2.1, ()) : Int × Int × Int × Unit) ((x2.1, x2.2.1, x2.2.2.1, ()) : Int × Int × Int × Unit), ()) : Int × Int × Int × Unit), ()) : (Int × Int × Int × Unit) × Unit))))))))))))))))))
noncomputable def g84_sh : List LSh := ([] : List LSh)
noncomputable def byF (p : Int) (b x : Int) : Int := if b = 0 ∧ x ≠ 0 then invF p x else b
noncomputable def byR (p : Int) (b : Int) (x : TripD) : Int := byF p (byF p (byF p b x.1) x.2.1) x.2.2.1
noncomputable def byM (p : Int) (m : MatD) : Int := byR p (byR p (byR p 0 m.1) m.2.1) m.2.2.1
def mulR (p k : Int) (t : TripD) : TripD := (t.1 * k % p, t.2.1 * k % p, t.2.2.1 * k % p, ())
noncomputable def lowM (p : Int) (m : MatD) : MatD := (mulR p (byM p m) m.1, mulR p (byM p m) m.2.1, mulR p (byM p m) m.2.2.1, ())
noncomputable def con87 : Con := mkC 87 [.d (.ptr Plane), .d Mat] [Mat] (fun (k : PlaneD) (m : MatD) => [isP k.1, inM k.1 m]) (fun (k : PlaneD) (m : MatD) => (lowM k.1 m, ()))
noncomputable def g87_l0 (x0 : Int × List (Int × Int × Int × Unit) × List ((Int × Int × Int × Unit) × Int) × Unit) (x1 : (Int × Int × Int × Unit) × (Int × Int × Int × Unit) × (Int × Int × Int × Unit) × Unit) (d2 d3 : Int × Int × List Int × List Int × Unit) : Option (Lp (Int × Int × List Int × List Int × Unit) (Lp (Int × Int × List Int × List Int × Unit) (((Int × Int × Int × Unit) × (Int × Int × Int × Unit) × (Int × Int × Int × Unit) × Unit) × Unit))) := bif ilt d3.2.1 (3 : Int) then gd ((0 : Int) ≤ d3.2.1 ∧ d3.2.1 < (3 : Int)) (gd (ieq d3.1 (0 : Int) = true → ieq d3.1 (0 : Int) = true) (gd (ieq d3.1 (0 : Int) = true → ieq d3.1 (0 : Int) = true) (bif bif ieq d3.1 (0 : Int) then !ieq (@id Int (arrGet (3 : Nat) (Ty.int IntKind.i64) ((((@id (Int × Int × Int × Unit) (arrGet (3 : Nat) (Ty.prod (Ty.int IntKind.i64) (Ty.prod (Ty.int IntKind.i64) (Ty.prod (Ty.int IntKind.i64) Ty.unit))) (((((x1.1.1, x1.1.2.1, x1.1.2.2.1, ()) : Int × Int × Int × Unit), ((x1.2.1.1, x1.2.1.2.1, x1.2.1.2.2.1, ()) : Int × Int × Int × Unit), ((x1.2.2.1.1, x1.2.2.1.2.1, x1.2.2.1.2.2.1, ()) : Int × Int × Int × Unit), ()) : (Int × Int × Int × Unit) × (Int × Int × Int × Unit) × (Int × Int × Int × Unit) × Unit) : (Int × Int × Int × Unit) × (Int × Int × Int × Unit) × (Int × Int × Int × Unit) × Unit) (Int.toNat d2.2.1))).1, (@id (Int × Int × Int × Unit) (arrGet (3 : Nat) (Ty.prod (Ty.int IntKind.i64) (Ty.prod (Ty.int IntKind.i64) (Ty.prod (Ty.int IntKind.i64) Ty.unit))) (((((x1.1.1, x1.1.2.1, x1.1.2.2.1, ()) : Int × Int × Int × Unit), ((x1.2.1.1, x1.2.1.2.1, x1.2.1.2.2.1, ()) : Int × Int × Int × Unit), ((x1.2.2.1.1, x1.2.2.1.2.1, x1.2.2.1.2.2.1, ()) : Int × Int × Int × Unit), ()) : (Int × Int × Int × Unit) × (Int × Int × Int × Unit) × (Int × Int × Int × Unit) × Unit) : (Int × Int × Int × Unit) × (Int × Int × Int × Unit) × (Int × Int × Int × Unit) × Unit) (Int.toNat d2.2.1))).2.1, (@id (Int × Int × Int × Unit) (arrGet (3 : Nat) (Ty.prod (Ty.int IntKind.i64) (Ty.prod (Ty.int IntKind.i64) (Ty.prod (Ty.int IntKind.i64) Ty.unit))) (((((x1.1.1, x1.1.2.1, x1.1.2.2.1, ()) : Int × Int × Int × Unit), ((x1.2.1.1, x1.2.1.2.1, x1.2.1.2.2.1, ()) : Int × Int × Int × Unit), ((x1.2.2.1.1, x1.2.2.1.2.1, x1.2.2.1.2.2.1, ()) : Int × Int × Int × Unit), ()) : (Int × Int × Int × Unit) × (Int × Int × Int × Unit) × (Int × Int × Int × Unit) × Unit) : (Int × Int × Int × Unit) × (Int × Int × Int × Unit) × (Int × Int × Int × Unit) × Unit) (Int.toNat d2.2.1))).2.2.1, ()) : Int × Int × Int × Unit) : Int × Int × Int × Unit) (Int.toNat d3.2.1))) (0 : Int) else false then gd (isP x0.1) (gd (rngP x0.1 (@id Int (arrGet (3 : Nat) (Ty.int IntKind.i64) ((((@id (Int × Int × Int × Unit) (arrGet (3 : Nat) (Ty.prod (Ty.int IntKind.i64) (Ty.prod (Ty.int IntKind.i64) (Ty.prod (Ty.int IntKind.i64) Ty.unit))) (((((x1.1.1, x1.1.2.1, x1.1.2.2.1, ()) : Int × Int × Int × Unit), ((x1.2.1.1, x1.2.1.2.1, x1.2.1.2.2.1, ()) : Int × Int × Int × Unit), ((x1.2.2.1.1, x1.2.2.1.2.1, x1.2.2.1.2.2.1, ()) : Int × Int × Int × Unit), ()) : (Int × Int × Int × Unit) × (Int × Int × Int × Unit) × (Int × Int × Int × Unit) × Unit) : (Int × Int × Int × Unit) × (Int × Int × Int × Unit) × (Int × Int × Int × Unit) × Unit) (Int.toNat d2.2.1))).1, (@id (Int × Int × Int × Unit) (arrGet (3 : Nat) (Ty.prod (Ty.int IntKind.i64) (Ty.prod (Ty.int IntKind.i64) (Ty.prod (Ty.int IntKind.i64) Ty.unit))) (((((x1.1.1, x1.1.2.1, x1.1.2.2.1, ()) : Int × Int × Int × Unit), ((x1.2.1.1, x1.2.1.2.1, x1.2.1.2.2.1, ()) : Int × Int × Int × Unit), ((x1.2.2.1.1, x1.2.2.1.2.1, x1.2.2.1.2.2.1, ()) : Int × Int × Int × Unit), ()) : (Int × Int × Int × Unit) × (Int × Int × Int × Unit) × (Int × Int × Int × Unit) × Unit) : (Int × Int × Int × Unit) × (Int × Int × Int × Unit) × (Int × Int × Int × Unit) × Unit) (Int.toNat d2.2.1))).2.1, (@id (Int × Int × Int × Unit) (arrGet (3 : Nat) (Ty.prod (Ty.int IntKind.i64) (Ty.prod (Ty.int IntKind.i64) (Ty.prod (Ty.int IntKind.i64) Ty.unit))) (((((x1.1.1, x1.1.2.1, x1.1.2.2.1, ()) : Int × Int × Int × Unit), ((x1.2.1.1, x1.2.1.2.1, x1.2.1.2.2.1, ()) : Int × Int × Int × Unit), ((x1.2.2.1.1, x1.2.2.1.2.1, x1.2.2.1.2.2.1, ()) : Int × Int × Int × Unit), ()) : (Int × Int × Int × Unit) × (Int × Int × Int × Unit) × (Int × Int × Int × Unit) × Unit) : (Int × Int × Int × Unit) × (Int × Int × Int × Unit) × (Int × Int × Int × Unit) × Unit) (Int.toNat d2.2.1))).2.2.1, ()) : Int × Int × Int × Unit) : Int × Int × Int × Unit) (Int.toNat d3.2.1)))) (some (Lp.go ((invF x0.1 (@id Int (arrGet (3 : Nat) (Ty.int IntKind.i64) ((((@id (Int × Int × Int × Unit) (arrGet (3 : Nat) (Ty.prod (Ty.int IntKind.i64) (Ty.prod (Ty.int IntKind.i64) (Ty.prod (Ty.int IntKind.i64) Ty.unit))) (((((x1.1.1, x1.1.2.1, x1.1.2.2.1, ()) : Int × Int × Int × Unit), ((x1.2.1.1, x1.2.1.2.1, x1.2.1.2.2.1, ()) : Int × Int × Int × Unit), ((x1.2.2.1.1, x1.2.2.1.2.1, x1.2.2.1.2.2.1, ()) : Int × Int × Int × Unit), ()) : (Int × Int × Int × Unit) × (Int × Int × Int × Unit) × (Int × Int × Int × Unit) × Unit) : (Int × Int × Int × Unit) × (Int × Int × Int × Unit) × (Int × Int × Int × Unit) × Unit) (Int.toNat d2.2.1))).1, (@id (Int × Int × Int × Unit) (arrGet (3 : Nat) (Ty.prod (Ty.int IntKind.i64) (Ty.prod (Ty.int IntKind.i64) (Ty.prod (Ty.int IntKind.i64) Ty.unit))) (((((x1.1.1, x1.1.2.1, x1.1.2.2.1, ()) : Int × Int × Int × Unit), ((x1.2.1.1, x1.2.1.2.1, x1.2.1.2.2.1, ()) : Int × Int × Int × Unit), ((x1.2.2.1.1, x1.2.2.1.2.1, x1.2.2.1.2.2.1, ()) : Int × Int × Int × Unit), ()) : (Int × Int × Int × Unit) × (Int × Int × Int × Unit) × (Int × Int × Int × Unit) × Unit) : (Int × Int × Int × Unit) × (Int × Int × Int × Unit) × (Int × Int × Int × Unit) × Unit) (Int.toNat d2.2.1))).2.1, (@id (Int × Int × Int × Unit) (arrGet (3 : Nat) (Ty.prod (Ty.int IntKind.i64) (Ty.prod (Ty.int IntKind.i64) (Ty.prod (Ty.int IntKind.i64) Ty.unit))) (((((x1.1.1, x1.1.2.1, x1.1.2.2.1, ()) : Int × Int × Int × Unit), ((x1.2.1.1, x1.2.1.2.1, x1.2.1.2.2.1, ()) : Int × Int × Int × Unit), ((x1.2.2.1.1, x1.2.2.1.2.1, x1.2.2.1.2.2.1, ()) : Int × Int × Int × Unit), ()) : (Int × Int × Int × Unit) × (Int × Int × Int × Unit) × (Int × Int × Int × Unit) × Unit) : (Int × Int × Int × Unit) × (Int × Int × Int × Unit) × (Int × Int × Int × Unit) × Unit) (Int.toNat d2.2.1))).2.2.1, ()) : Int × Int × Int × Unit) : Int × Int × Int × Unit) (Int.toNat d3.2.1))), wr IntKind.i64 (d3.2.1 + (1 : Int)), d3.2.2.1, d3.2.2.2.1, ()) : Int × Int × List Int × List Int × Unit)))) else some (Lp.go ((d3.1, wr IntKind.i64 (d3.2.1 + (1 : Int)), d3.2.2.1, d3.2.2.2.1, ()) : Int × Int × List Int × List Int × Unit))))) else some (Lp.out (Lp.go ((d3.1, wr IntKind.i64 (d2.2.1 + (1 : Int)), d3.2.2.1, d3.2.2.2.1, ()) : Int × Int × List Int × List Int × Unit)))
noncomputable def g87_l1 (x0 : Int × List (Int × Int × Int × Unit) × List ((Int × Int × Int × Unit) × Int) × Unit) (d2 : Int × Int × List Int × List Int × Unit) (d3 d4 : Int × List Int × List Int × Unit) : Option (Lp (Int × List Int × List Int × Unit) (Lp (Int × List Int × List Int × Unit) (Lp (Int × Int × List Int × List Int × Unit) (((Int × Int × Int × Unit) × (Int × Int × Int × Unit) × (Int × Int × Int × Unit) × Unit) × Unit)))) := bif ilt d4.1 (3 : Int) then gd ((0 : Int) ≤ d3.1 ∧ d3.1 < (3 : Int)) (gd ((0 : Int) ≤ d4.1 ∧ d4.1 < (3 : Int)) (gd ((0 : Nat) + Int.toNat d3.1 * (3 : Nat) + Int.toNat d4.1 * (1 : Nat) < List.length d4.2.1) (gd (x0.1 ≠ (0 : Int)) (gd ((0 : Int) ≤ d3.1 ∧ d3.1 < (3 : Int)) (gd ((0 : Int) ≤ d4.1 ∧ d4.1 < (3 : Int)) (gd ((0 : Nat) + Int.toNat d3.1 * (3 : Nat) + Int.toNat d4.1 * (1 : Nat) < List.length d4.2.1) (some (Lp.go ((wr IntKind.i64 (d4.1 + (1 : Int)), List.set d4.2.1 ((0 : Nat) + Int.toNat d3.1 * (3 : Nat) + Int.toNat d4.1 * (1 : Nat)) (modF x0.1 (wr IntKind.i64 (List.getD d4.2.1 ((0 : Nat) + Int.toNat d3.1 * (3 : Nat) + Int.toNat d4.1 * (1 : Nat)) (0 : Int) * d2.1))), d4.2.2.1, ()) : Int × List Int × List Int × Unit))))))))) else some (Lp.out (Lp.go ((wr IntKind.i64 (d3.1 + (1 : Int)), d4.2.1, d4.2.2.1, ()) : Int × List Int × List Int × Unit)))
noncomputable def g87 (x0 : Int × List (Int × Int × Int × Unit) × List ((Int × Int × Int × Unit) × Int) × Unit) (x1 : (Int × Int × Int × Unit) × (Int × Int × Int × Unit) × (Int × Int × Int × Unit) × Unit) : Option (((Int × Int × Int × Unit) × (Int × Int × Int × Unit) × (Int × Int × Int × Unit) × Unit) × Unit) := gd ((9 : Nat) ≤ (9 : Nat)) (whileO (fun (d2 : Int × Int × List Int × List Int × Unit) => bif ilt d2.2.1 (3 : Int) then gd ((0 : Int) ≤ d2.2.1 ∧ d2.2.1 < (3 : Int)) (gd ((3 : Nat) ≤ (3 : Nat)) (gd ((3 : Nat) ≤ (3 : Nat)) (whileO (g87_l0 x0 x1 d2) ((d2.1, (0 : Int), d2.2.2.1, d2.2.2.2.1, ()) : Int × Int × List Int × List Int × Unit)))) else whileO (fun (d3 : Int × List Int × List Int × Unit) => bif ilt d3.1 (3 : Int) then whileO (g87_l1 x0 d2 d3) (((0 : Int), d3.2.1, d3.2.2.1, ()) : Int × List Int × List Int × Unit) else gd ((9 : Nat) ≤ List.length d3.2.1) (gd ((9 : Nat) ≤ List.length d3.2.2.1) (gd ((9 : Nat) ≤ List.length (setMany d3.2.2.1 (0 : Nat) (List.getD d3.2.1 (0 : Nat) (0 : Int) :: List.getD d3.2.1 (1 : Nat) (0 : Int) :: List.getD d3.2.1 (2 : Nat) (0 : Int) :: List.getD d3.2.1 (3 : Nat) (0 : Int) :: List.getD d3.2.1 (4 : Nat) (0 : Int) :: List.getD d3.2.1 (5 : Nat) (0 : Int) :: List.getD d3.2.1 (6 : Nat) (0 : Int) :: List.getD d3.2.1 (7 : Nat) (0 : Int) :: List.getD d3.2.1 (8 : Nat) (0 : Int) :: ([] : List Int)))) (some (Lp.out (Lp.out ((((((List.getD (setMany d3.2.2.1 (0 : Nat) (List.getD d3.2.1 (0 : Nat) (0 : Int) :: List.getD d3.2.1 (1 : Nat) (0 : Int) :: List.getD d3.2.1 (2 : Nat) (0 : Int) :: List.getD d3.2.1 (3 : Nat) (0 : Int) :: List.getD d3.2.1 (4 : Nat) (0 : Int) :: List.getD d3.2.1 (5 : Nat) (0 : Int) :: List.getD d3.2.1 (6 : Nat) (0 : Int) :: List.getD d3.2.1 (7 : Nat) (0 : Int) :: List.getD d3.2.1 (8 : Nat) (0 : Int) :: ([] : List Int))) (0 : Nat) (0 : Int), List.getD (setMany d3.2.2.1 (0 : Nat) (List.getD d3.2.1 (0 : Nat) (0 : Int) :: List.getD d3.2.1 (1 : Nat) (0 : Int) :: List.getD d3.2.1 (2 : Nat) (0 : Int) :: List.getD d3.2.1 (3 : Nat) (0 : Int) :: List.getD d3.2.1 (4 : Nat) (0 : Int) :: List.getD d3.2.1 (5 : Nat) (0 : Int) :: List.getD d3.2.1 (6 : Nat) (0 : Int) :: List.getD d3.2.1 (7 : Nat) (0 : Int) :: List.getD d3.2.1 (8 : Nat) (0 : Int) :: ([] : List Int))) (1 : Nat) (0 : Int), List.getD (setMany d3.2.2.1 (0 : Nat) (List.getD d3.2.1 (0 : Nat) (0 : Int) :: List.getD d3.2.1 (1 : Nat) (0 : Int) :: List.getD d3.2.1 (2 : Nat) (0 : Int) :: List.getD d3.2.1 (3 : Nat) (0 : Int) :: List.getD d3.2.1 (4 : Nat) (0 : Int) :: List.getD d3.2.1 (5 : Nat) (0 : Int) :: List.getD d3.2.1 (6 : Nat) (0 : Int) :: List.getD d3.2.1 (7 : Nat) (0 : Int) :: List.getD d3.2.1 (8 : Nat) (0 : Int) :: ([] : List Int))) (2 : Nat) (0 : Int), ()) : Int × Int × Int × Unit), ((List.getD (setMany d3.2.2.1 (0 : Nat) (List.getD d3.2.1 (0 : Nat) (0 : Int) :: List.getD d3.2.1 (1 : Nat) (0 : Int) :: List.getD d3.2.1 (2 : Nat) (0 : Int) :: List.getD d3.2.1 (3 : Nat) (0 : Int) :: List.getD d3.2.1 (4 : Nat) (0 : Int) :: List.getD d3.2.1 (5 : Nat) (0 : Int) :: List.getD d3.2.1 (6 : Nat) (0 : Int) :: List.getD d3.2.1 (7 : Nat) (0 : Int) :: List.getD d3.2.1 (8 : Nat) (0 : Int) :: ([] : List Int))) (3 : Nat) (0 : Int), List.getD (setMany d3.2.2.1 (0 : Nat) (List.getD d3.2.1 (0 : Nat) (0 : Int) :: List.getD d3.2.1 (1 : Nat) (0 : Int) :: List.getD d3.2.1 (2 : Nat) (0 : Int) :: List.getD d3.2.1 (3 : Nat) (0 : Int) :: List.getD d3.2.1 (4 : Nat) (0 : Int) :: List.getD d3.2.1 (5 : Nat) (0 : Int) :: List.getD d3.2.1 (6 : Nat) (0 : Int) :: List.getD d3.2.1 (7 : Nat) (0 : Int) :: List.getD d3.2.1 (8 : Nat) (0 : Int) :: ([] : List Int))) (4 : Nat) (0 : Int), List.getD (setMany d3.2.2.1 (0 : Nat) (List.getD d3.2.1 (0 : Nat) (0 : Int) :: List.getD d3.2.1 (1 : Nat) (0 : Int) :: List.getD d3.2.1 (2 : Nat) (0 : Int) :: List.getD d3.2.1 (3 : Nat) (0 : Int) :: List.getD d3.2.1 (4 : Nat) (0 : Int) :: List.getD d3.2.1 (5 : Nat) (0 : Int) :: List.getD d3.2.1 (6 : Nat) (0 : Int) :: List.getD d3.2.1 (7 : Nat) (0 : Int) :: List.getD d3.2.1 (8 : Nat) (0 : Int) :: ([] : List Int))) (5 : Nat) (0 : Int), ()) : Int × Int × Int × Unit), ((List.getD (setMany d3.2.2.1 (0 : Nat) (List.getD d3.2.1 (0 : Nat) (0 : Int) :: List.getD d3.2.1 (1 : Nat) (0 : Int) :: List.getD d3.2.1 (2 : Nat) (0 : Int) :: List.getD d3.2.1 (3 : Nat) (0 : Int) :: List.getD d3.2.1 (4 : Nat) (0 : Int) :: List.getD d3.2.1 (5 : Nat) (0 : Int) :: List.getD d3.2.1 (6 : Nat) (0 : Int) :: List.getD d3.2.1 (7 : Nat) (0 : Int) :: List.getD d3.2.1 (8 : Nat) (0 : Int) :: ([] : List Int))) (6 : Nat) (0 : Int), List.getD (setMany d3.2.2.1 (0 : Nat) (List.getD d3.2.1 (0 : Nat) (0 : Int) :: List.getD d3.2.1 (1 : Nat) (0 : Int) :: List.getD d3.2.1 (2 : Nat) (0 : Int) :: List.getD d3.2.1 (3 : Nat) (0 : Int) :: List.getD d3.2.1 (4 : Nat) (0 : Int) :: List.getD d3.2.1 (5 : Nat) (0 : Int) :: List.getD d3.2.1 (6 : Nat) (0 : Int) :: List.getD d3.2.1 (7 : Nat) (0 : Int) :: List.getD d3.2.1 (8 : Nat) (0 : Int) :: ([] : List Int))) (7 : Nat) (0 : Int), List.getD (setMany d3.2.2.1 (0 : Nat) (List.getD d3.2.1 (0 : Nat) (0 : Int) :: List.getD d3.2.1 (1 : Nat) (0 : Int) :: List.getD d3.2.1 (2 : Nat) (0 : Int) :: List.getD d3.2.1 (3 : Nat) (0 : Int) :: List.getD d3.2.1 (4 : Nat) (0 : Int) :: List.getD d3.2.1 (5 : Nat) (0 : Int) :: List.getD d3.2.1 (6 : Nat) (0 : Int) :: List.getD d3.2.1 (7 : Nat) (0 : Int) :: List.getD d3.2.1 (8 : Nat) (0 : Int) :: ([] : List Int))) (8 : Nat) (0 : Int), ()) : Int × Int × Int × Unit), ()) : (Int × Int × Int × Unit) × (Int × Int × Int × Unit) × (Int × Int × Int × Unit) × Unit), ()) : ((Int × Int × Int × Unit) × (Int × Int × Int × Unit) × (Int × Int × Int × Unit) × Unit) × Unit))))))) (((0 : Int), d2.2.2.1, d2.2.2.2.1, ()) : Int × List Int × List Int × Unit)) (((0 : Int), (0 : Int), x1.1.1 :: x1.1.2.1 :: x1.1.2.2.1 :: x1.2.1.1 :: x1.2.1.2.1 :: x1.2.1.2.2.1 :: x1.2.2.1.1 :: x1.2.2.1.2.1 :: x1.2.2.1.2.2.1 :: ([] : List Int), (0 : Int) :: (0 : Int) :: (0 : Int) :: (0 : Int) :: (0 : Int) :: (0 : Int) :: (0 : Int) :: (0 : Int) :: (0 : Int) :: ([] : List Int), ()) : Int × Int × List Int × List Int × Unit))
noncomputable def g87_sh : List LSh := LSh.mk (((3, TV.ref (0) (1 : Nat) (0 : Nat) (0 : Nat)) : Nat × TV) :: ((4, TV.ref (1) (1 : Nat) (0 : Nat) (0 : Nat)) : Nat × TV) :: ((5, TV.v (Ty.int IntKind.i64)) : Nat × TV) :: ((13, TV.v (Ty.int IntKind.i64)) : Nat × TV) :: ([] : List (Nat × TV))) (TB.arr (Ty.int IntKind.i64) false :: TB.arr (Ty.int IntKind.i64) false :: ([] : List TB)) :: LSh.mk (((3, TV.ref (0) (1 : Nat) (0 : Nat) (0 : Nat)) : Nat × TV) :: ((4, TV.ref (1) (1 : Nat) (0 : Nat) (0 : Nat)) : Nat × TV) :: ((5, TV.v (Ty.int IntKind.i64)) : Nat × TV) :: ((17, TV.v (Ty.int IntKind.i64)) : Nat × TV) :: ([] : List (Nat × TV))) (TB.arr (Ty.int IntKind.i64) false :: TB.arr (Ty.int IntKind.i64) false :: ([] : List TB)) :: LSh.mk (((3, TV.ref (0) (1 : Nat) (0 : Nat) (0 : Nat)) : Nat × TV) :: ((4, TV.ref (1) (1 : Nat) (0 : Nat) (0 : Nat)) : Nat × TV) :: ((31, TV.v (Ty.int IntKind.i64)) : Nat × TV) :: ([] : List (Nat × TV))) (TB.arr (Ty.int IntKind.i64) false :: TB.arr (Ty.int IntKind.i64) false :: ([] : List TB)) :: LSh.mk (((3, TV.ref (0) (1 : Nat) (0 : Nat) (0 : Nat)) : Nat × TV) :: ((4, TV.ref (1) (1 : Nat) (0 : Nat) (0 : Nat)) : Nat × TV) :: ((34, TV.v (Ty.int IntKind.i64)) : Nat × TV) :: ([] : List (Nat × TV))) (TB.arr (Ty.int IntKind.i64) false :: TB.arr (Ty.int IntKind.i64) false :: ([] : List TB)) :: ([] : List LSh)
def inMb (p : Int) (m : MatD) : Bool := inRb p m.1 && inRb p m.2.1 && inRb p m.2.2.1
noncomputable def isMapF (p : Int) (m : MatD) : Bool := inMb p m && !ieq (detF p m) 0 && deq Mat (lowM p m) m
noncomputable def con82 : Con := mkC 82 [.d (.ptr Plane), .d Mat] [.bool] (fun (k : PlaneD) (m : MatD) => [isP k.1]) (fun (k : PlaneD) (m : MatD) => (isMapF k.1 m, ()))
noncomputable def g82_l0 (x0 : Int × List (Int × Int × Int × Unit) × List ((Int × Int × Int × Unit) × Int) × Unit) (x1 : (Int × Int × Int × Unit) × (Int × Int × Int × Unit) × (Int × Int × Int × Unit) × Unit) (d2 d3 : Int × List Int × Unit) : Option (Lp (Int × List Int × Unit) (Lp (Int × List Int × Unit) (Bool × Unit))) := bif ilt d3.1 (3 : Int) then gd ((0 : Int) ≤ d3.1 ∧ d3.1 < (3 : Int)) (gd ((!ilt (@id Int (arrGet (3 : Nat) (Ty.int IntKind.i64) ((((@id (Int × Int × Int × Unit) (arrGet (3 : Nat) (Ty.prod (Ty.int IntKind.i64) (Ty.prod (Ty.int IntKind.i64) (Ty.prod (Ty.int IntKind.i64) Ty.unit))) (((((x1.1.1, x1.1.2.1, x1.1.2.2.1, ()) : Int × Int × Int × Unit), ((x1.2.1.1, x1.2.1.2.1, x1.2.1.2.2.1, ()) : Int × Int × Int × Unit), ((x1.2.2.1.1, x1.2.2.1.2.1, x1.2.2.1.2.2.1, ()) : Int × Int × Int × Unit), ()) : (Int × Int × Int × Unit) × (Int × Int × Int × Unit) × (Int × Int × Int × Unit) × Unit) : (Int × Int × Int × Unit) × (Int × Int × Int × Unit) × (Int × Int × Int × Unit) × Unit) (Int.toNat d2.1))).1, (@id (Int × Int × Int × Unit) (arrGet (3 : Nat) (Ty.prod (Ty.int IntKind.i64) (Ty.prod (Ty.int IntKind.i64) (Ty.prod (Ty.int IntKind.i64) Ty.unit))) (((((x1.1.1, x1.1.2.1, x1.1.2.2.1, ()) : Int × Int × Int × Unit), ((x1.2.1.1, x1.2.1.2.1, x1.2.1.2.2.1, ()) : Int × Int × Int × Unit), ((x1.2.2.1.1, x1.2.2.1.2.1, x1.2.2.1.2.2.1, ()) : Int × Int × Int × Unit), ()) : (Int × Int × Int × Unit) × (Int × Int × Int × Unit) × (Int × Int × Int × Unit) × Unit) : (Int × Int × Int × Unit) × (Int × Int × Int × Unit) × (Int × Int × Int × Unit) × Unit) (Int.toNat d2.1))).2.1, (@id (Int × Int × Int × Unit) (arrGet (3 : Nat) (Ty.prod (Ty.int IntKind.i64) (Ty.prod (Ty.int IntKind.i64) (Ty.prod (Ty.int IntKind.i64) Ty.unit))) (((((x1.1.1, x1.1.2.1, x1.1.2.2.1, ()) : Int × Int × Int × Unit), ((x1.2.1.1, x1.2.1.2.1, x1.2.1.2.2.1, ()) : Int × Int × Int × Unit), ((x1.2.2.1.1, x1.2.2.1.2.1, x1.2.2.1.2.2.1, ()) : Int × Int × Int × Unit), ()) : (Int × Int × Int × Unit) × (Int × Int × Int × Unit) × (Int × Int × Int × Unit) × Unit) : (Int × Int × Int × Unit) × (Int × Int × Int × Unit) × (Int × Int × Int × Unit) × Unit) (Int.toNat d2.1))).2.2.1, ()) : Int × Int × Int × Unit) : Int × Int × Int × Unit) (Int.toNat d3.1))) (0 : Int)) = true → (!ilt (@id Int (arrGet (3 : Nat) (Ty.int IntKind.i64) ((((@id (Int × Int × Int × Unit) (arrGet (3 : Nat) (Ty.prod (Ty.int IntKind.i64) (Ty.prod (Ty.int IntKind.i64) (Ty.prod (Ty.int IntKind.i64) Ty.unit))) (((((x1.1.1, x1.1.2.1, x1.1.2.2.1, ()) : Int × Int × Int × Unit), ((x1.2.1.1, x1.2.1.2.1, x1.2.1.2.2.1, ()) : Int × Int × Int × Unit), ((x1.2.2.1.1, x1.2.2.1.2.1, x1.2.2.1.2.2.1, ()) : Int × Int × Int × Unit), ()) : (Int × Int × Int × Unit) × (Int × Int × Int × Unit) × (Int × Int × Int × Unit) × Unit) : (Int × Int × Int × Unit) × (Int × Int × Int × Unit) × (Int × Int × Int × Unit) × Unit) (Int.toNat d2.1))).1, (@id (Int × Int × Int × Unit) (arrGet (3 : Nat) (Ty.prod (Ty.int IntKind.i64) (Ty.prod (Ty.int IntKind.i64) (Ty.prod (Ty.int IntKind.i64) Ty.unit))) (((((x1.1.1, x1.1.2.1, x1.1.2.2.1, ()) : Int × Int × Int × Unit), ((x1.2.1.1, x1.2.1.2.1, x1.2.1.2.2.1, ()) : Int × Int × Int × Unit), ((x1.2.2.1.1, x1.2.2.1.2.1, x1.2.2.1.2.2.1, ()) : Int × Int × Int × Unit), ()) : (Int × Int × Int × Unit) × (Int × Int × Int × Unit) × (Int × Int × Int × Unit) × Unit) : (Int × Int × Int × Unit) × (Int × Int × Int × Unit) × (Int × Int × Int × Unit) × Unit) (Int.toNat d2.1))).2.1, (@id (Int × Int × Int × Unit) (arrGet (3 : Nat) (Ty.prod (Ty.int IntKind.i64) (Ty.prod (Ty.int IntKind.i64) (Ty.prod (Ty.int IntKind.i64) Ty.unit))) (((((x1.1.1, x1.1.2.1, x1.1.2.2.1, ()) : Int × Int × Int × Unit), ((x1.2.1.1, x1.2.1.2.1, x1.2.1.2.2.1, ()) : Int × Int × Int × Unit), ((x1.2.2.1.1, x1.2.2.1.2.1, x1.2.2.1.2.2.1, ()) : Int × Int × Int × Unit), ()) : (Int × Int × Int × Unit) × (Int × Int × Int × Unit) × (Int × Int × Int × Unit) × Unit) : (Int × Int × Int × Unit) × (Int × Int × Int × Unit) × (Int × Int × Int × Unit) × Unit) (Int.toNat d2.1))).2.2.1, ()) : Int × Int × Int × Unit) : Int × Int × Int × Unit) (Int.toNat d3.1))) (0 : Int)) = true) (gd ((!ilt (@id Int (arrGet (3 : Nat) (Ty.int IntKind.i64) ((((@id (Int × Int × Int × Unit) (arrGet (3 : Nat) (Ty.prod (Ty.int IntKind.i64) (Ty.prod (Ty.int IntKind.i64) (Ty.prod (Ty.int IntKind.i64) Ty.unit))) (((((x1.1.1, x1.1.2.1, x1.1.2.2.1, ()) : Int × Int × Int × Unit), ((x1.2.1.1, x1.2.1.2.1, x1.2.1.2.2.1, ()) : Int × Int × Int × Unit), ((x1.2.2.1.1, x1.2.2.1.2.1, x1.2.2.1.2.2.1, ()) : Int × Int × Int × Unit), ()) : (Int × Int × Int × Unit) × (Int × Int × Int × Unit) × (Int × Int × Int × Unit) × Unit) : (Int × Int × Int × Unit) × (Int × Int × Int × Unit) × (Int × Int × Int × Unit) × Unit) (Int.toNat d2.1))).1, (@id (Int × Int × Int × Unit) (arrGet (3 : Nat) (Ty.prod (Ty.int IntKind.i64) (Ty.prod (Ty.int IntKind.i64) (Ty.prod (Ty.int IntKind.i64) Ty.unit))) (((((x1.1.1, x1.1.2.1, x1.1.2.2.1, ()) : Int × Int × Int × Unit), ((x1.2.1.1, x1.2.1.2.1, x1.2.1.2.2.1, ()) : Int × Int × Int × Unit), ((x1.2.2.1.1, x1.2.2.1.2.1, x1.2.2.1.2.2.1, ()) : Int × Int × Int × Unit), ()) : (Int × Int × Int × Unit) × (Int × Int × Int × Unit) × (Int × Int × Int × Unit) × Unit) : (Int × Int × Int × Unit) × (Int × Int × Int × Unit) × (Int × Int × Int × Unit) × Unit) (Int.toNat d2.1))).2.1, (@id (Int × Int × Int × Unit) (arrGet (3 : Nat) (Ty.prod (Ty.int IntKind.i64) (Ty.prod (Ty.int IntKind.i64) (Ty.prod (Ty.int IntKind.i64) Ty.unit))) (((((x1.1.1, x1.1.2.1, x1.1.2.2.1, ()) : Int × Int × Int × Unit), ((x1.2.1.1, x1.2.1.2.1, x1.2.1.2.2.1, ()) : Int × Int × Int × Unit), ((x1.2.2.1.1, x1.2.2.1.2.1, x1.2.2.1.2.2.1, ()) : Int × Int × Int × Unit), ()) : (Int × Int × Int × Unit) × (Int × Int × Int × Unit) × (Int × Int × Int × Unit) × Unit) : (Int × Int × Int × Unit) × (Int × Int × Int × Unit) × (Int × Int × Int × Unit) × Unit) (Int.toNat d2.1))).2.2.1, ()) : Int × Int × Int × Unit) : Int × Int × Int × Unit) (Int.toNat d3.1))) (0 : Int)) = true → (!ilt (@id Int (arrGet (3 : Nat) (Ty.int IntKind.i64) ((((@id (Int × Int × Int × Unit) (arrGet (3 : Nat) (Ty.prod (Ty.int IntKind.i64) (Ty.prod (Ty.int IntKind.i64) (Ty.prod (Ty.int IntKind.i64) Ty.unit))) (((((x1.1.1, x1.1.2.1, x1.1.2.2.1, ()) : Int × Int × Int × Unit), ((x1.2.1.1, x1.2.1.2.1, x1.2.1.2.2.1, ()) : Int × Int × Int × Unit), ((x1.2.2.1.1, x1.2.2.1.2.1, x1.2.2.1.2.2.1, ()) : Int × Int × Int × Unit), ()) : (Int × Int × Int × Unit) × (Int × Int × Int × Unit) × (Int × Int × Int × Unit) × Unit) : (Int × Int × Int × Unit) × (Int × Int × Int × Unit) × (Int × Int × Int × Unit) × Unit) (Int.toNat d2.1))).1, (@id (Int × Int × Int × Unit) (arrGet (3 : Nat) (Ty.prod (Ty.int IntKind.i64) (Ty.prod (Ty.int IntKind.i64) (Ty.prod (Ty.int IntKind.i64) Ty.unit))) (((((x1.1.1, x1.1.2.1, x1.1.2.2.1, ()) : Int × Int × Int × Unit), ((x1.2.1.1, x1.2.1.2.1, x1.2.1.2.2.1, ()) : Int × Int × Int × Unit), ((x1.2.2.1.1, x1.2.2.1.2.1, x1.2.2.1.2.2.1, ()) : Int × Int × Int × Unit), ()) : (Int × Int × Int × Unit) × (Int × Int × Int × Unit) × (Int × Int × Int × Unit) × Unit) : (Int × Int × Int × Unit) × (Int × Int × Int × Unit) × (Int × Int × Int × Unit) × Unit) (Int.toNat d2.1))).2.1, (@id (Int × Int × Int × Unit) (arrGet (3 : Nat) (Ty.prod (Ty.int IntKind.i64) (Ty.prod (Ty.int IntKind.i64) (Ty.prod (Ty.int IntKind.i64) Ty.unit))) (((((x1.1.1, x1.1.2.1, x1.1.2.2.1, ()) : Int × Int × Int × Unit), ((x1.2.1.1, x1.2.1.2.1, x1.2.1.2.2.1, ()) : Int × Int × Int × Unit), ((x1.2.2.1.1, x1.2.2.1.2.1, x1.2.2.1.2.2.1, ()) : Int × Int × Int × Unit), ()) : (Int × Int × Int × Unit) × (Int × Int × Int × Unit) × (Int × Int × Int × Unit) × Unit) : (Int × Int × Int × Unit) × (Int × Int × Int × Unit) × (Int × Int × Int × Unit) × Unit) (Int.toNat d2.1))).2.2.1, ()) : Int × Int × Int × Unit) : Int × Int × Int × Unit) (Int.toNat d3.1))) (0 : Int)) = true) (gd ((!ilt (@id Int (arrGet (3 : Nat) (Ty.int IntKind.i64) ((((@id (Int × Int × Int × Unit) (arrGet (3 : Nat) (Ty.prod (Ty.int IntKind.i64) (Ty.prod (Ty.int IntKind.i64) (Ty.prod (Ty.int IntKind.i64) Ty.unit))) (((((x1.1.1, x1.1.2.1, x1.1.2.2.1, ()) : Int × Int × Int × Unit), ((x1.2.1.1, x1.2.1.2.1, x1.2.1.2.2.1, ()) : Int × Int × Int × Unit), ((x1.2.2.1.1, x1.2.2.1.2.1, x1.2.2.1.2.2.1, ()) : Int × Int × Int × Unit), ()) : (Int × Int × Int × Unit) × (Int × Int × Int × Unit) × (Int × Int × Int × Unit) × Unit) : (Int × Int × Int × Unit) × (Int × Int × Int × Unit) × (Int × Int × Int × Unit) × Unit) (Int.toNat d2.1))).1, (@id (Int × Int × Int × Unit) (arrGet (3 : Nat) (Ty.prod (Ty.int IntKind.i64) (Ty.prod (Ty.int IntKind.i64) (Ty.prod (Ty.int IntKind.i64) Ty.unit))) (((((x1.1.1, x1.1.2.1, x1.1.2.2.1, ()) : Int × Int × Int × Unit), ((x1.2.1.1, x1.2.1.2.1, x1.2.1.2.2.1, ()) : Int × Int × Int × Unit), ((x1.2.2.1.1, x1.2.2.1.2.1, x1.2.2.1.2.2.1, ()) : Int × Int × Int × Unit), ()) : (Int × Int × Int × Unit) × (Int × Int × Int × Unit) × (Int × Int × Int × Unit) × Unit) : (Int × Int × Int × Unit) × (Int × Int × Int × Unit) × (Int × Int × Int × Unit) × Unit) (Int.toNat d2.1))).2.1, (@id (Int × Int × Int × Unit) (arrGet (3 : Nat) (Ty.prod (Ty.int IntKind.i64) (Ty.prod (Ty.int IntKind.i64) (Ty.prod (Ty.int IntKind.i64) Ty.unit))) (((((x1.1.1, x1.1.2.1, x1.1.2.2.1, ()) : Int × Int × Int × Unit), ((x1.2.1.1, x1.2.1.2.1, x1.2.1.2.2.1, ()) : Int × Int × Int × Unit), ((x1.2.2.1.1, x1.2.2.1.2.1, x1.2.2.1.2.2.1, ()) : Int × Int × Int × Unit), ()) : (Int × Int × Int × Unit) × (Int × Int × Int × Unit) × (Int × Int × Int × Unit) × Unit) : (Int × Int × Int × Unit) × (Int × Int × Int × Unit) × (Int × Int × Int × Unit) × Unit) (Int.toNat d2.1))).2.2.1, ()) : Int × Int × Int × Unit) : Int × Int × Int × Unit) (Int.toNat d3.1))) (0 : Int)) = true → (!ilt (@id Int (arrGet (3 : Nat) (Ty.int IntKind.i64) ((((@id (Int × Int × Int × Unit) (arrGet (3 : Nat) (Ty.prod (Ty.int IntKind.i64) (Ty.prod (Ty.int IntKind.i64) (Ty.prod (Ty.int IntKind.i64) Ty.unit))) (((((x1.1.1, x1.1.2.1, x1.1.2.2.1, ()) : Int × Int × Int × Unit), ((x1.2.1.1, x1.2.1.2.1, x1.2.1.2.2.1, ()) : Int × Int × Int × Unit), ((x1.2.2.1.1, x1.2.2.1.2.1, x1.2.2.1.2.2.1, ()) : Int × Int × Int × Unit), ()) : (Int × Int × Int × Unit) × (Int × Int × Int × Unit) × (Int × Int × Int × Unit) × Unit) : (Int × Int × Int × Unit) × (Int × Int × Int × Unit) × (Int × Int × Int × Unit) × Unit) (Int.toNat d2.1))).1, (@id (Int × Int × Int × Unit) (arrGet (3 : Nat) (Ty.prod (Ty.int IntKind.i64) (Ty.prod (Ty.int IntKind.i64) (Ty.prod (Ty.int IntKind.i64) Ty.unit))) (((((x1.1.1, x1.1.2.1, x1.1.2.2.1, ()) : Int × Int × Int × Unit), ((x1.2.1.1, x1.2.1.2.1, x1.2.1.2.2.1, ()) : Int × Int × Int × Unit), ((x1.2.2.1.1, x1.2.2.1.2.1, x1.2.2.1.2.2.1, ()) : Int × Int × Int × Unit), ()) : (Int × Int × Int × Unit) × (Int × Int × Int × Unit) × (Int × Int × Int × Unit) × Unit) : (Int × Int × Int × Unit) × (Int × Int × Int × Unit) × (Int × Int × Int × Unit) × Unit) (Int.toNat d2.1))).2.1, (@id (Int × Int × Int × Unit) (arrGet (3 : Nat) (Ty.prod (Ty.int IntKind.i64) (Ty.prod (Ty.int IntKind.i64) (Ty.prod (Ty.int IntKind.i64) Ty.unit))) (((((x1.1.1, x1.1.2.1, x1.1.2.2.1, ()) : Int × Int × Int × Unit), ((x1.2.1.1, x1.2.1.2.1, x1.2.1.2.2.1, ()) : Int × Int × Int × Unit), ((x1.2.2.1.1, x1.2.2.1.2.1, x1.2.2.1.2.2.1, ()) : Int × Int × Int × Unit), ()) : (Int × Int × Int × Unit) × (Int × Int × Int × Unit) × (Int × Int × Int × Unit) × Unit) : (Int × Int × Int × Unit) × (Int × Int × Int × Unit) × (Int × Int × Int × Unit) × Unit) (Int.toNat d2.1))).2.2.1, ()) : Int × Int × Int × Unit) : Int × Int × Int × Unit) (Int.toNat d3.1))) (0 : Int)) = true) (gd ((!ilt (@id Int (arrGet (3 : Nat) (Ty.int IntKind.i64) ((((@id (Int × Int × Int × Unit) (arrGet (3 : Nat) (Ty.prod (Ty.int IntKind.i64) (Ty.prod (Ty.int IntKind.i64) (Ty.prod (Ty.int IntKind.i64) Ty.unit))) (((((x1.1.1, x1.1.2.1, x1.1.2.2.1, ()) : Int × Int × Int × Unit), ((x1.2.1.1, x1.2.1.2.1, x1.2.1.2.2.1, ()) : Int × Int × Int × Unit), ((x1.2.2.1.1, x1.2.2.1.2.1, x1.2.2.1.2.2.1, ()) : Int × Int × Int × Unit), ()) : (Int × Int × Int × Unit) × (Int × Int × Int × Unit) × (Int × Int × Int × Unit) × Unit) : (Int × Int × Int × Unit) × (Int × Int × Int × Unit) × (Int × Int × Int × Unit) × Unit) (Int.toNat d2.1))).1, (@id (Int × Int × Int × Unit) (arrGet (3 : Nat) (Ty.prod (Ty.int IntKind.i64) (Ty.prod (Ty.int IntKind.i64) (Ty.prod (Ty.int IntKind.i64) Ty.unit))) (((((x1.1.1, x1.1.2.1, x1.1.2.2.1, ()) : Int × Int × Int × Unit), ((x1.2.1.1, x1.2.1.2.1, x1.2.1.2.2.1, ()) : Int × Int × Int × Unit), ((x1.2.2.1.1, x1.2.2.1.2.1, x1.2.2.1.2.2.1, ()) : Int × Int × Int × Unit), ()) : (Int × Int × Int × Unit) × (Int × Int × Int × Unit) × (Int × Int × Int × Unit) × Unit) : (Int × Int × Int × Unit) × (Int × Int × Int × Unit) × (Int × Int × Int × Unit) × Unit) (Int.toNat d2.1))).2.1, (@id (Int × Int × Int × Unit) (arrGet (3 : Nat) (Ty.prod (Ty.int IntKind.i64) (Ty.prod (Ty.int IntKind.i64) (Ty.prod (Ty.int IntKind.i64) Ty.unit))) (((((x1.1.1, x1.1.2.1, x1.1.2.2.1, ()) : Int × Int × Int × Unit), ((x1.2.1.1, x1.2.1.2.1, x1.2.1.2.2.1, ()) : Int × Int × Int × Unit), ((x1.2.2.1.1, x1.2.2.1.2.1, x1.2.2.1.2.2.1, ()) : Int × Int × Int × Unit), ()) : (Int × Int × Int × Unit) × (Int × Int × Int × Unit) × (Int × Int × Int × Unit) × Unit) : (Int × Int × Int × Unit) × (Int × Int × Int × Unit) × (Int × Int × Int × Unit) × Unit) (Int.toNat d2.1))).2.2.1, ()) : Int × Int × Int × Unit) : Int × Int × Int × Unit) (Int.toNat d3.1))) (0 : Int)) = true → (!ilt (@id Int (arrGet (3 : Nat) (Ty.int IntKind.i64) ((((@id (Int × Int × Int × Unit) (arrGet (3 : Nat) (Ty.prod (Ty.int IntKind.i64) (Ty.prod (Ty.int IntKind.i64) (Ty.prod (Ty.int IntKind.i64) Ty.unit))) (((((x1.1.1, x1.1.2.1, x1.1.2.2.1, ()) : Int × Int × Int × Unit), ((x1.2.1.1, x1.2.1.2.1, x1.2.1.2.2.1, ()) : Int × Int × Int × Unit), ((x1.2.2.1.1, x1.2.2.1.2.1, x1.2.2.1.2.2.1, ()) : Int × Int × Int × Unit), ()) : (Int × Int × Int × Unit) × (Int × Int × Int × Unit) × (Int × Int × Int × Unit) × Unit) : (Int × Int × Int × Unit) × (Int × Int × Int × Unit) × (Int × Int × Int × Unit) × Unit) (Int.toNat d2.1))).1, (@id (Int × Int × Int × Unit) (arrGet (3 : Nat) (Ty.prod (Ty.int IntKind.i64) (Ty.prod (Ty.int IntKind.i64) (Ty.prod (Ty.int IntKind.i64) Ty.unit))) (((((x1.1.1, x1.1.2.1, x1.1.2.2.1, ()) : Int × Int × Int × Unit), ((x1.2.1.1, x1.2.1.2.1, x1.2.1.2.2.1, ()) : Int × Int × Int × Unit), ((x1.2.2.1.1, x1.2.2.1.2.1, x1.2.2.1.2.2.1, ()) : Int × Int × Int × Unit), ()) : (Int × Int × Int × Unit) × (Int × Int × Int × Unit) × (Int × Int × Int × Unit) × Unit) : (Int × Int × Int × Unit) × (Int × Int × Int × Unit) × (Int × Int × Int × Unit) × Unit) (Int.toNat d2.1))).2.1, (@id (Int × Int × Int × Unit) (arrGet (3 : Nat) (Ty.prod (Ty.int IntKind.i64) (Ty.prod (Ty.int IntKind.i64) (Ty.prod (Ty.int IntKind.i64) Ty.unit))) (((((x1.1.1, x1.1.2.1, x1.1.2.2.1, ()) : Int × Int × Int × Unit), ((x1.2.1.1, x1.2.1.2.1, x1.2.1.2.2.1, ()) : Int × Int × Int × Unit), ((x1.2.2.1.1, x1.2.2.1.2.1, x1.2.2.1.2.2.1, ()) : Int × Int × Int × Unit), ()) : (Int × Int × Int × Unit) × (Int × Int × Int × Unit) × (Int × Int × Int × Unit) × Unit) : (Int × Int × Int × Unit) × (Int × Int × Int × Unit) × (Int × Int × Int × Unit) × Unit) (Int.toNat d2.1))).2.2.1, ()) : Int × Int × Int × Unit) : Int × Int × Int × Unit) (Int.toNat d3.1))) (0 : Int)) = true ∧ (!ilt (@id Int (arrGet (3 : Nat) (Ty.int IntKind.i64) ((((@id (Int × Int × Int × Unit) (arrGet (3 : Nat) (Ty.prod (Ty.int IntKind.i64) (Ty.prod (Ty.int IntKind.i64) (Ty.prod (Ty.int IntKind.i64) Ty.unit))) (((((x1.1.1, x1.1.2.1, x1.1.2.2.1, ()) : Int × Int × Int × Unit), ((x1.2.1.1, x1.2.1.2.1, x1.2.1.2.2.1, ()) : Int × Int × Int × Unit), ((x1.2.2.1.1, x1.2.2.1.2.1, x1.2.2.1.2.2.1, ()) : Int × Int × Int × Unit), ()) : (Int × Int × Int × Unit) × (Int × Int × Int × Unit) × (Int × Int × Int × Unit) × Unit) : (Int × Int × Int × Unit) × (Int × Int × Int × Unit) × (Int × Int × Int × Unit) × Unit) (Int.toNat d2.1))).1, (@id (Int × Int × Int × Unit) (arrGet (3 : Nat) (Ty.prod (Ty.int IntKind.i64) (Ty.prod (Ty.int IntKind.i64) (Ty.prod (Ty.int IntKind.i64) Ty.unit))) (((((x1.1.1, x1.1.2.1, x1.1.2.2.1, ()) : Int × Int × Int × Unit), ((x1.2.1.1, x1.2.1.2.1, x1.2.1.2.2.1, ()) : Int × Int × Int × Unit), ((x1.2.2.1.1, x1.2.2.1.2.1, x1.2.2.1.2.2.1, ()) : Int × Int × Int × Unit), ()) : (Int × Int × Int × Unit) × (Int × Int × Int × Unit) × (Int × Int × Int × Unit) × Unit) : (Int × Int × Int × Unit) × (Int × Int × Int × Unit) × (Int × Int × Int × Unit) × Unit) (Int.toNat d2.1))).2.1, (@id (Int × Int × Int × Unit) (arrGet (3 : Nat) (Ty.prod (Ty.int IntKind.i64) (Ty.prod (Ty.int IntKind.i64) (Ty.prod (Ty.int IntKind.i64) Ty.unit))) (((((x1.1.1, x1.1.2.1, x1.1.2.2.1, ()) : Int × Int × Int × Unit), ((x1.2.1.1, x1.2.1.2.1, x1.2.1.2.2.1, ()) : Int × Int × Int × Unit), ((x1.2.2.1.1, x1.2.2.1.2.1, x1.2.2.1.2.2.1, ()) : Int × Int × Int × Unit), ()) : (Int × Int × Int × Unit) × (Int × Int × Int × Unit) × (Int × Int × Int × Unit) × Unit) : (Int × Int × Int × Unit) × (Int × Int × Int × Unit) × (Int × Int × Int × Unit) × Unit) (Int.toNat d2.1))).2.2.1, ()) : Int × Int × Int × Unit) : Int × Int × Int × Unit) (Int.toNat d3.1))) (0 : Int)) = true) (gd (ilt (@id Int (arrGet (3 : Nat) (Ty.int IntKind.i64) ((((@id (Int × Int × Int × Unit) (arrGet (3 : Nat) (Ty.prod (Ty.int IntKind.i64) (Ty.prod (Ty.int IntKind.i64) (Ty.prod (Ty.int IntKind.i64) Ty.unit))) (((((x1.1.1, x1.1.2.1, x1.1.2.2.1, ()) : Int × Int × Int × Unit), ((x1.2.1.1, x1.2.1.2.1, x1.2.1.2.2.1, ()) : Int × Int × Int × Unit), ((x1.2.2.1.1, x1.2.2.1.2.1, x1.2.2.1.2.2.1, ()) : Int × Int × Int × Unit), ()) : (Int × Int × Int × Unit) × (Int × Int × Int × Unit) × (Int × Int × Int × Unit) × Unit) : (Int × Int × Int × Unit) × (Int × Int × Int × Unit) × (Int × Int × Int × Unit) × Unit) (Int.toNat d2.1))).1, (@id (Int × Int × Int × Unit) (arrGet (3 : Nat) (Ty.prod (Ty.int IntKind.i64) (Ty.prod (Ty.int IntKind.i64) (Ty.prod (Ty.int IntKind.i64) Ty.unit))) (((((x1.1.1, x1.1.2.1, x1.1.2.2.1, ()) : Int × Int × Int × Unit), ((x1.2.1.1, x1.2.1.2.1, x1.2.1.2.2.1, ()) : Int × Int × Int × Unit), ((x1.2.2.1.1, x1.2.2.1.2.1, x1.2.2.1.2.2.1, ()) : Int × Int × Int × Unit), ()) : (Int × Int × Int × Unit) × (Int × Int × Int × Unit) × (Int × Int × Int × Unit) × Unit) : (Int × Int × Int × Unit) × (Int × Int × Int × Unit) × (Int × Int × Int × Unit) × Unit) (Int.toNat d2.1))).2.1, (@id (Int × Int × Int × Unit) (arrGet (3 : Nat) (Ty.prod (Ty.int IntKind.i64) (Ty.prod (Ty.int IntKind.i64) (Ty.prod (Ty.int IntKind.i64) Ty.unit))) (((((x1.1.1, x1.1.2.1, x1.1.2.2.1, ()) : Int × Int × Int × Unit), ((x1.2.1.1, x1.2.1.2.1, x1.2.1.2.2.1, ()) : Int × Int × Int × Unit), ((x1.2.2.1.1, x1.2.2.1.2.1, x1.2.2.1.2.2.1, ()) : Int × Int × Int × Unit), ()) : (Int × Int × Int × Unit) × (Int × Int × Int × Unit) × (Int × Int × Int × Unit) × Unit) : (Int × Int × Int × Unit) × (Int × Int × Int × Unit) × (Int × Int × Int × Unit) × Unit) (Int.toNat d2.1))).2.2.1, ()) : Int × Int × Int × Unit) : Int × Int × Int × Unit) (Int.toNat d3.1))) (0 : Int) = false → (!ilt (@id Int (arrGet (3 : Nat) (Ty.int IntKind.i64) ((((@id (Int × Int × Int × Unit) (arrGet (3 : Nat) (Ty.prod (Ty.int IntKind.i64) (Ty.prod (Ty.int IntKind.i64) (Ty.prod (Ty.int IntKind.i64) Ty.unit))) (((((x1.1.1, x1.1.2.1, x1.1.2.2.1, ()) : Int × Int × Int × Unit), ((x1.2.1.1, x1.2.1.2.1, x1.2.1.2.2.1, ()) : Int × Int × Int × Unit), ((x1.2.2.1.1, x1.2.2.1.2.1, x1.2.2.1.2.2.1, ()) : Int × Int × Int × Unit), ()) : (Int × Int × Int × Unit) × (Int × Int × Int × Unit) × (Int × Int × Int × Unit) × Unit) : (Int × Int × Int × Unit) × (Int × Int × Int × Unit) × (Int × Int × Int × Unit) × Unit) (Int.toNat d2.1))).1, (@id (Int × Int × Int × Unit) (arrGet (3 : Nat) (Ty.prod (Ty.int IntKind.i64) (Ty.prod (Ty.int IntKind.i64) (Ty.prod (Ty.int IntKind.i64) Ty.unit))) (((((x1.1.1, x1.1.2.1, x1.1.2.2.1, ()) : Int × Int × Int × Unit), ((x1.2.1.1, x1.2.1.2.1, x1.2.1.2.2.1, ()) : Int × Int × Int × Unit), ((x1.2.2.1.1, x1.2.2.1.2.1, x1.2.2.1.2.2.1, ()) : Int × Int × Int × Unit), ()) : (Int × Int × Int × Unit) × (Int × Int × Int × Unit) × (Int × Int × Int × Unit) × Unit) : (Int × Int × Int × Unit) × (Int × Int × Int × Unit) × (Int × Int × Int × Unit) × Unit) (Int.toNat d2.1))).2.1, (@id (Int × Int × Int × Unit) (arrGet (3 : Nat) (Ty.prod (Ty.int IntKind.i64) (Ty.prod (Ty.int IntKind.i64) (Ty.prod (Ty.int IntKind.i64) Ty.unit))) (((((x1.1.1, x1.1.2.1, x1.1.2.2.1, ()) : Int × Int × Int × Unit), ((x1.2.1.1, x1.2.1.2.1, x1.2.1.2.2.1, ()) : Int × Int × Int × Unit), ((x1.2.2.1.1, x1.2.2.1.2.1, x1.2.2.1.2.2.1, ()) : Int × Int × Int × Unit), ()) : (Int × Int × Int × Unit) × (Int × Int × Int × Unit) × (Int × Int × Int × Unit) × Unit) : (Int × Int × Int × Unit) × (Int × Int × Int × Unit) × (Int × Int × Int × Unit) × Unit) (Int.toNat d2.1))).2.2.1, ()) : Int × Int × Int × Unit) : Int × Int × Int × Unit) (Int.toNat d3.1))) (0 : Int)) = true) (bif bif ilt (@id Int (arrGet (3 : Nat) (Ty.int IntKind.i64) ((((@id (Int × Int × Int × Unit) (arrGet (3 : Nat) (Ty.prod (Ty.int IntKind.i64) (Ty.prod (Ty.int IntKind.i64) (Ty.prod (Ty.int IntKind.i64) Ty.unit))) (((((x1.1.1, x1.1.2.1, x1.1.2.2.1, ()) : Int × Int × Int × Unit), ((x1.2.1.1, x1.2.1.2.1, x1.2.1.2.2.1, ()) : Int × Int × Int × Unit), ((x1.2.2.1.1, x1.2.2.1.2.1, x1.2.2.1.2.2.1, ()) : Int × Int × Int × Unit), ()) : (Int × Int × Int × Unit) × (Int × Int × Int × Unit) × (Int × Int × Int × Unit) × Unit) : (Int × Int × Int × Unit) × (Int × Int × Int × Unit) × (Int × Int × Int × Unit) × Unit) (Int.toNat d2.1))).1, (@id (Int × Int × Int × Unit) (arrGet (3 : Nat) (Ty.prod (Ty.int IntKind.i64) (Ty.prod (Ty.int IntKind.i64) (Ty.prod (Ty.int IntKind.i64) Ty.unit))) (((((x1.1.1, x1.1.2.1, x1.1.2.2.1, ()) : Int × Int × Int × Unit), ((x1.2.1.1, x1.2.1.2.1, x1.2.1.2.2.1, ()) : Int × Int × Int × Unit), ((x1.2.2.1.1, x1.2.2.1.2.1, x1.2.2.1.2.2.1, ()) : Int × Int × Int × Unit), ()) : (Int × Int × Int × Unit) × (Int × Int × Int × Unit) × (Int × Int × Int × Unit) × Unit) : (Int × Int × Int × Unit) × (Int × Int × Int × Unit) × (Int × Int × Int × Unit) × Unit) (Int.toNat d2.1))).2.1, (@id (Int × Int × Int × Unit) (arrGet (3 : Nat) (Ty.prod (Ty.int IntKind.i64) (Ty.prod (Ty.int IntKind.i64) (Ty.prod (Ty.int IntKind.i64) Ty.unit))) (((((x1.1.1, x1.1.2.1, x1.1.2.2.1, ()) : Int × Int × Int × Unit), ((x1.2.1.1, x1.2.1.2.1, x1.2.1.2.2.1, ()) : Int × Int × Int × Unit), ((x1.2.2.1.1, x1.2.2.1.2.1, x1.2.2.1.2.2.1, ()) : Int × Int × Int × Unit), ()) : (Int × Int × Int × Unit) × (Int × Int × Int × Unit) × (Int × Int × Int × Unit) × Unit) : (Int × Int × Int × Unit) × (Int × Int × Int × Unit) × (Int × Int × Int × Unit) × Unit) (Int.toNat d2.1))).2.2.1, ()) : Int × Int × Int × Unit) : Int × Int × Int × Unit) (Int.toNat d3.1))) (0 : Int) then true else ile x0.1 (@id Int (arrGet (3 : Nat) (Ty.int IntKind.i64) ((((@id (Int × Int × Int × Unit) (arrGet (3 : Nat) (Ty.prod (Ty.int IntKind.i64) (Ty.prod (Ty.int IntKind.i64) (Ty.prod (Ty.int IntKind.i64) Ty.unit))) (((((x1.1.1, x1.1.2.1, x1.1.2.2.1, ()) : Int × Int × Int × Unit), ((x1.2.1.1, x1.2.1.2.1, x1.2.1.2.2.1, ()) : Int × Int × Int × Unit), ((x1.2.2.1.1, x1.2.2.1.2.1, x1.2.2.1.2.2.1, ()) : Int × Int × Int × Unit), ()) : (Int × Int × Int × Unit) × (Int × Int × Int × Unit) × (Int × Int × Int × Unit) × Unit) : (Int × Int × Int × Unit) × (Int × Int × Int × Unit) × (Int × Int × Int × Unit) × Unit) (Int.toNat d2.1))).1, (@id (Int × Int × Int × Unit) (arrGet (3 : Nat) (Ty.prod (Ty.int IntKind.i64) (Ty.prod (Ty.int IntKind.i64) (Ty.prod (Ty.int IntKind.i64) Ty.unit))) (((((x1.1.1, x1.1.2.1, x1.1.2.2.1, ()) : Int × Int × Int × Unit), ((x1.2.1.1, x1.2.1.2.1, x1.2.1.2.2.1, ()) : Int × Int × Int × Unit), ((x1.2.2.1.1, x1.2.2.1.2.1, x1.2.2.1.2.2.1, ()) : Int × Int × Int × Unit), ()) : (Int × Int × Int × Unit) × (Int × Int × Int × Unit) × (Int × Int × Int × Unit) × Unit) : (Int × Int × Int × Unit) × (Int × Int × Int × Unit) × (Int × Int × Int × Unit) × Unit) (Int.toNat d2.1))).2.1, (@id (Int × Int × Int × Unit) (arrGet (3 : Nat) (Ty.prod (Ty.int IntKind.i64) (Ty.prod (Ty.int IntKind.i64) (Ty.prod (Ty.int IntKind.i64) Ty.unit))) (((((x1.1.1, x1.1.2.1, x1.1.2.2.1, ()) : Int × Int × Int × Unit), ((x1.2.1.1, x1.2.1.2.1, x1.2.1.2.2.1, ()) : Int × Int × Int × Unit), ((x1.2.2.1.1, x1.2.2.1.2.1, x1.2.2.1.2.2.1, ()) : Int × Int × Int × Unit), ()) : (Int × Int × Int × Unit) × (Int × Int × Int × Unit) × (Int × Int × Int × Unit) × Unit) : (Int × Int × Int × Unit) × (Int × Int × Int × Unit) × (Int × Int × Int × Unit) × Unit) (Int.toNat d2.1))).2.2.1, ()) : Int × Int × Int × Unit) : Int × Int × Int × Unit) (Int.toNat d3.1))) then some (Lp.out (Lp.out ((false, ()) : Bool × Unit))) else some (Lp.go ((wr IntKind.i64 (d3.1 + (1 : Int)), d3.2.1, ()) : Int × List Int × Unit)))))))) else some (Lp.out (Lp.go ((wr IntKind.i64 (d2.1 + (1 : Int)), d3.2.1, ()) : Int × List Int × Unit)))
noncomputable def g82 (x0 : Int × List (Int × Int × Int × Unit) × List ((Int × Int × Int × Unit) × Int) × Unit) (x1 : (Int × Int × Int × Unit) × (Int × Int × Int × Unit) × (Int × Int × Int × Unit) × Unit) : Option (Bool × Unit) := gd ((9 : Nat) ≤ (9 : Nat)) (whileO (fun (d2 : Int × List Int × Unit) => bif ilt d2.1 (3 : Int) then gd ((0 : Int) ≤ d2.1 ∧ d2.1 < (3 : Int)) (gd ((3 : Nat) ≤ (3 : Nat)) (gd ((3 : Nat) ≤ (3 : Nat)) (whileO (g82_l0 x0 x1 d2) (((0 : Int), d2.2.1, ()) : Int × List Int × Unit)))) else gd ((9 : Nat) ≤ List.length d2.2.1) (gd (isP x0.1) (gd (inM x0.1 ((((List.getD d2.2.1 (0 : Nat) (0 : Int), List.getD d2.2.1 (1 : Nat) (0 : Int), List.getD d2.2.1 (2 : Nat) (0 : Int), ()) : Int × Int × Int × Unit), ((List.getD d2.2.1 (3 : Nat) (0 : Int), List.getD d2.2.1 (4 : Nat) (0 : Int), List.getD d2.2.1 (5 : Nat) (0 : Int), ()) : Int × Int × Int × Unit), ((List.getD d2.2.1 (6 : Nat) (0 : Int), List.getD d2.2.1 (7 : Nat) (0 : Int), List.getD d2.2.1 (8 : Nat) (0 : Int), ()) : Int × Int × Int × Unit), ()) : (Int × Int × Int × Unit) × (Int × Int × Int × Unit) × (Int × Int × Int × Unit) × Unit)) (gd ((!ieq (detF x0.1 ((((List.getD d2.2.1 (0 : Nat) (0 : Int), List.getD d2.2.1 (1 : Nat) (0 : Int), List.getD d2.2.1 (2 : Nat) (0 : Int), ()) : Int × Int × Int × Unit), ((List.getD d2.2.1 (3 : Nat) (0 : Int), List.getD d2.2.1 (4 : Nat) (0 : Int), List.getD d2.2.1 (5 : Nat) (0 : Int), ()) : Int × Int × Int × Unit), ((List.getD d2.2.1 (6 : Nat) (0 : Int), List.getD d2.2.1 (7 : Nat) (0 : Int), List.getD d2.2.1 (8 : Nat) (0 : Int), ()) : Int × Int × Int × Unit), ()) : (Int × Int × Int × Unit) × (Int × Int × Int × Unit) × (Int × Int × Int × Unit) × Unit)) (0 : Int)) = true → (9 : Nat) ≤ List.length d2.2.1) (gd ((!ieq (detF x0.1 ((((List.getD d2.2.1 (0 : Nat) (0 : Int), List.getD d2.2.1 (1 : Nat) (0 : Int), List.getD d2.2.1 (2 : Nat) (0 : Int), ()) : Int × Int × Int × Unit), ((List.getD d2.2.1 (3 : Nat) (0 : Int), List.getD d2.2.1 (4 : Nat) (0 : Int), List.getD d2.2.1 (5 : Nat) (0 : Int), ()) : Int × Int × Int × Unit), ((List.getD d2.2.1 (6 : Nat) (0 : Int), List.getD d2.2.1 (7 : Nat) (0 : Int), List.getD d2.2.1 (8 : Nat) (0 : Int), ()) : Int × Int × Int × Unit), ()) : (Int × Int × Int × Unit) × (Int × Int × Int × Unit) × (Int × Int × Int × Unit) × Unit)) (0 : Int)) = true → (!ieq (detF x0.1 ((((List.getD d2.2.1 (0 : Nat) (0 : Int), List.getD d2.2.1 (1 : Nat) (0 : Int), List.getD d2.2.1 (2 : Nat) (0 : Int), ()) : Int × Int × Int × Unit), ((List.getD d2.2.1 (3 : Nat) (0 : Int), List.getD d2.2.1 (4 : Nat) (0 : Int), List.getD d2.2.1 (5 : Nat) (0 : Int), ()) : Int × Int × Int × Unit), ((List.getD d2.2.1 (6 : Nat) (0 : Int), List.getD d2.2.1 (7 : Nat) (0 : Int), List.getD d2.2.1 (8 : Nat) (0 : Int), ()) : Int × Int × Int × Unit), ()) : (Int × Int × Int × Unit) × (Int × Int × Int × Unit) × (Int × Int × Int × Unit) × Unit)) (0 : Int)) = true ∧ (!ieq (detF x0.1 ((((List.getD d2.2.1 (0 : Nat) (0 : Int), List.getD d2.2.1 (1 : Nat) (0 : Int), List.getD d2.2.1 (2 : Nat) (0 : Int), ()) : Int × Int × Int × Unit), ((List.getD d2.2.1 (3 : Nat) (0 : Int), List.getD d2.2.1 (4 : Nat) (0 : Int), List.getD d2.2.1 (5 : Nat) (0 : Int), ()) : Int × Int × Int × Unit), ((List.getD d2.2.1 (6 : Nat) (0 : Int), List.getD d2.2.1 (7 : Nat) (0 : Int), List.getD d2.2.1 (8 : Nat) (0 : Int), ()) : Int × Int × Int × Unit), ()) : (Int × Int × Int × Unit) × (Int × Int × Int × Unit) × (Int × Int × Int × Unit) × Unit)) (0 : Int)) = true ∧ isP x0.1 ∧ inM x0.1 ((((List.getD d2.2.1 (0 : Nat) (0 : Int), List.getD d2.2.1 (1 : Nat) (0 : Int), List.getD d2.2.1 (2 : Nat) (0 : Int), ()) : Int × Int × Int × Unit), ((List.getD d2.2.1 (3 : Nat) (0 : Int), List.getD d2.2.1 (4 : Nat) (0 : Int), List.getD d2.2.1 (5 : Nat) (0 : Int), ()) : Int × Int × Int × Unit), ((List.getD d2.2.1 (6 : Nat) (0 : Int), List.getD d2.2.1 (7 : Nat) (0 : Int), List.getD d2.2.1 (8 : Nat) (0 : Int), ()) : Int × Int × Int × Unit), ()) : (Int × Int × Int × Unit) × (Int × Int × Int × Unit) × (Int × Int × Int × Unit) × Unit)) (gd ((!ieq (detF x0.1 ((((List.getD d2.2.1 (0 : Nat) (0 : Int), List.getD d2.2.1 (1 : Nat) (0 : Int), List.getD d2.2.1 (2 : Nat) (0 : Int), ()) : Int × Int × Int × Unit), ((List.getD d2.2.1 (3 : Nat) (0 : Int), List.getD d2.2.1 (4 : Nat) (0 : Int), List.getD d2.2.1 (5 : Nat) (0 : Int), ()) : Int × Int × Int × Unit), ((List.getD d2.2.1 (6 : Nat) (0 : Int), List.getD d2.2.1 (7 : Nat) (0 : Int), List.getD d2.2.1 (8 : Nat) (0 : Int), ()) : Int × Int × Int × Unit), ()) : (Int × Int × Int × Unit) × (Int × Int × Int × Unit) × (Int × Int × Int × Unit) × Unit)) (0 : Int)) = true → (9 : Nat) ≤ List.length d2.2.1) (gd ((!ieq (detF x0.1 ((((List.getD d2.2.1 (0 : Nat) (0 : Int), List.getD d2.2.1 (1 : Nat) (0 : Int), List.getD d2.2.1 (2 : Nat) (0 : Int), ()) : Int × Int × Int × Unit), ((List.getD d2.2.1 (3 : Nat) (0 : Int), List.getD d2.2.1 (4 : Nat) (0 : Int), List.getD d2.2.1 (5 : Nat) (0 : Int), ()) : Int × Int × Int × Unit), ((List.getD d2.2.1 (6 : Nat) (0 : Int), List.getD d2.2.1 (7 : Nat) (0 : Int), List.getD d2.2.1 (8 : Nat) (0 : Int), ()) : Int × Int × Int × Unit), ()) : (Int × Int × Int × Unit) × (Int × Int × Int × Unit) × (Int × Int × Int × Unit) × Unit)) (0 : Int)) = true → (!ieq (detF x0.1 ((((List.getD d2.2.1 (0 : Nat) (0 : Int), List.getD d2.2.1 (1 : Nat) (0 : Int), List.getD d2.2.1 (2 : Nat) (0 : Int), ()) : Int × Int × Int × Unit), ((List.getD d2.2.1 (3 : Nat) (0 : Int), List.getD d2.2.1 (4 : Nat) (0 : Int), List.getD d2.2.1 (5 : Nat) (0 : Int), ()) : Int × Int × Int × Unit), ((List.getD d2.2.1 (6 : Nat) (0 : Int), List.getD d2.2.1 (7 : Nat) (0 : Int), List.getD d2.2.1 (8 : Nat) (0 : Int), ()) : Int × Int × Int × Unit), ()) : (Int × Int × Int × Unit) × (Int × Int × Int × Unit) × (Int × Int × Int × Unit) × Unit)) (0 : Int)) = true ∧ (!ieq (detF x0.1 ((((List.getD d2.2.1 (0 : Nat) (0 : Int), List.getD d2.2.1 (1 : Nat) (0 : Int), List.getD d2.2.1 (2 : Nat) (0 : Int), ()) : Int × Int × Int × Unit), ((List.getD d2.2.1 (3 : Nat) (0 : Int), List.getD d2.2.1 (4 : Nat) (0 : Int), List.getD d2.2.1 (5 : Nat) (0 : Int), ()) : Int × Int × Int × Unit), ((List.getD d2.2.1 (6 : Nat) (0 : Int), List.getD d2.2.1 (7 : Nat) (0 : Int), List.getD d2.2.1 (8 : Nat) (0 : Int), ()) : Int × Int × Int × Unit), ()) : (Int × Int × Int × Unit) × (Int × Int × Int × Unit) × (Int × Int × Int × Unit) × Unit)) (0 : Int)) = true) (gd ((!ieq (detF x0.1 ((((List.getD d2.2.1 (0 : Nat) (0 : Int), List.getD d2.2.1 (1 : Nat) (0 : Int), List.getD d2.2.1 (2 : Nat) (0 : Int), ()) : Int × Int × Int × Unit), ((List.getD d2.2.1 (3 : Nat) (0 : Int), List.getD d2.2.1 (4 : Nat) (0 : Int), List.getD d2.2.1 (5 : Nat) (0 : Int), ()) : Int × Int × Int × Unit), ((List.getD d2.2.1 (6 : Nat) (0 : Int), List.getD d2.2.1 (7 : Nat) (0 : Int), List.getD d2.2.1 (8 : Nat) (0 : Int), ()) : Int × Int × Int × Unit), ()) : (Int × Int × Int × Unit) × (Int × Int × Int × Unit) × (Int × Int × Int × Unit) × Unit)) (0 : Int)) = true → (!ieq (detF x0.1 ((((List.getD d2.2.1 (0 : Nat) (0 : Int), List.getD d2.2.1 (1 : Nat) (0 : Int), List.getD d2.2.1 (2 : Nat) (0 : Int), ()) : Int × Int × Int × Unit), ((List.getD d2.2.1 (3 : Nat) (0 : Int), List.getD d2.2.1 (4 : Nat) (0 : Int), List.getD d2.2.1 (5 : Nat) (0 : Int), ()) : Int × Int × Int × Unit), ((List.getD d2.2.1 (6 : Nat) (0 : Int), List.getD d2.2.1 (7 : Nat) (0 : Int), List.getD d2.2.1 (8 : Nat) (0 : Int), ()) : Int × Int × Int × Unit), ()) : (Int × Int × Int × Unit) × (Int × Int × Int × Unit) × (Int × Int × Int × Unit) × Unit)) (0 : Int)) = true) (some (Lp.out ((bif !ieq (detF x0.1 ((((List.getD d2.2.1 (0 : Nat) (0 : Int), List.getD d2.2.1 (1 : Nat) (0 : Int), List.getD d2.2.1 (2 : Nat) (0 : Int), ()) : Int × Int × Int × Unit), ((List.getD d2.2.1 (3 : Nat) (0 : Int), List.getD d2.2.1 (4 : Nat) (0 : Int), List.getD d2.2.1 (5 : Nat) (0 : Int), ()) : Int × Int × Int × Unit), ((List.getD d2.2.1 (6 : Nat) (0 : Int), List.getD d2.2.1 (7 : Nat) (0 : Int), List.getD d2.2.1 (8 : Nat) (0 : Int), ()) : Int × Int × Int × Unit), ()) : (Int × Int × Int × Unit) × (Int × Int × Int × Unit) × (Int × Int × Int × Unit) × Unit)) (0 : Int) then deq (Ty.prod (Ty.prod (Ty.int IntKind.i64) (Ty.prod (Ty.int IntKind.i64) (Ty.prod (Ty.int IntKind.i64) Ty.unit))) (Ty.prod (Ty.prod (Ty.int IntKind.i64) (Ty.prod (Ty.int IntKind.i64) (Ty.prod (Ty.int IntKind.i64) Ty.unit))) (Ty.prod (Ty.prod (Ty.int IntKind.i64) (Ty.prod (Ty.int IntKind.i64) (Ty.prod (Ty.int IntKind.i64) Ty.unit))) Ty.unit))) (lowM x0.1 ((((List.getD d2.2.1 (0 : Nat) (0 : Int), List.getD d2.2.1 (1 : Nat) (0 : Int), List.getD d2.2.1 (2 : Nat) (0 : Int), ()) : Int × Int × Int × Unit), ((List.getD d2.2.1 (3 : Nat) (0 : Int), List.getD d2.2.1 (4 : Nat) (0 : Int), List.getD d2.2.1 (5 : Nat) (0 : Int), ()) : Int × Int × Int × Unit), ((List.getD d2.2.1 (6 : Nat) (0 : Int), List.getD d2.2.1 (7 : Nat) (0 : Int), List.getD d2.2.1 (8 : Nat) (0 : Int), ()) : Int × Int × Int × Unit), ()) : (Int × Int × Int × Unit) × (Int × Int × Int × Unit) × (Int × Int × Int × Unit) × Unit) : MatD) (((((List.getD d2.2.1 (0 : Nat) (0 : Int), List.getD d2.2.1 (1 : Nat) (0 : Int), List.getD d2.2.1 (2 : Nat) (0 : Int), ()) : Int × Int × Int × Unit), ((List.getD d2.2.1 (3 : Nat) (0 : Int), List.getD d2.2.1 (4 : Nat) (0 : Int), List.getD d2.2.1 (5 : Nat) (0 : Int), ()) : Int × Int × Int × Unit), ((List.getD d2.2.1 (6 : Nat) (0 : Int), List.getD d2.2.1 (7 : Nat) (0 : Int), List.getD d2.2.1 (8 : Nat) (0 : Int), ()) : Int × Int × Int × Unit), ()) : (Int × Int × Int × Unit) × (Int × Int × Int × Unit) × (Int × Int × Int × Unit) × Unit) : (Int × Int × Int × Unit) × (Int × Int × Int × Unit) × (Int × Int × Int × Unit) × Unit) else false, ()) : Bool × Unit))))))))))) (((0 : Int), x1.1.1 :: x1.1.2.1 :: x1.1.2.2.1 :: x1.2.1.1 :: x1.2.1.2.1 :: x1.2.1.2.2.1 :: x1.2.2.1.1 :: x1.2.2.1.2.1 :: x1.2.2.1.2.2.1 :: ([] : List Int), ()) : Int × List Int × Unit))
noncomputable def g82_sh : List LSh := LSh.mk (((3, TV.ref (0) (1 : Nat) (0 : Nat) (0 : Nat)) : Nat × TV) :: ((10, TV.v (Ty.int IntKind.i64)) : Nat × TV) :: ([] : List (Nat × TV))) (TB.arr (Ty.int IntKind.i64) false :: ([] : List TB)) :: LSh.mk (((3, TV.ref (0) (1 : Nat) (0 : Nat) (0 : Nat)) : Nat × TV) :: ((14, TV.v (Ty.int IntKind.i64)) : Nat × TV) :: ([] : List (Nat × TV))) (TB.arr (Ty.int IntKind.i64) false :: ([] : List TB)) :: ([] : List LSh)
noncomputable def applyX (p : Int) (m : MatD) (a : Int) : Int × Int × Unit := if isPb p = true ∧ inPt p a = true ∧ isMapF p m = true then (numC p (lowF p (appF p m (pt p a))), 0, ()) else (0, 2, ())
noncomputable def con45 : Con := mkC 45 [.d I64, .d Mat, .d I64] [I64, I64] (fun (p : Int) (m : MatD) (a : Int) => []) (fun (p : Int) (m : MatD) (a : Int) => applyX p m a)
noncomputable def g45 (x0 : Int) (x1 : (Int × Int × Int × Unit) × (Int × Int × Int × Unit) × (Int × Int × Int × Unit) × Unit) (x2 : Int) : Option (Int × Int × Unit) := gd (small (x2 :: ([] : List Int))) (gd ((!!(readF x0 (x2 :: ([] : List Int))).2.1) = true → (9 : Nat) ≤ (9 : Nat)) (gd ((!!(readF x0 (x2 :: ([] : List Int))).2.1) = true → (!!(readF x0 (x2 :: ([] : List Int))).2.1) = true ∧ (!!(readF x0 (x2 :: ([] : List Int))).2.1) = true ∧ Option.isSome (readF x0 (x2 :: ([] : List Int))).1 = true ∧ isP (Option.getD (readF x0 (x2 :: ([] : List Int))).1 (((0 : Int), ([] : List (Int × Int × Int × Unit)), ([] : List ((Int × Int × Int × Unit) × Int)), ()) : Int × List (Int × Int × Int × Unit) × List ((Int × Int × Int × Unit) × Int) × Unit)).1) (gd ((!!(readF x0 (x2 :: ([] : List Int))).2.1) = true → (!!(readF x0 (x2 :: ([] : List Int))).2.1) = true) (gd ((!(readF x0 (x2 :: ([] : List Int))).2.1) = false → (!!(readF x0 (x2 :: ([] : List Int))).2.1) = true) (bif bif !(readF x0 (x2 :: ([] : List Int))).2.1 then true else !isMapF (Option.getD (readF x0 (x2 :: ([] : List Int))).1 (((0 : Int), ([] : List (Int × Int × Int × Unit)), ([] : List ((Int × Int × Int × Unit) × Int)), ()) : Int × List (Int × Int × Int × Unit) × List ((Int × Int × Int × Unit) × Int) × Unit)).1 ((((x1.1.1, x1.1.2.1, x1.1.2.2.1, ()) : Int × Int × Int × Unit), ((x1.2.1.1, x1.2.1.2.1, x1.2.1.2.2.1, ()) : Int × Int × Int × Unit), ((x1.2.2.1.1, x1.2.2.1.2.1, x1.2.2.1.2.2.1, ()) : Int × Int × Int × Unit), ()) : (Int × Int × Int × Unit) × (Int × Int × Int × Unit) × (Int × Int × Int × Unit) × Unit) then some (((0 : Int), (2 : Int), ()) : Int × Int × Unit) else gd (Option.isSome (readF x0 (x2 :: ([] : List Int))).1 = true) (gd ((9 : Nat) ≤ (9 : Nat)) (gd (Option.isSome (readF x0 (x2 :: ([] : List Int))).1 = true) (gd ((0 : Int) ≤ x2 ∧ x2 < (↑(List.length (Option.getD (readF x0 (x2 :: ([] : List Int))).1 (((0 : Int), ([] : List (Int × Int × Int × Unit)), ([] : List ((Int × Int × Int × Unit) × Int)), ()) : Int × List (Int × Int × Int × Unit) × List ((Int × Int × Int × Unit) × Int) × Unit)).2.1) : Int)) (gd (Option.isSome (readF x0 (x2 :: ([] : List Int))).1 = true) (gd (isP (Option.getD (readF x0 (x2 :: ([] : List Int))).1 (((0 : Int), ([] : List (Int × Int × Int × Unit)), ([] : List ((Int × Int × Int × Unit) × Int)), ()) : Int × List (Int × Int × Int × Unit) × List ((Int × Int × Int × Unit) × Int) × Unit)).1) (gd (inM (Option.getD (readF x0 (x2 :: ([] : List Int))).1 (((0 : Int), ([] : List (Int × Int × Int × Unit)), ([] : List ((Int × Int × Int × Unit) × Int)), ()) : Int × List (Int × Int × Int × Unit) × List ((Int × Int × Int × Unit) × Int) × Unit)).1 ((((x1.1.1, x1.1.2.1, x1.1.2.2.1, ()) : Int × Int × Int × Unit), ((x1.2.1.1, x1.2.1.2.1, x1.2.1.2.2.1, ()) : Int × Int × Int × Unit), ((x1.2.2.1.1, x1.2.2.1.2.1, x1.2.2.1.2.2.1, ()) : Int × Int × Int × Unit), ()) : (Int × Int × Int × Unit) × (Int × Int × Int × Unit) × (Int × Int × Int × Unit) × Unit)) (gd (inR (Option.getD (readF x0 (x2 :: ([] : List Int))).1 (((0 : Int), ([] : List (Int × Int × Int × Unit)), ([] : List ((Int × Int × Int × Unit) × Int)), ()) : Int × List (Int × Int × Int × Unit) × List ((Int × Int × Int × Unit) × Int) × Unit)).1 (List.getD (Option.getD (readF x0 (x2 :: ([] : List Int))).1 (((0 : Int), ([] : List (Int × Int × Int × Unit)), ([] : List ((Int × Int × Int × Unit) × Int)), ()) : Int × List (Int × Int × Int × Unit) × List ((Int × Int × Int × Unit) × Int) × Unit)).2.1 (Int.toNat x2) (((0 : Int), (0 : Int), (0 : Int), ()) : Int × Int × Int × Unit))) (gd (Option.isSome (readF x0 (x2 :: ([] : List Int))).1 = true) (gd (isP (Option.getD (readF x0 (x2 :: ([] : List Int))).1 (((0 : Int), ([] : List (Int × Int × Int × Unit)), ([] : List ((Int × Int × Int × Unit) × Int)), ()) : Int × List (Int × Int × Int × Unit) × List ((Int × Int × Int × Unit) × Int) × Unit)).1) (gd (inR (Option.getD (readF x0 (x2 :: ([] : List Int))).1 (((0 : Int), ([] : List (Int × Int × Int × Unit)), ([] : List ((Int × Int × Int × Unit) × Int)), ()) : Int × List (Int × Int × Int × Unit) × List ((Int × Int × Int × Unit) × Int) × Unit)).1 (appF (Option.getD (readF x0 (x2 :: ([] : List Int))).1 (((0 : Int), ([] : List (Int × Int × Int × Unit)), ([] : List ((Int × Int × Int × Unit) × Int)), ()) : Int × List (Int × Int × Int × Unit) × List ((Int × Int × Int × Unit) × Int) × Unit)).1 ((((x1.1.1, x1.1.2.1, x1.1.2.2.1, ()) : Int × Int × Int × Unit), ((x1.2.1.1, x1.2.1.2.1, x1.2.1.2.2.1, ()) : Int × Int × Int × Unit), ((x1.2.2.1.1, x1.2.2.1.2.1, x1.2.2.1.2.2.1, ()) : Int × Int × Int × Unit), ()) : (Int × Int × Int × Unit) × (Int × Int × Int × Unit) × (Int × Int × Int × Unit) × Unit) (List.getD (Option.getD (readF x0 (x2 :: ([] : List Int))).1 (((0 : Int), ([] : List (Int × Int × Int × Unit)), ([] : List ((Int × Int × Int × Unit) × Int)), ()) : Int × List (Int × Int × Int × Unit) × List ((Int × Int × Int × Unit) × Int) × Unit)).2.1 (Int.toNat x2) (((0 : Int), (0 : Int), (0 : Int), ()) : Int × Int × Int × Unit)))) (gd (notO (appF (Option.getD (readF x0 (x2 :: ([] : List Int))).1 (((0 : Int), ([] : List (Int × Int × Int × Unit)), ([] : List ((Int × Int × Int × Unit) × Int)), ()) : Int × List (Int × Int × Int × Unit) × List ((Int × Int × Int × Unit) × Int) × Unit)).1 ((((x1.1.1, x1.1.2.1, x1.1.2.2.1, ()) : Int × Int × Int × Unit), ((x1.2.1.1, x1.2.1.2.1, x1.2.1.2.2.1, ()) : Int × Int × Int × Unit), ((x1.2.2.1.1, x1.2.2.1.2.1, x1.2.2.1.2.2.1, ()) : Int × Int × Int × Unit), ()) : (Int × Int × Int × Unit) × (Int × Int × Int × Unit) × (Int × Int × Int × Unit) × Unit) (List.getD (Option.getD (readF x0 (x2 :: ([] : List Int))).1 (((0 : Int), ([] : List (Int × Int × Int × Unit)), ([] : List ((Int × Int × Int × Unit) × Int)), ()) : Int × List (Int × Int × Int × Unit) × List ((Int × Int × Int × Unit) × Int) × Unit)).2.1 (Int.toNat x2) (((0 : Int), (0 : Int), (0 : Int), ()) : Int × Int × Int × Unit)))) (some ((Option.getD (assoc (Ty.prod (Ty.int IntKind.i64) (Ty.prod (Ty.int IntKind.i64) (Ty.prod (Ty.int IntKind.i64) Ty.unit))) (Ty.int IntKind.i64) ((Option.getD (readF x0 (x2 :: ([] : List Int))).1 (((0 : Int), ([] : List (Int × Int × Int × Unit)), ([] : List ((Int × Int × Int × Unit) × Int)), ()) : Int × List (Int × Int × Int × Unit) × List ((Int × Int × Int × Unit) × Int) × Unit)).2.2.1 : List ((Int × Int × Int × Unit) × Int)) (lowF (Option.getD (readF x0 (x2 :: ([] : List Int))).1 (((0 : Int), ([] : List (Int × Int × Int × Unit)), ([] : List ((Int × Int × Int × Unit) × Int)), ()) : Int × List (Int × Int × Int × Unit) × List ((Int × Int × Int × Unit) × Int) × Unit)).1 (appF (Option.getD (readF x0 (x2 :: ([] : List Int))).1 (((0 : Int), ([] : List (Int × Int × Int × Unit)), ([] : List ((Int × Int × Int × Unit) × Int)), ()) : Int × List (Int × Int × Int × Unit) × List ((Int × Int × Int × Unit) × Int) × Unit)).1 ((((x1.1.1, x1.1.2.1, x1.1.2.2.1, ()) : Int × Int × Int × Unit), ((x1.2.1.1, x1.2.1.2.1, x1.2.1.2.2.1, ()) : Int × Int × Int × Unit), ((x1.2.2.1.1, x1.2.2.1.2.1, x1.2.2.1.2.2.1, ()) : Int × Int × Int × Unit), ()) : (Int × Int × Int × Unit) × (Int × Int × Int × Unit) × (Int × Int × Int × Unit) × Unit) (List.getD (Option.getD (readF x0 (x2 :: ([] : List Int))).1 (((0 : Int), ([] : List (Int × Int × Int × Unit)), ([] : List ((Int × Int × Int × Unit) × Int)), ()) : Int × List (Int × Int × Int × Unit) × List ((Int × Int × Int × Unit) × Int) × Unit)).2.1 (Int.toNat x2) (((0 : Int), (0 : Int), (0 : Int), ()) : Int × Int × Int × Unit))) : TripD)) (0 : Int), (0 : Int), ()) : Int × Int × Unit))))))))))))))))))
noncomputable def g45_sh : List LSh := ([] : List LSh)
end Go.Arcs

set_option linter.unusedVariables false
set_option linter.unusedSimpArgs false
namespace Go.Arcs
open Go Go.Ab Go.Proofs

theorem goal119 : con119.goal Try.prog (spOf []) g119_sh [] lm30 := by
  have e : (∀ (m : MatD) (j : Int), (0 ≤ j ∧ j < 3) → g119 m j = some (colF m j, ())) = con119.goal Try.prog (spOf []) g119_sh [] lm30 := by kernel_rfl
  rw [← e]
  intro m j hj
  have : j = 0 ∨ j = 1 ∨ j = 2 := by omega
  rcases this with rfl | rfl | rfl <;> simp [g119, gd_true, colF]
set_option maxRecDepth 100000 in
theorem ok119 : con119.Ok Try.prog := Con.of_goal mixed okN con119 goal119

theorem col_in {p : Int} {m : MatD} (hm : inM p m) (j : Int) : inR p (colF m j) := by
  obtain ⟨⟨h1, h2, h3⟩, ⟨h4, h5, h6⟩, ⟨h7, h8, h9⟩⟩ := hm
  unfold colF
  split
  · exact ⟨h1, h4, h7⟩
  · split
    · exact ⟨h2, h5, h8⟩
    · exact ⟨h3, h6, h9⟩

theorem goal116 : con116.goal Try.prog (spOf [conCross, conDotC, con119]) g116_sh [] lm30 := by
  have e : (∀ (k : PlaneD) (m : MatD), isP k.1 → inM k.1 m → g116 k m = some (detF k.1 m, ())) = con116.goal Try.prog (spOf [conCross, conDotC, con119]) g116_sh [] lm30 := by kernel_rfl
  rw [← e]
  intro k m hp hm
  have h0 := col_in hm 0
  have h1 := col_in hm 1
  have h2 := col_in hm 2
  have hc := cross_in hp (x := colF m 0) (y := colF m 1)
  obtain ⟨⟨a1, a2, a3, ua⟩, ⟨b1, b2, b3, ub⟩, ⟨c1, c2, c3, uc⟩, um⟩ := m
  cases ua; cases ub; cases uc; cases um
  simp only [g116, gd_true, hp, h0, h1, h2, hc, Nat.le_refl, detF]
  simp [gd_true]
set_option maxRecDepth 100000 in
theorem ok116 : con116.Ok Try.prog := Con.of_goal mixed (okC okCross (okC okDotC (okC ok119 okN))) con116 goal116

theorem goal84 : con84.goal Try.prog (spOf [conDotC]) g84_sh [] lm30 := by
  have e : (∀ (k : PlaneD) (m : MatD) (x : TripD), isP k.1 → inM k.1 m → inR k.1 x → g84 k m x = some (appF k.1 m x, ())) = con84.goal Try.prog (spOf [conDotC]) g84_sh [] lm30 := by kernel_rfl
  rw [← e]
  intro k m x hp hm hx
  obtain ⟨⟨a1, a2, a3, ua⟩, ⟨b1, b2, b3, ub⟩, ⟨c1, c2, c3, uc⟩, um⟩ := m
  obtain ⟨x1, x2, x3, ux⟩ := x
  cases ua; cases ub; cases uc; cases um; cases ux
  obtain ⟨h1, h2, h3⟩ := hm
  simp only at h1 h2 h3
  simp [g84, gd_true, hp, h1, h2, h3, hx, appF]
set_option maxRecDepth 100000 in
theorem ok84 : con84.Ok Try.prog := Con.of_goal mixed (okC okDotC okN) con84 goal84

theorem by_stepF {p b x : Int} {X : Type} {f : Int → Option X} (hp : isP p) (hx : 0 ≤ x ∧ x < p) :
    (bif bif ieq b 0 then !ieq x 0 else false then gd (isP p) (gd (rngP p x) (f (invF p x))) else f b) = f (byF p b x) := by
  unfold byF
  by_cases h1 : b = 0 <;> by_cases h2 : x = 0
  · simp [ieq_d, h1, h2]
  · have : rngP p x := ⟨by omega, hx.2⟩
    simp [ieq_d, h1, h2, gd_true, hp, this]
  · simp [ieq_d, h1, h2]
  · simp [ieq_d, h1, h2]

theorem row87 {k : PlaneD} {m : MatD} {b : Int} {L Z : List Int} {i : Int} (hp : isP k.1) (hm : inM k.1 m) (hi : i = 0 ∨ i = 1 ∨ i = 2) :
    whileO (g87_l0 k m (b, i, L, Z, ())) (b, 0, L, Z, ()) = some (Lp.go (byR k.1 b (if i = 0 then m.1 else if i = 1 then m.2.1 else m.2.2.1), i + 1, L, Z, ())) := by
  obtain ⟨⟨a1, a2, a3, ua⟩, ⟨b1, b2, b3, ub⟩, ⟨c1, c2, c3, uc⟩, um⟩ := m
  cases ua; cases ub; cases uc; cases um
  obtain ⟨⟨h1, h2, h3⟩, ⟨h4, h5, h6⟩, ⟨h7, h8, h9⟩⟩ := hm
  simp only at h1 h2 h3 h4 h5 h6 h7 h8 h9
  have w1 : wr .i64 1 = 1 := by decide
  have w2 : wr .i64 2 = 2 := by decide
  have w3 : wr .i64 3 = 3 := by decide
  rcases hi with rfl | rfl | rfl
  · refine (whileO_go (s' := (byF k.1 b a1, (1 : Int), L, Z, ())) ?_).trans ((whileO_go (s' := (byF k.1 (byF k.1 b a1) a2, (2 : Int), L, Z, ())) ?_).trans ((whileO_go (s' := (byF k.1 (byF k.1 (byF k.1 b a1) a2) a3, (3 : Int), L, Z, ())) ?_).trans (whileO_out ?_)))
    · refine Eq.trans ?_ (by_stepF (f := fun y => some (Lp.go (y, (1 : Int), L, Z, ()))) hp h1)
      simp [g87_l0, gd_true, arrGet, id, ilt, w1]
    · refine Eq.trans ?_ (by_stepF (f := fun y => some (Lp.go (y, (2 : Int), L, Z, ()))) hp h2)
      simp [g87_l0, gd_true, arrGet, id, ilt, w2]
    · refine Eq.trans ?_ (by_stepF (f := fun y => some (Lp.go (y, (3 : Int), L, Z, ()))) hp h3)
      simp [g87_l0, gd_true, arrGet, id, ilt, w3]
    · simp [g87_l0, gd_true, ilt, byR, w1]
  · refine (whileO_go (s' := (byF k.1 b b1, (1 : Int), L, Z, ())) ?_).trans ((whileO_go (s' := (byF k.1 (byF k.1 b b1) b2, (2 : Int), L, Z, ())) ?_).trans ((whileO_go (s' := (byF k.1 (byF k.1 (byF k.1 b b1) b2) b3, (3 : Int), L, Z, ())) ?_).trans (whileO_out ?_)))
    · refine Eq.trans ?_ (by_stepF (f := fun y => some (Lp.go (y, (1 : Int), L, Z, ()))) hp h4)
      simp [g87_l0, gd_true, arrGet, id, ilt, w1]
    · refine Eq.trans ?_ (by_stepF (f := fun y => some (Lp.go (y, (2 : Int), L, Z, ()))) hp h5)
      simp [g87_l0, gd_true, arrGet, id, ilt, w2]
    · refine Eq.trans ?_ (by_stepF (f := fun y => some (Lp.go (y, (3 : Int), L, Z, ()))) hp h6)
      simp [g87_l0, gd_true, arrGet, id, ilt, w3]
    · simp [g87_l0, gd_true, ilt, byR, w2]
  · refine (whileO_go (s' := (byF k.1 b c1, (1 : Int), L, Z, ())) ?_).trans ((whileO_go (s' := (byF k.1 (byF k.1 b c1) c2, (2 : Int), L, Z, ())) ?_).trans ((whileO_go (s' := (byF k.1 (byF k.1 (byF k.1 b c1) c2) c3, (3 : Int), L, Z, ())) ?_).trans (whileO_out ?_)))
    · refine Eq.trans ?_ (by_stepF (f := fun y => some (Lp.go (y, (1 : Int), L, Z, ()))) hp h7)
      simp [g87_l0, gd_true, arrGet, id, ilt, w1]
    · refine Eq.trans ?_ (by_stepF (f := fun y => some (Lp.go (y, (2 : Int), L, Z, ()))) hp h8)
      simp [g87_l0, gd_true, arrGet, id, ilt, w2]
    · refine Eq.trans ?_ (by_stepF (f := fun y => some (Lp.go (y, (3 : Int), L, Z, ()))) hp h9)
      simp [g87_l0, gd_true, arrGet, id, ilt, w3]
    · simp [g87_l0, gd_true, ilt, byR, w3]

theorem byR_rng {p b : Int} {x : TripD} (hp : isP p) (hx : inR p x) (hb : 0 ≤ b ∧ b ≤ 6) : 0 ≤ byR p b x ∧ byR p b x ≤ 6 := by
  have step : ∀ b y, 0 ≤ b ∧ b ≤ 6 → 0 ≤ y ∧ y < p → 0 ≤ byF p b y ∧ byF p b y ≤ 6 := by
    intro b y hb hy
    unfold byF
    split
    · rename_i h
      have := inv_spec hp (n := y) ⟨by omega, hy.2⟩
      exact ⟨by omega, this.2.1⟩
    · exact hb
  exact step _ _ (step _ _ (step _ _ hb hx.1) hx.2.1) hx.2.2

end Go.Arcs

set_option linter.unusedVariables false
set_option linter.unusedSimpArgs false
namespace Go.Arcs
open Go Go.Ab Go.Proofs

theorem mul87 {k : PlaneD} {b : Int} {s0 : Int × List Int × List Int × Unit} {Z : List Int} {l0 l1 l2 l3 l4 l5 l6 l7 l8 : Int} {d2 : Int × Int × List Int × List Int × Unit} (hd : d2.1 = b)
    (h : ∀ y, (y = l0 ∨ y = l1 ∨ y = l2 ∨ y = l3 ∨ y = l4 ∨ y = l5 ∨ y = l6 ∨ y = l7 ∨ y = l8) → modF k.1 (wr .i64 (y * b)) = y * b % k.1) (hk : k.1 ≠ 0) :
    (s0.1 = 0 → whileO (g87_l1 k d2 s0) (0, [l0, l1, l2, l3, l4, l5, l6, l7, l8], Z, ()) = some (Lp.go (1, [l0 * b % k.1, l1 * b % k.1, l2 * b % k.1, l3, l4, l5, l6, l7, l8], Z, ()))) ∧
    (s0.1 = 1 → whileO (g87_l1 k d2 s0) (0, [l0, l1, l2, l3, l4, l5, l6, l7, l8], Z, ()) = some (Lp.go (2, [l0, l1, l2, l3 * b % k.1, l4 * b % k.1, l5 * b % k.1, l6, l7, l8], Z, ()))) ∧
    (s0.1 = 2 → whileO (g87_l1 k d2 s0) (0, [l0, l1, l2, l3, l4, l5, l6, l7, l8], Z, ()) = some (Lp.go (3, [l0, l1, l2, l3, l4, l5, l6 * b % k.1, l7 * b % k.1, l8 * b % k.1], Z, ()))) := by
  have t0 := h l0 (by simp)
  have t1 := h l1 (by simp)
  have t2 := h l2 (by simp)
  have t3 := h l3 (by simp)
  have t4 := h l4 (by simp)
  have t5 := h l5 (by simp)
  have t6 := h l6 (by simp)
  have t7 := h l7 (by simp)
  have t8 := h l8 (by simp)
  have w1 : wr .i64 1 = 1 := by decide
  have w2 : wr .i64 2 = 2 := by decide
  have w3 : wr .i64 3 = 3 := by decide
  refine ⟨fun hs => ?_, fun hs => ?_, fun hs => ?_⟩
  · refine (whileO_go (s' := ((1 : Int), [l0 * b % k.1, l1, l2, l3, l4, l5, l6, l7, l8], Z, ())) ?_).trans ((whileO_go (s' := ((2 : Int), [l0 * b % k.1, l1 * b % k.1, l2, l3, l4, l5, l6, l7, l8], Z, ())) ?_).trans ((whileO_go (s' := ((3 : Int), [l0 * b % k.1, l1 * b % k.1, l2 * b % k.1, l3, l4, l5, l6, l7, l8], Z, ())) ?_).trans (whileO_out ?_)))
    · simp [g87_l1, gd_true, ilt, hd, hs, hk, t0, w1]
    · simp [g87_l1, gd_true, ilt, hd, hs, hk, t1, w2]
    · simp [g87_l1, gd_true, ilt, hd, hs, hk, t2, w3]
    · simp [g87_l1, gd_true, ilt, hs, w1]
  · refine (whileO_go (s' := ((1 : Int), [l0, l1, l2, l3 * b % k.1, l4, l5, l6, l7, l8], Z, ())) ?_).trans ((whileO_go (s' := ((2 : Int), [l0, l1, l2, l3 * b % k.1, l4 * b % k.1, l5, l6, l7, l8], Z, ())) ?_).trans ((whileO_go (s' := ((3 : Int), [l0, l1, l2, l3 * b % k.1, l4 * b % k.1, l5 * b % k.1, l6, l7, l8], Z, ())) ?_).trans (whileO_out ?_)))
    · simp [g87_l1, gd_true, ilt, hd, hs, hk, t3, w1]
    · simp [g87_l1, gd_true, ilt, hd, hs, hk, t4, w2]
    · simp [g87_l1, gd_true, ilt, hd, hs, hk, t5, w3]
    · simp [g87_l1, gd_true, ilt, hs, w2]
  · refine (whileO_go (s' := ((1 : Int), [l0, l1, l2, l3, l4, l5, l6 * b % k.1, l7, l8], Z, ())) ?_).trans ((whileO_go (s' := ((2 : Int), [l0, l1, l2, l3, l4, l5, l6 * b % k.1, l7 * b % k.1, l8], Z, ())) ?_).trans ((whileO_go (s' := ((3 : Int), [l0, l1, l2, l3, l4, l5, l6 * b % k.1, l7 * b % k.1, l8 * b % k.1], Z, ())) ?_).trans (whileO_out ?_)))
    · simp [g87_l1, gd_true, ilt, hd, hs, hk, t6, w1]
    · simp [g87_l1, gd_true, ilt, hd, hs, hk, t7, w2]
    · simp [g87_l1, gd_true, ilt, hd, hs, hk, t8, w3]
    · simp [g87_l1, gd_true, ilt, hs, w3]

theorem goal87 : con87.goal Try.prog (spOf [conMod, conInv]) g87_sh [] lm30 := by
  have e : (∀ (k : PlaneD) (m : MatD), isP k.1 → inM k.1 m → g87 k m = some (lowM k.1 m, ())) = con87.goal Try.prog (spOf [conMod, conInv]) g87_sh [] lm30 := by kernel_rfl
  rw [← e]
  intro k m hp hm
  have hm0 := hm
  have hbd := isP_bd hp
  have hk : k.1 ≠ 0 := by omega
  have r1 := byR_rng hp hm.1 (b := 0) (by omega)
  have r2 := byR_rng hp hm.2.1 r1
  have r3 := byR_rng hp hm.2.2 r2
  have hby : byM k.1 m = byR k.1 (byR k.1 (byR k.1 0 m.1) m.2.1) m.2.2.1 := rfl
  have t : ∀ y, 0 ≤ y ∧ y < k.1 → modF k.1 (wr .i64 (y * byM k.1 m)) = y * byM k.1 m % k.1 := by
    intro y hy
    rw [hby]
    have b := mul_bd (c := 7) (a := y) (b := byR k.1 (byR k.1 (byR k.1 0 m.1) m.2.1) m.2.2.1) (by omega) (by omega)
    rw [modF_eq (by omega), wr_id (by omega)]
  have e0 : ∀ n : Int, 0 ≤ n % k.1 ∧ n % k.1 < k.1 := fun n => ⟨Int.emod_nonneg n hk, Int.emod_lt_of_pos n (by omega)⟩
  obtain ⟨⟨a1, a2, a3, ua⟩, ⟨b1, b2, b3, ub⟩, ⟨c1, c2, c3, uc⟩, um⟩ := m
  cases ua; cases ub; cases uc; cases um
  obtain ⟨⟨h1, h2, h3⟩, ⟨h4, h5, h6⟩, ⟨h7, h8, h9⟩⟩ := hm
  simp only at h1 h2 h3 h4 h5 h6 h7 h8 h9 hby
  unfold lowM
  revert t hby
  generalize byM k.1 ((a1, a2, a3, ()), (b1, b2, b3, ()), (c1, c2, c3, ()), ()) = B
  intro hby t
  unfold g87
  simp only
  rw [gd_pos (by omega)]
  have w1 : wr .i64 1 = 1 := by decide
  refine (whileO_go (s' := (byR k.1 0 (a1, a2, a3, ()), (1 : Int), [a1, a2, a3, b1, b2, b3, c1, c2, c3], [0, 0, 0, 0, 0, 0, 0, 0, 0], ())) ?_).trans ((whileO_go (s' := (byR k.1 (byR k.1 0 (a1, a2, a3, ())) (b1, b2, b3, ()), (2 : Int), [a1, a2, a3, b1, b2, b3, c1, c2, c3], [0, 0, 0, 0, 0, 0, 0, 0, 0], ())) ?_).trans
    ((whileO_go (s' := (B, (3 : Int), [a1, a2, a3, b1, b2, b3, c1, c2, c3], [0, 0, 0, 0, 0, 0, 0, 0, 0], ())) ?_).trans (whileO_out ?_)))
  · simp only
    rw [cond_t (by decide), gd_pos (by omega), gd_pos (by omega), gd_pos (by omega)]
    exact (row87 hp hm0 (Or.inl rfl)).trans rfl
  · simp only
    rw [cond_t (by decide), gd_pos (by omega), gd_pos (by omega), gd_pos (by omega)]
    exact (row87 hp hm0 (Or.inr (Or.inl rfl))).trans rfl
  · simp only
    rw [cond_t (by decide), gd_pos (by omega), gd_pos (by omega), gd_pos (by omega), hby]
    exact (row87 hp hm0 (Or.inr (Or.inr rfl))).trans rfl
  · simp only
    rw [cond_f (by decide)]
    refine (whileO_go (s' := ((1 : Int), [a1 * B % k.1, a2 * B % k.1, a3 * B % k.1, b1, b2, b3, c1, c2, c3], [0, 0, 0, 0, 0, 0, 0, 0, 0], ())) ?_).trans ((whileO_go (s' := ((2 : Int), [a1 * B % k.1, a2 * B % k.1, a3 * B % k.1, b1 * B % k.1, b2 * B % k.1, b3 * B % k.1, c1, c2, c3], [0, 0, 0, 0, 0, 0, 0, 0, 0], ())) ?_).trans
      ((whileO_go (s' := ((3 : Int), [a1 * B % k.1, a2 * B % k.1, a3 * B % k.1, b1 * B % k.1, b2 * B % k.1, b3 * B % k.1, c1 * B % k.1, c2 * B % k.1, c3 * B % k.1], [0, 0, 0, 0, 0, 0, 0, 0, 0], ())) ?_).trans (whileO_out ?_)))
    · simp only
      rw [cond_t (by decide)]
      refine (mul87 (b := B) rfl (fun y hy => t y ?_) hk).1 rfl
      rcases hy with rfl | rfl | rfl | rfl | rfl | rfl | rfl | rfl | rfl <;> assumption
    · simp only
      rw [cond_t (by decide)]
      refine (mul87 (b := B) rfl (fun y hy => t y ?_) hk).2.1 rfl
      rcases hy with rfl | rfl | rfl | rfl | rfl | rfl | rfl | rfl | rfl <;> first | assumption | exact e0 _
    · simp only
      rw [cond_t (by decide)]
      refine (mul87 (b := B) rfl (fun y hy => t y ?_) hk).2.2 rfl
      rcases hy with rfl | rfl | rfl | rfl | rfl | rfl | rfl | rfl | rfl <;> first | assumption | exact e0 _
    · simp only
      rw [cond_f (by decide)]
      simp [gd_true, setMany, mulR]
set_option maxRecDepth 100000 in
theorem ok87 : con87.Ok Try.prog := Con.of_goal mixed (okC okMod (okC okInv okN)) con87 goal87

end Go.Arcs

set_option linter.unusedVariables false
set_option linter.unusedSimpArgs false
namespace Go.Arcs
open Go Go.Ab Go.Proofs

def inB (p x : Int) : Bool := decide (0 ≤ x) && decide (x < p)
theorem rng_step {α : Type} {x p : Int} {A B : α} : (bif (bif ilt x 0 then true else ile p x) then A else B) = (bif inB p x then B else A) := by
  unfold inB
  by_cases h1 : x < 0
  · have : ¬ (0 ≤ x) := by omega
    simp [ilt, h1, this]
  · have h3 : 0 ≤ x := by omega
    by_cases h2 : p ≤ x
    · have : ¬ (x < p) := by omega
      simp [ilt, ile, h1, h2, this, h3]
    · have : x < p := by omega
      simp [ilt, ile, h1, h2, this, h3]
theorem inRb_inB {p x y z : Int} : inRb p (x, y, z, ()) = (inB p x && inB p y && inB p z) := by simp [inRb, inB, Bool.and_assoc]

theorem row82 {k : PlaneD} {m : MatD} {L : List Int} {i : Int} (hi : i = 0 ∨ i = 1 ∨ i = 2) :
    whileO (g82_l0 k m (i, L, ())) (0, L, ()) = some (bif inRb k.1 (if i = 0 then m.1 else if i = 1 then m.2.1 else m.2.2.1) then Lp.go (i + 1, L, ()) else Lp.out (false, ())) := by
  obtain ⟨⟨a1, a2, a3, ua⟩, ⟨b1, b2, b3, ub⟩, ⟨c1, c2, c3, uc⟩, um⟩ := m
  cases ua; cases ub; cases uc; cases um
  have w1 : wr .i64 1 = 1 := by decide
  have w2 : wr .i64 2 = 2 := by decide
  have w3 : wr .i64 3 = 3 := by decide
  have j0 : ilt 0 3 = true := by decide
  have j1 : ilt 1 3 = true := by decide
  have j2 : ilt 2 3 = true := by decide
  have j3 : ilt 3 3 = false := by decide
  rcases hi with rfl | rfl | rfl
  · have s0 : g82_l0 k ((a1, a2, a3, ()), (b1, b2, b3, ()), (c1, c2, c3, ()), ()) (0, L, ()) (0, L, ()) = (bif inB k.1 a1 then some (Lp.go (1, L, ())) else some (Lp.out (Lp.out (false, ())))) := by
      refine Eq.trans ?_ rng_step
      simp [g82_l0, gd_true, arrGet, id, j0, w1]
    have s1 : g82_l0 k ((a1, a2, a3, ()), (b1, b2, b3, ()), (c1, c2, c3, ()), ()) (0, L, ()) (1, L, ()) = (bif inB k.1 a2 then some (Lp.go (2, L, ())) else some (Lp.out (Lp.out (false, ())))) := by
      refine Eq.trans ?_ rng_step
      simp [g82_l0, gd_true, arrGet, id, j1, w2]
    have s2 : g82_l0 k ((a1, a2, a3, ()), (b1, b2, b3, ()), (c1, c2, c3, ()), ()) (0, L, ()) (2, L, ()) = (bif inB k.1 a3 then some (Lp.go (3, L, ())) else some (Lp.out (Lp.out (false, ())))) := by
      refine Eq.trans ?_ rng_step
      simp [g82_l0, gd_true, arrGet, id, j2, w3]
    have s3 : g82_l0 k ((a1, a2, a3, ()), (b1, b2, b3, ()), (c1, c2, c3, ()), ()) (0, L, ()) (3, L, ()) = some (Lp.out (Lp.go (1, L, ()))) := by
      simp [g82_l0, gd_true, j3, w1]
    show _ = some (bif inRb k.1 (a1, a2, a3, ()) then Lp.go (1, L, ()) else Lp.out (false, ()))
    rw [inRb_inB]
    cases q1 : inB k.1 a1
    · exact whileO_out (by rw [s0, q1]; rfl)
    · cases q2 : inB k.1 a2
      · exact (whileO_go (by rw [s0, q1]; rfl)).trans (whileO_out (by rw [s1, q2]; rfl))
      · cases q3 : inB k.1 a3
        · exact (whileO_go (by rw [s0, q1]; rfl)).trans ((whileO_go (by rw [s1, q2]; rfl)).trans (whileO_out (by rw [s2, q3]; rfl)))
        · exact (whileO_go (by rw [s0, q1]; rfl)).trans ((whileO_go (by rw [s1, q2]; rfl)).trans ((whileO_go (by rw [s2, q3]; rfl)).trans (whileO_out (by rw [s3]; rfl))))
  · have s0 : g82_l0 k ((a1, a2, a3, ()), (b1, b2, b3, ()), (c1, c2, c3, ()), ()) (1, L, ()) (0, L, ()) = (bif inB k.1 b1 then some (Lp.go (1, L, ())) else some (Lp.out (Lp.out (false, ())))) := by
      refine Eq.trans ?_ rng_step
      simp [g82_l0, gd_true, arrGet, id, j0, w1]
    have s1 : g82_l0 k ((a1, a2, a3, ()), (b1, b2, b3, ()), (c1, c2, c3, ()), ()) (1, L, ()) (1, L, ()) = (bif inB k.1 b2 then some (Lp.go (2, L, ())) else some (Lp.out (Lp.out (false, ())))) := by
      refine Eq.trans ?_ rng_step
      simp [g82_l0, gd_true, arrGet, id, j1, w2]
    have s2 : g82_l0 k ((a1, a2, a3, ()), (b1, b2, b3, ()), (c1, c2, c3, ()), ()) (1, L, ()) (2, L, ()) = (bif inB k.1 b3 then some (Lp.go (3, L, ())) else some (Lp.out (Lp.out (false, ())))) := by
      refine Eq.trans ?_ rng_step
      simp [g82_l0, gd_true, arrGet, id, j2, w3]
    have s3 : g82_l0 k ((a1, a2, a3, ()), (b1, b2, b3, ()), (c1, c2, c3, ()), ()) (1, L, ()) (3, L, ()) = some (Lp.out (Lp.go (2, L, ()))) := by
      simp [g82_l0, gd_true, j3, w2]
    show _ = some (bif inRb k.1 (b1, b2, b3, ()) then Lp.go (2, L, ()) else Lp.out (false, ()))
    rw [inRb_inB]
    cases q1 : inB k.1 b1
    · exact whileO_out (by rw [s0, q1]; rfl)
    · cases q2 : inB k.1 b2
      · exact (whileO_go (by rw [s0, q1]; rfl)).trans (whileO_out (by rw [s1, q2]; rfl))
      · cases q3 : inB k.1 b3
        · exact (whileO_go (by rw [s0, q1]; rfl)).trans ((whileO_go (by rw [s1, q2]; rfl)).trans (whileO_out (by rw [s2, q3]; rfl)))
        · exact (whileO_go (by rw [s0, q1]; rfl)).trans ((whileO_go (by rw [s1, q2]; rfl)).trans ((whileO_go (by rw [s2, q3]; rfl)).trans (whileO_out (by rw [s3]; rfl))))
  · have s0 : g82_l0 k ((a1, a2, a3, ()), (b1, b2, b3, ()), (c1, c2, c3, ()), ()) (2, L, ()) (0, L, ()) = (bif inB k.1 c1 then some (Lp.go (1, L, ())) else some (Lp.out (Lp.out (false, ())))) := by
      refine Eq.trans ?_ rng_step
      simp [g82_l0, gd_true, arrGet, id, j0, w1]
    have s1 : g82_l0 k ((a1, a2, a3, ()), (b1, b2, b3, ()), (c1, c2, c3, ()), ()) (2, L, ()) (1, L, ()) = (bif inB k.1 c2 then some (Lp.go (2, L, ())) else some (Lp.out (Lp.out (false, ())))) := by
      refine Eq.trans ?_ rng_step
      simp [g82_l0, gd_true, arrGet, id, j1, w2]
    have s2 : g82_l0 k ((a1, a2, a3, ()), (b1, b2, b3, ()), (c1, c2, c3, ()), ()) (2, L, ()) (2, L, ()) = (bif inB k.1 c3 then some (Lp.go (3, L, ())) else some (Lp.out (Lp.out (false, ())))) := by
      refine Eq.trans ?_ rng_step
      simp [g82_l0, gd_true, arrGet, id, j2, w3]
    have s3 : g82_l0 k ((a1, a2, a3, ()), (b1, b2, b3, ()), (c1, c2, c3, ()), ()) (2, L, ()) (3, L, ()) = some (Lp.out (Lp.go (3, L, ()))) := by
      simp [g82_l0, gd_true, j3, w3]
    show _ = some (bif inRb k.1 (c1, c2, c3, ()) then Lp.go (3, L, ()) else Lp.out (false, ()))
    rw [inRb_inB]
    cases q1 : inB k.1 c1
    · exact whileO_out (by rw [s0, q1]; rfl)
    · cases q2 : inB k.1 c2
      · exact (whileO_go (by rw [s0, q1]; rfl)).trans (whileO_out (by rw [s1, q2]; rfl))
      · cases q3 : inB k.1 c3
        · exact (whileO_go (by rw [s0, q1]; rfl)).trans ((whileO_go (by rw [s1, q2]; rfl)).trans (whileO_out (by rw [s2, q3]; rfl)))
        · exact (whileO_go (by rw [s0, q1]; rfl)).trans ((whileO_go (by rw [s1, q2]; rfl)).trans ((whileO_go (by rw [s2, q3]; rfl)).trans (whileO_out (by rw [s3]; rfl))))

theorem goal82 : con82.goal Try.prog (spOf [con116, con87]) g82_sh [] lm30 := by
  have e : (∀ (k : PlaneD) (m : MatD), isP k.1 → g82 k m = some (isMapF k.1 m, ())) = con82.goal Try.prog (spOf [con116, con87]) g82_sh [] lm30 := by kernel_rfl
  rw [← e]
  intro k m hp
  obtain ⟨⟨a1, a2, a3, ua⟩, ⟨b1, b2, b3, ub⟩, ⟨c1, c2, c3, uc⟩, um⟩ := m
  cases ua; cases ub; cases uc; cases um
  have r := fun i hi => row82 (k := k) (m := ((a1, a2, a3, ()), (b1, b2, b3, ()), (c1, c2, c3, ()), ())) (L := [a1, a2, a3, b1, b2, b3, c1, c2, c3]) (i := i) hi
  have r0 := r 0 (Or.inl rfl)
  have r1 := r 1 (Or.inr (Or.inl rfl))
  have r2 := r 2 (Or.inr (Or.inr rfl))
  simp only [if_true] at r0
  rw [if_neg (by decide), if_pos rfl] at r1
  rw [if_neg (by decide), if_neg (by decide)] at r2
  clear r
  unfold g82 isMapF inMb
  simp only
  rw [gd_pos (by omega)]
  cases q1 : inRb k.1 (a1, a2, a3, ())
  · refine whileO_out ?_
    simp only
    rw [cond_t (by decide), gd_pos (by omega), gd_pos (by omega), gd_pos (by omega), r0, q1]
    rfl
  refine (whileO_go (s' := ((1 : Int), [a1, a2, a3, b1, b2, b3, c1, c2, c3], ())) ?_).trans ?_
  · simp only
    rw [cond_t (by decide), gd_pos (by omega), gd_pos (by omega), gd_pos (by omega), r0, q1]
    rfl
  cases q2 : inRb k.1 (b1, b2, b3, ())
  · refine whileO_out ?_
    simp only
    rw [cond_t (by decide), gd_pos (by omega), gd_pos (by omega), gd_pos (by omega), r1, q2]
    rfl
  refine (whileO_go (s' := ((2 : Int), [a1, a2, a3, b1, b2, b3, c1, c2, c3], ())) ?_).trans ?_
  · simp only
    rw [cond_t (by decide), gd_pos (by omega), gd_pos (by omega), gd_pos (by omega), r1, q2]
    rfl
  cases q3 : inRb k.1 (c1, c2, c3, ())
  · refine whileO_out ?_
    simp only
    rw [cond_t (by decide), gd_pos (by omega), gd_pos (by omega), gd_pos (by omega), r2, q3]
    rfl
  refine (whileO_go (s' := ((3 : Int), [a1, a2, a3, b1, b2, b3, c1, c2, c3], ())) ?_).trans ?_
  · simp only
    rw [cond_t (by decide), gd_pos (by omega), gd_pos (by omega), gd_pos (by omega), r2, q3]
    rfl
  have hm : inM k.1 ((a1, a2, a3, ()), (b1, b2, b3, ()), (c1, c2, c3, ()), ()) := ⟨inRb_iff.1 q1, inRb_iff.1 q2, inRb_iff.1 q3⟩
  refine whileO_out ?_
  simp only
  rw [cond_f (by decide)]
  simp only [List.getD_cons_zero, List.getD_cons_succ, List.length_cons, List.length_nil]
  generalize detF k.1 ((a1, a2, a3, ()), (b1, b2, b3, ()), (c1, c2, c3, ()), ()) = d
  cases hq : ieq d 0 <;> simp [gd_true, hp, hm, hq]
set_option maxRecDepth 100000 in
theorem ok82 : con82.Ok Try.prog := Con.of_goal mixed (okC ok116 (okC ok87 okN)) con82 goal82

end Go.Arcs

set_option linter.unusedVariables false
set_option linter.unusedSimpArgs false
namespace Go.Arcs
open Go Go.Ab Go.Proofs

theorem low_tab2 : ∀ p ∈ ([2, 3, 5, 7] : List Int), ∀ a ∈ List.range p.toNat, ∀ b ∈ List.range p.toNat, ∀ c ∈ List.range p.toNat,
    (deqT ((a : Int), (b : Int), (c : Int), ()) (0, 0, 0, ()) || ((ptsC p).any (fun z => deqT z (lowF p ((a : Int), (b : Int), (c : Int), ()))) && inPt p (numC p (lowF p ((a : Int), (b : Int), (c : Int), ()))))) = true := by decide +kernel
theorem pts_notO : ∀ p ∈ ([2, 3, 5, 7] : List Int), ∀ x ∈ ptsC p, notOb x = true := by decide +kernel

theorem low_spec {p : Int} (hp : isP p) {X : TripD} (hx : inR p X) (h0 : notO X) : lowF p X ∈ ptsC p ∧ inPt p (numC p (lowF p X)) = true ∧ pt p (numC p (lowF p X)) = lowF p X := by
  have hm := isP_mem hp
  obtain ⟨x, y, z, u⟩ := X
  cases u
  obtain ⟨h1, h2, h3⟩ := hx
  simp only at h1 h2 h3
  have t1 := low_tab p hm _ (rng_mem h1) _ (rng_mem h2) _ (rng_mem h3)
  have t2 := low_tab2 p hm _ (rng_mem h1) _ (rng_mem h2) _ (rng_mem h3)
  rw [Int.toNat_of_nonneg h1.1, Int.toNat_of_nonneg h2.1, Int.toNat_of_nonneg h3.1] at t1 t2
  have hd : deqT (x, y, z, ()) (0, 0, 0, ()) = false := by
    rw [← Bool.not_eq_true, deqT_iff]
    intro h
    injection h with q1 q2
    injection q2 with q2 q3
    injection q3 with q3 q4
    exact h0 ⟨q1, q2, q3⟩
  rw [hd, Bool.false_or] at t1 t2
  rw [Bool.and_eq_true, List.any_eq_true] at t2
  obtain ⟨⟨w, hw, hw2⟩, h6⟩ := t2
  rw [deqT_iff] at hw2 t1
  exact ⟨by rw [← hw2]; exact hw, h6, t1⟩

def detM (m : MatD) : Int := m.1.1 * (m.2.1.2.1 * m.2.2.1.2.2.1 - m.2.2.1.2.1 * m.2.1.2.2.1) + m.2.1.1 * (m.2.2.1.2.1 * m.1.2.2.1 - m.1.2.1 * m.2.2.1.2.2.1) + m.2.2.1.1 * (m.1.2.1 * m.2.1.2.2.1 - m.2.1.2.1 * m.1.2.2.1)
def mulV (m : MatD) (x : TripD) : TripD := (m.1.1 * x.1 + m.1.2.1 * x.2.1 + m.1.2.2.1 * x.2.2.1, m.2.1.1 * x.1 + m.2.1.2.1 * x.2.1 + m.2.1.2.2.1 * x.2.2.1, m.2.2.1.1 * x.1 + m.2.2.1.2.1 * x.2.1 + m.2.2.1.2.2.1 * x.2.2.1, ())
def Z3 (p : Int) (X : TripD) : Prop := p ∣ X.1 ∧ p ∣ X.2.1 ∧ p ∣ X.2.2.1

theorem det_ne {p : Int} {m : MatD} (h : detF p m ≠ 0) : detM m % p ≠ 0 := by
  intro hd
  apply h
  obtain ⟨n, hn⟩ := Int.dvd_of_emod_eq_zero hd
  obtain ⟨⟨a1, a2, a3, _⟩, ⟨b1, b2, b3, _⟩, ⟨c1, c2, c3, _⟩, _⟩ := m
  simp only [detM] at hn
  simp only [detF, dotC, crossF, colF]
  simp only [if_true, if_neg (show (1 : Int) ≠ 0 by decide), if_neg (show (2 : Int) ≠ 0 by decide), if_neg (show (2 : Int) ≠ 1 by decide)]
  have e1 := Int.emod_add_mul_ediv (b1 * c2 - c1 * b2) p
  have e2 := Int.emod_add_mul_ediv (c1 * a2 - a1 * c2) p
  have e3 := Int.emod_add_mul_ediv (a1 * b2 - b1 * a2) p
  refine Int.emod_eq_zero_of_dvd ?_
  exact ⟨n - (b1 * c2 - c1 * b2) / p * a3 - (c1 * a2 - a1 * c2) / p * b3 - (a1 * b2 - b1 * a2) / p * c3, by grind⟩

theorem mulV_inj {p : Int} (hp : isP p) {m : MatD} (hd : detM m % p ≠ 0) {x : TripD} (h : Z3 p (mulV m x)) : Z3 p x := by
  obtain ⟨w, n, hn⟩ := inv_ex hp hd
  obtain ⟨⟨a1, a2, a3, _⟩, ⟨b1, b2, b3, _⟩, ⟨c1, c2, c3, _⟩, _⟩ := m
  obtain ⟨x1, x2, x3, _⟩ := x
  obtain ⟨⟨k1, h1⟩, ⟨k2, h2⟩, ⟨k3, h3⟩⟩ := h
  simp only [detM, mulV] at hn h1 h2 h3
  refine ⟨⟨w * (k1 * (b2 * c3 - c2 * b3) + k2 * (c2 * a3 - a2 * c3) + k3 * (a2 * b3 - b2 * a3)) - n * x1, ?_⟩, ⟨w * (k1 * (b3 * c1 - c3 * b1) + k2 * (c3 * a1 - a3 * c1) + k3 * (a3 * b1 - b3 * a1)) - n * x2, ?_⟩,
    ⟨w * (k1 * (b1 * c2 - c1 * b2) + k2 * (c1 * a2 - a1 * c2) + k3 * (a1 * b2 - b1 * a2)) - n * x3, ?_⟩⟩
  · show x1 = _
    grind
  · show x2 = _
    grind
  · show x3 = _
    grind

theorem inMb_iff {p : Int} {m : MatD} : inMb p m = true ↔ inM p m := by
  simp only [inMb, inM, Bool.and_eq_true, inRb_iff, and_assoc]

theorem dvd_zero {p x : Int} (h : 0 ≤ x ∧ x < p) (hd : p ∣ x) : x = 0 := by rw [← Int.emod_eq_of_lt h.1 h.2]; exact Int.emod_eq_zero_of_dvd hd

theorem Z3_zero {p : Int} {x : TripD} (h : inR p x) (hz : Z3 p x) : x.1 = 0 ∧ x.2.1 = 0 ∧ x.2.2.1 = 0 := by
  obtain ⟨h1, h2, h3⟩ := h
  obtain ⟨q1, q2, q3⟩ := hz
  exact ⟨dvd_zero h1 q1, dvd_zero h2 q2, dvd_zero h3 q3⟩

theorem dot_rng {p : Int} (hp : isP p) (x y : TripD) : 0 ≤ dotC p x y ∧ dotC p x y < p := by
  have := isP_bd hp
  exact ⟨Int.emod_nonneg _ (by omega), Int.emod_lt_of_pos _ (by omega)⟩

theorem app_in {p : Int} (hp : isP p) {m : MatD} {x : TripD} : inR p (appF p m x) := ⟨dot_rng hp _ _, dot_rng hp _ _, dot_rng hp _ _⟩

theorem app_ne {p : Int} (hp : isP p) {m : MatD} (hd : detF p m ≠ 0) {x : TripD} (hx : inR p x) (h0 : notO x) : notO (appF p m x) := by
  rintro ⟨h1, h2, h3⟩
  apply h0
  refine Z3_zero hx (mulV_inj hp (det_ne hd) ?_)
  exact ⟨Int.dvd_of_emod_eq_zero h1, Int.dvd_of_emod_eq_zero h2, Int.dvd_of_emod_eq_zero h3⟩

theorem goal45 : con45.goal Try.prog (spOf [conRead, con82, con84, conLow]) g45_sh [] lm30 := by
  have e : (∀ (p : Int) (m : MatD) (a : Int), g45 p m a = some (applyX p m a)) = con45.goal Try.prog (spOf [conRead, con82, con84, conLow]) g45_sh [] lm30 := by kernel_rfl
  rw [← e]
  intro p m a
  obtain ⟨⟨a1, a2, a3, ua⟩, ⟨b1, b2, b3, ub⟩, ⟨c1, c2, c3, uc⟩, um⟩ := m
  cases ua; cases ub; cases uc; cases um
  have hs : small [a] := by simp [small]
  have h1 : (planeF p).1 = p := rfl
  unfold g45
  rw [gd_pos hs]
  by_cases hp : isPb p = true
  · have hP := isPb_iff.1 hp
    have hpl : isPl (planeF p) := ⟨hP, rfl⟩
    by_cases ha : inPt p a = true
    · have hr : readF p [a] = (some (planeF p), true, ()) := by simp [readF, hp, ha]
      by_cases hm : isMapF p ((a1, a2, a3, ()), (b1, b2, b3, ()), (c1, c2, c3, ()), ()) = true
      · have hm' := hm
        simp only [isMapF, Bool.and_eq_true, inMb_iff, Bool.not_eq_true', ieq_d, decide_eq_false_iff_not] at hm'
        obtain ⟨⟨hM, hd⟩, _⟩ := hm'
        have hpts : (planeF p).2.1 = ptsC p := plane_pts p (isP_mem hP)
        have ea : List.getD (ptsC p) a.toNat (0, 0, 0, ()) = pt p a := rfl
        have hl := pts_len p (isP_mem hP)
        have i1 := inPt_iff.1 ha
        have l1 : a < ((ptsC p).length : Int) := by omega
        have hin := pt_in hP ha
        have hno := app_ne hP hd hin (notOb_iff.1 (pts_notO p (isP_mem hP) _ (pt_mem hP ha)))
        have hnum := pl_num hpl (low_spec hP (app_in hP) hno).1
        have hX : applyX p ((a1, a2, a3, ()), (b1, b2, b3, ()), (c1, c2, c3, ()), ()) a = (numC p (lowF p (appF p ((a1, a2, a3, ()), (b1, b2, b3, ()), (c1, c2, c3, ()), ()) (pt p a))), 0, ()) := by
          rw [applyX, if_pos ⟨hp, ha, hm⟩]
        rw [hX]
        simp only [hr, Option.getD_some, Option.isSome_some, h1, hpts, ea, hm]
        rw [h1] at hnum
        have hin2 := app_in hP (m := ((a1, a2, a3, ()), (b1, b2, b3, ()), (c1, c2, c3, ()), ())) (x := pt p a)
        simp only [gd_true, Nat.le_refl, hP, hM, hin, hin2, hno, i1.1, l1, and_self, imp_self, implies_true, Bool.not_true, Bool.not_false]
        rw [cond_f rfl]
        simp [gd_true]
        exact hnum
      · have hX : applyX p ((a1, a2, a3, ()), (b1, b2, b3, ()), (c1, c2, c3, ()), ()) a = (0, 2, ()) := by
          rw [applyX, if_neg (fun h => hm h.2.2)]
        rw [hX]
        simp [hr, gd_true, h1, hP, hm]
    · have hr : readF p [a] = (some (planeF p), false, ()) := by
        rw [readF, if_pos hp]
        simp [ha]
      have hX : applyX p ((a1, a2, a3, ()), (b1, b2, b3, ()), (c1, c2, c3, ()), ()) a = (0, 2, ()) := by
        rw [applyX, if_neg (fun h => ha h.2.1)]
      rw [hX]
      simp [hr, gd_true]
  · have hr : readF p [a] = (none, false, ()) := by rw [readF, if_neg hp]
    have hX : applyX p ((a1, a2, a3, ()), (b1, b2, b3, ()), (c1, c2, c3, ()), ()) a = (0, 2, ()) := by
      rw [applyX, if_neg (fun h => hp h.1)]
    rw [hX]
    simp [hr, gd_true]
set_option maxRecDepth 100000 in
theorem ok45 : con45.Ok Try.prog := Con.of_goal mixed (okC okRead (okC ok82 (okC ok84 (okC okLow okN)))) con45 goal45

end Go.Arcs

set_option linter.unusedVariables false
set_option linter.unusedSimpArgs false
namespace Go.Arcs
open Go Go.Ab Go.Proofs

def lin (u v : Int) (A B : TripD) : TripD := (u * A.1 + v * B.1, u * A.2.1 + v * B.2.1, u * A.2.2.1 + v * B.2.2.1, ())
def smul (k : Int) (A : TripD) : TripD := (k * A.1, k * A.2.1, k * A.2.2.1, ())
def Cv (p : Int) (X Y : TripD) : Prop := p ∣ X.1 - Y.1 ∧ p ∣ X.2.1 - Y.2.1 ∧ p ∣ X.2.2.1 - Y.2.2.1
theorem unit_ex {p v : Int} (hp : isP p) (h : ¬ p ∣ v) : ∃ w, p ∣ w * v - 1 := inv_ex hp (fun h0 => h (Int.dvd_of_emod_eq_zero h0))
theorem not_dvd_one {p : Int} (hp : isP p) : ¬ p ∣ 1 := by
  intro h
  have hb := isP_bd hp
  have := dvd_zero (p := p) (x := 1) (by omega) h
  omega
theorem unit_nd {p a b : Int} (hp : isP p) (h : p ∣ a * b - 1) : ¬ p ∣ a := by
  rintro ⟨k, rfl⟩
  obtain ⟨n, hn⟩ := h
  exact not_dvd_one hp ⟨k * b - n, by grind⟩
theorem cancel {p v y : Int} (hp : isP p) (h : ¬ p ∣ v) (hy : p ∣ y * v) : p ∣ y := by
  obtain ⟨w, n, hn⟩ := unit_ex hp h
  obtain ⟨k, hk⟩ := hy
  exact ⟨w * k - n * y, by grind⟩
theorem nd_mul {p a b : Int} (hp : isP p) (ha : ¬ p ∣ a) (hb : ¬ p ∣ b) : ¬ p ∣ a * b := fun h => ha (cancel hp hb h)

theorem ind2 {p w a1 a2 b1 b2 x y : Int} (hw : p ∣ w * (a1 * b2 - a2 * b1) - 1) (h1 : p ∣ x * a1 + y * b1) (h2 : p ∣ x * a2 + y * b2) : p ∣ x ∧ p ∣ y := by
  obtain ⟨n, hn⟩ := hw
  obtain ⟨k1, h1⟩ := h1
  obtain ⟨k2, h2⟩ := h2
  exact ⟨⟨w * (k1 * b2 - k2 * b1) - n * x, by grind⟩, ⟨w * (k2 * a1 - k1 * a2) - n * y, by grind⟩⟩

theorem indP {p : Int} (hp : isP p) {A B : TripD} (hA : A ∈ ptsC p) (hB : B ∈ ptsC p) (hAB : A ≠ B) {x y : Int} (h : Z3 p (lin x y A B)) : p ∣ x ∧ p ∣ y := by
  have hm := isP_mem hp
  have hx : crossF p A B ≠ (0, 0, 0, ()) := by
    intro h
    have := cross_tab p hm A hA B hB
    rw [h, Bool.or_eq_true, deqT_iff] at this
    rcases this with h | h
    · exact hAB h
    · exact absurd h (by decide)
  obtain ⟨a1, a2, a3, _⟩ := A
  obtain ⟨b1, b2, b3, _⟩ := B
  obtain ⟨h1, h2, h3⟩ := h
  simp only [lin] at h1 h2 h3
  by_cases k3 : (a1 * b2 - a2 * b1) % p = 0
  · by_cases k2 : (a3 * b1 - a1 * b3) % p = 0
    · by_cases k1 : (a2 * b3 - a3 * b2) % p = 0
      · exact absurd (by simp only [crossF, k1, k2, k3]) hx
      · obtain ⟨w, hw⟩ := inv_ex hp k1
        exact ind2 hw h2 h3
    · obtain ⟨w, hw⟩ := inv_ex hp k2
      exact ind2 hw h3 h1
  · obtain ⟨w, hw⟩ := inv_ex hp k3
    exact ind2 hw h1 h2

end Go.Arcs

set_option linter.unusedVariables false
set_option linter.unusedSimpArgs false
namespace Go.Arcs
open Go Go.Ab Go.Proofs

theorem emod_dvd {p n c : Int} (h : n % p = c) : p ∣ c - n := by
  have e := Int.emod_add_mul_ediv n p
  exact ⟨-(n / p), by rw [Int.mul_neg]; omega⟩

theorem nd_of {p x : Int} (h : 0 ≤ x ∧ x < p) (h0 : x ≠ 0) : ¬ p ∣ x := fun hd => h0 (dvd_zero h hd)

theorem pt_neq {p : Int} (hp : isP p) {x y : Int} (hx : inPt p x = true) (hy : inPt p y = true) (hxy : x ≠ y) : pt p x ≠ pt p y := by
  intro h
  have := pt_ne hp hx hy hxy
  rw [h] at this
  have h2 := (deqT_iff (pt p y) (pt p y)).2 rfl
  unfold deqT at h2
  rw [h2] at this
  cases this

noncomputable def imgF (p : Int) (m : MatD) (a : Int) : Int := numC p (lowF p (appF p m (pt p a)))

theorem isMap_det {p : Int} {m : MatD} (h : isMapF p m = true) : detF p m ≠ 0 := by
  simp only [isMapF, Bool.and_eq_true, Bool.not_eq_true', ieq_d, decide_eq_false_iff_not] at h
  exact h.1.2

theorem low_cv {p : Int} (hp : isP p) {X : TripD} (hx : inR p X) (h0 : notO X) : ∃ l mu, p ∣ l * mu - 1 ∧ Cv p (lowF p X) (smul l X) := by
  obtain ⟨x, y, z, u⟩ := X
  have hf : rngP p (firstF (x, y, z, u)) := by
    obtain ⟨h1, h2, h3⟩ := hx
    simp only at h1 h2 h3
    simp only [firstF]
    by_cases k1 : x = 0
    · rw [if_neg (by omega)]
      by_cases k2 : y = 0
      · rw [if_neg (by omega)]
        have : z ≠ 0 := fun k3 => h0 ⟨k1, k2, k3⟩
        exact ⟨by omega, h3.2⟩
      · rw [if_pos k2]; exact ⟨by omega, h2.2⟩
    · rw [if_pos k1]; exact ⟨by omega, h1.2⟩
  generalize hF : firstF (x, y, z, u) = f at hf
  have hi : invF p f * f % p = 1 := by
    have h := inv_tab p (isP_mem hp) _ (rng_mem ⟨by have := hf.1; omega, hf.2⟩)
    rw [Int.toNat_of_nonneg (by have := hf.1; omega), Bool.or_eq_true, ieq_iff, ieq_iff] at h
    rcases h with h | h
    · have := hf.1; omega
    · exact h
  refine ⟨invF p f, f, ?_, ?_⟩
  · have e := Int.emod_add_mul_ediv (invF p f * f) p
    exact ⟨invF p f * f / p, by omega⟩
  · simp only [lowF, smul, hF]
    have g : ∀ y : Int, p ∣ y * invF p f % p - invF p f * y := by
      intro y
      rw [Int.mul_comm (invF p f) y]
      exact emod_dvd rfl
    exact ⟨g x, g y, g z⟩

theorem img_spec {p : Int} (hp : isP p) {m : MatD} (hm : isMapF p m = true) {a : Int} (ha : inPt p a = true) :
    inPt p (imgF p m a) = true ∧ ∃ l mu, p ∣ l * mu - 1 ∧ Cv p (pt p (imgF p m a)) (smul l (mulV m (pt p a))) := by
  have hno := app_ne hp (isMap_det hm) (pt_in hp ha) (notOb_iff.1 (pts_notO p (isP_mem hp) _ (pt_mem hp ha)))
  obtain ⟨h1, h2, h3⟩ := low_spec hp (app_in hp) hno
  refine ⟨h2, ?_⟩
  obtain ⟨l, mu, hu, g1, g2, g3⟩ := low_cv hp (app_in hp (m := m) (x := pt p a)) hno
  refine ⟨l, mu, hu, ?_⟩
  unfold imgF
  rw [h3]
  have st : ∀ c n : Int, p ∣ c - l * (n % p) → p ∣ c - l * n := by
    intro c n h
    obtain ⟨k, hk⟩ := h
    have e := Int.emod_add_mul_ediv n p
    have e2 : n % p = n - p * (n / p) := by omega
    rw [e2] at hk
    generalize n / p = q at hk
    exact ⟨k - l * q, by grind⟩
  exact ⟨st _ _ g1, st _ _ g2, st _ _ g3⟩

end Go.Arcs

set_option linter.unusedVariables false
set_option linter.unusedSimpArgs false
namespace Go.Arcs
open Go Go.Ab Go.Proofs

end Go.Arcs
