/- The law Arcs: contracts. -/
import Derived.Test.YtffapeomfjfedaaXH
import Derived.Test.YtffapeomfjfedaaSS
import Derived.Test.YtffapeomfjfedaaXC
import Derived.Test.YtffapeomfjfedaaXG
set_option linter.unusedVariables false
set_option linter.unusedSimpArgs false
namespace Go.Arcs
open Go Go.Ab Go.Proofs

noncomputable def arcF (p : Int) (l : List Int) : Bool := (List.range l.length).all fun i => (List.range i).all fun j => (List.range j).all fun h => !strF p (l.getD h 0) (l.getD j 0) (l.getD i 0)
def setP (p : Int) (l : List Int) : Prop := l.all (inPt p) = true ∧ l.length ≤ 60
noncomputable def con104 : Con := mkC 104 [.d (.ptr Plane), .d LI] [.bool] (fun (k : PlaneD) (l : List Int) => [isPl k, setP k.1 l]) (fun (k : PlaneD) (l : List Int) => (arcF k.1 l, ()))
noncomputable def g104_l0 (x0 : Int × List (Int × Int × Int × Unit) × List ((Int × Int × Int × Unit) × Int) × Unit) (x1 : List Int) (d2 d3 d4 : Int × Unit) : Option (Lp (Int × Unit) (Lp (Int × Unit) (Lp (Int × Unit) (Bool × Unit)))) := bif ilt d4.1 d3.1 then gd ((0 : Int) ≤ d4.1 ∧ d4.1 < (↑(List.length x1) : Int)) (gd ((0 : Int) ≤ d3.1 ∧ d3.1 < (↑(List.length x1) : Int)) (gd ((0 : Int) ≤ d2.1 ∧ d2.1 < (↑(List.length x1) : Int)) (gd (isPl x0) (gd (inPt x0.1 (List.getD x1 (Int.toNat d4.1) (0 : Int)) = true) (gd (inPt x0.1 (List.getD x1 (Int.toNat d3.1) (0 : Int)) = true) (gd (inPt x0.1 (List.getD x1 (Int.toNat d2.1) (0 : Int)) = true) (bif strF x0.1 (List.getD x1 (Int.toNat d4.1) (0 : Int)) (List.getD x1 (Int.toNat d3.1) (0 : Int)) (List.getD x1 (Int.toNat d2.1) (0 : Int)) then some (Lp.out (Lp.out (Lp.out ((false, ()) : Bool × Unit)))) else some (Lp.go ((wr IntKind.i64 (d4.1 + (1 : Int)), ()) : Int × Unit))))))))) else some (Lp.out (Lp.go ((wr IntKind.i64 (d3.1 + (1 : Int)), ()) : Int × Unit)))
noncomputable def g104_l1 (x0 : Int × List (Int × Int × Int × Unit) × List ((Int × Int × Int × Unit) × Int) × Unit) (x1 : List Int) (d2 d3 : Int × Unit) : Option (Lp (Int × Unit) (Lp (Int × Unit) (Bool × Unit))) := bif ilt d3.1 d2.1 then whileO (g104_l0 x0 x1 d2 d3) (((0 : Int), ()) : Int × Unit) else some (Lp.out (Lp.go ((wr IntKind.i64 (d2.1 + (1 : Int)), ()) : Int × Unit)))
noncomputable def g104 (x0 : Int × List (Int × Int × Int × Unit) × List ((Int × Int × Int × Unit) × Int) × Unit) (x1 : List Int) : Option (Bool × Unit) := whileO (fun (d2 : Int × Unit) => bif ilt d2.1 (↑(List.length x1) : Int) then whileO (g104_l1 x0 x1 d2) (((0 : Int), ()) : Int × Unit) else some (Lp.out ((true, ()) : Bool × Unit))) (((0 : Int), ()) : Int × Unit)
noncomputable def g104_sh : List LSh := LSh.mk (((10, TV.v (Ty.int IntKind.i64)) : Nat × TV) :: ([] : List (Nat × TV))) ([] : List TB) :: LSh.mk (((14, TV.v (Ty.int IntKind.i64)) : Nat × TV) :: ([] : List (Nat × TV))) ([] : List TB) :: LSh.mk (((18, TV.v (Ty.int IntKind.i64)) : Nat × TV) :: ([] : List (Nat × TV))) ([] : List TB) :: ([] : List LSh)
noncomputable def arcX (p : Int) (l : List Int) : Bool × Int × Unit := if okSet p l = true then (arcF p l, 0, ()) else (false, 2, ())
noncomputable def con55 : Con := mkC 55 [.d I64, .d LI] [.bool, I64] (fun (p : Int) (l : List Int) => [small l]) (fun (p : Int) (l : List Int) => arcX p l)
noncomputable def g55 (x0 : Int) (x1 : List Int) : Option (Bool × Int × Unit) := gd (small x1) (bif !(setF x0 x1).2.1 then some ((false, (2 : Int), ()) : Bool × Int × Unit) else gd (Option.isSome (setF x0 x1).1 = true) (gd (isPl (Option.getD (setF x0 x1).1 (((0 : Int), ([] : List (Int × Int × Int × Unit)), ([] : List ((Int × Int × Int × Unit) × Int)), ()) : Int × List (Int × Int × Int × Unit) × List ((Int × Int × Int × Unit) × Int) × Unit))) (gd (setP (Option.getD (setF x0 x1).1 (((0 : Int), ([] : List (Int × Int × Int × Unit)), ([] : List ((Int × Int × Int × Unit) × Int)), ()) : Int × List (Int × Int × Int × Unit) × List ((Int × Int × Int × Unit) × Int) × Unit)).1 x1) (some ((arcF (Option.getD (setF x0 x1).1 (((0 : Int), ([] : List (Int × Int × Int × Unit)), ([] : List ((Int × Int × Int × Unit) × Int)), ()) : Int × List (Int × Int × Int × Unit) × List ((Int × Int × Int × Unit) × Int) × Unit)).1 x1, (0 : Int), ()) : Bool × Int × Unit)))))
noncomputable def g55_sh : List LSh := ([] : List LSh)
/-- Whether a point can be added to those before place i. -/
noncomputable def mayA (p : Int) (l : List Int) (x : Int) : Bool := (List.range l.length).all fun i => !ieq (l.getD i 0) x && (List.range i).all fun j => !strF p (l.getD i 0) (l.getD j 0) x
noncomputable def frF (p : Int) (l : List Int) : List Int := flt (fun (x : Nat) => mayA p l (x : Int)) (ptsC p).length
noncomputable def con108 : Con := mkC 108 [.d (.ptr Plane), .d LI] [LI] (fun (k : PlaneD) (l : List Int) => [isPl k, setP k.1 l]) (fun (k : PlaneD) (l : List Int) => (frF k.1 l, ()))
noncomputable def g108_l0 (x0 : Int × List (Int × Int × Int × Unit) × List ((Int × Int × Int × Unit) × Int) × Unit) (x1 : List Int) (d2 d3 d4 : Int × List Int × Unit) : Option (Lp (Int × List Int × Unit) (Lp (Int × List Int × Unit) (Lp (Int × List Int × Unit) (List Int × Unit)))) := bif ilt d4.1 (↑(List.length (List.take (Int.toNat d3.1) x1)) : Int) then gd ((0 : Int) ≤ d4.1 ∧ d4.1 < (↑(List.length (List.take (Int.toNat d3.1) x1)) : Int)) (gd (isPl x0) (gd (inPt x0.1 (List.getD x1 (Int.toNat d3.1) (0 : Int)) = true) (gd (inPt x0.1 (List.getD (List.take (Int.toNat d3.1) x1) (Int.toNat d4.1) (0 : Int)) = true) (gd (inPt x0.1 d2.1 = true) (bif strF x0.1 (List.getD x1 (Int.toNat d3.1) (0 : Int)) (List.getD (List.take (Int.toNat d3.1) x1) (Int.toNat d4.1) (0 : Int)) d2.1 then gd (List.length d4.2.1 = List.length d4.2.1) (some (Lp.out (Lp.out (Lp.go ((wr IntKind.i64 (d2.1 + (1 : Int)), d4.2.1, ()) : Int × List Int × Unit))))) else gd (List.length d4.2.1 = List.length d4.2.1) (some (Lp.go ((wr IntKind.i64 (d4.1 + (1 : Int)), d4.2.1, ()) : Int × List Int × Unit)))))))) else gd (List.length d4.2.1 = List.length d4.2.1) (some (Lp.out (Lp.go ((wr IntKind.i64 (d3.1 + (1 : Int)), d4.2.1, ()) : Int × List Int × Unit))))
noncomputable def g108_l1 (x0 : Int × List (Int × Int × Int × Unit) × List ((Int × Int × Int × Unit) × Int) × Unit) (x1 : List Int) (d2 d3 : Int × List Int × Unit) : Option (Lp (Int × List Int × Unit) (Lp (Int × List Int × Unit) (List Int × Unit))) := bif ilt d3.1 (↑(List.length x1) : Int) then gd ((0 : Int) ≤ d3.1 ∧ d3.1 < (↑(List.length x1) : Int)) (bif ieq (List.getD x1 (Int.toNat d3.1) (0 : Int)) d2.1 then gd (List.length d3.2.1 = List.length d3.2.1) (some (Lp.out (Lp.go ((wr IntKind.i64 (d2.1 + (1 : Int)), d3.2.1, ()) : Int × List Int × Unit)))) else gd ((0 : Int) ≤ d3.1 ∧ d3.1 ≤ (↑(List.length x1) : Int)) (gd (List.length d3.2.1 = List.length d3.2.1) (whileO (g108_l0 x0 x1 d2 d3) (((0 : Int), d3.2.1, ()) : Int × List Int × Unit)))) else gd (List.length d3.2.1 ≤ List.length d3.2.1) (gd ((List.length d3.2.1 + (1 : Nat)) * (8 : Nat) ≤ (1099511627776 : Nat)) (gd (List.length d3.2.1 + (1 : Nat) = List.length (List.take (List.length d3.2.1) d3.2.1 ++ d2.1 :: ([] : List Int))) (some (Lp.out (Lp.go ((wr IntKind.i64 (d2.1 + (1 : Int)), List.take (List.length d3.2.1) d3.2.1 ++ d2.1 :: ([] : List Int), ()) : Int × List Int × Unit))))))
noncomputable def g108 (x0 : Int × List (Int × Int × Int × Unit) × List ((Int × Int × Int × Unit) × Int) × Unit) (x1 : List Int) : Option (List Int × Unit) := gd ((0 : Nat) = (0 : Nat)) (whileO (fun (d2 : Int × List Int × Unit) => bif ilt d2.1 (↑(List.length x0.2.1) : Int) then gd (List.length d2.2.1 = List.length d2.2.1) (whileO (g108_l1 x0 x1 d2) (((0 : Int), d2.2.1, ()) : Int × List Int × Unit)) else gd ((0 : Nat) + List.length d2.2.1 ≤ List.length d2.2.1) (some (Lp.out ((List.take (List.length d2.2.1) (List.drop (0 : Nat) d2.2.1), ()) : List Int × Unit)))) (((0 : Int), ([] : List Int), ()) : Int × List Int × Unit))
noncomputable def g108_sh : List LSh := LSh.mk (((5, TV.slf (0) (1)) : Nat × TV) :: ((16, TV.v (Ty.int IntKind.i64)) : Nat × TV) :: ([] : List (Nat × TV))) (TB.arr (Ty.int IntKind.i64) true :: ([] : List TB)) :: LSh.mk (((5, TV.slf (0) (1)) : Nat × TV) :: ((21, TV.v (Ty.int IntKind.i64)) : Nat × TV) :: ([] : List (Nat × TV))) (TB.arr (Ty.int IntKind.i64) true :: ([] : List TB)) :: LSh.mk (((5, TV.slf (0) (1)) : Nat × TV) :: ((33, TV.v (Ty.int IntKind.i64)) : Nat × TV) :: ([] : List (Nat × TV))) (TB.arr (Ty.int IntKind.i64) true :: ([] : List TB)) :: ([] : List LSh)
noncomputable def freeX (p : Int) (l : List Int) : List Int × Int × Unit := if okSet p l = true then (if arcF p l = true then (frF p l, 0, ()) else ([], 5, ())) else ([], 2, ())
noncomputable def con61 : Con := mkC 61 [.d I64, .d LI] [LI, I64] (fun (p : Int) (l : List Int) => [small l]) (fun (p : Int) (l : List Int) => freeX p l)
noncomputable def g61 (x0 : Int) (x1 : List Int) : Option (List Int × Int × Unit) := gd (small x1) (bif !(setF x0 x1).2.1 then some ((([] : List Int), (2 : Int), ()) : List Int × Int × Unit) else gd (Option.isSome (setF x0 x1).1 = true) (gd (isPl (Option.getD (setF x0 x1).1 (((0 : Int), ([] : List (Int × Int × Int × Unit)), ([] : List ((Int × Int × Int × Unit) × Int)), ()) : Int × List (Int × Int × Int × Unit) × List ((Int × Int × Int × Unit) × Int) × Unit))) (gd (setP (Option.getD (setF x0 x1).1 (((0 : Int), ([] : List (Int × Int × Int × Unit)), ([] : List ((Int × Int × Int × Unit) × Int)), ()) : Int × List (Int × Int × Int × Unit) × List ((Int × Int × Int × Unit) × Int) × Unit)).1 x1) (bif !arcF (Option.getD (setF x0 x1).1 (((0 : Int), ([] : List (Int × Int × Int × Unit)), ([] : List ((Int × Int × Int × Unit) × Int)), ()) : Int × List (Int × Int × Int × Unit) × List ((Int × Int × Int × Unit) × Int) × Unit)).1 x1 then some ((([] : List Int), (5 : Int), ()) : List Int × Int × Unit) else gd (Option.isSome (setF x0 x1).1 = true) (gd (isPl (Option.getD (setF x0 x1).1 (((0 : Int), ([] : List (Int × Int × Int × Unit)), ([] : List ((Int × Int × Int × Unit) × Int)), ()) : Int × List (Int × Int × Int × Unit) × List ((Int × Int × Int × Unit) × Int) × Unit))) (gd (setP (Option.getD (setF x0 x1).1 (((0 : Int), ([] : List (Int × Int × Int × Unit)), ([] : List ((Int × Int × Int × Unit) × Int)), ()) : Int × List (Int × Int × Int × Unit) × List ((Int × Int × Int × Unit) × Int) × Unit)).1 x1) (some ((frF (Option.getD (setF x0 x1).1 (((0 : Int), ([] : List (Int × Int × Int × Unit)), ([] : List ((Int × Int × Int × Unit) × Int)), ()) : Int × List (Int × Int × Int × Unit) × List ((Int × Int × Int × Unit) × Int) × Unit)).1 x1, (0 : Int), ()) : List Int × Int × Unit))))))))
noncomputable def g61_sh : List LSh := ([] : List LSh)
noncomputable def con38s : SCon := mkS 38 [.v LI] [] [.slf 0 1] [.arr I64 true] (fun (l : List Int) => [l.length ≤ 100000]) (fun (l : List Int) => (l, ()))
noncomputable def g38s (x0 : List Int) : Option (List Int × Unit) := Option.map id (eqO (List.length x0 = (0 : Nat)) (gd ((0 : Nat) = (0 : Nat)) (some ((([] : List Int), ()) : List Int × Unit))) (gd ((0 : Nat) ≤ (0 : Nat)) (gd (((0 : Nat) + List.length x0) * (8 : Nat) ≤ (1099511627776 : Nat)) (gd ((0 : Nat) + List.length x0 = List.length x0) (some ((x0, ()) : List Int × Unit))))))
noncomputable def g38s_sh : List LSh := ([] : List LSh)
def plN : PlaneD := (0, [], [], ())
noncomputable def con108s : SCon := mkS 108 [.v (.optr Plane), .slf 0 1] [AI] [.v LI] [AI] (fun (k : Option PlaneD) (l : List Int) => [k.isSome = true, isPl (k.getD plN), setP (k.getD plN).1 l]) (fun (k : Option PlaneD) (l : List Int) => (frF (k.getD plN).1 l, l, ()))
noncomputable def g108s_l0 (x0 : Option (Int × List (Int × Int × Int × Unit) × List ((Int × Int × Int × Unit) × Int) × Unit)) (d2 d3 : Int × List Int × List Int × Unit) (d4 : Int × Int × List Int × List Int × Unit) : Option (Lp (Int × Int × List Int × List Int × Unit) (Lp (Int × List Int × List Int × Unit) (Lp (Int × List Int × List Int × Unit) (List Int × List Int × Unit)))) := bif ilt d4.2.1 (↑(Int.toNat d3.1) : Int) then gd ((0 : Int) ≤ d4.2.1 ∧ d4.2.1 < (↑(Int.toNat d4.1) : Int)) (gd ((0 : Nat) + Int.toNat d4.2.1 < List.length d4.2.2.1) (gd (Option.isSome x0 = true) (gd (isPl (Option.getD x0 (((0 : Int), ([] : List (Int × Int × Int × Unit)), ([] : List ((Int × Int × Int × Unit) × Int)), ()) : Int × List (Int × Int × Int × Unit) × List ((Int × Int × Int × Unit) × Int) × Unit))) (gd (inPt (Option.getD x0 (((0 : Int), ([] : List (Int × Int × Int × Unit)), ([] : List ((Int × Int × Int × Unit) × Int)), ()) : Int × List (Int × Int × Int × Unit) × List ((Int × Int × Int × Unit) × Int) × Unit)).1 (List.getD d3.2.1 ((0 : Nat) + Int.toNat d3.1) (0 : Int)) = true) (gd (inPt (Option.getD x0 (((0 : Int), ([] : List (Int × Int × Int × Unit)), ([] : List ((Int × Int × Int × Unit) × Int)), ()) : Int × List (Int × Int × Int × Unit) × List ((Int × Int × Int × Unit) × Int) × Unit)).1 (List.getD d4.2.2.1 ((0 : Nat) + Int.toNat d4.2.1) (0 : Int)) = true) (gd (inPt (Option.getD x0 (((0 : Int), ([] : List (Int × Int × Int × Unit)), ([] : List ((Int × Int × Int × Unit) × Int)), ()) : Int × List (Int × Int × Int × Unit) × List ((Int × Int × Int × Unit) × Int) × Unit)).1 d2.1 = true) (bif strF (Option.getD x0 (((0 : Int), ([] : List (Int × Int × Int × Unit)), ([] : List ((Int × Int × Int × Unit) × Int)), ()) : Int × List (Int × Int × Int × Unit) × List ((Int × Int × Int × Unit) × Int) × Unit)).1 (List.getD d3.2.1 ((0 : Nat) + Int.toNat d3.1) (0 : Int)) (List.getD d4.2.2.1 ((0 : Nat) + Int.toNat d4.2.1) (0 : Int)) d2.1 then gd (List.length d4.2.2.1 = List.length d4.2.2.1) (gd (List.length d4.2.2.2.1 = List.length d4.2.2.2.1) (some (Lp.out (Lp.out (Lp.go ((wr IntKind.i64 (d2.1 + (1 : Int)), d4.2.2.1, d4.2.2.2.1, ()) : Int × List Int × List Int × Unit)))))) else gd (List.length d4.2.2.1 = List.length d4.2.2.1) (gd (List.length d4.2.2.2.1 = List.length d4.2.2.2.1) (gd (List.length d4.2.2.1 = List.length d4.2.2.1) (some (Lp.go (((↑(Int.toNat d4.1) : Int), wr IntKind.i64 (d4.2.1 + (1 : Int)), d4.2.2.1, d4.2.2.2.1, ()) : Int × Int × List Int × List Int × Unit)))))))))))) else gd (List.length d4.2.2.1 = List.length d4.2.2.1) (gd (List.length d4.2.2.2.1 = List.length d4.2.2.2.1) (gd (List.length d4.2.2.1 = List.length d4.2.2.1) (some (Lp.out (Lp.go ((wr IntKind.i64 (d3.1 + (1 : Int)), d4.2.2.1, d4.2.2.2.1, ()) : Int × List Int × List Int × Unit))))))
noncomputable def g108s_l1 (x0 : Option (Int × List (Int × Int × Int × Unit) × List ((Int × Int × Int × Unit) × Int) × Unit)) (d2 d3 : Int × List Int × List Int × Unit) : Option (Lp (Int × List Int × List Int × Unit) (Lp (Int × List Int × List Int × Unit) (List Int × List Int × Unit))) := bif ilt d3.1 (↑(List.length d2.2.1) : Int) then gd ((0 : Int) ≤ d3.1 ∧ d3.1 < (↑(List.length d3.2.1) : Int)) (gd ((0 : Nat) + Int.toNat d3.1 < List.length d3.2.1) (bif ieq (List.getD d3.2.1 ((0 : Nat) + Int.toNat d3.1) (0 : Int)) d2.1 then gd (List.length d3.2.1 = List.length d3.2.1) (gd (List.length d3.2.2.1 = List.length d3.2.2.1) (some (Lp.out (Lp.go ((wr IntKind.i64 (d2.1 + (1 : Int)), d3.2.1, d3.2.2.1, ()) : Int × List Int × List Int × Unit))))) else gd ((0 : Int) ≤ d3.1 ∧ d3.1 ≤ (↑(List.length d3.2.1) : Int)) (gd (List.length d3.2.1 = List.length d3.2.1) (gd (List.length d3.2.2.1 = List.length d3.2.2.1) (gd (List.length d3.2.1 = List.length d3.2.1) (whileO (g108s_l0 x0 d2 d3) (((↑(Int.toNat d3.1) : Int), (0 : Int), d3.2.1, d3.2.2.1, ()) : Int × Int × List Int × List Int × Unit))))))) else gd (List.length d3.2.2.1 ≤ List.length d3.2.2.1) (gd ((List.length d3.2.2.1 + (1 : Nat)) * (8 : Nat) ≤ (1099511627776 : Nat)) (gd (List.length d3.2.1 = List.length d3.2.1) (gd (List.length d3.2.2.1 + (1 : Nat) = List.length (List.take (List.length d3.2.2.1) d3.2.2.1 ++ d2.1 :: ([] : List Int))) (some (Lp.out (Lp.go ((wr IntKind.i64 (d2.1 + (1 : Int)), d3.2.1, List.take (List.length d3.2.2.1) d3.2.2.1 ++ d2.1 :: ([] : List Int), ()) : Int × List Int × List Int × Unit)))))))
noncomputable def g108s (x0 : Option (Int × List (Int × Int × Int × Unit) × List ((Int × Int × Int × Unit) × Int) × Unit)) (x1 : List Int) : Option (List Int × List Int × Unit) := gd (Option.isSome x0 = true) (gd (List.length x1 = List.length x1) (gd ((0 : Nat) = (0 : Nat)) (whileO (fun (d2 : Int × List Int × List Int × Unit) => bif ilt d2.1 (↑(List.length (Option.getD x0 (((0 : Int), ([] : List (Int × Int × Int × Unit)), ([] : List ((Int × Int × Int × Unit) × Int)), ()) : Int × List (Int × Int × Int × Unit) × List ((Int × Int × Int × Unit) × Int) × Unit)).2.1) : Int) then gd (List.length d2.2.1 = List.length d2.2.1) (gd (List.length d2.2.2.1 = List.length d2.2.2.1) (gd (List.length d2.2.1 = List.length d2.2.1) (whileO (g108s_l1 x0 d2) (((0 : Int), d2.2.1, d2.2.2.1, ()) : Int × List Int × List Int × Unit)))) else gd ((0 : Nat) + List.length d2.2.2.1 ≤ List.length d2.2.2.1) (some (Lp.out ((List.take (List.length d2.2.2.1) (List.drop (0 : Nat) d2.2.2.1), d2.2.1, ()) : List Int × List Int × Unit)))) (((0 : Int), x1, ([] : List Int), ()) : Int × List Int × List Int × Unit))))
noncomputable def g108s_sh : List LSh := LSh.mk3 (((1, TV.slf (0) (1)) : Nat × TV) :: ((5, TV.slf (1) (1)) : Nat × TV) :: ((16, TV.v (Ty.int IntKind.i64)) : Nat × TV) :: ([] : List (Nat × TV))) (TB.arr (Ty.int IntKind.i64) true :: TB.arr (Ty.int IntKind.i64) true :: ([] : List TB)) (1) :: LSh.mk3 (((1, TV.slf (0) (1)) : Nat × TV) :: ((5, TV.slf (1) (1)) : Nat × TV) :: ((19, TV.slf (0) (1)) : Nat × TV) :: ((21, TV.v (Ty.int IntKind.i64)) : Nat × TV) :: ([] : List (Nat × TV))) (TB.arr (Ty.int IntKind.i64) true :: TB.arr (Ty.int IntKind.i64) true :: ([] : List TB)) (1) :: LSh.mk3 (((1, TV.slf (0) (1)) : Nat × TV) :: ((5, TV.slf (1) (1)) : Nat × TV) :: ((19, TV.slf (0) (1)) : Nat × TV) :: ((31, TV.sl (0) (1) (0)) : Nat × TV) :: ((33, TV.v (Ty.int IntKind.i64)) : Nat × TV) :: ([] : List (Nat × TV))) (TB.arr (Ty.int IntKind.i64) true :: TB.arr (Ty.int IntKind.i64) true :: ([] : List TB)) (1) :: ([] : List LSh)
def withL (l : List Int) (x : Int) : List Int := l.filter (fun y => ilt y x) ++ x :: l.filter (fun y => ilt x y)
noncomputable def growA (f : List Int → List Int) : Nat → List Int → List Int
  | 0, l => l
  | n + 1, l => if (f l).length = 0 then l else growA f n (withL l ((f l).getD 0 0))
noncomputable def growX (p : Int) (l : List Int) : List Int × Int × Unit := if okSet p l = true then (if arcF p l = true then (growA (frF p) 60 l, 0, ()) else ([], 5, ())) else ([], 2, ())
noncomputable def con62 : Con := mkC 62 [.d I64, .d LI] [LI, I64] (fun (p : Int) (l : List Int) => [small l]) (fun (p : Int) (l : List Int) => growX p l)
noncomputable def g62 (x0 : Int) (x1 : List Int) : Option (List Int × Int × Unit) := gd (small x1) (bif !(setF x0 x1).2.1 then some ((([] : List Int), (2 : Int), ()) : List Int × Int × Unit) else gd (Option.isSome (setF x0 x1).1 = true) (gd (isPl (Option.getD (setF x0 x1).1 (((0 : Int), ([] : List (Int × Int × Int × Unit)), ([] : List ((Int × Int × Int × Unit) × Int)), ()) : Int × List (Int × Int × Int × Unit) × List ((Int × Int × Int × Unit) × Int) × Unit))) (gd (setP (Option.getD (setF x0 x1).1 (((0 : Int), ([] : List (Int × Int × Int × Unit)), ([] : List ((Int × Int × Int × Unit) × Int)), ()) : Int × List (Int × Int × Int × Unit) × List ((Int × Int × Int × Unit) × Int) × Unit)).1 x1) (bif !arcF (Option.getD (setF x0 x1).1 (((0 : Int), ([] : List (Int × Int × Int × Unit)), ([] : List ((Int × Int × Int × Unit) × Int)), ()) : Int × List (Int × Int × Int × Unit) × List ((Int × Int × Int × Unit) × Int) × Unit)).1 x1 then some ((([] : List Int), (5 : Int), ()) : List Int × Int × Unit) else gd (List.length x1 ≤ (100000 : Nat)) (gd (List.length x1 = List.length x1) (gd (Option.isSome (setF x0 x1).1 = true) (gd (isPl (Option.getD (setF x0 x1).1 (((0 : Int), ([] : List (Int × Int × Int × Unit)), ([] : List ((Int × Int × Int × Unit) × Int)), ()) : Int × List (Int × Int × Int × Unit) × List ((Int × Int × Int × Unit) × Int) × Unit))) (gd (setP (Option.getD (setF x0 x1).1 (((0 : Int), ([] : List (Int × Int × Int × Unit)), ([] : List ((Int × Int × Int × Unit) × Int)), ()) : Int × List (Int × Int × Int × Unit) × List ((Int × Int × Int × Unit) × Int) × Unit)).1 x1) (gd (List.length x1 = List.length x1) (whileO (fun (d2 : List Int × List Int × Unit) => bif ilt (0 : Int) (↑(List.length d2.1) : Int) then gd ((0 : Int) ≤ (0 : Int) ∧ (0 : Int) < (↑(List.length d2.1) : Int)) (gd (List.length d2.2.1 ≤ List.length d2.2.1) (gd ((List.length d2.2.1 + (1 : Nat)) * (8 : Nat) ≤ (1099511627776 : Nat)) (gd (List.length d2.2.1 + (1 : Nat) = List.length (List.take (List.length d2.2.1) d2.2.1 ++ List.getD d2.1 (0 : Nat) (0 : Int) :: ([] : List Int))) (gd (List.length (List.take (List.length d2.2.1) d2.2.1 ++ List.getD d2.1 (0 : Nat) (0 : Int) :: ([] : List Int)) < (4611686018427387904 : Nat)) (gd (List.length d2.2.1 + (1 : Nat) = List.length (sortL (List.take (List.length d2.2.1) d2.2.1 ++ List.getD d2.1 (0 : Nat) (0 : Int) :: ([] : List Int)))) (gd (Option.isSome (setF x0 x1).1 = true) (gd (isPl (Option.getD (setF x0 x1).1 (((0 : Int), ([] : List (Int × Int × Int × Unit)), ([] : List ((Int × Int × Int × Unit) × Int)), ()) : Int × List (Int × Int × Int × Unit) × List ((Int × Int × Int × Unit) × Int) × Unit))) (gd (setP (Option.getD (setF x0 x1).1 (((0 : Int), ([] : List (Int × Int × Int × Unit)), ([] : List ((Int × Int × Int × Unit) × Int)), ()) : Int × List (Int × Int × Int × Unit) × List ((Int × Int × Int × Unit) × Int) × Unit)).1 (sortL (List.take (List.length d2.2.1) d2.2.1 ++ List.getD d2.1 (0 : Nat) (0 : Int) :: ([] : List Int)))) (gd (List.length d2.2.1 + (1 : Nat) = List.length (sortL (List.take (List.length d2.2.1) d2.2.1 ++ List.getD d2.1 (0 : Nat) (0 : Int) :: ([] : List Int)))) (some (Lp.go ((frF (Option.getD (setF x0 x1).1 (((0 : Int), ([] : List (Int × Int × Int × Unit)), ([] : List ((Int × Int × Int × Unit) × Int)), ()) : Int × List (Int × Int × Int × Unit) × List ((Int × Int × Int × Unit) × Int) × Unit)).1 (sortL (List.take (List.length d2.2.1) d2.2.1 ++ List.getD d2.1 (0 : Nat) (0 : Int) :: ([] : List Int))), sortL (List.take (List.length d2.2.1) d2.2.1 ++ List.getD d2.1 (0 : Nat) (0 : Int) :: ([] : List Int)), ()) : List Int × List Int × Unit)))))))))))) else gd ((0 : Nat) + List.length d2.2.1 ≤ List.length d2.2.1) (some (Lp.out ((List.take (List.length d2.2.1) (List.drop (0 : Nat) d2.2.1), (0 : Int), ()) : List Int × Int × Unit)))) ((frF (Option.getD (setF x0 x1).1 (((0 : Int), ([] : List (Int × Int × Int × Unit)), ([] : List ((Int × Int × Int × Unit) × Int)), ()) : Int × List (Int × Int × Int × Unit) × List ((Int × Int × Int × Unit) × Int) × Unit)).1 x1, x1, ()) : List Int × List Int × Unit)))))))))))
noncomputable def g62_sh : List LSh := LSh.mk (((8, TV.slf (0) (1)) : Nat × TV) :: ((9, TV.v (Ty.slice (Ty.int IntKind.i64))) : Nat × TV) :: ([] : List (Nat × TV))) (TB.arr (Ty.int IntKind.i64) true :: ([] : List TB)) :: ([] : List LSh)

/-! the reference -/
end Go.Arcs

set_option linter.unusedVariables false
set_option linter.unusedSimpArgs false
namespace Go.Arcs
open Go Go.Ab Go.Proofs

section
variable {α : Type} {f : α → Bool} {d : α}
theorem cnt1 {l : List α} : 1 ≤ l.countP f ↔ ∃ i, i < l.length ∧ f (l.getD i d) = true := by
  rw [show (1 ≤ l.countP f) = (0 < l.countP f) from rfl, List.countP_pos_iff]
  constructor
  · rintro ⟨a, ha, hf⟩
    obtain ⟨i, hi, rfl⟩ := List.getElem_of_mem ha
    exact ⟨i, hi, by rw [gd_at hi]; exact hf⟩
  · rintro ⟨i, hi, hf⟩
    rw [gd_at hi] at hf
    exact ⟨_, List.getElem_mem hi, hf⟩
theorem cnt2 : ∀ {l : List α}, 2 ≤ l.countP f ↔ ∃ j i, j < i ∧ i < l.length ∧ f (l.getD j d) = true ∧ f (l.getD i d) = true
  | [] => by simp
  | x :: l => by
    rw [List.countP_cons]
    constructor
    · intro h
      by_cases hx : f x = true
      · rw [if_pos hx] at h
        obtain ⟨i, h1, h2⟩ := (cnt1 (d := d)).1 (show 1 ≤ l.countP f by omega)
        exact ⟨0, i + 1, by omega, by simpa using h1, hx, by simpa using h2⟩
      · rw [if_neg hx] at h
        obtain ⟨j, i, h1, h2, h3, h4⟩ := (cnt2 (l := l)).1 (by omega)
        exact ⟨j + 1, i + 1, by omega, by simpa using h2, by simpa using h3, by simpa using h4⟩
    · rintro ⟨j, i, h1, h2, h3, h4⟩
      obtain ⟨i, rfl⟩ : ∃ k, i = k + 1 := ⟨i - 1, by omega⟩
      rw [List.length_cons] at h2
      rw [List.getD_cons_succ] at h4
      cases j with
      | zero =>
        rw [List.getD_cons_zero] at h3
        rw [if_pos h3]
        have := (cnt1 (f := f) (d := d) (l := l)).2 ⟨i, by omega, h4⟩
        omega
      | succ j =>
        rw [List.getD_cons_succ] at h3
        have := (cnt2 (l := l)).2 ⟨j, i, by omega, by omega, h3, h4⟩
        omega
theorem cnt3 : ∀ {l : List α}, 3 ≤ l.countP f ↔ ∃ h j i, h < j ∧ j < i ∧ i < l.length ∧ f (l.getD h d) = true ∧ f (l.getD j d) = true ∧ f (l.getD i d) = true
  | [] => by simp
  | x :: l => by
    rw [List.countP_cons]
    constructor
    · intro h
      by_cases hx : f x = true
      · rw [if_pos hx] at h
        obtain ⟨j, i, h1, h2, h3, h4⟩ := (cnt2 (d := d)).1 (show 2 ≤ l.countP f by omega)
        exact ⟨0, j + 1, i + 1, by omega, by omega, by simpa using h2, hx, by simpa using h3, by simpa using h4⟩
      · rw [if_neg hx] at h
        obtain ⟨k, j, i, h0, h1, h2, h3, h4, h5⟩ := (cnt3 (l := l)).1 (by omega)
        exact ⟨k + 1, j + 1, i + 1, by omega, by omega, by simpa using h2, by simpa using h3, by simpa using h4, by simpa using h5⟩
    · rintro ⟨k, j, i, h0, h1, h2, h3, h4, h5⟩
      obtain ⟨i, rfl⟩ : ∃ k, i = k + 1 := ⟨i - 1, by omega⟩
      obtain ⟨j, rfl⟩ : ∃ k, j = k + 1 := ⟨j - 1, by omega⟩
      rw [List.length_cons] at h2
      rw [List.getD_cons_succ] at h4 h5
      cases k with
      | zero =>
        rw [List.getD_cons_zero] at h3
        rw [if_pos h3]
        have := (cnt2 (f := f) (d := d) (l := l)).2 ⟨j, i, by omega, by omega, h4, h5⟩
        omega
      | succ k =>
        rw [List.getD_cons_succ] at h3
        have := (cnt3 (l := l)).2 ⟨k, j, i, by omega, by omega, by omega, h3, h4, h5⟩
        omega
end

section
variable {p : Int}
theorem range_at {n i : Nat} (h : i < n) : (List.range n).getD i 0 = i := by
  rw [List.getD_eq_getElem?_getD, List.getElem?_range h]; rfl
/-- Two points are on one line alone. -/
theorem line_one (hp : isP p) {x y b c : Nat} (hx : x < (ptsC p).length) (hy : y < (ptsC p).length) (hb : b < (ptsC p).length) (hc : c < (ptsC p).length) (hne : x ≠ y) (h1 : onF p x b = true) (h2 : onF p y b = true) (h3 : onF p x c = true) (h4 : onF p y c = true) : b = c := by
  have h := through_two hp hx hy hne
  rw [sumN_congr (g := fun b => ind (onF p x b && onF p y b)) fun b _ => by cases onF p x b <;> cases onF p y b <;> rfl, sumN_count] at h
  rcases Nat.lt_trichotomy b c with hlt | he | hlt
  · have := (cnt2 (f := fun b : Nat => onF p x b && onF p y b) (d := 0) (l := List.range (ptsC p).length)).2 ⟨b, c, hlt, by simpa using hc, by rw [range_at hb, h1, h2]; rfl, by rw [range_at hc, h3, h4]; rfl⟩
    omega
  · exact he
  · have := (cnt2 (f := fun b : Nat => onF p x b && onF p y b) (d := 0) (l := List.range (ptsC p).length)).2 ⟨c, b, hlt, by simpa using hb, by rw [range_at hc, h3, h4]; rfl, by rw [range_at hb, h1, h2]; rfl⟩
    omega
theorem in_nat' (hp : isP p) {x : Int} (hx : inPt p x = true) : ∃ n : Nat, x = n ∧ n < (ptsC p).length := by
  have h1 := inPt_iff.1 hx
  have := pts_len p (isP_mem hp)
  exact ⟨x.toNat, by omega, by omega⟩
/-- Three points are on one line. -/
theorem str_iff (hp : isP p) {a b c : Int} (ha : inPt p a = true) (hb : inPt p b = true) (hc : inPt p c = true) (hab : a ≠ b) : strF p a b c = true ↔ ∃ k : Nat, k < (ptsC p).length ∧ onF p a k = true ∧ onF p b k = true ∧ onF p c k = true := by
  rw [str_on hp ha hb hc hab, ← thr_join hp ha hb hab]
  obtain ⟨j1, j2, j3⟩ := join_on hp ha hb hab
  obtain ⟨n, hn, hn2⟩ := in_nat' hp j1
  rw [hn] at j2 j3 ⊢
  constructor
  · exact fun h => ⟨n, hn2, j2, j3, h⟩
  · rintro ⟨k, k1, k2, k3, k4⟩
    obtain ⟨x, rfl, hx⟩ := in_nat' hp ha
    obtain ⟨y, rfl, hy⟩ := in_nat' hp hb
    have := line_one hp hx hy hn2 k1 (fun e => hab (by rw [e])) j2 j3 k2 k3
    rw [this]; exact k4

theorem ris_pw : ∀ {l : List Int}, ris l = true → l.Pairwise (· < ·)
  | [], _ => List.Pairwise.nil
  | x :: l, h => by
    obtain ⟨h1, h2⟩ := ris_cons h
    exact List.Pairwise.cons h2 (ris_pw h1)
theorem pw_ris : ∀ {l : List Int}, l.Pairwise (· < ·) → ris l = true
  | [], _ => rfl
  | [x], _ => rfl
  | x :: y :: l, h => by
    obtain ⟨h1, h2⟩ := List.pairwise_cons.1 h
    have := pw_ris h2
    simp only [ris, this, Bool.and_true, decide_eq_true_eq]
    exact h1 y (List.mem_cons_self ..)
theorem ris_at {l : List Int} (hr : ris l = true) {i j : Nat} (hj : j < i) (hi : i < l.length) : l.getD j 0 < l.getD i 0 := by
  rw [gd_at hi, gd_at (show j < l.length by omega)]
  exact List.pairwise_iff_getElem.1 (ris_pw hr) j i (by omega) hi hj
theorem all_at {q : Int → Bool} {l : List Int} (h : l.all q = true) {i : Nat} (hi : i < l.length) : q (l.getD i 0) = true := by
  rw [gd_at hi]; exact List.all_eq_true.1 h _ (List.getElem_mem hi)

variable {l : List Int}
/-- An arc has at most two points on a line. -/
theorem arc_iff (hp : isP p) (hl : l.all (inPt p) = true) (hr : ris l = true) : arcF p l = true ↔ ∀ b : Nat, b < (ptsC p).length → meetsF p l b ≤ 2 := by
  have e1 : arcF p l = true ↔ ∀ i j h, h < j → j < i → i < l.length → strF p (l.getD h 0) (l.getD j 0) (l.getD i 0) = false := by
    unfold arcF
    simp only [List.all_eq_true, List.mem_range, Bool.not_eq_true']
    exact ⟨fun H i j h h1 h2 h3 => H i h3 j h2 h h1, fun H i h3 j h2 h h1 => H i j h h1 h2 h3⟩
  rw [e1]
  constructor
  · intro H b hb
    rcases (show 2 < meetsF p l b ∨ meetsF p l b ≤ 2 by omega) with hlt | hle
    · exfalso
      unfold meetsF at hlt
      obtain ⟨h, j, i, h1, h2, h3, h4, h5, h6⟩ := (cnt3 (f := fun x => onF p x b) (d := (0 : Int)) (l := l)).1 (by omega)
      have := H i j h h1 h2 h3
      rw [(str_iff hp (all_at hl (by omega)) (all_at hl (by omega)) (all_at hl h3) (by have := ris_at hr h1 (by omega); omega)).2 ⟨b, hb, h4, h5, h6⟩] at this
      cases this
    · exact hle
  · intro H i j h h1 h2 h3
    rw [Bool.eq_false_iff]
    intro hs
    obtain ⟨b, b1, b2, b3, b4⟩ := (str_iff hp (all_at hl (by omega)) (all_at hl (by omega)) (all_at hl h3) (by have := ris_at hr h1 (by omega); omega)).1 hs
    have := (cnt3 (f := fun x => onF p x b) (d := (0 : Int)) (l := l)).2 ⟨h, j, i, h1, h2, h3, b2, b3, b4⟩
    have h4 := H b b1
    unfold meetsF at h4
    omega
/-! ### One point more -/
theorem with_perm {x : Int} (h : x ∉ l) : (withL l x).Perm (x :: l) := by
  unfold withL
  refine List.perm_middle.trans (List.Perm.cons x ?_)
  have e : l.filter (fun y => ilt x y) = l.filter (fun y => !ilt y x) := List.filter_congr fun y hy => by
    have hne : y ≠ x := fun e => h (e ▸ hy)
    rw [Bool.eq_iff_iff, ilt_iff, Bool.not_eq_true', ilt_false]
    omega
  rw [e]
  exact List.filter_append_perm _ _
theorem with_ris {x : Int} (hr : ris l = true) : ris (withL l x) = true := by
  refine pw_ris ?_
  unfold withL
  have hp := ris_pw hr
  refine List.pairwise_append.2 ⟨hp.sublist (List.filter_sublist ..), List.Pairwise.cons (fun y hy => ?_) (hp.sublist (List.filter_sublist ..)), fun a ha b hb => ?_⟩
  · exact ilt_iff.1 (List.mem_filter.1 hy).2
  · have h1 := ilt_iff.1 (List.mem_filter.1 ha).2
    rcases List.mem_cons.1 hb with rfl | hb
    · exact h1
    · have h2 := ilt_iff.1 (List.mem_filter.1 hb).2
      omega
theorem with_sort {x : Int} (hr : ris l = true) (h : x ∉ l) : sortL (l ++ [x]) = withL l x :=
  (sortL_perm.trans ((List.perm_append_comm (l₁ := l) (l₂ := [x])).trans (with_perm h).symm)).eq_of_pairwise (fun a b _ _ h1 h2 => Int.le_antisymm h1 h2) sortL_pw ((ris_pw (with_ris hr)).imp fun h => Int.le_of_lt h)
theorem with_all {x : Int} (hl : l.all (inPt p) = true) (hx : inPt p x = true) : (withL l x).all (inPt p) = true := by
  rw [List.all_eq_true] at hl ⊢
  intro y hy
  unfold withL at hy
  rcases List.mem_append.1 hy with hy | hy
  · exact hl y (List.mem_filter.1 hy).1
  · rcases List.mem_cons.1 hy with rfl | hy
    · exact hx
    · exact hl y (List.mem_filter.1 hy).1
theorem with_meets {x b : Int} (h : x ∉ l) : meetsF p (withL l x) b = meetsF p l b + if onF p x b = true then 1 else 0 := by
  unfold meetsF
  rw [(with_perm h).countP_eq, List.countP_cons]
  split <;> simp

theorem may_iff (hp : isP p) (hl : l.all (inPt p) = true) (hr : ris l = true) {x : Nat} (hx : x < (ptsC p).length) : mayA p l x = true ↔ (x : Int) ∉ l ∧ ∀ b : Nat, b < (ptsC p).length → onF p x b = true → meetsF p l b ≤ 1 := by
  have hxin := inPt_nat hp hx
  unfold mayA
  simp only [List.all_eq_true, List.mem_range, Bool.and_eq_true, Bool.not_eq_true', ieq_false]
  constructor
  · intro H
    refine ⟨fun hm => ?_, fun b hb hon => ?_⟩
    · obtain ⟨i, hi, he⟩ := List.getElem_of_mem hm
      exact (H i hi).1 (by rw [gd_at hi]; exact he)
    · rcases (show 1 < meetsF p l b ∨ meetsF p l b ≤ 1 by omega) with hlt | hle
      · exfalso
        unfold meetsF at hlt
        obtain ⟨j, i, h1, h2, h3, h4⟩ := (cnt2 (f := fun x => onF p x b) (d := (0 : Int)) (l := l)).1 (by omega)
        have := (H i h2).2 j h1
        rw [(str_iff hp (all_at hl h2) (all_at hl (by omega)) hxin (by have := ris_at hr h1 h2; omega)).2 ⟨b, hb, h4, h3, hon⟩] at this
        cases this
      · exact hle
  · rintro ⟨h1, h2⟩ i hi
    refine ⟨fun e => h1 ?_, fun j hj => ?_⟩
    · rw [← e, gd_at hi]; exact List.getElem_mem hi
    · rw [Bool.eq_false_iff]
      intro hs
      obtain ⟨b, b1, b2, b3, b4⟩ := (str_iff hp (all_at hl hi) (all_at hl (by omega)) hxin (by have := ris_at hr hj hi; omega)).1 hs
      have := (cnt2 (f := fun x => onF p x b) (d := (0 : Int)) (l := l)).2 ⟨j, i, hj, hi, b3, b2⟩
      have h4 := h2 b b1 b4
      unfold meetsF at h4
      omega
/-- What can be added makes an arc. -/
theorem may_arc (hp : isP p) (hl : l.all (inPt p) = true) (hr : ris l = true) (ha : arcF p l = true) {x : Int} (hx : x ∈ frF p l) : inPt p x = true ∧ x ∉ l ∧ (withL l x).all (inPt p) = true ∧ ris (withL l x) = true ∧ arcF p (withL l x) = true := by
  unfold frF flt at hx
  obtain ⟨n, hn, rfl⟩ := List.mem_map.1 hx
  obtain ⟨hn, hm⟩ := List.mem_filter.1 hn
  have hn := List.mem_range.1 hn
  have hxin := inPt_nat hp hn
  obtain ⟨m1, m2⟩ := (may_iff hp hl hr hn).1 hm
  refine ⟨hxin, m1, with_all hl hxin, with_ris hr, (arc_iff hp (with_all hl hxin) (with_ris hr)).2 fun b hb => ?_⟩
  rw [with_meets m1]
  have h2 := (arc_iff hp hl hr).1 ha b hb
  split
  · rename_i hon; have := m2 b hb hon; omega
  · omega
end
end Go.Arcs

set_option linter.unusedVariables false
set_option linter.unusedSimpArgs false
namespace Go.Arcs
open Go Go.Ab Go.Proofs

theorem rng_all {n : Nat} {Q : Nat → Bool} : (List.range n).all Q = true ↔ ∀ i, 0 ≤ i → i < n → Q i = true := by
  rw [List.all_eq_true]
  exact ⟨fun h i _ hi => h i (List.mem_range.2 hi), fun h i hi => h i (Nat.zero_le _) (List.mem_range.1 hi)⟩
theorem take_getD {α : Type} {l : List α} {d : α} {i j : Nat} (h : j < i) : (l.take i).getD j d = l.getD j d := by
  rw [List.getD_eq_getElem?_getD, List.getElem?_take_of_lt h, ← List.getD_eq_getElem?_getD]
abbrev I1D := Int × Unit
/-! Arc -/
noncomputable def arcQ (p : Int) (l : List Int) (i j : Nat) : Bool := (List.range j).all fun h => !strF p (l.getD h 0) (l.getD j 0) (l.getD i 0)
noncomputable def arcP (p : Int) (l : List Int) (i : Nat) : Bool := (List.range i).all (arcQ p l i)
theorem in104a {k : PlaneD} {l : List Int} (hk : isPl k) (hl : l.all (inPt k.1) = true) (h60 : l.length ≤ 60) {i j : Nat} (hi : i < l.length) (hj : j < i) :
    whileO (g104_l0 k l ((i : Int), ()) ((j : Int), ())) (((0 : Int), ()) : I1D) = some (cond (arcQ k.1 l i j) (.go (((j + 1 : Nat) : Int), ())) (.out (.out (false, ())))) := by
  refine whileO_chk (st := fun h : Nat => (((h : Int), ()) : I1D)) (lo := 0) (hi := j) (Q := fun h => !strF k.1 (l.getD h 0) (l.getD j 0) (l.getD i 0)) (b := arcQ k.1 l i j) (x := Lp.out (Lp.out ((false, ()) : Bool × Unit))) (y := Lp.go ((((j + 1 : Nat) : Int), ()) : I1D)) (Nat.zero_le _) rng_all (fun h _ hh => ?_) ?_
  · unfold g104_l0
    dsimp only
    rw [cond_t (ilt_iff.2 (by omega)), gd_pos (by omega), gd_pos (by omega), gd_pos (by omega), gd_pos hk]
    simp only [Int.toNat_natCast]
    rw [gd_pos (all_at hl (by omega)), gd_pos (all_at hl (by omega)), gd_pos (all_at hl hi), cast1 (by omega)]
    cases strF k.1 (l.getD h 0) (l.getD j 0) (l.getD i 0) <;> rfl
  · unfold g104_l0
    dsimp only
    rw [cond_f (ilt_false.2 (by omega)), cast1 (by omega)]
theorem in104b {k : PlaneD} {l : List Int} (hk : isPl k) (hl : l.all (inPt k.1) = true) (h60 : l.length ≤ 60) {i : Nat} (hi : i < l.length) :
    whileO (g104_l1 k l ((i : Int), ())) (((0 : Int), ()) : I1D) = some (cond (arcP k.1 l i) (.go (((i + 1 : Nat) : Int), ())) (.out (false, ()))) := by
  refine whileO_chk (st := fun j : Nat => (((j : Int), ()) : I1D)) (lo := 0) (hi := i) (Q := arcQ k.1 l i) (b := arcP k.1 l i) (x := Lp.out ((false, ()) : Bool × Unit)) (y := Lp.go ((((i + 1 : Nat) : Int), ()) : I1D)) (Nat.zero_le _) rng_all (fun j _ hj => ?_) ?_
  · unfold g104_l1
    dsimp only
    rw [cond_t (ilt_iff.2 (by omega)), in104a hk hl h60 hi hj]
  · unfold g104_l1
    dsimp only
    rw [cond_f (ilt_false.2 (by omega)), cast1 (by omega)]
theorem goal104 : con104.goal Try.prog (spOf [con71]) g104_sh [] lm30 := by
  have e : (∀ (k : PlaneD) (l : List Int), isPl k → setP k.1 l → g104 k l = some (arcF k.1 l, ())) = con104.goal Try.prog (spOf [con71]) g104_sh [] lm30 := by kernel_rfl
  rw [← e]
  rintro k l hk ⟨hl, h60⟩
  unfold g104
  refine (whileO_chk (st := fun i : Nat => (((i : Int), ()) : I1D)) (lo := 0) (hi := l.length) (Q := arcP k.1 l) (b := arcF k.1 l) (x := ((false, ()) : Bool × Unit)) (y := ((true, ()) : Bool × Unit)) (Nat.zero_le _) rng_all (fun i _ hi => ?_) ?_).trans (by cases arcF k.1 l <;> rfl)
  · dsimp only
    rw [cond_t (ilt_iff.2 (by omega)), in104b hk hl h60 hi]
  · dsimp only
    rw [cond_f (ilt_false.2 (by omega))]
set_option maxRecDepth 100000 in
theorem ok104 : con104.Ok Try.prog := Con.of_goal mixed (okC ok71 okN) con104 goal104

theorem set_pl {p : Int} {l : List Int} (h : okSet p l = true) : isPl (planeF p) ∧ setP p l ∧ isP p := by
  obtain ⟨h1, h2, h3⟩ := okSet_all h
  exact ⟨⟨isPb_iff.1 h1, rfl⟩, ⟨h2, by have := ok_len h; omega⟩, isPb_iff.1 h1⟩
theorem goal55 : con55.goal Try.prog (spOf [con78, con104]) g55_sh [] lm30 := by
  have e : (∀ (p : Int) (l : List Int), small l → g55 p l = some (arcX p l)) = con55.goal Try.prog (spOf [con78, con104]) g55_sh [] lm30 := by kernel_rfl
  rw [← e]
  intro p l hs
  unfold g55 arcX
  rw [gd_pos hs]
  by_cases h : okSet p l = true
  · obtain ⟨h1, h2, h3⟩ := set_pl h
    have hp1 : (planeF p).1 = p := rfl
    simp only [setF_ok h, if_pos h, Bool.not_true, cond_false, Option.isSome_some, Option.getD_some, gd_true]
    rw [gd_pos h1, gd_pos (by rw [hp1]; exact h2)]
    rfl
  · rw [if_neg h, setF_no h]; rfl
set_option maxRecDepth 100000 in
theorem ok55 : con55.Ok Try.prog := Con.of_goal mixed (okC ok78 (okC ok104 okN)) con55 goal55

/-! Free -/
abbrev Row := Int × List Int × Unit
noncomputable def mayB (p : Int) (l : List Int) (x : Int) (i : Nat) : Bool := (List.range i).all fun j => !strF p (l.getD i 0) (l.getD j 0) x
noncomputable def mayI (p : Int) (l : List Int) (x : Int) (i : Nat) : Bool := !ieq (l.getD i 0) x && mayB p l x i
theorem in108a {k : PlaneD} {l : List Int} (hk : isPl k) (hl : l.all (inPt k.1) = true) (h60 : l.length ≤ 60) {x i : Nat} (hx : x < (ptsC k.1).length) (hi : i < l.length) {o : List Int} {o' : List Int} :
    whileO (g108_l0 k l (((x : Int), o', ()) : Row) (((i : Int), o, ()) : Row)) (((0 : Int), o, ()) : Row) = some (cond (mayB k.1 l x i) (.go (((i + 1 : Nat) : Int), o, ())) (.out (.go (((x + 1 : Nat) : Int), o, ())))) := by
  have h57 := pts_57 hk.1
  have ht : (l.take i).length = i := by rw [List.length_take]; omega
  refine whileO_chk (st := fun j : Nat => (((j : Int), o, ()) : Row)) (lo := 0) (hi := i) (Q := fun j => !strF k.1 (l.getD i 0) (l.getD j 0) x) (b := mayB k.1 l x i) (x := Lp.out (Lp.go ((((x + 1 : Nat) : Int), o, ()) : Row))) (y := Lp.go ((((i + 1 : Nat) : Int), o, ()) : Row)) (Nat.zero_le _) rng_all (fun j _ hj => ?_) ?_
  · unfold g108_l0
    simp only [Int.toNat_natCast, ht, take_getD hj, gd_true]
    rw [cond_t (ilt_iff.2 (by omega)), gd_pos (by omega), gd_pos hk, gd_pos (all_at hl hi), gd_pos (all_at hl (by omega)), gd_pos (inPt_nat hk.1 hx), cast1 (i := j) (by omega), cast1 (i := x) (by omega)]
    cases strF k.1 (l.getD i 0) (l.getD j 0) x <;> rfl
  · unfold g108_l0
    simp only [Int.toNat_natCast, ht, gd_true]
    rw [cond_f (ilt_false.2 (by omega)), cast1 (i := i) (by omega)]
def addO (o : List Int) (b : Bool) (x : Nat) : List Int := o ++ if b = true then [(x : Int)] else []
theorem in108b {k : PlaneD} {l : List Int} (hk : isPl k) (hl : l.all (inPt k.1) = true) (h60 : l.length ≤ 60) {x : Nat} (hx : x < (ptsC k.1).length) {o : List Int} (ho : o.length ≤ 60) :
    whileO (g108_l1 k l (((x : Int), o, ()) : Row)) (((0 : Int), o, ()) : Row) = some (.go (((x + 1 : Nat) : Int), addO o (mayA k.1 l x) x, ())) := by
  have h57 := pts_57 hk.1
  have main := whileO_chk (step := g108_l1 k l (((x : Int), o, ()) : Row)) (st := fun i : Nat => (((i : Int), o, ()) : Row)) (lo := 0) (hi := l.length) (Q := mayI k.1 l x) (b := mayA k.1 l x) (x := Lp.go ((((x + 1 : Nat) : Int), o, ()) : Row)) (y := Lp.go ((((x + 1 : Nat) : Int), o ++ [(x : Int)], ()) : Row)) (Nat.zero_le _) rng_all (fun i _ hi => ?_) ?_
  · refine main.trans ?_
    unfold addO
    cases mayA k.1 l x <;> simp
  · unfold g108_l1
    simp only [Int.toNat_natCast, gd_true]
    rw [cond_t (ilt_iff.2 (by omega)), gd_pos (by omega), gd_pos (show (0 : Int) ≤ (i : Int) ∧ (i : Int) ≤ l.length by omega), in108a hk hl h60 hx hi, cast1 (i := x) (by omega)]
    unfold mayI
    cases ieq (l.getD i 0) x <;> cases mayB k.1 l x i <;> rfl
  · unfold g108_l1
    simp only [Int.toNat_natCast, gd_true, Nat.le_refl, List.take_length, List.length_append, List.length_singleton]
    rw [cond_f (ilt_false.2 (by omega)), gd_pos (by omega), cast1 (i := x) (by omega)]
theorem flt_add {q : Nat → Bool} {n : Nat} : flt q (n + 1) = addO (flt q n) (q n) n := flt_succ
theorem take_all {l : List Int} : List.take l.length (List.drop 0 l) = l := by simp
theorem goal108 : con108.goal Try.prog (spOf [con71]) g108_sh [] lm30 := by
  have e : (∀ (k : PlaneD) (l : List Int), isPl k → setP k.1 l → g108 k l = some (frF k.1 l, ())) = con108.goal Try.prog (spOf [con71]) g108_sh [] lm30 := by kernel_rfl
  rw [← e]
  rintro k l hk ⟨hl, h60⟩
  have h57 := pts_57 hk.1
  have hpts : k.2.1 = ptsC k.1 := by
    rw [hk.2]; exact plane_pts k.1 (isP_mem hk.1)
  unfold g108
  rw [gd_pos rfl, hpts]
  refine whileO_nat (st := fun x : Nat => (((x : Int), flt (fun (x : Nat) => mayA k.1 l (x : Int)) x, ()) : Row)) (lo := 0) (hi := (ptsC k.1).length) (Nat.zero_le _) (fun x _ hx => ?_) ?_
  · have := flt_len (q := fun (x : Nat) => mayA k.1 l (x : Int)) (n := x)
    dsimp only
    rw [cond_t (ilt_iff.2 (by omega)), gd_pos rfl, in108b hk hl h60 hx (by omega), flt_add]
  · dsimp only
    rw [cond_f (ilt_false.2 (by omega)), gd_pos (by omega), take_all]
    rfl
set_option maxRecDepth 100000 in
theorem ok108 : con108.Ok Try.prog := Con.of_goal mixed (okC ok71 okN) con108 goal108
theorem goal61 : con61.goal Try.prog (spOf [con78, con104, con108]) g61_sh [] lm30 := by
  have e : (∀ (p : Int) (l : List Int), small l → g61 p l = some (freeX p l)) = con61.goal Try.prog (spOf [con78, con104, con108]) g61_sh [] lm30 := by kernel_rfl
  rw [← e]
  intro p l hs
  unfold g61 freeX
  rw [gd_pos hs]
  by_cases h : okSet p l = true
  · obtain ⟨h1, h2, h3⟩ := set_pl h
    have hp1 : (planeF p).1 = p := rfl
    have h2' : setP (planeF p).1 l := h2
    simp only [setF_ok h, if_pos h, Bool.not_true, cond_false, Option.isSome_some, Option.getD_some, gd_true, gd_pos h1, hp1, gd_pos h2]
    cases arcF p l <;> rfl
  · rw [if_neg h, setF_no h]; rfl
set_option maxRecDepth 100000 in
theorem ok61 : con61.Ok Try.prog := Con.of_goal mixed (okC ok78 (okC ok104 (okC ok108 okN))) con61 goal61
end Go.Arcs

set_option linter.unusedVariables false
set_option linter.unusedSimpArgs false
namespace Go.Arcs
open Go Go.Ab Go.Proofs

theorem goal38s : con38s.goal Try.prog (spS [] []) g38s_sh [5] lm30 := by
  have e : (∀ (l : List Int), l.length ≤ 100000 → g38s l = some (l, ())) = con38s.goal Try.prog (spS [] []) g38s_sh [5] lm30 := by kernel_rfl
  rw [← e]
  intro l hl
  unfold g38s
  simp only [gd_true, Nat.le_refl]
  rw [gd_pos (by omega), gd_pos (by omega)]
  have : eqO (l.length = 0) (some (([] : List Int), ())) (some (l, ())) = some (l, ()) := eqO_some.2 ⟨rfl, fun h => by rw [List.eq_nil_of_length_eq_zero h]⟩
  rw [this]
  rfl
set_option maxRecDepth 100000 in
theorem ok38s : con38s.Ok Try.prog := SCon.of_goal mixed okN okS0 con38s goal38s

abbrev R3 := Int × List Int × List Int × Unit
abbrev R4 := Int × Int × List Int × List Int × Unit
theorem in108sa {k : PlaneD} {l : List Int} (hk : isPl k) (hl : l.all (inPt k.1) = true) (h60 : l.length ≤ 60) {x i : Nat} (hx : x < (ptsC k.1).length) (hi : i < l.length) {o o' : List Int} :
    whileO (g108s_l0 (some k) (((x : Int), l, o', ()) : R3) (((i : Int), l, o, ()) : R3)) (((i : Int), (0 : Int), l, o, ()) : R4) = some (cond (mayB k.1 l x i) (.go (((i + 1 : Nat) : Int), l, o, ())) (.out (.go (((x + 1 : Nat) : Int), l, o, ())))) := by
  have h57 := pts_57 hk.1
  refine whileO_chk (st := fun j : Nat => (((i : Int), (j : Int), l, o, ()) : R4)) (lo := 0) (hi := i) (Q := fun j => !strF k.1 (l.getD i 0) (l.getD j 0) x) (b := mayB k.1 l x i) (x := Lp.out (Lp.go ((((x + 1 : Nat) : Int), l, o, ()) : R3))) (y := Lp.go ((((i + 1 : Nat) : Int), l, o, ()) : R3)) (Nat.zero_le _) rng_all (fun j _ hj => ?_) ?_
  · unfold g108s_l0
    simp only [Int.toNat_natCast, Nat.zero_add, gd_true, Option.isSome_some, Option.getD_some]
    rw [cond_t (ilt_iff.2 (by omega)), gd_pos (by omega), gd_pos (by omega), gd_pos hk, gd_pos (all_at hl hi), gd_pos (all_at hl (by omega)), gd_pos (inPt_nat hk.1 hx), cast1 (i := j) (by omega), cast1 (i := x) (by omega)]
    cases strF k.1 (l.getD i 0) (l.getD j 0) x <;> rfl
  · unfold g108s_l0
    simp only [Int.toNat_natCast, gd_true]
    rw [cond_f (ilt_false.2 (by omega)), cast1 (i := i) (by omega)]
theorem in108sb {k : PlaneD} {l : List Int} (hk : isPl k) (hl : l.all (inPt k.1) = true) (h60 : l.length ≤ 60) {x : Nat} (hx : x < (ptsC k.1).length) {o : List Int} (ho : o.length ≤ 60) :
    whileO (g108s_l1 (some k) (((x : Int), l, o, ()) : R3)) (((0 : Int), l, o, ()) : R3) = some (.go (((x + 1 : Nat) : Int), l, addO o (mayA k.1 l x) x, ())) := by
  have h57 := pts_57 hk.1
  have main := whileO_chk (step := g108s_l1 (some k) (((x : Int), l, o, ()) : R3)) (st := fun i : Nat => (((i : Int), l, o, ()) : R3)) (lo := 0) (hi := l.length) (Q := mayI k.1 l x) (b := mayA k.1 l x) (x := Lp.go ((((x + 1 : Nat) : Int), l, o, ()) : R3)) (y := Lp.go ((((x + 1 : Nat) : Int), l, o ++ [(x : Int)], ()) : R3)) (Nat.zero_le _) rng_all (fun i _ hi => ?_) ?_
  · refine main.trans ?_
    unfold addO
    cases mayA k.1 l x <;> simp
  · unfold g108s_l1
    simp only [Int.toNat_natCast, gd_true, Nat.zero_add]
    rw [cond_t (ilt_iff.2 (by omega)), gd_pos (by omega), gd_pos (by omega), gd_pos (show (0 : Int) ≤ (i : Int) ∧ (i : Int) ≤ l.length by omega), in108sa hk hl h60 hx hi, cast1 (i := x) (by omega)]
    unfold mayI
    cases ieq (l.getD i 0) x <;> cases mayB k.1 l x i <;> rfl
  · unfold g108s_l1
    simp only [Int.toNat_natCast, gd_true, Nat.le_refl, List.take_length, List.length_append, List.length_singleton]
    rw [cond_f (ilt_false.2 (by omega)), gd_pos (by omega), cast1 (i := x) (by omega)]
theorem goal108s : con108s.goal Try.prog (spS [] [con71]) g108s_sh [] lm30 := by
  have e : (∀ (k : Option PlaneD) (l : List Int), k.isSome = true → isPl (k.getD plN) → setP (k.getD plN).1 l → g108s k l = some (frF (k.getD plN).1 l, l, ())) = con108s.goal Try.prog (spS [] [con71]) g108s_sh [] lm30 := by kernel_rfl
  rw [← e]
  rintro (_ | k) l h0 hk ⟨hl, h60⟩
  · cases h0
  simp only [Option.getD_some] at hk hl ⊢
  have h57 := pts_57 hk.1
  have hpts : k.2.1 = ptsC k.1 := by
    rw [hk.2]; exact plane_pts k.1 (isP_mem hk.1)
  unfold g108s
  simp only [Option.getD_some, Option.isSome_some, gd_true, hpts]
  refine whileO_nat (st := fun x : Nat => (((x : Int), l, flt (fun (x : Nat) => mayA k.1 l (x : Int)) x, ()) : R3)) (lo := 0) (hi := (ptsC k.1).length) (Nat.zero_le _) (fun x _ hx => ?_) ?_
  · have := flt_len (q := fun (x : Nat) => mayA k.1 l (x : Int)) (n := x)
    dsimp only
    rw [cond_t (ilt_iff.2 (by omega)), in108sb hk hl h60 hx (by omega), flt_add]
  · dsimp only
    rw [cond_f (ilt_false.2 (by omega)), gd_pos (by omega), take_all]
    rfl
set_option maxRecDepth 100000 in
theorem ok108s : con108s.Ok Try.prog := SCon.of_goal mixed (okC ok71 okN) okS0 con108s goal108s

/-! Growing -/
/-- What is chosen from is new. -/
def newF (p : Int) (f : List Int → List Int) : Prop := ∀ l, okSet p l = true → ∀ x ∈ f l, inPt p x = true ∧ x ∉ l
section
variable {p : Int}
theorem okSet_mk {l : List Int} (hp : isP p) (hl : l.all (inPt p) = true) (hr : ris l = true) : okSet p l = true := by
  unfold okSet
  rw [isPb_iff.2 hp, hl, hr]; rfl
theorem new_fr (hp : isP p) : newF p (frF p) := fun l h x hx => by
  obtain ⟨_, hl, hr⟩ := okSet_all h
  unfold frF flt at hx
  obtain ⟨n, hn, rfl⟩ := List.mem_map.1 hx
  obtain ⟨hn, hm⟩ := List.mem_filter.1 hn
  have hn := List.mem_range.1 hn
  exact ⟨inPt_nat hp hn, ((may_iff hp hl hr hn).1 hm).1⟩
theorem head_in {l : List Int} (h : l.length ≠ 0) : l.getD 0 0 ∈ l := by
  rw [gd_at (by omega)]; exact List.getElem_mem _
theorem with_ok {l : List Int} (h : okSet p l = true) {x : Int} (hx : inPt p x = true) : okSet p (withL l x) = true := by
  obtain ⟨h1, h2, h3⟩ := okSet_all h
  exact okSet_mk (isPb_iff.1 h1) (with_all h2 hx) (with_ris h3)
theorem with_len {l : List Int} {x : Int} (h : x ∉ l) : (withL l x).length = l.length + 1 := by
  rw [(with_perm h).length_eq]; rfl
theorem grow_loop {S X : Type} {step : S → Option (Lp S X)} (st : List Int → S) (out : List Int → X) {f : List Int → List Int} (hf : newF p f)
    (h1 : ∀ l, okSet p l = true → (f l).length = 0 → step (st l) = some (.out (out l))) (h2 : ∀ l, okSet p l = true → (f l).length ≠ 0 → step (st l) = some (.go (st (withL l ((f l).getD 0 0))))) :
    ∀ (n : Nat) (l : List Int), okSet p l = true → 58 ≤ l.length + n → whileO step (st l) = some (out (growA f n l))
  | 0, l, hl, hn => by have := ok_len hl; omega
  | n + 1, l, hl, hn => by
    simp only [growA]
    by_cases h0 : (f l).length = 0
    · rw [if_pos h0]; exact whileO_out (h1 l hl h0)
    · rw [if_neg h0, whileO_go (h2 l hl h0)]
      obtain ⟨a, b⟩ := hf l hl _ (head_in h0)
      exact grow_loop st out hf h1 h2 n _ (with_ok hl a) (by rw [with_len b]; omega)
theorem grow_ok {f : List Int → List Int} (hf : newF p f) : ∀ (n : Nat) {l : List Int}, okSet p l = true → okSet p (growA f n l) = true
  | 0, l, hl => hl
  | n + 1, l, hl => by
    simp only [growA]
    split
    · exact hl
    · rename_i h0
      exact grow_ok hf n (with_ok hl (hf l hl _ (head_in h0)).1)
end
theorem goal62 : con62.goal Try.prog (spS [con38s, con108s, sortCon 66 true] [con78, con104]) g62_sh [] lm30 := by
  have e : (∀ (p : Int) (l : List Int), small l → g62 p l = some (growX p l)) = con62.goal Try.prog (spS [con38s, con108s, sortCon 66 true] [con78, con104]) g62_sh [] lm30 := by kernel_rfl
  rw [← e]
  intro p l hs
  unfold g62 growX
  rw [gd_pos hs]
  by_cases h : okSet p l = true
  · obtain ⟨h1, h2, hp⟩ := set_pl h
    have hp1 : (planeF p).1 = p := rfl
    have hlen := ok_len h
    have hle : l.length ≤ 100000 := by omega
    simp only [setF_ok h, if_pos h, Bool.not_true, cond_false, Option.isSome_some, Option.getD_some, gd_true, gd_pos h1, hp1, gd_pos h2, gd_pos hle]
    cases ha : arcF p l with
    | false => rfl
    | true =>
      rw [if_pos rfl]
      refine (cond_f rfl).trans ?_
      refine grow_loop (p := p) (st := fun l => ((frF p l, l, ()) : List Int × List Int × Unit)) (out := fun l => ((l, 0, ()) : List Int × Int × Unit)) (new_fr hp) (fun l hl h0 => ?_) (fun l hl h0 => ?_) 60 l h (by omega)
      · dsimp only
        rw [cond_f (ilt_false.2 (by omega)), gd_pos (by omega), take_all]
      · obtain ⟨b1, b2, b3⟩ := okSet_all hl
        have hll := ok_len hl
        obtain ⟨a1, a2⟩ := new_fr hp l hl _ (head_in h0)
        have hsrt : sortL (l ++ [(frF p l).getD 0 0]) = withL l ((frF p l).getD 0 0) := with_sort b3 a2
        have hok := with_ok hl a1
        have hwl := with_len a2
        have hset : setP p (withL l ((frF p l).getD 0 0)) := (set_pl hok).2.1
        simp only [List.take_length, hsrt, gd_pos hset, hwl, gd_true, Nat.le_refl, List.length_append, List.length_singleton]
        rw [cond_t (ilt_iff.2 (by omega)), gd_pos (by omega), gd_pos (by omega), gd_pos (by omega)]
  · rw [if_neg h, setF_no h]; rfl
set_option maxRecDepth 100000 in
theorem ok62 : con62.Ok Try.prog := Con.of_goalS mixed (okC ok78 (okC ok104 okN)) (okS ok38s (okS ok108s (okS (ok66 true) okS0))) con62 goal62

/-! The reference -/
theorem ile_d {x y : Int} : ile x y = decide (x ≤ y) := by
  rw [Bool.eq_iff_iff, ile_iff, decide_eq_true_eq]
end Go.Arcs

set_option linter.unusedVariables false
set_option linter.unusedSimpArgs false
namespace Go.Arcs
open Go Go.Ab Go.Proofs

end Go.Arcs

set_option linter.unusedVariables false
set_option linter.unusedSimpArgs false
namespace Go.Arcs
open Go Go.Ab Go.Proofs

noncomputable def con16 : Con := mkC 16 [.d I64, .d LI] [.bool] (fun (p : Int) (l : List Int) => [small2 l]) (fun (p : Int) (l : List Int) => (true, ()))
noncomputable def g16_c0 (x0 : Int) (x1 : List Int) : Bool := !ieq (arcX x0 (List.take (60 : Nat) x1)).2.1 (2 : Int) && (!ieq (arcX x0 (List.take (60 : Nat) x1)).2.1 (2 : Int) && !(arcX x0 (List.take (60 : Nat) x1)).1)
noncomputable def g16_c1 (x0 : Int) (x1 : List Int) : Bool := bif ieq (arcX x0 (List.take (60 : Nat) x1)).2.1 (2 : Int) then true else bif !(arcX x0 (List.take (60 : Nat) x1)).1 then ieq (growX x0 (List.take (60 : Nat) x1)).2.1 (5 : Int) else false
noncomputable def g16_c2 (x0 : Int) (x1 : List Int) : Bool := bif bif !ieq (greatX x0).2.1 (0 : Int) then true else !ieq (growX x0 (List.take (60 : Nat) x1)).2.1 (0 : Int) then true else ilt (greatX x0).1 (↑(List.length (growX x0 (List.take (60 : Nat) x1)).1) : Int)
noncomputable def g16_c3 (x0 : Int) (x1 : List Int) : Bool := (!bif g16_c2 x0 x1 then true else ilt (↑(List.length (growX x0 (List.take (60 : Nat) x1)).1) : Int) (↑(List.length x1) : Int)) && ((!bif g16_c2 x0 x1 then true else ilt (↑(List.length (growX x0 (List.take (60 : Nat) x1)).1) : Int) (↑(List.length x1) : Int)) && !ieq (greatX x0).1 (wr IntKind.i64 (x0 + (1 : Int))))
noncomputable def g16_c4 (x0 : Int) (x1 : List Int) : Bool := bif bif g16_c2 x0 x1 then true else ilt (↑(List.length (growX x0 (List.take (60 : Nat) x1)).1) : Int) (↑(List.length x1) : Int) then true else bif !ieq (greatX x0).1 (wr IntKind.i64 (x0 + (1 : Int))) then !ieq x0 (2 : Int) else false
noncomputable def g16_c5 (x0 : Int) (x1 : List Int) (d2 : Int × Unit) : Bool := !ieq (↑(List.length (tanX x0 (List.take (60 : Nat) x1) (List.getD x1 (Int.toNat d2.1) (0 : Int))).1) : Int) (wr IntKind.i64 (wr IntKind.i64 (x0 + (2 : Int)) - (↑(List.length x1) : Int)))
noncomputable def g16_c6 (x0 : Int) (x1 : List Int) (d2 : Int × Unit) : Bool := bif bif !ieq (tanX x0 (List.take (60 : Nat) x1) (List.getD x1 (Int.toNat d2.1) (0 : Int))).2.1 (0 : Int) then true else g16_c5 x0 x1 d2 then true else !List.contains (growX x0 (List.take (60 : Nat) x1)).1 (List.getD x1 (Int.toNat d2.1) (0 : Int))
noncomputable def g16_c7 (x0 : Int) (x1 : List Int) : Bool := bif bif (arcX x0 (growX x0 (List.take (60 : Nat) x1)).1).1 then ieq (arcX x0 (growX x0 (List.take (60 : Nat) x1)).1).2.1 (0 : Int) else false then ieq (freeX x0 (growX x0 (List.take (60 : Nat) x1)).1).2.1 (0 : Int) else false
noncomputable def g16 (x0 : Int) (x1 : List Int) : Option (Bool × Unit) := gd (small (List.take (60 : Nat) x1)) (gd (small (List.take (60 : Nat) x1)) (gd ((!!ieq (arcX x0 (List.take (60 : Nat) x1)).2.1 (0 : Int)) = true → (!!ieq (arcX x0 (List.take (60 : Nat) x1)).2.1 (0 : Int)) = true) (gd ((!ieq (arcX x0 (List.take (60 : Nat) x1)).2.1 (0 : Int)) = false → (!!ieq (arcX x0 (List.take (60 : Nat) x1)).2.1 (0 : Int)) = true) (gd ((!bif !ieq (arcX x0 (List.take (60 : Nat) x1)).2.1 (0 : Int) then true else !(arcX x0 (List.take (60 : Nat) x1)).1) = true → (!bif !ieq (arcX x0 (List.take (60 : Nat) x1)).2.1 (0 : Int) then true else !(arcX x0 (List.take (60 : Nat) x1)).1) = true ∧ (!bif !ieq (arcX x0 (List.take (60 : Nat) x1)).2.1 (0 : Int) then true else !(arcX x0 (List.take (60 : Nat) x1)).1) = true ∧ small2 x1) (gd ((!bif !ieq (arcX x0 (List.take (60 : Nat) x1)).2.1 (0 : Int) then true else !(arcX x0 (List.take (60 : Nat) x1)).1) = true → (!bif !ieq (arcX x0 (List.take (60 : Nat) x1)).2.1 (0 : Int) then true else !(arcX x0 (List.take (60 : Nat) x1)).1) = true) (gd ((bif !ieq (arcX x0 (List.take (60 : Nat) x1)).2.1 (0 : Int) then true else !(arcX x0 (List.take (60 : Nat) x1)).1) = false → (!bif !ieq (arcX x0 (List.take (60 : Nat) x1)).2.1 (0 : Int) then true else !(arcX x0 (List.take (60 : Nat) x1)).1) = true) (bif bif bif !ieq (arcX x0 (List.take (60 : Nat) x1)).2.1 (0 : Int) then true else !(arcX x0 (List.take (60 : Nat) x1)).1 then true else !okSet x0 x1 then gd ((!ieq (arcX x0 (List.take (60 : Nat) x1)).2.1 (2 : Int)) = true → (!ieq (arcX x0 (List.take (60 : Nat) x1)).2.1 (2 : Int)) = true) (gd ((!ieq (arcX x0 (List.take (60 : Nat) x1)).2.1 (2 : Int) && (!ieq (arcX x0 (List.take (60 : Nat) x1)).2.1 (2 : Int) && !(arcX x0 (List.take (60 : Nat) x1)).1)) = true → g16_c0 x0 x1 = true) (gd ((!ieq (arcX x0 (List.take (60 : Nat) x1)).2.1 (2 : Int)) = true → (!ieq (arcX x0 (List.take (60 : Nat) x1)).2.1 (2 : Int)) = true ∧ (!ieq (arcX x0 (List.take (60 : Nat) x1)).2.1 (2 : Int)) = true ∧ ((!(arcX x0 (List.take (60 : Nat) x1)).1) = true → g16_c0 x0 x1 = true)) (gd (ieq (arcX x0 (List.take (60 : Nat) x1)).2.1 (2 : Int) = false → (!ieq (arcX x0 (List.take (60 : Nat) x1)).2.1 (2 : Int)) = true) (gd (g16_c1 x0 x1 = true → g16_c1 x0 x1 = true) (some ((bif g16_c1 x0 x1 then true else false, ()) : Bool × Unit)))))) else gd ((!!ieq (greatX x0).2.1 (0 : Int)) = true → (!!ieq (greatX x0).2.1 (0 : Int)) = true) (gd ((!ieq (greatX x0).2.1 (0 : Int)) = false → (!!ieq (greatX x0).2.1 (0 : Int)) = true) (gd ((!bif !ieq (greatX x0).2.1 (0 : Int) then true else !ieq (growX x0 (List.take (60 : Nat) x1)).2.1 (0 : Int)) = true → (!bif !ieq (greatX x0).2.1 (0 : Int) then true else !ieq (growX x0 (List.take (60 : Nat) x1)).2.1 (0 : Int)) = true) (gd ((!bif !ieq (greatX x0).2.1 (0 : Int) then true else !ieq (growX x0 (List.take (60 : Nat) x1)).2.1 (0 : Int)) = true → (!bif !ieq (greatX x0).2.1 (0 : Int) then true else !ieq (growX x0 (List.take (60 : Nat) x1)).2.1 (0 : Int)) = true ∧ (!bif !ieq (greatX x0).2.1 (0 : Int) then true else !ieq (growX x0 (List.take (60 : Nat) x1)).2.1 (0 : Int)) = true) (gd ((bif !ieq (greatX x0).2.1 (0 : Int) then true else !ieq (growX x0 (List.take (60 : Nat) x1)).2.1 (0 : Int)) = false → (!bif !ieq (greatX x0).2.1 (0 : Int) then true else !ieq (growX x0 (List.take (60 : Nat) x1)).2.1 (0 : Int)) = true) (gd ((!g16_c2 x0 x1) = true → (!g16_c2 x0 x1) = true) (gd ((!g16_c2 x0 x1) = true → (!g16_c2 x0 x1) = true) (gd ((!g16_c2 x0 x1) = true → (!g16_c2 x0 x1) = true ∧ (!g16_c2 x0 x1) = true) (gd (g16_c2 x0 x1 = false → (!g16_c2 x0 x1) = true) (gd ((!bif g16_c2 x0 x1 then true else ilt (↑(List.length (growX x0 (List.take (60 : Nat) x1)).1) : Int) (↑(List.length x1) : Int)) = true → (!bif g16_c2 x0 x1 then true else ilt (↑(List.length (growX x0 (List.take (60 : Nat) x1)).1) : Int) (↑(List.length x1) : Int)) = true) (gd ((!bif g16_c2 x0 x1 then true else ilt (↑(List.length (growX x0 (List.take (60 : Nat) x1)).1) : Int) (↑(List.length x1) : Int)) = true → (!bif g16_c2 x0 x1 then true else ilt (↑(List.length (growX x0 (List.take (60 : Nat) x1)).1) : Int) (↑(List.length x1) : Int)) = true ∧ (!bif g16_c2 x0 x1 then true else ilt (↑(List.length (growX x0 (List.take (60 : Nat) x1)).1) : Int) (↑(List.length x1) : Int)) = true) (gd (((!bif g16_c2 x0 x1 then true else ilt (↑(List.length (growX x0 (List.take (60 : Nat) x1)).1) : Int) (↑(List.length x1) : Int)) && ((!bif g16_c2 x0 x1 then true else ilt (↑(List.length (growX x0 (List.take (60 : Nat) x1)).1) : Int) (↑(List.length x1) : Int)) && !ieq (greatX x0).1 (wr IntKind.i64 (x0 + (1 : Int))))) = true → g16_c3 x0 x1 = true) (gd ((!bif g16_c2 x0 x1 then true else ilt (↑(List.length (growX x0 (List.take (60 : Nat) x1)).1) : Int) (↑(List.length x1) : Int)) = true → (!bif g16_c2 x0 x1 then true else ilt (↑(List.length (growX x0 (List.take (60 : Nat) x1)).1) : Int) (↑(List.length x1) : Int)) = true ∧ (!bif g16_c2 x0 x1 then true else ilt (↑(List.length (growX x0 (List.take (60 : Nat) x1)).1) : Int) (↑(List.length x1) : Int)) = true ∧ ((!ieq (greatX x0).1 (wr IntKind.i64 (x0 + (1 : Int)))) = true → g16_c3 x0 x1 = true)) (gd ((bif g16_c2 x0 x1 then true else ilt (↑(List.length (growX x0 (List.take (60 : Nat) x1)).1) : Int) (↑(List.length x1) : Int)) = false → (!bif g16_c2 x0 x1 then true else ilt (↑(List.length (growX x0 (List.take (60 : Nat) x1)).1) : Int) (↑(List.length x1) : Int)) = true) (gd ((!g16_c4 x0 x1) = true → (!g16_c4 x0 x1) = true) (gd ((!g16_c4 x0 x1 && (!g16_c4 x0 x1 && ieq x0 (2 : Int))) = true → (!g16_c4 x0 x1 && (!g16_c4 x0 x1 && ieq x0 (2 : Int))) = true) (gd ((!g16_c4 x0 x1) = true → (!g16_c4 x0 x1) = true ∧ (!g16_c4 x0 x1) = true ∧ (ieq x0 (2 : Int) = true → (!g16_c4 x0 x1 && (!g16_c4 x0 x1 && ieq x0 (2 : Int))) = true)) (gd (g16_c4 x0 x1 = false → (!g16_c4 x0 x1) = true) (bif bif g16_c4 x0 x1 then true else bif ieq x0 (2 : Int) then !ieq (greatX x0).1 (4 : Int) else false then some ((false, ()) : Bool × Unit) else whileO (fun (d2 : Int × Unit) => bif ilt d2.1 (↑(List.length x1) : Int) then gd ((0 : Int) ≤ d2.1 ∧ d2.1 < (↑(List.length x1) : Int)) (gd (small (List.take (60 : Nat) x1)) (gd ((!!ieq (tanX x0 (List.take (60 : Nat) x1) (List.getD x1 (Int.toNat d2.1) (0 : Int))).2.1 (0 : Int)) = true → (!!ieq (tanX x0 (List.take (60 : Nat) x1) (List.getD x1 (Int.toNat d2.1) (0 : Int))).2.1 (0 : Int)) = true) (gd ((!!ieq (tanX x0 (List.take (60 : Nat) x1) (List.getD x1 (Int.toNat d2.1) (0 : Int))).2.1 (0 : Int)) = true → (!!ieq (tanX x0 (List.take (60 : Nat) x1) (List.getD x1 (Int.toNat d2.1) (0 : Int))).2.1 (0 : Int)) = true) (gd ((!!ieq (tanX x0 (List.take (60 : Nat) x1) (List.getD x1 (Int.toNat d2.1) (0 : Int))).2.1 (0 : Int)) = true → (!!ieq (tanX x0 (List.take (60 : Nat) x1) (List.getD x1 (Int.toNat d2.1) (0 : Int))).2.1 (0 : Int)) = true) (gd ((!!ieq (tanX x0 (List.take (60 : Nat) x1) (List.getD x1 (Int.toNat d2.1) (0 : Int))).2.1 (0 : Int)) = true → (!!ieq (tanX x0 (List.take (60 : Nat) x1) (List.getD x1 (Int.toNat d2.1) (0 : Int))).2.1 (0 : Int)) = true ∧ (!!ieq (tanX x0 (List.take (60 : Nat) x1) (List.getD x1 (Int.toNat d2.1) (0 : Int))).2.1 (0 : Int)) = true) (gd ((!!ieq (tanX x0 (List.take (60 : Nat) x1) (List.getD x1 (Int.toNat d2.1) (0 : Int))).2.1 (0 : Int)) = true → (!!ieq (tanX x0 (List.take (60 : Nat) x1) (List.getD x1 (Int.toNat d2.1) (0 : Int))).2.1 (0 : Int)) = true ∧ (!!ieq (tanX x0 (List.take (60 : Nat) x1) (List.getD x1 (Int.toNat d2.1) (0 : Int))).2.1 (0 : Int)) = true) (gd ((!ieq (tanX x0 (List.take (60 : Nat) x1) (List.getD x1 (Int.toNat d2.1) (0 : Int))).2.1 (0 : Int)) = false → (!!ieq (tanX x0 (List.take (60 : Nat) x1) (List.getD x1 (Int.toNat d2.1) (0 : Int))).2.1 (0 : Int)) = true) (gd ((!bif !ieq (tanX x0 (List.take (60 : Nat) x1) (List.getD x1 (Int.toNat d2.1) (0 : Int))).2.1 (0 : Int) then true else g16_c5 x0 x1 d2) = true → (!bif !ieq (tanX x0 (List.take (60 : Nat) x1) (List.getD x1 (Int.toNat d2.1) (0 : Int))).2.1 (0 : Int) then true else g16_c5 x0 x1 d2) = true ∧ (!bif !ieq (tanX x0 (List.take (60 : Nat) x1) (List.getD x1 (Int.toNat d2.1) (0 : Int))).2.1 (0 : Int) then true else g16_c5 x0 x1 d2) = true ∧ small (growX x0 (List.take (60 : Nat) x1)).1) (gd ((!bif !ieq (tanX x0 (List.take (60 : Nat) x1) (List.getD x1 (Int.toNat d2.1) (0 : Int))).2.1 (0 : Int) then true else g16_c5 x0 x1 d2) = true → (!bif !ieq (tanX x0 (List.take (60 : Nat) x1) (List.getD x1 (Int.toNat d2.1) (0 : Int))).2.1 (0 : Int) then true else g16_c5 x0 x1 d2) = true) (gd ((bif !ieq (tanX x0 (List.take (60 : Nat) x1) (List.getD x1 (Int.toNat d2.1) (0 : Int))).2.1 (0 : Int) then true else g16_c5 x0 x1 d2) = false → (!bif !ieq (tanX x0 (List.take (60 : Nat) x1) (List.getD x1 (Int.toNat d2.1) (0 : Int))).2.1 (0 : Int) then true else g16_c5 x0 x1 d2) = true) (bif g16_c6 x0 x1 d2 then some (Lp.out ((false, ()) : Bool × Unit)) else some (Lp.go ((wr IntKind.i64 (d2.1 + (1 : Int)), ()) : Int × Unit))))))))))))) else gd (List.length (growX x0 (List.take (60 : Nat) x1)).1 ≤ (100000 : Nat)) (gd (small (growX x0 (List.take (60 : Nat) x1)).1) (gd (List.length (growX x0 (List.take (60 : Nat) x1)).1 ≤ (100000 : Nat)) (gd (small (growX x0 (List.take (60 : Nat) x1)).1) (gd ((arcX x0 (growX x0 (List.take (60 : Nat) x1)).1).1 = true → (arcX x0 (growX x0 (List.take (60 : Nat) x1)).1).1 = true) (gd ((arcX x0 (growX x0 (List.take (60 : Nat) x1)).1).1 = true → (arcX x0 (growX x0 (List.take (60 : Nat) x1)).1).1 = true) (gd ((bif (arcX x0 (growX x0 (List.take (60 : Nat) x1)).1).1 then ieq (arcX x0 (growX x0 (List.take (60 : Nat) x1)).1).2.1 (0 : Int) else false) = true → (bif (arcX x0 (growX x0 (List.take (60 : Nat) x1)).1).1 then ieq (arcX x0 (growX x0 (List.take (60 : Nat) x1)).1).2.1 (0 : Int) else false) = true) (gd ((bif (arcX x0 (growX x0 (List.take (60 : Nat) x1)).1).1 then ieq (arcX x0 (growX x0 (List.take (60 : Nat) x1)).1).2.1 (0 : Int) else false) = true → (bif (arcX x0 (growX x0 (List.take (60 : Nat) x1)).1).1 then ieq (arcX x0 (growX x0 (List.take (60 : Nat) x1)).1).2.1 (0 : Int) else false) = true) (gd (g16_c7 x0 x1 = true → g16_c7 x0 x1 = true) (gd (g16_c7 x0 x1 = true → g16_c7 x0 x1 = true) (gd (g16_c7 x0 x1 = true → g16_c7 x0 x1 = true) (gd ((bif g16_c7 x0 x1 then ieq (↑(List.length (freeX x0 (growX x0 (List.take (60 : Nat) x1)).1).1) : Int) (0 : Int) else false) = true → (bif g16_c7 x0 x1 then ieq (↑(List.length (freeX x0 (growX x0 (List.take (60 : Nat) x1)).1).1) : Int) (0 : Int) else false) = true) (some (Lp.out ((bif bif g16_c7 x0 x1 then ieq (↑(List.length (freeX x0 (growX x0 (List.take (60 : Nat) x1)).1).1) : Int) (0 : Int) else false then true else false, ()) : Bool × Unit))))))))))))))) (((0 : Int), ()) : Int × Unit))))))))))))))))))))))))))
noncomputable def g16_sh : List LSh := LSh.mk (((100, TV.v (Ty.int IntKind.i64)) : Nat × TV) :: ([] : List (Nat × TV))) ([] : List TB) :: ([] : List LSh)


end Go.Arcs

set_option linter.unusedVariables false
set_option linter.unusedSimpArgs false
namespace Go.Arcs
open Go Go.Ab Go.Proofs

section
variable {p : Int} {l : List Int}
theorem sum_in (hp : isP p) (hl : l.all (inPt p) = true) (hr : ris l = true) {x : Nat} (hx : x < (ptsC p).length) (hm : (x : Int) ∈ l) : sumN (fun b => ind (onF p x b) * meetsF p l b) (ptsC p).length = p + l.length := by
  rw [sumN_congr (g := fun b => sumL (fun y => ind (onF p x b) * ind (onF p y b)) l) fun b _ => by rw [meets_sum, sumL_mul], sum_swap]
  have e : sumL (fun y => sumN (fun b => ind (onF p x b) * ind (onF p y b)) (ptsC p).length) l = sumL (fun y => if (x : Int) = y then p + 1 else 1) l := sumL_congr fun y hy => by
    obtain ⟨m, rfl, hm⟩ := in_nat hl hp hy
    by_cases he : x = m
    · subst he
      rw [if_pos rfl, ← through_one hp hx]
      exact sumN_congr fun b _ => by cases onF p x b <;> rfl
    · rw [if_neg (by omega)]
      exact through_two hp hx hm he
  rw [e, (sumL_pick hr).1 hm]
  omega
/-- What is missing to two on each line through a point. -/
theorem sum_two (hp : isP p) (hl : l.all (inPt p) = true) (hr : ris l = true) {x : Nat} (hx : x < (ptsC p).length) (hm : (x : Int) ∈ l) : sumN (fun b => ind (onF p x b) * (2 - meetsF p l b)) (ptsC p).length = p + 2 - l.length := by
  have e : sumN (fun b => ind (onF p x b) * (2 - meetsF p l b)) (ptsC p).length = sumN (fun b => 2 * ind (onF p x b) + (-1) * (ind (onF p x b) * meetsF p l b)) (ptsC p).length := sumN_congr fun b _ => by grind
  rw [e, sumN_add, sumN_mul, sumN_mul, through_one hp hx, sum_in hp hl hr hx hm]
  omega
theorem ind_nn {b : Bool} : 0 ≤ ind b := by cases b <;> decide
theorem two_nn (hp : isP p) (hl : l.all (inPt p) = true) (hr : ris l = true) (ha : arcF p l = true) {x b : Nat} (hb : b < (ptsC p).length) : 0 ≤ ind (onF p x b) * (2 - meetsF p l b) := by
  have := (arc_iff hp hl hr).1 ha b hb
  exact Int.mul_nonneg ind_nn (by omega)
theorem sum_even {f : Nat → Int} : ∀ {n : Nat}, (∀ i, i < n → f i % 2 = 0) → sumN f n % 2 = 0
  | 0, _ => rfl
  | n + 1, h => by
    have h1 := sum_even (n := n) fun i hi => h i (by omega)
    have h2 := h n (by omega)
    rw [sumN]; omega
/-- No arc has more points than the greatest. -/
theorem arc_le (hp : isP p) (h : okSet p l = true) (ha : arcF p l = true) : (l.length : Int) ≤ greatR p := by
  obtain ⟨_, hl, hr⟩ := okSet_all h
  have hbd := isP_bd hp
  have hg : p + 1 ≤ greatR p := by unfold greatR; split <;> omega
  rcases Nat.eq_zero_or_pos l.length with h0 | h0
  · omega
  have key : ∀ x : Nat, x < (ptsC p).length → (x : Int) ∈ l → 0 ≤ p + 2 - (l.length : Int) := fun x hx hm => by
    rw [← sum_two hp hl hr hx hm]
    exact sumN_nonneg fun b hb => two_nn hp hl hr ha hb
  have hm0 : l.getD 0 0 ∈ l := head_in (by omega)
  obtain ⟨x0, hx0, hx0n⟩ := in_nat hl hp hm0
  have h2 := key x0 hx0n (hx0 ▸ hm0)
  rcases (show (l.length : Int) ≤ p + 1 ∨ (l.length : Int) = p + 2 by omega) with hle | heq
  · omega
  · -- each line has none or two
    have h02 : ∀ b : Nat, b < (ptsC p).length → meetsF p l b = 0 ∨ meetsF p l b = 2 := fun b hb => by
      by_cases hz : meetsF p l b = 0
      · exact .inl hz
      · right
        have hpos : 1 ≤ l.countP (fun x => onF p x b) := by unfold meetsF at hz; omega
        obtain ⟨i, hi, hon⟩ := (cnt1 (f := fun x => onF p x b) (d := (0 : Int)) (l := l)).1 hpos
        have hmem : l.getD i 0 ∈ l := by rw [gd_at hi]; exact List.getElem_mem hi
        obtain ⟨x, hx, hxn⟩ := in_nat hl hp hmem
        rw [hx] at hmem hon
        have hs := sum_two hp hl hr hxn hmem
        have hge := sumN_ge (f := fun b : Nat => ind (onF p x b) * (2 - meetsF p l b)) (n := (ptsC p).length) hb fun b hb => two_nn hp hl hr ha hb
        have hi1 : ind (onF p x b) = 1 := by rw [hon]; rfl
        rw [hi1, hs] at hge
        have := (arc_iff hp hl hr).1 ha b hb
        omega
    have hrest := rest_len hp hl hr
    have hpp : p * p + p + 1 - (p + 2) ≥ 1 := by
      have : 2 * 2 ≤ p * p := Int.mul_le_mul (by omega) (by omega) (by omega) (by omega)
      omega
    obtain ⟨y, hy, hyn, hyc⟩ := rest_mem (p := p) (l := l) hp (head_in (l := restF p l) (by omega))
    have hyl : (y : Int) ∉ l := by rw [hy] at hyc; simpa using hyc
    have hs := sum_at hp hl hyn hyl
    have hev := sum_even (f := fun b : Nat => ind (onF p y b) * meetsF p l b) (n := (ptsC p).length) fun b hb => by
      rcases h02 b hb with h | h <;> rw [h] <;> cases onF p y b <;> rfl
    rw [hs, heq] at hev
    have : p = 2 := by rcases hp with rfl | rfl | rfl | rfl <;> simp at hev ⊢
    rw [this] at heq ⊢
    unfold greatR
    omega
theorem flt_count {q : Nat → Bool} {n : Nat} : (flt q n).length = (List.range n).countP q := by
  unfold flt
  rw [List.length_map, List.countP_eq_length_filter]
theorem tan_len (hp : isP p) (h : okSet p l = true) (ha : arcF p l = true) {x : Int} (hx : x ∈ l) : ((tanF p l x).length : Int) = p + 2 - l.length := by
  obtain ⟨_, hl, hr⟩ := okSet_all h
  obtain ⟨n, rfl, hn⟩ := in_nat hl hp hx
  unfold tanF
  rw [flt_count, ← sumN_count, ← sum_two hp hl hr hn hx]
  refine sumN_congr fun b hb => ?_
  cases hon : onF p (n : Int) (b : Int) with
  | false => simp [ind]
  | true =>
    have h2 := (arc_iff hp hl hr).1 ha b hb
    have h1 : 1 ≤ meetsF p l b := by
      unfold meetsF
      have : 0 < l.countP (fun x => onF p x b) := List.countP_pos_iff.2 ⟨_, hx, hon⟩
      omega
    rcases (show meetsF p l b = 1 ∨ meetsF p l b = 2 by omega) with e | e
    · rw [e]; rfl
    · rw [e]; rfl
theorem grow_mem {f : List Int → List Int} (hf : newF p f) {x : Int} : ∀ (n : Nat) {l : List Int}, okSet p l = true → x ∈ l → x ∈ growA f n l
  | 0, l, _, h => h
  | n + 1, l, hl, h => by
    simp only [growA]
    split
    · exact h
    · rename_i h0
      obtain ⟨a, b⟩ := hf l hl _ (head_in h0)
      exact grow_mem hf n (with_ok hl a) ((with_perm b).mem_iff.2 (List.mem_cons_of_mem _ h))
theorem grow_ge {f : List Int → List Int} (hf : newF p f) : ∀ (n : Nat) {l : List Int}, okSet p l = true → l.length ≤ (growA f n l).length
  | 0, l, _ => Nat.le_refl _
  | n + 1, l, hl => by
    simp only [growA]
    split
    · exact Nat.le_refl _
    · rename_i h0
      obtain ⟨a, b⟩ := hf l hl _ (head_in h0)
      have := grow_ge hf n (with_ok hl a)
      rw [with_len b] at this
      omega
theorem grow_arc (hp : isP p) : ∀ (n : Nat) {l : List Int}, okSet p l = true → arcF p l = true → arcF p (growA (frF p) n l) = true
  | 0, l, _, h => h
  | n + 1, l, hl, h => by
    simp only [growA]
    split
    · exact h
    · rename_i h0
      obtain ⟨_, h2, h3⟩ := okSet_all hl
      obtain ⟨a, _, _, _, b⟩ := may_arc hp h2 h3 h (head_in h0)
      exact grow_arc hp n (with_ok hl a) b
theorem grow_end {f : List Int → List Int} (hf : newF p f) : ∀ (n : Nat) {l : List Int}, okSet p l = true → 58 ≤ l.length + n → (f (growA f n l)).length = 0
  | 0, l, hl, hn => by have := ok_len hl; omega
  | n + 1, l, hl, hn => by
    simp only [growA]
    split
    · assumption
    · rename_i h0
      obtain ⟨a, b⟩ := hf l hl _ (head_in h0)
      exact grow_end hf n (with_ok hl a) (by rw [with_len b]; omega)
end

set_option maxRecDepth 100000 in
theorem goal16 : con16.goal Try.prog (spOf [con34, con55, con39, con62, con36, con22, con40, con37, con38, con61]) g16_sh [] lm30 := by
  have e : (∀ (p : Int) (l : List Int), small2 l → g16 p l = some (true, ())) = con16.goal Try.prog (spOf [con34, con55, con39, con62, con36, con22, con40, con37, con38, con61]) g16_sh [] lm30 := by kernel_rfl
  rw [← e]
  intro p l hs
  have ta : small (l.take 60) := by unfold small; rw [List.length_take]; omega
  have iq : ∀ x : Int, ieq x x = true := fun x => ieq_iff.2 rfl
  have i50 : ieq 5 0 = false := rfl
  have i52 : ieq 5 2 = false := rfl
  have i20 : ieq 2 0 = false := rfl
  have i02 : ieq 0 2 = false := rfl
  unfold g16
  rw [gd_pos ta, gd_pos ta]
  have hot := ok_take (p := p) (l := l)
  cases h : okSet p l with
  | false =>
    rw [h] at hot
    have d1 : arcX p (l.take 60) = (false, 2, ()) := by unfold arcX; rw [hot]; rfl
    simp [d1, gd_true, iq, i20, g16_c0, g16_c1, hs]
  | true =>
    have hlen := ok_len h
    have ht : l.take 60 = l := List.take_of_length_le (by omega)
    obtain ⟨h1, h2, hp⟩ := set_pl h
    obtain ⟨hpb, hl, hr⟩ := okSet_all h
    have d1 : arcX p (l.take 60) = (arcF p l, 0, ()) := by rw [ht]; unfold arcX; rw [if_pos h]
    cases hA : arcF p l with
    | false =>
      rw [hA] at d1
      have d3 : growX p (l.take 60) = ([], 5, ()) := by rw [ht]; unfold growX; rw [if_pos h, hA]; rfl
      simp [d1, d3, gd_true, iq, i20, i02, g16_c0, g16_c1, hs]
    | true =>
      rw [hA] at d1
      have hbd := isP_bd hp
      generalize hG : growA (frF p) 60 l = G
      have hGok : okSet p G = true := hG ▸ grow_ok (new_fr hp) 60 h
      have hGarc : arcF p G = true := hG ▸ grow_arc hp 60 h hA
      have hGend : (frF p G).length = 0 := hG ▸ grow_end (new_fr hp) 60 h (by omega)
      have hGge : l.length ≤ G.length := hG ▸ grow_ge (new_fr hp) 60 h
      have hGle := arc_le hp hGok hGarc
      have hGlen := ok_len hGok
      have d3 : growX p (l.take 60) = (G, 0, ()) := by rw [ht]; unfold growX; rw [if_pos h, hA, hG]; rfl
      have d4 : greatX p = (greatR p, 0, ()) := by unfold greatX; rw [if_pos hpb]
      have d5 : arcX p G = (true, 0, ()) := by unfold arcX; rw [if_pos hGok, hGarc]
      have d6 : freeX p G = (frF p G, 0, ()) := by unfold freeX; rw [if_pos hGok, if_pos hGarc]
      have hw1 : wr .i64 (p + 1) = p + 1 := wr_id (by omega)
      have r1 : ilt (greatR p) (G.length : Int) = false := ilt_false.2 hGle
      have r2 : ilt (G.length : Int) (l.length : Int) = false := ilt_false.2 (by omega)
      have c2 : g16_c2 p l = false := by
        unfold g16_c2
        simp only [d3, d4, iq, r1]; rfl
      have hgr : (bif !ieq (greatR p) (p + 1) then !ieq p 2 else false) = false := by
        unfold greatR
        by_cases hp2 : p = 2
        · subst hp2; rfl
        · rw [if_neg hp2, iq]; rfl
      have hgr2 : (bif ieq p 2 then !ieq (greatR p) 4 else false) = false := by
        unfold greatR
        by_cases hp2 : p = 2
        · subst hp2; rfl
        · rw [ieq_false.2 hp2]; rfl
      have c4 : g16_c4 p l = false := by
        unfold g16_c4
        simp only [c2, d3, d4, r2, hw1, hgr, cond_false]
      have c7 : g16_c7 p l = true := by
        unfold g16_c7
        simp only [d3, d5, d6, iq]; rfl
      have sG : small G := by unfold small; omega
      have lG : G.length ≤ 100000 := by omega
      have c6 : ∀ i : Nat, i < l.length → g16_c6 p l ((i : Int), ()) = false ∧ (tanX p (l.take 60) (l.getD i 0)).2.1 = 0 ∧ g16_c5 p l ((i : Int), ()) = false := fun i hi => by
        have hmem : l.getD i 0 ∈ l := by rw [gd_at hi]; exact List.getElem_mem hi
        have hT : tanX p (l.take 60) (l.getD i 0) = (tanF p l (l.getD i 0), 0, ()) := by
          rw [ht]; unfold tanX; rw [if_pos ⟨h, by simpa using hmem⟩]
        have hlenT := tan_len hp h hA hmem
        have hwp : wr .i64 (wr .i64 (p + 2) - (l.length : Int)) = p + 2 - l.length := by rw [wr_id (n := p + 2) (by omega), wr_id (by omega)]
        have c5 : g16_c5 p l ((i : Int), ()) = false := by
          unfold g16_c5
          simp only [Int.toNat_natCast, hT, hlenT, hwp, iq]; rfl
        have hGm : G.contains (l.getD i 0) = true := by
          have := grow_mem (new_fr hp) 60 h hmem
          rw [hG] at this
          simpa using this
        refine ⟨?_, by rw [hT], c5⟩
        unfold g16_c6
        simp only [Int.toNat_natCast, hT, c5, d3, hGm, iq]; rfl
      have hg3 : (!ieq (greatR p) (p + 1)) = true → g16_c3 p l = true := fun hh => by
        unfold g16_c3
        simp only [c2, d3, d4, r2, hw1, hh, cond_false, Bool.not_false, Bool.and_self]
      simp only [d1, d3, d4, d5, d6, h, iq, i02, c2, c4, c7, hgr2, r2, hw1, hs, hGend, hg3, cond_true, cond_false, Bool.not_true, Bool.not_false, imp_self, gd_true, and_self, and_true, true_imp_iff, Bool.false_eq_true, false_imp_iff, reduceCtorEq, Bool.true_and, Bool.and_self, gd_pos lG, gd_pos sG, implies_true, forall_const]
      rw [gd_pos hg3, gd_pos ⟨trivial, trivial, hg3⟩]
      refine whileO_nat (st := fun i : Nat => (((i : Int), ()) : Int × Unit)) (lo := 0) (hi := l.length) (Nat.zero_le _) (fun i _ hi => ?_) ?_
      · obtain ⟨q1, q2, q3⟩ := c6 i hi
        have r3 : ilt (i : Int) (l.length : Int) = true := ilt_iff.2 (by omega)
        have r4 : (0 : Int) ≤ (i : Int) ∧ (i : Int) < (l.length : Int) := by omega
        simp only [r3, gd_pos r4, gd_pos ta, Int.toNat_natCast, q1, q2, q3, iq, sG, cond_true, cond_false, Bool.not_true, Bool.not_false, imp_self, gd_true, and_self, and_true, true_imp_iff, Bool.false_eq_true, false_imp_iff, reduceCtorEq]
        rw [cast1 (by omega)]
      · have r3 : ilt (l.length : Int) (l.length : Int) = false := ilt_false.2 (Int.le_refl _)
        simp [r3, iq, gd_true, lG, sG]
set_option maxRecDepth 100000 in
theorem ok16 : con16.Ok Try.prog := Con.of_goal mixed (okC ok34 (okC ok55 (okC ok39 (okC ok62 (okC ok36 (okC ok22 (okC ok40 (okC ok37 (okC ok38 (okC ok61 okN)))))))))) con16 goal16
end Go.Arcs
