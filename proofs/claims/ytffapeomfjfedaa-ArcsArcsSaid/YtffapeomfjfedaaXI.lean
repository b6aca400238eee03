/- The law Arcs: contracts. -/
import Derived.Test.YtffapeomfjfedaaXH
import Derived.Test.YtffapeomfjfedaaSS
import Derived.Test.YtffapeomfjfedaaXC
set_option linter.unusedVariables false
set_option linter.unusedSimpArgs false
namespace Go.Arcs
open Go Go.Ab Go.Proofs

noncomputable def arcF (p : Int) (l : List Int) : Bool := (List.range l.length).all fun i => (List.range i).all fun j => (List.range j).all fun h => !strF p (l.getD h 0) (l.getD j 0) (l.getD i 0)
def setP (p : Int) (l : List Int) : Prop := l.all (inPt p) = true ∧ l.length ≤ 60
noncomputable def con104 : Con := mkC 104 [.d (.ptr Plane), .d LI] [.bool] (fun (k : PlaneD) (l : List Int) => [isPl k, setP k.1 l]) (fun (k : PlaneD) (l : List Int) => (arcF k.1 l, ()))
noncomputable def g104_l0 (x0 : Int × List (Int × Int × Int × Unit) × List ((Int × Int × Int × Unit) × Int) × Unit) (x1 : List Int) (d2 d3 d4 : Int × Unit) : Option (Lp (Int × Unit) (Lp (Int × Unit) (Lp (Int × Unit) (Bool × Unit)))) := bif ilt d4.1 d3.1 then gd ((0 : Int) ≤ d4.1 ∧ d4.1 < (↑(List.length x1) : Int)) (gd ((0 : Int) ≤ d3.1 ∧ d3.1 < (↑(List.length x1) : Int)) (gd ((0 : Int) ≤ d2.1 ∧ d2.1 < (↑(List.length x1) : Int)) (gd (isPl x0) (gd (inPt x0.1 (List.getD x1 (Int.toNat d4.1) (0 : Int)) = true) (gd (inPt x0.1 (List.getD x1 (Int.toNat d3.1) (0 : Int)) = true) (gd (inPt x0.1 (List.getD x1 (Int.toNat d2.1) (0 : Int)) = true) (bif strF x0.1 (List.getD x1 (Int.toNat d4.1) (0 : Int)) (List.getD x1 (Int.toNat d3.1) (0 : Int)) (List.getD x1 (Int.toNat d2.1) (0 : Int)) then some (Lp.out (Lp.out (Lp.out ((false, ()) : Bool × Unit)))) else some (Lp.go ((wr IntKind.i64 (d4.1 + (1 : Int)), ()) : Int × Unit))))))))) else some (Lp.out (Lp.go ((wr IntKind.i64 (d3.1 + (1 : Int)), ()) : Int × Unit)))
noncomputable def g104_l1 (x0 : Int × List (Int × Int × Int × Unit) × List ((Int × Int × Int × Unit) × Int) × Unit) (x1 : List Int) (d2 d3 : Int × Unit) : Option (Lp (Int × Unit) (Lp (Int × Unit) (Bool × Unit))) := bif ilt d3.1 d2.1 then whileO (g104_l0 x0 x1 d2 d3) (((0 : Int), ()) : Int × Unit) else some (Lp.out (Lp.go ((wr IntKind.i64 (d2.1 + (1 : Int)), ()) : Int × Unit)))
noncomputable def g104 (x0 : Int × List (Int × Int × Int × Unit) × List ((Int × Int × Int × Unit) × Int) × Unit) (x1 : List Int) : Option (Bool × Unit) := whileO (fun (d2 : Int × Unit) => bif ilt d2.1 (↑(List.length x1) : Int) then whileO (g104_l1 x0 x1 d2) (((0 : Int), ()) : Int × Unit) else some (Lp.out ((true, ()) : Bool × Unit))) (((0 : Int), ()) : Int × Unit)
noncomputable def g104_sh : List LSh := LSh.mk (((10, TV.v (Ty.int IntKind.i64)) : Nat × TV) :: ([] : List (Nat × TV))) ([] : List TB) :: LSh.mk (((14, TV.v (Ty.int IntKind.i64)) : Nat × TV) :: ([] : List (Nat × TV))) ([] : List TB) :: LSh.mk (((18, TV.v (Ty.int IntKind.i64)) : Nat × TV) :: ([] : List (Nat × TV))) ([] : List TB) :: ([] : List LSh)
noncomputable def arcX (p : Int) (l : List Int) : Bool × Int × Unit := if okSet p l = true then (arcF p l, 0, ()) else (false, 2, ())
noncomputable def con55 : Con := mkC 55 [.d I64, .d LI] [.bool, I64] (fun (p : Int) (l : List Int) => [small l]) (fun (p : Int) (l : List Int) => arcX p l)
noncomputable def g55 (x0 : Int) (x1 : List Int) : Option (Bool × Int × Unit) := gd (small x1) (bif !(setF x0 x1).2.1 then some ((false, (2 : Int), ()) : Bool × Int × Unit) else gd (Option.isSome (setF x0 x1).1 = true) (gd (isPl (Option.getD (setF x0 x1).1 (((0 : Int), ([] : List (Int × Int × Int × Unit)), ([] : List ((Int × Int × Int × Unit) × Int)), ()) : Int × List (Int × Int × Int × Unit) × List ((Int × Int × Int × Unit) × Int) × Unit))) (gd (setP (Option.getD (setF x0 x1).1 (((0 : Int), ([] : List (Int × Int × Int × Unit)), ([] : List ((Int × Int × Int × Unit) × Int)), ()) : Int × List (Int × Int × Int × Unit) × List ((Int × Int × Int × Unit) × Int) × Unit)).1 x1) (some ((arcF (Option.getD (setF x0 x1).1 (((0 : Int), ([] : List (Int × Int × Int × Unit)), ([] : List ((Int × Int × Int × Unit) × Int)), ()) : Int × List (Int × Int × Int × Unit) × List ((Int × Int × Int × Unit) × Int) × Unit)).1 x1, (0 : Int), ()) : Bool × Int × Unit)))))
noncomputable def g55_sh : List LSh := ([] : List LSh)
/-- Whether a point can be added to those before place i. -/
noncomputable def mayA (p : Int) (l : List Int) (x : Int) : Bool := (List.range l.length).all fun i => !ieq (l.getD i 0) x && (List.range i).all fun j => !strF p (l.getD i 0) (l.getD j 0) x
noncomputable def frF (p : Int) (l : List Int) : List Int := flt (fun (x : Nat) => mayA p l (x : Int)) (ptsC p).length
noncomputable def con108 : Con := mkC 108 [.d (.ptr Plane), .d LI] [LI] (fun (k : PlaneD) (l : List Int) => [isPl k, setP k.1 l]) (fun (k : PlaneD) (l : List Int) => (frF k.1 l, ()))
noncomputable def g108_l0 (x0 : Int × List (Int × Int × Int × Unit) × List ((Int × Int × Int × Unit) × Int) × Unit) (x1 : List Int) (d2 d3 d4 : Int × List Int × Unit) : Option (Lp (Int × List Int × Unit) (Lp (Int × List Int × Unit) (Lp (Int × List Int × Unit) (List Int × Unit)))) := bif ilt d4.1 (↑(List.length (List.take (Int.toNat d3.1) x1)) : Int) then gd ((0 : Int) ≤ d4.1 ∧ d4.1 < (↑(List.length (List.take (Int.toNat d3.1) x1)) : Int)) (gd (isPl x0) (gd (inPt x0.1 (List.getD x1 (Int.toNat d3.1) (0 : Int)) = true) (gd (inPt x0.1 (List.getD (List.take (Int.toNat d3.1) x1) (Int.toNat d4.1) (0 : Int)) = true) (gd (inPt x0.1 d2.1 = true) (bif strF x0.1 (List.getD x1 (Int.toNat d3.1) (0 : Int)) (List.getD (List.take (Int.toNat d3.1) x1) (Int.toNat d4.1) (0 : Int)) d2.1 then gd (List.length d4.2.1 = List.length d4.2.1) (some (Lp.out (Lp.out (Lp.go ((wr IntKind.i64 (d2.1 + (1 : Int)), d4.2.1, ()) : Int × List Int × Unit))))) else gd (List.length d4.2.1 = List.length d4.2.1) (some (Lp.go ((wr IntKind.i64 (d4.1 + (1 : Int)), d4.2.1, ()) : Int × List Int × Unit)))))))) else gd (List.length d4.2.1 = List.length d4.2.1) (some (Lp.out (Lp.go ((wr IntKind.i64 (d3.1 + (1 : Int)), d4.2.1, ()) : Int × List Int × Unit))))
noncomputable def g108_l1 (x0 : Int × List (Int × Int × Int × Unit) × List ((Int × Int × Int × Unit) × Int) × Unit) (x1 : List Int) (d2 d3 : Int × List Int × Unit) : Option (Lp (Int × List Int × Unit) (Lp (Int × List Int × Unit) (List Int × Unit))) := bif ilt d3.1 (↑(List.length x1) : Int) then gd ((0 : Int) ≤ d3.1 ∧ d3.1 < (↑(List.length x1) : Int)) (bif ieq (List.getD x1 (Int.toNat d3.1) (0 : Int)) d2.1 then gd (List.length d3.2.1 = List.length d3.2.1) (some (Lp.out (Lp.go ((wr IntKind.i64 (d2.1 + (1 : Int)), d3.2.1, ()) : Int × List Int × Unit)))) else gd ((0 : Int) ≤ d3.1 ∧ d3.1 ≤ (↑(List.length x1) : Int)) (gd (List.length d3.2.1 = List.length d3.2.1) (whileO (g108_l0 x0 x1 d2 d3) (((0 : Int), d3.2.1, ()) : Int × List Int × Unit)))) else gd (List.length d3.2.1 ≤ List.length d3.2.1) (gd ((List.length d3.2.1 + (1 : Nat)) * (8 : Nat) ≤ (1099511627776 : Nat)) (gd (List.length d3.2.1 + (1 : Nat) = List.length (List.take (List.length d3.2.1) d3.2.1 ++ d2.1 :: ([] : List Int))) (some (Lp.out (Lp.go ((wr IntKind.i64 (d2.1 + (1 : Int)), List.take (List.length d3.2.1) d3.2.1 ++ d2.1 :: ([] : List Int), ()) : Int × List Int × Unit))))))
noncomputable def g108 (x0 : Int × List (Int × Int × Int × Unit) × List ((Int × Int × Int × Unit) × Int) × Unit) (x1 : List Int) : Option (List Int × Unit) := gd ((0 : Nat) = (0 : Nat)) (whileO (fun (d2 : Int × List Int × Unit) => bif ilt d2.1 (↑(List.length x0.2.1) : Int) then gd (List.length d2.2.1 = List.length d2.2.1) (whileO (g108_l1 x0 x1 d2) (((0 : Int), d2.2.1, ()) : Int × List Int × Unit)) else gd ((0 : Nat) + List.length d2.2.1 ≤ List.length d2.2.1) (some (Lp.out ((List.take (List.length d2.2.1) (List.drop (0 : Nat) d2.2.1), ()) : List Int × Unit)))) (((0 : Int), ([] : List Int), ()) : Int × List Int × Unit))
noncomputable def g108_sh : List LSh := LSh.mk (((5, TV.slf (0) (1)) : Nat × TV) :: ((16, TV.v (Ty.int IntKind.i64)) : Nat × TV) :: ([] : List (Nat × TV))) (TB.arr (Ty.int IntKind.i64) true :: ([] : List TB)) :: LSh.mk (((5, TV.slf (0) (1)) : Nat × TV) :: ((21, TV.v (Ty.int IntKind.i64)) : Nat × TV) :: ([] : List (Nat × TV))) (TB.arr (Ty.int IntKind.i64) true :: ([] : List TB)) :: LSh.mk (((5, TV.slf (0) (1)) : Nat × TV) :: ((33, TV.v (Ty.int IntKind.i64)) : Nat × TV) :: ([] : List (Nat × TV))) (TB.arr (Ty.int IntKind.i64) true :: ([] : List TB)) :: ([] : List LSh)
noncomputable def freeX (p : Int) (l : List Int) : List Int × Int × Unit := if okSet p l = true then (if arcF p l = true then (frF p l, 0, ()) else ([], 5, ())) else ([], 2, ())
noncomputable def con61 : Con := mkC 61 [.d I64, .d LI] [LI, I64] (fun (p : Int) (l : List Int) => [small l]) (fun (p : Int) (l : List Int) => freeX p l)
noncomputable def g61 (x0 : Int) (x1 : List Int) : Option (List Int × Int × Unit) := gd (small x1) (bif !(setF x0 x1).2.1 then some ((([] : List Int), (2 : Int), ()) : List Int × Int × Unit) else gd (Option.isSome (setF x0 x1).1 = true) (gd (isPl (Option.getD (setF x0 x1).1 (((0 : Int), ([] : List (Int × Int × Int × Unit)), ([] : List ((Int × Int × Int × Unit) × Int)), ()) : Int × List (Int × Int × Int × Unit) × List ((Int × Int × Int × Unit) × Int) × Unit))) (gd (setP (Option.getD (setF x0 x1).1 (((0 : Int), ([] : List (Int × Int × Int × Unit)), ([] : List ((Int × Int × Int × Unit) × Int)), ()) : Int × List (Int × Int × Int × Unit) × List ((Int × Int × Int × Unit) × Int) × Unit)).1 x1) (bif !arcF (Option.getD (setF x0 x1).1 (((0 : Int), ([] : List (Int × Int × Int × Unit)), ([] : List ((Int × Int × Int × Unit) × Int)), ()) : Int × List (Int × Int × Int × Unit) × List ((Int × Int × Int × Unit) × Int) × Unit)).1 x1 then some ((([] : List Int), (5 : Int), ()) : List Int × Int × Unit) else gd (Option.isSome (setF x0 x1).1 = true) (gd (isPl (Option.getD (setF x0 x1).1 (((0 : Int), ([] : List (Int × Int × Int × Unit)), ([] : List ((Int × Int × Int × Unit) × Int)), ()) : Int × List (Int × Int × Int × Unit) × List ((Int × Int × Int × Unit) × Int) × Unit))) (gd (setP (Option.getD (setF x0 x1).1 (((0 : Int), ([] : List (Int × Int × Int × Unit)), ([] : List ((Int × Int × Int × Unit) × Int)), ()) : Int × List (Int × Int × Int × Unit) × List ((Int × Int × Int × Unit) × Int) × Unit)).1 x1) (some ((frF (Option.getD (setF x0 x1).1 (((0 : Int), ([] : List (Int × Int × Int × Unit)), ([] : List ((Int × Int × Int × Unit) × Int)), ()) : Int × List (Int × Int × Int × Unit) × List ((Int × Int × Int × Unit) × Int) × Unit)).1 x1, (0 : Int), ()) : List Int × Int × Unit))))))))
noncomputable def g61_sh : List LSh := ([] : List LSh)
noncomputable def con38s : SCon := mkS 38 [.v LI] [] [.slf 0 1] [.arr I64 true] (fun (l : List Int) => [l.length ≤ 100000]) (fun (l : List Int) => (l, ()))
noncomputable def g38s (x0 : List Int) : Option (List Int × Unit) := Option.map id (eqO (List.length x0 = (0 : Nat)) (gd ((0 : Nat) = (0 : Nat)) (some ((([] : List Int), ()) : List Int × Unit))) (gd ((0 : Nat) ≤ (0 : Nat)) (gd (((0 : Nat) + List.length x0) * (8 : Nat) ≤ (1099511627776 : Nat)) (gd ((0 : Nat) + List.length x0 = List.length x0) (some ((x0, ()) : List Int × Unit))))))
noncomputable def g38s_sh : List LSh := ([] : List LSh)
def plN : PlaneD := (0, [], [], ())
noncomputable def con108s : SCon := mkS 108 [.v (.optr Plane), .slf 0 1] [AI] [.v LI] [AI] (fun (k : Option PlaneD) (l : List Int) => [k.isSome = true, isPl (k.getD plN), setP (k.getD plN).1 l]) (fun (k : Option PlaneD) (l : List Int) => (frF (k.getD plN).1 l, l, ()))
noncomputable def g108s_l0 (x0 : Option (Int × List (Int × Int × Int × Unit) × List ((Int × Int × Int × Unit) × Int) × Unit)) (d2 d3 : Int × List Int × List Int × Unit) (d4 : Int × Int × List Int × List Int × Unit) : Option (Lp (Int × Int × List Int × List Int × Unit) (Lp (Int × List Int × List Int × Unit) (Lp (Int × List Int × List Int × Unit) (List Int × List Int × Unit)))) := bif ilt d4.2.1 (↑(Int.toNat d3.1) : Int) then gd ((0 : Int) ≤ d4.2.1 ∧ d4.2.1 < (↑(Int.toNat d4.1) : Int)) (gd ((0 : Nat) + Int.toNat d4.2.1 < List.length d4.2.2.1) (gd (Option.isSome x0 = true) (gd (isPl (Option.getD x0 (((0 : Int), ([] : List (Int × Int × Int × Unit)), ([] : List ((Int × Int × Int × Unit) × Int)), ()) : Int × List (Int × Int × Int × Unit) × List ((Int × Int × Int × Unit) × Int) × Unit))) (gd (inPt (Option.getD x0 (((0 : Int), ([] : List (Int × Int × Int × Unit)), ([] : List ((Int × Int × Int × Unit) × Int)), ()) : Int × List (Int × Int × Int × Unit) × List ((Int × Int × Int × Unit) × Int) × Unit)).1 (List.getD d3.2.1 ((0 : Nat) + Int.toNat d3.1) (0 : Int)) = true) (gd (inPt (Option.getD x0 (((0 : Int), ([] : List (Int × Int × Int × Unit)), ([] : List ((Int × Int × Int × Unit) × Int)), ()) : Int × List (Int × Int × Int × Unit) × List ((Int × Int × Int × Unit) × Int) × Unit)).1 (List.getD d4.2.2.1 ((0 : Nat) + Int.toNat d4.2.1) (0 : Int)) = true) (gd (inPt (Option.getD x0 (((0 : Int), ([] : List (Int × Int × Int × Unit)), ([] : List ((Int × Int × Int × Unit) × Int)), ()) : Int × List (Int × Int × Int × Unit) × List ((Int × Int × Int × Unit) × Int) × Unit)).1 d2.1 = true) (bif strF (Option.getD x0 (((0 : Int), ([] : List (Int × Int × Int × Unit)), ([] : List ((Int × Int × Int × Unit) × Int)), ()) : Int × List (Int × Int × Int × Unit) × List ((Int × Int × Int × Unit) × Int) × Unit)).1 (List.getD d3.2.1 ((0 : Nat) + Int.toNat d3.1) (0 : Int)) (List.getD d4.2.2.1 ((0 : Nat) + Int.toNat d4.2.1) (0 : Int)) d2.1 then gd (List.length d4.2.2.1 = List.length d4.2.2.1) (gd (List.length d4.2.2.2.1 = List.length d4.2.2.2.1) (some (Lp.out (Lp.out (Lp.go ((wr IntKind.i64 (d2.1 + (1 : Int)), d4.2.2.1, d4.2.2.2.1, ()) : Int × List Int × List Int × Unit)))))) else gd (List.length d4.2.2.1 = List.length d4.2.2.1) (gd (List.length d4.2.2.2.1 = List.length d4.2.2.2.1) (gd (List.length d4.2.2.1 = List.length d4.2.2.1) (some (Lp.go (((↑(Int.toNat d4.1) : Int), wr IntKind.i64 (d4.2.1 + (1 : Int)), d4.2.2.1, d4.2.2.2.1, ()) : Int × Int × List Int × List Int × Unit)))))))))))) else gd (List.length d4.2.2.1 = List.length d4.2.2.1) (gd (List.length d4.2.2.2.1 = List.length d4.2.2.2.1) (gd (List.length d4.2.2.1 = List.length d4.2.2.1) (some (Lp.out (Lp.go ((wr IntKind.i64 (d3.1 + (1 : Int)), d4.2.2.1, d4.2.2.2.1, ()) : Int × List Int × List Int × Unit))))))
noncomputable def g108s_l1 (x0 : Option (Int × List (Int × Int × Int × Unit) × List ((Int × Int × Int × Unit) × Int) × Unit)) (d2 d3 : Int × List Int × List Int × Unit) : Option (Lp (Int × List Int × List Int × Unit) (Lp (Int × List Int × List Int × Unit) (List Int × List Int × Unit))) := bif ilt d3.1 (↑(List.length d2.2.1) : Int) then gd ((0 : Int) ≤ d3.1 ∧ d3.1 < (↑(List.length d3.2.1) : Int)) (gd ((0 : Nat) + Int.toNat d3.1 < List.length d3.2.1) (bif ieq (List.getD d3.2.1 ((0 : Nat) + Int.toNat d3.1) (0 : Int)) d2.1 then gd (List.length d3.2.1 = List.length d3.2.1) (gd (List.length d3.2.2.1 = List.length d3.2.2.1) (some (Lp.out (Lp.go ((wr IntKind.i64 (d2.1 + (1 : Int)), d3.2.1, d3.2.2.1, ()) : Int × List Int × List Int × Unit))))) else gd ((0 : Int) ≤ d3.1 ∧ d3.1 ≤ (↑(List.length d3.2.1) : Int)) (gd (List.length d3.2.1 = List.length d3.2.1) (gd (List.length d3.2.2.1 = List.length d3.2.2.1) (gd (List.length d3.2.1 = List.length d3.2.1) (whileO (g108s_l0 x0 d2 d3) (((↑(Int.toNat d3.1) : Int), (0 : Int), d3.2.1, d3.2.2.1, ()) : Int × Int × List Int × List Int × Unit))))))) else gd (List.length d3.2.2.1 ≤ List.length d3.2.2.1) (gd ((List.length d3.2.2.1 + (1 : Nat)) * (8 : Nat) ≤ (1099511627776 : Nat)) (gd (List.length d3.2.1 = List.length d3.2.1) (gd (List.length d3.2.2.1 + (1 : Nat) = List.length (List.take (List.length d3.2.2.1) d3.2.2.1 ++ d2.1 :: ([] : List Int))) (some (Lp.out (Lp.go ((wr IntKind.i64 (d2.1 + (1 : Int)), d3.2.1, List.take (List.length d3.2.2.1) d3.2.2.1 ++ d2.1 :: ([] : List Int), ()) : Int × List Int × List Int × Unit)))))))
noncomputable def g108s (x0 : Option (Int × List (Int × Int × Int × Unit) × List ((Int × Int × Int × Unit) × Int) × Unit)) (x1 : List Int) : Option (List Int × List Int × Unit) := gd (Option.isSome x0 = true) (gd (List.length x1 = List.length x1) (gd ((0 : Nat) = (0 : Nat)) (whileO (fun (d2 : Int × List Int × List Int × Unit) => bif ilt d2.1 (↑(List.length (Option.getD x0 (((0 : Int), ([] : List (Int × Int × Int × Unit)), ([] : List ((Int × Int × Int × Unit) × Int)), ()) : Int × List (Int × Int × Int × Unit) × List ((Int × Int × Int × Unit) × Int) × Unit)).2.1) : Int) then gd (List.length d2.2.1 = List.length d2.2.1) (gd (List.length d2.2.2.1 = List.length d2.2.2.1) (gd (List.length d2.2.1 = List.length d2.2.1) (whileO (g108s_l1 x0 d2) (((0 : Int), d2.2.1, d2.2.2.1, ()) : Int × List Int × List Int × Unit)))) else gd ((0 : Nat) + List.length d2.2.2.1 ≤ List.length d2.2.2.1) (some (Lp.out ((List.take (List.length d2.2.2.1) (List.drop (0 : Nat) d2.2.2.1), d2.2.1, ()) : List Int × List Int × Unit)))) (((0 : Int), x1, ([] : List Int), ()) : Int × List Int × List Int × Unit))))
noncomputable def g108s_sh : List LSh := LSh.mk3 (((1, TV.slf (0) (1)) : Nat × TV) :: ((5, TV.slf (1) (1)) : Nat × TV) :: ((16, TV.v (Ty.int IntKind.i64)) : Nat × TV) :: ([] : List (Nat × TV))) (TB.arr (Ty.int IntKind.i64) true :: TB.arr (Ty.int IntKind.i64) true :: ([] : List TB)) (1) :: LSh.mk3 (((1, TV.slf (0) (1)) : Nat × TV) :: ((5, TV.slf (1) (1)) : Nat × TV) :: ((19, TV.slf (0) (1)) : Nat × TV) :: ((21, TV.v (Ty.int IntKind.i64)) : Nat × TV) :: ([] : List (Nat × TV))) (TB.arr (Ty.int IntKind.i64) true :: TB.arr (Ty.int IntKind.i64) true :: ([] : List TB)) (1) :: LSh.mk3 (((1, TV.slf (0) (1)) : Nat × TV) :: ((5, TV.slf (1) (1)) : Nat × TV) :: ((19, TV.slf (0) (1)) : Nat × TV) :: ((31, TV.sl (0) (1) (0)) : Nat × TV) :: ((33, TV.v (Ty.int IntKind.i64)) : Nat × TV) :: ([] : List (Nat × TV))) (TB.arr (Ty.int IntKind.i64) true :: TB.arr (Ty.int IntKind.i64) true :: ([] : List TB)) (1) :: ([] : List LSh)
def withL (l : List Int) (x : Int) : List Int := l.filter (fun y => ilt y x) ++ x :: l.filter (fun y => ilt x y)
noncomputable def growA (f : List Int → List Int) : Nat → List Int → List Int
  | 0, l => l
  | n + 1, l => if (f l).length = 0 then l else growA f n (withL l ((f l).getD 0 0))
noncomputable def growX (p : Int) (l : List Int) : List Int × Int × Unit := if okSet p l = true then (if arcF p l = true then (growA (frF p) 60 l, 0, ()) else ([], 5, ())) else ([], 2, ())
noncomputable def con62 : Con := mkC 62 [.d I64, .d LI] [LI, I64] (fun (p : Int) (l : List Int) => [small l]) (fun (p : Int) (l : List Int) => growX p l)
noncomputable def g62 (x0 : Int) (x1 : List Int) : Option (List Int × Int × Unit) := gd (small x1) (bif !(setF x0 x1).2.1 then some ((([] : List Int), (2 : Int), ()) : List Int × Int × Unit) else gd (Option.isSome (setF x0 x1).1 = true) (gd (isPl (Option.getD (setF x0 x1).1 (((0 : Int), ([] : List (Int × Int × Int × Unit)), ([] : List ((Int × Int × Int × Unit) × Int)), ()) : Int × List (Int × Int × Int × Unit) × List ((Int × Int × Int × Unit) × Int) × Unit))) (gd (setP (Option.getD (setF x0 x1).1 (((0 : Int), ([] : List (Int × Int × Int × Unit)), ([] : List ((Int × Int × Int × Unit) × Int)), ()) : Int × List (Int × Int × Int × Unit) × List ((Int × Int × Int × Unit) × Int) × Unit)).1 x1) (bif !arcF (Option.getD (setF x0 x1).1 (((0 : Int), ([] : List (Int × Int × Int × Unit)), ([] : List ((Int × Int × Int × Unit) × Int)), ()) : Int × List (Int × Int × Int × Unit) × List ((Int × Int × Int × Unit) × Int) × Unit)).1 x1 then some ((([] : List Int), (5 : Int), ()) : List Int × Int × Unit) else gd (List.length x1 ≤ (100000 : Nat)) (gd (List.length x1 = List.length x1) (gd (Option.isSome (setF x0 x1).1 = true) (gd (isPl (Option.getD (setF x0 x1).1 (((0 : Int), ([] : List (Int × Int × Int × Unit)), ([] : List ((Int × Int × Int × Unit) × Int)), ()) : Int × List (Int × Int × Int × Unit) × List ((Int × Int × Int × Unit) × Int) × Unit))) (gd (setP (Option.getD (setF x0 x1).1 (((0 : Int), ([] : List (Int × Int × Int × Unit)), ([] : List ((Int × Int × Int × Unit) × Int)), ()) : Int × List (Int × Int × Int × Unit) × List ((Int × Int × Int × Unit) × Int) × Unit)).1 x1) (gd (List.length x1 = List.length x1) (whileO (fun (d2 : List Int × List Int × Unit) => bif ilt (0 : Int) (↑(List.length d2.1) : Int) then gd ((0 : Int) ≤ (0 : Int) ∧ (0 : Int) < (↑(List.length d2.1) : Int)) (gd (List.length d2.2.1 ≤ List.length d2.2.1) (gd ((List.length d2.2.1 + (1 : Nat)) * (8 : Nat) ≤ (1099511627776 : Nat)) (gd (List.length d2.2.1 + (1 : Nat) = List.length (List.take (List.length d2.2.1) d2.2.1 ++ List.getD d2.1 (0 : Nat) (0 : Int) :: ([] : List Int))) (gd (List.length (List.take (List.length d2.2.1) d2.2.1 ++ List.getD d2.1 (0 : Nat) (0 : Int) :: ([] : List Int)) < (4611686018427387904 : Nat)) (gd (List.length d2.2.1 + (1 : Nat) = List.length (sortL (List.take (List.length d2.2.1) d2.2.1 ++ List.getD d2.1 (0 : Nat) (0 : Int) :: ([] : List Int)))) (gd (Option.isSome (setF x0 x1).1 = true) (gd (isPl (Option.getD (setF x0 x1).1 (((0 : Int), ([] : List (Int × Int × Int × Unit)), ([] : List ((Int × Int × Int × Unit) × Int)), ()) : Int × List (Int × Int × Int × Unit) × List ((Int × Int × Int × Unit) × Int) × Unit))) (gd (setP (Option.getD (setF x0 x1).1 (((0 : Int), ([] : List (Int × Int × Int × Unit)), ([] : List ((Int × Int × Int × Unit) × Int)), ()) : Int × List (Int × Int × Int × Unit) × List ((Int × Int × Int × Unit) × Int) × Unit)).1 (sortL (List.take (List.length d2.2.1) d2.2.1 ++ List.getD d2.1 (0 : Nat) (0 : Int) :: ([] : List Int)))) (gd (List.length d2.2.1 + (1 : Nat) = List.length (sortL (List.take (List.length d2.2.1) d2.2.1 ++ List.getD d2.1 (0 : Nat) (0 : Int) :: ([] : List Int)))) (some (Lp.go ((frF (Option.getD (setF x0 x1).1 (((0 : Int), ([] : List (Int × Int × Int × Unit)), ([] : List ((Int × Int × Int × Unit) × Int)), ()) : Int × List (Int × Int × Int × Unit) × List ((Int × Int × Int × Unit) × Int) × Unit)).1 (sortL (List.take (List.length d2.2.1) d2.2.1 ++ List.getD d2.1 (0 : Nat) (0 : Int) :: ([] : List Int))), sortL (List.take (List.length d2.2.1) d2.2.1 ++ List.getD d2.1 (0 : Nat) (0 : Int) :: ([] : List Int)), ()) : List Int × List Int × Unit)))))))))))) else gd ((0 : Nat) + List.length d2.2.1 ≤ List.length d2.2.1) (some (Lp.out ((List.take (List.length d2.2.1) (List.drop (0 : Nat) d2.2.1), (0 : Int), ()) : List Int × Int × Unit)))) ((frF (Option.getD (setF x0 x1).1 (((0 : Int), ([] : List (Int × Int × Int × Unit)), ([] : List ((Int × Int × Int × Unit) × Int)), ()) : Int × List (Int × Int × Int × Unit) × List ((Int × Int × Int × Unit) × Int) × Unit)).1 x1, x1, ()) : List Int × List Int × Unit)))))))))))
noncomputable def g62_sh : List LSh := LSh.mk (((8, TV.slf (0) (1)) : Nat × TV) :: ((9, TV.v (Ty.slice (Ty.int IntKind.i64))) : Nat × TV) :: ([] : List (Nat × TV))) (TB.arr (Ty.int IntKind.i64) true :: ([] : List TB)) :: ([] : List LSh)

/-! the reference -/
noncomputable def con94 : Con := mkC 94 [.d LI, .d I64] [.bool] (fun (l : List Int) (x : Int) => [small l]) (fun (l : List Int) (x : Int) => (l.contains x, ()))
noncomputable def g94 (x0 : List Int) (x1 : Int) : Option (Bool × Unit) := whileO (fun (d2 : Int × Unit) => bif ilt d2.1 (↑(List.length x0) : Int) then gd ((0 : Int) ≤ d2.1 ∧ d2.1 < (↑(List.length x0) : Int)) (bif ieq x1 (List.getD x0 (Int.toNat d2.1) (0 : Int)) then some (Lp.out ((true, ()) : Bool × Unit)) else some (Lp.go ((wr IntKind.i64 (d2.1 + (1 : Int)), ()) : Int × Unit))) else some (Lp.out ((false, ()) : Bool × Unit))) (((0 : Int), ()) : Int × Unit)
noncomputable def g94_sh : List LSh := LSh.mk (((9, TV.v (Ty.int IntKind.i64)) : Nat × TV) :: ([] : List (Nat × TV))) ([] : List TB) :: ([] : List LSh)
noncomputable def con95 : Con := mkC 95 [.d LI, .d I64] [LI] (fun (l : List Int) (x : Int) => [l.length ≤ 1000]) (fun (l : List Int) (x : Int) => (withL l x, ()))
noncomputable def g95 (x0 : List Int) (x1 : Int) : Option (List Int × Unit) := gd ((0 : Nat) = (0 : Nat)) (whileO (fun (d2 : Int × List Int × Unit) => bif ilt d2.1 (↑(List.length x0) : Int) then gd ((0 : Int) ≤ d2.1 ∧ d2.1 < (↑(List.length x0) : Int)) (bif ilt (List.getD x0 (Int.toNat d2.1) (0 : Int)) x1 then gd (List.length d2.2.1 ≤ List.length d2.2.1) (gd ((List.length d2.2.1 + (1 : Nat)) * (8 : Nat) ≤ (1099511627776 : Nat)) (gd (List.length d2.2.1 + (1 : Nat) = List.length (List.take (List.length d2.2.1) d2.2.1 ++ List.getD x0 (Int.toNat d2.1) (0 : Int) :: ([] : List Int))) (some (Lp.go ((wr IntKind.i64 (d2.1 + (1 : Int)), List.take (List.length d2.2.1) d2.2.1 ++ List.getD x0 (Int.toNat d2.1) (0 : Int) :: ([] : List Int), ()) : Int × List Int × Unit))))) else gd (List.length d2.2.1 = List.length d2.2.1) (some (Lp.go ((wr IntKind.i64 (d2.1 + (1 : Int)), d2.2.1, ()) : Int × List Int × Unit)))) else gd (List.length d2.2.1 ≤ List.length d2.2.1) (gd ((List.length d2.2.1 + (1 : Nat)) * (8 : Nat) ≤ (1099511627776 : Nat)) (whileO (fun (d3 : Int × Int × List Int × Unit) => bif ilt d3.2.1 (↑(List.length x0) : Int) then gd ((0 : Int) ≤ d3.2.1 ∧ d3.2.1 < (↑(List.length x0) : Int)) (bif ilt x1 (List.getD x0 (Int.toNat d3.2.1) (0 : Int)) then gd (Int.toNat d3.1 ≤ List.length d3.2.2.1) (gd ((Int.toNat d3.1 + (1 : Nat)) * (8 : Nat) ≤ (1099511627776 : Nat)) (some (Lp.go (((↑(Int.toNat d3.1 + (1 : Nat)) : Int), wr IntKind.i64 (d3.2.1 + (1 : Int)), List.take (Int.toNat d3.1) d3.2.2.1 ++ List.getD x0 (Int.toNat d3.2.1) (0 : Int) :: ([] : List Int), ()) : Int × Int × List Int × Unit)))) else some (Lp.go (((↑(Int.toNat d3.1) : Int), wr IntKind.i64 (d3.2.1 + (1 : Int)), d3.2.2.1, ()) : Int × Int × List Int × Unit))) else gd ((0 : Nat) + Int.toNat d3.1 ≤ List.length d3.2.2.1) (some (Lp.out (Lp.out ((List.take (Int.toNat d3.1) (List.drop (0 : Nat) d3.2.2.1), ()) : List Int × Unit))))) (((↑(List.length d2.2.1 + (1 : Nat)) : Int), (0 : Int), List.take (List.length d2.2.1) d2.2.1 ++ x1 :: ([] : List Int), ()) : Int × Int × List Int × Unit)))) (((0 : Int), ([] : List Int), ()) : Int × List Int × Unit))
noncomputable def g95_sh : List LSh := LSh.mk (((5, TV.slf (0) (1)) : Nat × TV) :: ((12, TV.v (Ty.int IntKind.i64)) : Nat × TV) :: ([] : List (Nat × TV))) (TB.arr (Ty.int IntKind.i64) true :: ([] : List TB)) :: LSh.mk (((5, TV.sl (0) (1) (0)) : Nat × TV) :: ((30, TV.v (Ty.int IntKind.i64)) : Nat × TV) :: ([] : List (Nat × TV))) (TB.arr (Ty.int IntKind.i64) true :: ([] : List TB)) :: ([] : List LSh)
noncomputable def arcR (p : Int) (l : List Int) : Bool := decide (mostF (tabF p) l ≤ 2)
noncomputable def con59 : Con := mkC 59 [.d I64, .d LI] [.bool] (fun (p : Int) (l : List Int) => [isP p, setP p l]) (fun (p : Int) (l : List Int) => (arcR p l, ()))
noncomputable def g59 (x0 : Int) (x1 : List Int) : Option (Bool × Unit) := gd (isP x0) (gd (sqT (tabF x0)) (gd (∀ (x2 : Int), List.Mem x2 x1 → (0 : Int) ≤ x2 ∧ x2 < (↑(List.length (tabF x0)) : Int)) (gd (small x1) (some ((ile (mostF (tabF x0) x1) (2 : Int), ()) : Bool × Unit)))))
noncomputable def g59_sh : List LSh := ([] : List LSh)
noncomputable def stR (p : Int) (l : List Int) : Int := if arcR p l = true then 0 else 5
noncomputable def con63 : Con := mkC 63 [.d I64, .d LI] [I64] (fun (p : Int) (l : List Int) => [isP p, setP p l]) (fun (p : Int) (l : List Int) => (stR p l, ()))
noncomputable def g63 (x0 : Int) (x1 : List Int) : Option (Int × Unit) := gd (isP x0) (gd (setP x0 x1) (bif !arcR x0 x1 then some (((5 : Int), ()) : Int × Unit) else some (((0 : Int), ()) : Int × Unit)))
noncomputable def g63_sh : List LSh := ([] : List LSh)
noncomputable def freeR (p : Int) (l : List Int) : List Int := flt (fun (x : Nat) => !l.contains (x : Int) && decide (mostF (tabF p) (withL l (x : Int)) ≤ 2)) (ptsC p).length
noncomputable def con64 : Con := mkC 64 [.d I64, .d LI] [LI] (fun (p : Int) (l : List Int) => [isP p, setP p l]) (fun (p : Int) (l : List Int) => (freeR p l, ()))
noncomputable def g64 (x0 : Int) (x1 : List Int) : Option (List Int × Unit) := gd (isP x0) (gd ((0 : Nat) = (0 : Nat)) (whileO (fun (d2 : Int × List Int × Unit) => bif ilt d2.1 (↑(List.length (tabF x0)) : Int) then gd (small x1) (gd ((!List.contains x1 d2.1) = true → (!List.contains x1 d2.1) = true ∧ (!List.contains x1 d2.1) = true ∧ List.length x1 ≤ (1000 : Nat)) (gd ((!List.contains x1 d2.1) = true → (!List.contains x1 d2.1) = true ∧ (!List.contains x1 d2.1) = true ∧ sqT (tabF x0) ∧ (∀ (x3 : Int), List.Mem x3 (withL x1 d2.1) → (0 : Int) ≤ x3 ∧ x3 < (↑(List.length (tabF x0)) : Int)) ∧ small (withL x1 d2.1)) (gd ((!List.contains x1 d2.1) = true → (!List.contains x1 d2.1) = true) (gd ((!List.contains x1 d2.1) = true → (!List.contains x1 d2.1) = true) (bif bif !List.contains x1 d2.1 then ile (mostF (tabF x0) (withL x1 d2.1)) (2 : Int) else false then gd (List.length d2.2.1 ≤ List.length d2.2.1) (gd ((List.length d2.2.1 + (1 : Nat)) * (8 : Nat) ≤ (1099511627776 : Nat)) (gd (List.length d2.2.1 + (1 : Nat) = List.length (List.take (List.length d2.2.1) d2.2.1 ++ d2.1 :: ([] : List Int))) (some (Lp.go ((wr IntKind.i64 (d2.1 + (1 : Int)), List.take (List.length d2.2.1) d2.2.1 ++ d2.1 :: ([] : List Int), ()) : Int × List Int × Unit))))) else gd (List.length d2.2.1 = List.length d2.2.1) (some (Lp.go ((wr IntKind.i64 (d2.1 + (1 : Int)), d2.2.1, ()) : Int × List Int × Unit)))))))) else gd ((0 : Nat) + List.length d2.2.1 ≤ List.length d2.2.1) (some (Lp.out ((List.take (List.length d2.2.1) (List.drop (0 : Nat) d2.2.1), ()) : List Int × Unit)))) (((0 : Int), ([] : List Int), ()) : Int × List Int × Unit)))
noncomputable def g64_sh : List LSh := LSh.mk (((5, TV.slf (0) (1)) : Nat × TV) :: ((12, TV.v (Ty.int IntKind.i64)) : Nat × TV) :: ([] : List (Nat × TV))) (TB.arr (Ty.int IntKind.i64) true :: ([] : List TB)) :: ([] : List LSh)
noncomputable def con65 : Con := mkC 65 [.d I64, .d LI] [LI] (fun (p : Int) (l : List Int) => [isP p, okSet p l = true]) (fun (p : Int) (l : List Int) => (growA (freeR p) 60 l, ()))
noncomputable def g65 (x0 : Int) (x1 : List Int) : Option (List Int × Unit) := whileO (fun (d2 : List Int × Unit) => gd (isP x0) (gd (setP x0 d2.1) (bif ieq (↑(List.length (freeR x0 d2.1)) : Int) (0 : Int) then some (Lp.out ((d2.1, ()) : List Int × Unit)) else gd ((0 : Int) ≤ (0 : Int) ∧ (0 : Int) < (↑(List.length (freeR x0 d2.1)) : Int)) (gd (List.length d2.1 ≤ (1000 : Nat)) (some (Lp.go ((withL d2.1 (List.getD (freeR x0 d2.1) (0 : Nat) (0 : Int)), ()) : List Int × Unit))))))) ((x1, ()) : List Int × Unit)
noncomputable def g65_sh : List LSh := LSh.mk (((1, TV.v (Ty.slice (Ty.int IntKind.i64))) : Nat × TV) :: ([] : List (Nat × TV))) ([] : List TB) :: ([] : List LSh)
noncomputable def con15 : Con := mkC 15 [.d I64, .d LI] [.bool] (fun (p : Int) (l : List Int) => [small2 l]) (fun (p : Int) (l : List Int) => (true, ()))
noncomputable def g15 (x0 : Int) (x1 : List Int) : Option (Bool × Unit) := gd (small (List.take (60 : Nat) x1)) (gd (small (List.take (60 : Nat) x1)) (gd (small (List.take (60 : Nat) x1)) (gd (small2 x1) (bif !okSet x0 x1 then gd ((!(arcX x0 (List.take (60 : Nat) x1)).1) = true → (!(arcX x0 (List.take (60 : Nat) x1)).1) = true) (gd ((!(arcX x0 (List.take (60 : Nat) x1)).1) = true → (!(arcX x0 (List.take (60 : Nat) x1)).1) = true) (gd ((!(arcX x0 (List.take (60 : Nat) x1)).1) = true → (!(arcX x0 (List.take (60 : Nat) x1)).1) = true ∧ (!(arcX x0 (List.take (60 : Nat) x1)).1) = true) (gd ((!(arcX x0 (List.take (60 : Nat) x1)).1) = true → (!(arcX x0 (List.take (60 : Nat) x1)).1) = true) (gd ((!(arcX x0 (List.take (60 : Nat) x1)).1) = true → (!(arcX x0 (List.take (60 : Nat) x1)).1) = true) (gd ((bif !(arcX x0 (List.take (60 : Nat) x1)).1 then ieq (wr IntKind.i64 ((↑(List.length (freeX x0 (List.take (60 : Nat) x1)).1) : Int) + (↑(List.length (growX x0 (List.take (60 : Nat) x1)).1) : Int))) (0 : Int) else false) = true → (bif !(arcX x0 (List.take (60 : Nat) x1)).1 then ieq (wr IntKind.i64 ((↑(List.length (freeX x0 (List.take (60 : Nat) x1)).1) : Int) + (↑(List.length (growX x0 (List.take (60 : Nat) x1)).1) : Int))) (0 : Int) else false) = true) (gd ((bif !(arcX x0 (List.take (60 : Nat) x1)).1 then ieq (wr IntKind.i64 ((↑(List.length (freeX x0 (List.take (60 : Nat) x1)).1) : Int) + (↑(List.length (growX x0 (List.take (60 : Nat) x1)).1) : Int))) (0 : Int) else false) = true → (bif !(arcX x0 (List.take (60 : Nat) x1)).1 then ieq (wr IntKind.i64 ((↑(List.length (freeX x0 (List.take (60 : Nat) x1)).1) : Int) + (↑(List.length (growX x0 (List.take (60 : Nat) x1)).1) : Int))) (0 : Int) else false) = true) (gd ((bif bif !(arcX x0 (List.take (60 : Nat) x1)).1 then ieq (wr IntKind.i64 ((↑(List.length (freeX x0 (List.take (60 : Nat) x1)).1) : Int) + (↑(List.length (growX x0 (List.take (60 : Nat) x1)).1) : Int))) (0 : Int) else false then ieq (arcX x0 (List.take (60 : Nat) x1)).2.1 (2 : Int) else false) = true → (bif bif !(arcX x0 (List.take (60 : Nat) x1)).1 then ieq (wr IntKind.i64 ((↑(List.length (freeX x0 (List.take (60 : Nat) x1)).1) : Int) + (↑(List.length (growX x0 (List.take (60 : Nat) x1)).1) : Int))) (0 : Int) else false then ieq (arcX x0 (List.take (60 : Nat) x1)).2.1 (2 : Int) else false) = true) (gd ((bif bif !(arcX x0 (List.take (60 : Nat) x1)).1 then ieq (wr IntKind.i64 ((↑(List.length (freeX x0 (List.take (60 : Nat) x1)).1) : Int) + (↑(List.length (growX x0 (List.take (60 : Nat) x1)).1) : Int))) (0 : Int) else false then ieq (arcX x0 (List.take (60 : Nat) x1)).2.1 (2 : Int) else false) = true → (bif bif !(arcX x0 (List.take (60 : Nat) x1)).1 then ieq (wr IntKind.i64 ((↑(List.length (freeX x0 (List.take (60 : Nat) x1)).1) : Int) + (↑(List.length (growX x0 (List.take (60 : Nat) x1)).1) : Int))) (0 : Int) else false then ieq (arcX x0 (List.take (60 : Nat) x1)).2.1 (2 : Int) else false) = true) (gd ((bif bif bif !(arcX x0 (List.take (60 : Nat) x1)).1 then ieq (wr IntKind.i64 ((↑(List.length (freeX x0 (List.take (60 : Nat) x1)).1) : Int) + (↑(List.length (growX x0 (List.take (60 : Nat) x1)).1) : Int))) (0 : Int) else false then ieq (arcX x0 (List.take (60 : Nat) x1)).2.1 (2 : Int) else false then ieq (freeX x0 (List.take (60 : Nat) x1)).2.1 (2 : Int) else false) = true → (bif bif bif !(arcX x0 (List.take (60 : Nat) x1)).1 then ieq (wr IntKind.i64 ((↑(List.length (freeX x0 (List.take (60 : Nat) x1)).1) : Int) + (↑(List.length (growX x0 (List.take (60 : Nat) x1)).1) : Int))) (0 : Int) else false then ieq (arcX x0 (List.take (60 : Nat) x1)).2.1 (2 : Int) else false then ieq (freeX x0 (List.take (60 : Nat) x1)).2.1 (2 : Int) else false) = true) (gd ((bif bif bif !(arcX x0 (List.take (60 : Nat) x1)).1 then ieq (wr IntKind.i64 ((↑(List.length (freeX x0 (List.take (60 : Nat) x1)).1) : Int) + (↑(List.length (growX x0 (List.take (60 : Nat) x1)).1) : Int))) (0 : Int) else false then ieq (arcX x0 (List.take (60 : Nat) x1)).2.1 (2 : Int) else false then ieq (freeX x0 (List.take (60 : Nat) x1)).2.1 (2 : Int) else false) = true → (bif bif bif !(arcX x0 (List.take (60 : Nat) x1)).1 then ieq (wr IntKind.i64 ((↑(List.length (freeX x0 (List.take (60 : Nat) x1)).1) : Int) + (↑(List.length (growX x0 (List.take (60 : Nat) x1)).1) : Int))) (0 : Int) else false then ieq (arcX x0 (List.take (60 : Nat) x1)).2.1 (2 : Int) else false then ieq (freeX x0 (List.take (60 : Nat) x1)).2.1 (2 : Int) else false) = true) (gd ((bif bif bif bif !(arcX x0 (List.take (60 : Nat) x1)).1 then ieq (wr IntKind.i64 ((↑(List.length (freeX x0 (List.take (60 : Nat) x1)).1) : Int) + (↑(List.length (growX x0 (List.take (60 : Nat) x1)).1) : Int))) (0 : Int) else false then ieq (arcX x0 (List.take (60 : Nat) x1)).2.1 (2 : Int) else false then ieq (freeX x0 (List.take (60 : Nat) x1)).2.1 (2 : Int) else false then ieq (growX x0 (List.take (60 : Nat) x1)).2.1 (2 : Int) else false) = true → (bif bif bif bif !(arcX x0 (List.take (60 : Nat) x1)).1 then ieq (wr IntKind.i64 ((↑(List.length (freeX x0 (List.take (60 : Nat) x1)).1) : Int) + (↑(List.length (growX x0 (List.take (60 : Nat) x1)).1) : Int))) (0 : Int) else false then ieq (arcX x0 (List.take (60 : Nat) x1)).2.1 (2 : Int) else false then ieq (freeX x0 (List.take (60 : Nat) x1)).2.1 (2 : Int) else false then ieq (growX x0 (List.take (60 : Nat) x1)).2.1 (2 : Int) else false) = true) (some ((bif bif bif bif bif !(arcX x0 (List.take (60 : Nat) x1)).1 then ieq (wr IntKind.i64 ((↑(List.length (freeX x0 (List.take (60 : Nat) x1)).1) : Int) + (↑(List.length (growX x0 (List.take (60 : Nat) x1)).1) : Int))) (0 : Int) else false then ieq (arcX x0 (List.take (60 : Nat) x1)).2.1 (2 : Int) else false then ieq (freeX x0 (List.take (60 : Nat) x1)).2.1 (2 : Int) else false then ieq (growX x0 (List.take (60 : Nat) x1)).2.1 (2 : Int) else false then true else false, ()) : Bool × Unit))))))))))))) else gd (isP x0) (gd (setP x0 x1) (gd ((!!beqB (arcX x0 (List.take (60 : Nat) x1)).1 (arcR x0 x1)) = true → (!!beqB (arcX x0 (List.take (60 : Nat) x1)).1 (arcR x0 x1)) = true) (gd ((!beqB (arcX x0 (List.take (60 : Nat) x1)).1 (arcR x0 x1)) = false → (!!beqB (arcX x0 (List.take (60 : Nat) x1)).1 (arcR x0 x1)) = true) (gd ((!bif !beqB (arcX x0 (List.take (60 : Nat) x1)).1 (arcR x0 x1) then true else !ieq (arcX x0 (List.take (60 : Nat) x1)).2.1 (0 : Int)) = true → (!bif !beqB (arcX x0 (List.take (60 : Nat) x1)).1 (arcR x0 x1) then true else !ieq (arcX x0 (List.take (60 : Nat) x1)).2.1 (0 : Int)) = true) (gd ((bif !beqB (arcX x0 (List.take (60 : Nat) x1)).1 (arcR x0 x1) then true else !ieq (arcX x0 (List.take (60 : Nat) x1)).2.1 (0 : Int)) = false → (!bif !beqB (arcX x0 (List.take (60 : Nat) x1)).1 (arcR x0 x1) then true else !ieq (arcX x0 (List.take (60 : Nat) x1)).2.1 (0 : Int)) = true) (bif bif bif !beqB (arcX x0 (List.take (60 : Nat) x1)).1 (arcR x0 x1) then true else !ieq (arcX x0 (List.take (60 : Nat) x1)).2.1 (0 : Int) then true else false then some ((false, ()) : Bool × Unit) else gd (isP x0) (gd (setP x0 x1) (bif !ieq (stR x0 x1) (0 : Int) then gd (ieq (wr IntKind.i64 ((↑(List.length (freeX x0 (List.take (60 : Nat) x1)).1) : Int) + (↑(List.length (growX x0 (List.take (60 : Nat) x1)).1) : Int))) (0 : Int) = true → ieq (wr IntKind.i64 ((↑(List.length (freeX x0 (List.take (60 : Nat) x1)).1) : Int) + (↑(List.length (growX x0 (List.take (60 : Nat) x1)).1) : Int))) (0 : Int) = true ∧ ieq (wr IntKind.i64 ((↑(List.length (freeX x0 (List.take (60 : Nat) x1)).1) : Int) + (↑(List.length (growX x0 (List.take (60 : Nat) x1)).1) : Int))) (0 : Int) = true) (gd (ieq (wr IntKind.i64 ((↑(List.length (freeX x0 (List.take (60 : Nat) x1)).1) : Int) + (↑(List.length (growX x0 (List.take (60 : Nat) x1)).1) : Int))) (0 : Int) = true → ieq (wr IntKind.i64 ((↑(List.length (freeX x0 (List.take (60 : Nat) x1)).1) : Int) + (↑(List.length (growX x0 (List.take (60 : Nat) x1)).1) : Int))) (0 : Int) = true) (gd ((bif ieq (wr IntKind.i64 ((↑(List.length (freeX x0 (List.take (60 : Nat) x1)).1) : Int) + (↑(List.length (growX x0 (List.take (60 : Nat) x1)).1) : Int))) (0 : Int) then ieq (freeX x0 (List.take (60 : Nat) x1)).2.1 (stR x0 x1) else false) = true → (bif ieq (wr IntKind.i64 ((↑(List.length (freeX x0 (List.take (60 : Nat) x1)).1) : Int) + (↑(List.length (growX x0 (List.take (60 : Nat) x1)).1) : Int))) (0 : Int) then ieq (freeX x0 (List.take (60 : Nat) x1)).2.1 (stR x0 x1) else false) = true ∧ (bif ieq (wr IntKind.i64 ((↑(List.length (freeX x0 (List.take (60 : Nat) x1)).1) : Int) + (↑(List.length (growX x0 (List.take (60 : Nat) x1)).1) : Int))) (0 : Int) then ieq (freeX x0 (List.take (60 : Nat) x1)).2.1 (stR x0 x1) else false) = true) (gd ((bif ieq (wr IntKind.i64 ((↑(List.length (freeX x0 (List.take (60 : Nat) x1)).1) : Int) + (↑(List.length (growX x0 (List.take (60 : Nat) x1)).1) : Int))) (0 : Int) then ieq (freeX x0 (List.take (60 : Nat) x1)).2.1 (stR x0 x1) else false) = true → (bif ieq (wr IntKind.i64 ((↑(List.length (freeX x0 (List.take (60 : Nat) x1)).1) : Int) + (↑(List.length (growX x0 (List.take (60 : Nat) x1)).1) : Int))) (0 : Int) then ieq (freeX x0 (List.take (60 : Nat) x1)).2.1 (stR x0 x1) else false) = true) (some ((bif bif ieq (wr IntKind.i64 ((↑(List.length (freeX x0 (List.take (60 : Nat) x1)).1) : Int) + (↑(List.length (growX x0 (List.take (60 : Nat) x1)).1) : Int))) (0 : Int) then ieq (freeX x0 (List.take (60 : Nat) x1)).2.1 (stR x0 x1) else false then ieq (growX x0 (List.take (60 : Nat) x1)).2.1 (stR x0 x1) else false, ()) : Bool × Unit))))) else gd (isP x0) (gd (setP x0 x1) (gd (small (freeX x0 (List.take (60 : Nat) x1)).1) (gd (small (freeR x0 x1)) (gd (eqLf ieq (freeX x0 (List.take (60 : Nat) x1)).1 (freeR x0 x1) = true → eqLf ieq (freeX x0 (List.take (60 : Nat) x1)).1 (freeR x0 x1) = true ∧ eqLf ieq (freeX x0 (List.take (60 : Nat) x1)).1 (freeR x0 x1) = true ∧ isP x0 ∧ okSet x0 x1 = true) (gd (eqLf ieq (freeX x0 (List.take (60 : Nat) x1)).1 (freeR x0 x1) = true → eqLf ieq (freeX x0 (List.take (60 : Nat) x1)).1 (freeR x0 x1) = true ∧ eqLf ieq (freeX x0 (List.take (60 : Nat) x1)).1 (freeR x0 x1) = true ∧ small (growX x0 (List.take (60 : Nat) x1)).1 ∧ small (growA (freeR x0) (60 : Nat) x1)) (gd (eqLf ieq (freeX x0 (List.take (60 : Nat) x1)).1 (freeR x0 x1) = true → eqLf ieq (freeX x0 (List.take (60 : Nat) x1)).1 (freeR x0 x1) = true) (gd ((bif eqLf ieq (freeX x0 (List.take (60 : Nat) x1)).1 (freeR x0 x1) then eqLf ieq (growX x0 (List.take (60 : Nat) x1)).1 (growA (freeR x0) (60 : Nat) x1) else false) = true → (bif eqLf ieq (freeX x0 (List.take (60 : Nat) x1)).1 (freeR x0 x1) then eqLf ieq (growX x0 (List.take (60 : Nat) x1)).1 (growA (freeR x0) (60 : Nat) x1) else false) = true) (gd ((bif eqLf ieq (freeX x0 (List.take (60 : Nat) x1)).1 (freeR x0 x1) then eqLf ieq (growX x0 (List.take (60 : Nat) x1)).1 (growA (freeR x0) (60 : Nat) x1) else false) = true → (bif eqLf ieq (freeX x0 (List.take (60 : Nat) x1)).1 (freeR x0 x1) then eqLf ieq (growX x0 (List.take (60 : Nat) x1)).1 (growA (freeR x0) (60 : Nat) x1) else false) = true) (gd ((bif bif eqLf ieq (freeX x0 (List.take (60 : Nat) x1)).1 (freeR x0 x1) then eqLf ieq (growX x0 (List.take (60 : Nat) x1)).1 (growA (freeR x0) (60 : Nat) x1) else false then ieq (freeX x0 (List.take (60 : Nat) x1)).2.1 (0 : Int) else false) = true → (bif bif eqLf ieq (freeX x0 (List.take (60 : Nat) x1)).1 (freeR x0 x1) then eqLf ieq (growX x0 (List.take (60 : Nat) x1)).1 (growA (freeR x0) (60 : Nat) x1) else false then ieq (freeX x0 (List.take (60 : Nat) x1)).2.1 (0 : Int) else false) = true) (gd ((bif bif eqLf ieq (freeX x0 (List.take (60 : Nat) x1)).1 (freeR x0 x1) then eqLf ieq (growX x0 (List.take (60 : Nat) x1)).1 (growA (freeR x0) (60 : Nat) x1) else false then ieq (freeX x0 (List.take (60 : Nat) x1)).2.1 (0 : Int) else false) = true → (bif bif eqLf ieq (freeX x0 (List.take (60 : Nat) x1)).1 (freeR x0 x1) then eqLf ieq (growX x0 (List.take (60 : Nat) x1)).1 (growA (freeR x0) (60 : Nat) x1) else false then ieq (freeX x0 (List.take (60 : Nat) x1)).2.1 (0 : Int) else false) = true) (some ((bif bif bif eqLf ieq (freeX x0 (List.take (60 : Nat) x1)).1 (freeR x0 x1) then eqLf ieq (growX x0 (List.take (60 : Nat) x1)).1 (growA (freeR x0) (60 : Nat) x1) else false then ieq (freeX x0 (List.take (60 : Nat) x1)).2.1 (0 : Int) else false then ieq (growX x0 (List.take (60 : Nat) x1)).2.1 (0 : Int) else false, ()) : Bool × Unit))))))))))))))))))))))))
noncomputable def g15_sh : List LSh := ([] : List LSh)


end Go.Arcs

set_option linter.unusedVariables false
set_option linter.unusedSimpArgs false
namespace Go.Arcs
open Go Go.Ab Go.Proofs

section
variable {α : Type} {f : α → Bool} {d : α}
theorem cnt1 {l : List α} : 1 ≤ l.countP f ↔ ∃ i, i < l.length ∧ f (l.getD i d) = true := by
  rw [show (1 ≤ l.countP f) = (0 < l.countP f) from rfl, List.countP_pos_iff]
  constructor
  · rintro ⟨a, ha, hf⟩
    obtain ⟨i, hi, rfl⟩ := List.getElem_of_mem ha
    exact ⟨i, hi, by rw [gd_at hi]; exact hf⟩
  · rintro ⟨i, hi, hf⟩
    rw [gd_at hi] at hf
    exact ⟨_, List.getElem_mem hi, hf⟩
theorem cnt2 : ∀ {l : List α}, 2 ≤ l.countP f ↔ ∃ j i, j < i ∧ i < l.length ∧ f (l.getD j d) = true ∧ f (l.getD i d) = true
  | [] => by simp
  | x :: l => by
    rw [List.countP_cons]
    constructor
    · intro h
      by_cases hx : f x = true
      · rw [if_pos hx] at h
        obtain ⟨i, h1, h2⟩ := (cnt1 (d := d)).1 (show 1 ≤ l.countP f by omega)
        exact ⟨0, i + 1, by omega, by simpa using h1, hx, by simpa using h2⟩
      · rw [if_neg hx] at h
        obtain ⟨j, i, h1, h2, h3, h4⟩ := (cnt2 (l := l)).1 (by omega)
        exact ⟨j + 1, i + 1, by omega, by simpa using h2, by simpa using h3, by simpa using h4⟩
    · rintro ⟨j, i, h1, h2, h3, h4⟩
      obtain ⟨i, rfl⟩ : ∃ k, i = k + 1 := ⟨i - 1, by omega⟩
      rw [List.length_cons] at h2
      rw [List.getD_cons_succ] at h4
      cases j with
      | zero =>
        rw [List.getD_cons_zero] at h3
        rw [if_pos h3]
        have := (cnt1 (f := f) (d := d) (l := l)).2 ⟨i, by omega, h4⟩
        omega
      | succ j =>
        rw [List.getD_cons_succ] at h3
        have := (cnt2 (l := l)).2 ⟨j, i, by omega, by omega, h3, h4⟩
        omega
theorem cnt3 : ∀ {l : List α}, 3 ≤ l.countP f ↔ ∃ h j i, h < j ∧ j < i ∧ i < l.length ∧ f (l.getD h d) = true ∧ f (l.getD j d) = true ∧ f (l.getD i d) = true
  | [] => by simp
  | x :: l => by
    rw [List.countP_cons]
    constructor
    · intro h
      by_cases hx : f x = true
      · rw [if_pos hx] at h
        obtain ⟨j, i, h1, h2, h3, h4⟩ := (cnt2 (d := d)).1 (show 2 ≤ l.countP f by omega)
        exact ⟨0, j + 1, i + 1, by omega, by omega, by simpa using h2, hx, by simpa using h3, by simpa using h4⟩
      · rw [if_neg hx] at h
        obtain ⟨k, j, i, h0, h1, h2, h3, h4, h5⟩ := (cnt3 (l := l)).1 (by omega)
        exact ⟨k + 1, j + 1, i + 1, by omega, by omega, by simpa using h2, by simpa using h3, by simpa using h4, by simpa using h5⟩
    · rintro ⟨k, j, i, h0, h1, h2, h3, h4, h5⟩
      obtain ⟨i, rfl⟩ : ∃ k, i = k + 1 := ⟨i - 1, by omega⟩
      obtain ⟨j, rfl⟩ : ∃ k, j = k + 1 := ⟨j - 1, by omega⟩
      rw [List.length_cons] at h2
      rw [List.getD_cons_succ] at h4 h5
      cases k with
      | zero =>
        rw [List.getD_cons_zero] at h3
        rw [if_pos h3]
        have := (cnt2 (f := f) (d := d) (l := l)).2 ⟨j, i, by omega, by omega, h4, h5⟩
        omega
      | succ k =>
        rw [List.getD_cons_succ] at h3
        have := (cnt3 (l := l)).2 ⟨k, j, i, by omega, by omega, by omega, h3, h4, h5⟩
        omega
end

section
variable {p : Int}
theorem range_at {n i : Nat} (h : i < n) : (List.range n).getD i 0 = i := by
  rw [List.getD_eq_getElem?_getD, List.getElem?_range h]; rfl
/-- Two points are on one line alone. -/
theorem line_one (hp : isP p) {x y b c : Nat} (hx : x < (ptsC p).length) (hy : y < (ptsC p).length) (hb : b < (ptsC p).length) (hc : c < (ptsC p).length) (hne : x ≠ y) (h1 : onF p x b = true) (h2 : onF p y b = true) (h3 : onF p x c = true) (h4 : onF p y c = true) : b = c := by
  have h := through_two hp hx hy hne
  rw [sumN_congr (g := fun b => ind (onF p x b && onF p y b)) fun b _ => by cases onF p x b <;> cases onF p y b <;> rfl, sumN_count] at h
  rcases Nat.lt_trichotomy b c with hlt | he | hlt
  · have := (cnt2 (f := fun b : Nat => onF p x b && onF p y b) (d := 0) (l := List.range (ptsC p).length)).2 ⟨b, c, hlt, by simpa using hc, by rw [range_at hb, h1, h2]; rfl, by rw [range_at hc, h3, h4]; rfl⟩
    omega
  · exact he
  · have := (cnt2 (f := fun b : Nat => onF p x b && onF p y b) (d := 0) (l := List.range (ptsC p).length)).2 ⟨c, b, hlt, by simpa using hb, by rw [range_at hc, h3, h4]; rfl, by rw [range_at hb, h1, h2]; rfl⟩
    omega
theorem in_nat' (hp : isP p) {x : Int} (hx : inPt p x = true) : ∃ n : Nat, x = n ∧ n < (ptsC p).length := by
  have h1 := inPt_iff.1 hx
  have := pts_len p (isP_mem hp)
  exact ⟨x.toNat, by omega, by omega⟩
/-- Three points are on one line. -/
theorem str_iff (hp : isP p) {a b c : Int} (ha : inPt p a = true) (hb : inPt p b = true) (hc : inPt p c = true) (hab : a ≠ b) : strF p a b c = true ↔ ∃ k : Nat, k < (ptsC p).length ∧ onF p a k = true ∧ onF p b k = true ∧ onF p c k = true := by
  rw [str_on hp ha hb hc hab, ← thr_join hp ha hb hab]
  obtain ⟨j1, j2, j3⟩ := join_on hp ha hb hab
  obtain ⟨n, hn, hn2⟩ := in_nat' hp j1
  rw [hn] at j2 j3 ⊢
  constructor
  · exact fun h => ⟨n, hn2, j2, j3, h⟩
  · rintro ⟨k, k1, k2, k3, k4⟩
    obtain ⟨x, rfl, hx⟩ := in_nat' hp ha
    obtain ⟨y, rfl, hy⟩ := in_nat' hp hb
    have := line_one hp hx hy hn2 k1 (fun e => hab (by rw [e])) j2 j3 k2 k3
    rw [this]; exact k4

theorem ris_pw : ∀ {l : List Int}, ris l = true → l.Pairwise (· < ·)
  | [], _ => List.Pairwise.nil
  | x :: l, h => by
    obtain ⟨h1, h2⟩ := ris_cons h
    exact List.Pairwise.cons h2 (ris_pw h1)
theorem pw_ris : ∀ {l : List Int}, l.Pairwise (· < ·) → ris l = true
  | [], _ => rfl
  | [x], _ => rfl
  | x :: y :: l, h => by
    obtain ⟨h1, h2⟩ := List.pairwise_cons.1 h
    have := pw_ris h2
    simp only [ris, this, Bool.and_true, decide_eq_true_eq]
    exact h1 y (List.mem_cons_self ..)
theorem ris_at {l : List Int} (hr : ris l = true) {i j : Nat} (hj : j < i) (hi : i < l.length) : l.getD j 0 < l.getD i 0 := by
  rw [gd_at hi, gd_at (show j < l.length by omega)]
  exact List.pairwise_iff_getElem.1 (ris_pw hr) j i (by omega) hi hj
theorem all_at {q : Int → Bool} {l : List Int} (h : l.all q = true) {i : Nat} (hi : i < l.length) : q (l.getD i 0) = true := by
  rw [gd_at hi]; exact List.all_eq_true.1 h _ (List.getElem_mem hi)

variable {l : List Int}
/-- An arc has at most two points on a line. -/
theorem arc_iff (hp : isP p) (hl : l.all (inPt p) = true) (hr : ris l = true) : arcF p l = true ↔ ∀ b : Nat, b < (ptsC p).length → meetsF p l b ≤ 2 := by
  have e1 : arcF p l = true ↔ ∀ i j h, h < j → j < i → i < l.length → strF p (l.getD h 0) (l.getD j 0) (l.getD i 0) = false := by
    unfold arcF
    simp only [List.all_eq_true, List.mem_range, Bool.not_eq_true']
    exact ⟨fun H i j h h1 h2 h3 => H i h3 j h2 h h1, fun H i h3 j h2 h h1 => H i j h h1 h2 h3⟩
  rw [e1]
  constructor
  · intro H b hb
    rcases (show 2 < meetsF p l b ∨ meetsF p l b ≤ 2 by omega) with hlt | hle
    · exfalso
      unfold meetsF at hlt
      obtain ⟨h, j, i, h1, h2, h3, h4, h5, h6⟩ := (cnt3 (f := fun x => onF p x b) (d := (0 : Int)) (l := l)).1 (by omega)
      have := H i j h h1 h2 h3
      rw [(str_iff hp (all_at hl (by omega)) (all_at hl (by omega)) (all_at hl h3) (by have := ris_at hr h1 (by omega); omega)).2 ⟨b, hb, h4, h5, h6⟩] at this
      cases this
    · exact hle
  · intro H i j h h1 h2 h3
    rw [Bool.eq_false_iff]
    intro hs
    obtain ⟨b, b1, b2, b3, b4⟩ := (str_iff hp (all_at hl (by omega)) (all_at hl (by omega)) (all_at hl h3) (by have := ris_at hr h1 (by omega); omega)).1 hs
    have := (cnt3 (f := fun x => onF p x b) (d := (0 : Int)) (l := l)).2 ⟨h, j, i, h1, h2, h3, b2, b3, b4⟩
    have h4 := H b b1
    unfold meetsF at h4
    omega
theorem arcR_iff (hp : isP p) (hl : l.all (inPt p) = true) : arcR p l = true ↔ ∀ b : Nat, b < (ptsC p).length → meetsF p l b ≤ 2 := by
  unfold arcR mostF
  rw [decide_eq_true_eq, fold_max, tab_len]
  constructor
  · intro h b hb
    rw [← count_tab hp hl hb]; exact h.2 b hb
  · intro h
    exact ⟨by omega, fun b hb => by rw [count_tab hp hl hb]; exact h b hb⟩
theorem arc_eq (hp : isP p) (hl : l.all (inPt p) = true) (hr : ris l = true) : arcR p l = arcF p l := by
  rw [Bool.eq_iff_iff, arc_iff hp hl hr, arcR_iff hp hl]

/-! ### One point more -/
theorem with_perm {x : Int} (h : x ∉ l) : (withL l x).Perm (x :: l) := by
  unfold withL
  refine List.perm_middle.trans (List.Perm.cons x ?_)
  have e : l.filter (fun y => ilt x y) = l.filter (fun y => !ilt y x) := List.filter_congr fun y hy => by
    have hne : y ≠ x := fun e => h (e ▸ hy)
    rw [Bool.eq_iff_iff, ilt_iff, Bool.not_eq_true', ilt_false]
    omega
  rw [e]
  exact List.filter_append_perm _ _
theorem with_ris {x : Int} (hr : ris l = true) : ris (withL l x) = true := by
  refine pw_ris ?_
  unfold withL
  have hp := ris_pw hr
  refine List.pairwise_append.2 ⟨hp.sublist (List.filter_sublist ..), List.Pairwise.cons (fun y hy => ?_) (hp.sublist (List.filter_sublist ..)), fun a ha b hb => ?_⟩
  · exact ilt_iff.1 (List.mem_filter.1 hy).2
  · have h1 := ilt_iff.1 (List.mem_filter.1 ha).2
    rcases List.mem_cons.1 hb with rfl | hb
    · exact h1
    · have h2 := ilt_iff.1 (List.mem_filter.1 hb).2
      omega
theorem with_sort {x : Int} (hr : ris l = true) (h : x ∉ l) : sortL (l ++ [x]) = withL l x :=
  (sortL_perm.trans ((List.perm_append_comm (l₁ := l) (l₂ := [x])).trans (with_perm h).symm)).eq_of_pairwise (fun a b _ _ h1 h2 => Int.le_antisymm h1 h2) sortL_pw ((ris_pw (with_ris hr)).imp fun h => Int.le_of_lt h)
theorem with_all {x : Int} (hl : l.all (inPt p) = true) (hx : inPt p x = true) : (withL l x).all (inPt p) = true := by
  rw [List.all_eq_true] at hl ⊢
  intro y hy
  unfold withL at hy
  rcases List.mem_append.1 hy with hy | hy
  · exact hl y (List.mem_filter.1 hy).1
  · rcases List.mem_cons.1 hy with rfl | hy
    · exact hx
    · exact hl y (List.mem_filter.1 hy).1
theorem with_meets {x b : Int} (h : x ∉ l) : meetsF p (withL l x) b = meetsF p l b + if onF p x b = true then 1 else 0 := by
  unfold meetsF
  rw [(with_perm h).countP_eq, List.countP_cons]
  split <;> simp

theorem may_iff (hp : isP p) (hl : l.all (inPt p) = true) (hr : ris l = true) {x : Nat} (hx : x < (ptsC p).length) : mayA p l x = true ↔ (x : Int) ∉ l ∧ ∀ b : Nat, b < (ptsC p).length → onF p x b = true → meetsF p l b ≤ 1 := by
  have hxin := inPt_nat hp hx
  unfold mayA
  simp only [List.all_eq_true, List.mem_range, Bool.and_eq_true, Bool.not_eq_true', ieq_false]
  constructor
  · intro H
    refine ⟨fun hm => ?_, fun b hb hon => ?_⟩
    · obtain ⟨i, hi, he⟩ := List.getElem_of_mem hm
      exact (H i hi).1 (by rw [gd_at hi]; exact he)
    · rcases (show 1 < meetsF p l b ∨ meetsF p l b ≤ 1 by omega) with hlt | hle
      · exfalso
        unfold meetsF at hlt
        obtain ⟨j, i, h1, h2, h3, h4⟩ := (cnt2 (f := fun x => onF p x b) (d := (0 : Int)) (l := l)).1 (by omega)
        have := (H i h2).2 j h1
        rw [(str_iff hp (all_at hl h2) (all_at hl (by omega)) hxin (by have := ris_at hr h1 h2; omega)).2 ⟨b, hb, h4, h3, hon⟩] at this
        cases this
      · exact hle
  · rintro ⟨h1, h2⟩ i hi
    refine ⟨fun e => h1 ?_, fun j hj => ?_⟩
    · rw [← e, gd_at hi]; exact List.getElem_mem hi
    · rw [Bool.eq_false_iff]
      intro hs
      obtain ⟨b, b1, b2, b3, b4⟩ := (str_iff hp (all_at hl hi) (all_at hl (by omega)) hxin (by have := ris_at hr hj hi; omega)).1 hs
      have := (cnt2 (f := fun x => onF p x b) (d := (0 : Int)) (l := l)).2 ⟨j, i, hj, hi, b3, b2⟩
      have h4 := h2 b b1 b4
      unfold meetsF at h4
      omega
theorem free_eq (hp : isP p) (hl : l.all (inPt p) = true) (hr : ris l = true) (ha : arcF p l = true) : freeR p l = frF p l := by
  unfold freeR frF
  refine flt_congr fun x hx => ?_
  have hxin := inPt_nat hp hx
  have harc := (arc_iff hp hl hr).1 ha
  rw [Bool.eq_iff_iff, may_iff hp hl hr hx, Bool.and_eq_true, Bool.not_eq_true', List.contains_eq_mem, decide_eq_false_iff_not]
  refine and_congr_right fun hm => ?_
  have e := arcR_iff (p := p) (l := withL l x) hp (with_all hl hxin)
  unfold arcR at e
  rw [e]
  constructor
  · intro H b hb hon
    have := H b hb
    rw [with_meets hm, if_pos hon] at this
    omega
  · intro H b hb
    rw [with_meets hm]
    have h2 := harc b hb
    split
    · rename_i hon; have := H b hb hon; omega
    · omega
/-- What can be added makes an arc. -/
theorem may_arc (hp : isP p) (hl : l.all (inPt p) = true) (hr : ris l = true) (ha : arcF p l = true) {x : Int} (hx : x ∈ frF p l) : inPt p x = true ∧ x ∉ l ∧ (withL l x).all (inPt p) = true ∧ ris (withL l x) = true ∧ arcF p (withL l x) = true := by
  unfold frF flt at hx
  obtain ⟨n, hn, rfl⟩ := List.mem_map.1 hx
  obtain ⟨hn, hm⟩ := List.mem_filter.1 hn
  have hn := List.mem_range.1 hn
  have hxin := inPt_nat hp hn
  obtain ⟨m1, m2⟩ := (may_iff hp hl hr hn).1 hm
  refine ⟨hxin, m1, with_all hl hxin, with_ris hr, (arc_iff hp (with_all hl hxin) (with_ris hr)).2 fun b hb => ?_⟩
  rw [with_meets m1]
  have h2 := (arc_iff hp hl hr).1 ha b hb
  split
  · rename_i hon; have := m2 b hb hon; omega
  · omega
theorem grow_eq (hp : isP p) : ∀ (n : Nat) {l : List Int}, l.all (inPt p) = true → ris l = true → arcF p l = true → growA (freeR p) n l = growA (frF p) n l
  | 0, l, _, _, _ => rfl
  | n + 1, l, hl, hr, ha => by
    simp only [growA]
    rw [free_eq hp hl hr ha]
    split
    · rfl
    · rename_i h0
      have hm : (frF p l).getD 0 0 ∈ frF p l := by
        rw [gd_at (by omega)]; exact List.getElem_mem _
      obtain ⟨_, _, m3, m4, m5⟩ := may_arc hp hl hr ha hm
      exact grow_eq hp n m3 m4 m5
end
end Go.Arcs

set_option linter.unusedVariables false
set_option linter.unusedSimpArgs false
namespace Go.Arcs
open Go Go.Ab Go.Proofs

theorem rng_all {n : Nat} {Q : Nat → Bool} : (List.range n).all Q = true ↔ ∀ i, 0 ≤ i → i < n → Q i = true := by
  rw [List.all_eq_true]
  exact ⟨fun h i _ hi => h i (List.mem_range.2 hi), fun h i hi => h i (Nat.zero_le _) (List.mem_range.1 hi)⟩
theorem take_getD {α : Type} {l : List α} {d : α} {i j : Nat} (h : j < i) : (l.take i).getD j d = l.getD j d := by
  rw [List.getD_eq_getElem?_getD, List.getElem?_take_of_lt h, ← List.getD_eq_getElem?_getD]
abbrev I1D := Int × Unit
/-! Arc -/
noncomputable def arcQ (p : Int) (l : List Int) (i j : Nat) : Bool := (List.range j).all fun h => !strF p (l.getD h 0) (l.getD j 0) (l.getD i 0)
noncomputable def arcP (p : Int) (l : List Int) (i : Nat) : Bool := (List.range i).all (arcQ p l i)
theorem in104a {k : PlaneD} {l : List Int} (hk : isPl k) (hl : l.all (inPt k.1) = true) (h60 : l.length ≤ 60) {i j : Nat} (hi : i < l.length) (hj : j < i) :
    whileO (g104_l0 k l ((i : Int), ()) ((j : Int), ())) (((0 : Int), ()) : I1D) = some (cond (arcQ k.1 l i j) (.go (((j + 1 : Nat) : Int), ())) (.out (.out (false, ())))) := by
  refine whileO_chk (st := fun h : Nat => (((h : Int), ()) : I1D)) (lo := 0) (hi := j) (Q := fun h => !strF k.1 (l.getD h 0) (l.getD j 0) (l.getD i 0)) (b := arcQ k.1 l i j) (x := Lp.out (Lp.out ((false, ()) : Bool × Unit))) (y := Lp.go ((((j + 1 : Nat) : Int), ()) : I1D)) (Nat.zero_le _) rng_all (fun h _ hh => ?_) ?_
  · unfold g104_l0
    dsimp only
    rw [cond_t (ilt_iff.2 (by omega)), gd_pos (by omega), gd_pos (by omega), gd_pos (by omega), gd_pos hk]
    simp only [Int.toNat_natCast]
    rw [gd_pos (all_at hl (by omega)), gd_pos (all_at hl (by omega)), gd_pos (all_at hl hi), cast1 (by omega)]
    cases strF k.1 (l.getD h 0) (l.getD j 0) (l.getD i 0) <;> rfl
  · unfold g104_l0
    dsimp only
    rw [cond_f (ilt_false.2 (by omega)), cast1 (by omega)]
theorem in104b {k : PlaneD} {l : List Int} (hk : isPl k) (hl : l.all (inPt k.1) = true) (h60 : l.length ≤ 60) {i : Nat} (hi : i < l.length) :
    whileO (g104_l1 k l ((i : Int), ())) (((0 : Int), ()) : I1D) = some (cond (arcP k.1 l i) (.go (((i + 1 : Nat) : Int), ())) (.out (false, ()))) := by
  refine whileO_chk (st := fun j : Nat => (((j : Int), ()) : I1D)) (lo := 0) (hi := i) (Q := arcQ k.1 l i) (b := arcP k.1 l i) (x := Lp.out ((false, ()) : Bool × Unit)) (y := Lp.go ((((i + 1 : Nat) : Int), ()) : I1D)) (Nat.zero_le _) rng_all (fun j _ hj => ?_) ?_
  · unfold g104_l1
    dsimp only
    rw [cond_t (ilt_iff.2 (by omega)), in104a hk hl h60 hi hj]
  · unfold g104_l1
    dsimp only
    rw [cond_f (ilt_false.2 (by omega)), cast1 (by omega)]
theorem goal104 : con104.goal Try.prog (spOf [con71]) g104_sh [] lm30 := by
  have e : (∀ (k : PlaneD) (l : List Int), isPl k → setP k.1 l → g104 k l = some (arcF k.1 l, ())) = con104.goal Try.prog (spOf [con71]) g104_sh [] lm30 := by kernel_rfl
  rw [← e]
  rintro k l hk ⟨hl, h60⟩
  unfold g104
  refine (whileO_chk (st := fun i : Nat => (((i : Int), ()) : I1D)) (lo := 0) (hi := l.length) (Q := arcP k.1 l) (b := arcF k.1 l) (x := ((false, ()) : Bool × Unit)) (y := ((true, ()) : Bool × Unit)) (Nat.zero_le _) rng_all (fun i _ hi => ?_) ?_).trans (by cases arcF k.1 l <;> rfl)
  · dsimp only
    rw [cond_t (ilt_iff.2 (by omega)), in104b hk hl h60 hi]
  · dsimp only
    rw [cond_f (ilt_false.2 (by omega))]
set_option maxRecDepth 100000 in
theorem ok104 : con104.Ok Try.prog := Con.of_goal mixed (okC ok71 okN) con104 goal104

theorem set_pl {p : Int} {l : List Int} (h : okSet p l = true) : isPl (planeF p) ∧ setP p l ∧ isP p := by
  obtain ⟨h1, h2, h3⟩ := okSet_all h
  exact ⟨⟨isPb_iff.1 h1, rfl⟩, ⟨h2, by have := ok_len h; omega⟩, isPb_iff.1 h1⟩
theorem goal55 : con55.goal Try.prog (spOf [con78, con104]) g55_sh [] lm30 := by
  have e : (∀ (p : Int) (l : List Int), small l → g55 p l = some (arcX p l)) = con55.goal Try.prog (spOf [con78, con104]) g55_sh [] lm30 := by kernel_rfl
  rw [← e]
  intro p l hs
  unfold g55 arcX
  rw [gd_pos hs]
  by_cases h : okSet p l = true
  · obtain ⟨h1, h2, h3⟩ := set_pl h
    have hp1 : (planeF p).1 = p := rfl
    simp only [setF_ok h, if_pos h, Bool.not_true, cond_false, Option.isSome_some, Option.getD_some, gd_true]
    rw [gd_pos h1, gd_pos (by rw [hp1]; exact h2)]
    rfl
  · rw [if_neg h, setF_no h]; rfl
set_option maxRecDepth 100000 in
theorem ok55 : con55.Ok Try.prog := Con.of_goal mixed (okC ok78 (okC ok104 okN)) con55 goal55

/-! Free -/
abbrev Row := Int × List Int × Unit
noncomputable def mayB (p : Int) (l : List Int) (x : Int) (i : Nat) : Bool := (List.range i).all fun j => !strF p (l.getD i 0) (l.getD j 0) x
noncomputable def mayI (p : Int) (l : List Int) (x : Int) (i : Nat) : Bool := !ieq (l.getD i 0) x && mayB p l x i
theorem in108a {k : PlaneD} {l : List Int} (hk : isPl k) (hl : l.all (inPt k.1) = true) (h60 : l.length ≤ 60) {x i : Nat} (hx : x < (ptsC k.1).length) (hi : i < l.length) {o : List Int} {o' : List Int} :
    whileO (g108_l0 k l (((x : Int), o', ()) : Row) (((i : Int), o, ()) : Row)) (((0 : Int), o, ()) : Row) = some (cond (mayB k.1 l x i) (.go (((i + 1 : Nat) : Int), o, ())) (.out (.go (((x + 1 : Nat) : Int), o, ())))) := by
  have h57 := pts_57 hk.1
  have ht : (l.take i).length = i := by rw [List.length_take]; omega
  refine whileO_chk (st := fun j : Nat => (((j : Int), o, ()) : Row)) (lo := 0) (hi := i) (Q := fun j => !strF k.1 (l.getD i 0) (l.getD j 0) x) (b := mayB k.1 l x i) (x := Lp.out (Lp.go ((((x + 1 : Nat) : Int), o, ()) : Row))) (y := Lp.go ((((i + 1 : Nat) : Int), o, ()) : Row)) (Nat.zero_le _) rng_all (fun j _ hj => ?_) ?_
  · unfold g108_l0
    simp only [Int.toNat_natCast, ht, take_getD hj, gd_true]
    rw [cond_t (ilt_iff.2 (by omega)), gd_pos (by omega), gd_pos hk, gd_pos (all_at hl hi), gd_pos (all_at hl (by omega)), gd_pos (inPt_nat hk.1 hx), cast1 (i := j) (by omega), cast1 (i := x) (by omega)]
    cases strF k.1 (l.getD i 0) (l.getD j 0) x <;> rfl
  · unfold g108_l0
    simp only [Int.toNat_natCast, ht, gd_true]
    rw [cond_f (ilt_false.2 (by omega)), cast1 (i := i) (by omega)]
def addO (o : List Int) (b : Bool) (x : Nat) : List Int := o ++ if b = true then [(x : Int)] else []
theorem in108b {k : PlaneD} {l : List Int} (hk : isPl k) (hl : l.all (inPt k.1) = true) (h60 : l.length ≤ 60) {x : Nat} (hx : x < (ptsC k.1).length) {o : List Int} (ho : o.length ≤ 60) :
    whileO (g108_l1 k l (((x : Int), o, ()) : Row)) (((0 : Int), o, ()) : Row) = some (.go (((x + 1 : Nat) : Int), addO o (mayA k.1 l x) x, ())) := by
  have h57 := pts_57 hk.1
  have main := whileO_chk (step := g108_l1 k l (((x : Int), o, ()) : Row)) (st := fun i : Nat => (((i : Int), o, ()) : Row)) (lo := 0) (hi := l.length) (Q := mayI k.1 l x) (b := mayA k.1 l x) (x := Lp.go ((((x + 1 : Nat) : Int), o, ()) : Row)) (y := Lp.go ((((x + 1 : Nat) : Int), o ++ [(x : Int)], ()) : Row)) (Nat.zero_le _) rng_all (fun i _ hi => ?_) ?_
  · refine main.trans ?_
    unfold addO
    cases mayA k.1 l x <;> simp
  · unfold g108_l1
    simp only [Int.toNat_natCast, gd_true]
    rw [cond_t (ilt_iff.2 (by omega)), gd_pos (by omega), gd_pos (show (0 : Int) ≤ (i : Int) ∧ (i : Int) ≤ l.length by omega), in108a hk hl h60 hx hi, cast1 (i := x) (by omega)]
    unfold mayI
    cases ieq (l.getD i 0) x <;> cases mayB k.1 l x i <;> rfl
  · unfold g108_l1
    simp only [Int.toNat_natCast, gd_true, Nat.le_refl, List.take_length, List.length_append, List.length_singleton]
    rw [cond_f (ilt_false.2 (by omega)), gd_pos (by omega), cast1 (i := x) (by omega)]
theorem flt_add {q : Nat → Bool} {n : Nat} : flt q (n + 1) = addO (flt q n) (q n) n := flt_succ
theorem take_all {l : List Int} : List.take l.length (List.drop 0 l) = l := by simp
theorem goal108 : con108.goal Try.prog (spOf [con71]) g108_sh [] lm30 := by
  have e : (∀ (k : PlaneD) (l : List Int), isPl k → setP k.1 l → g108 k l = some (frF k.1 l, ())) = con108.goal Try.prog (spOf [con71]) g108_sh [] lm30 := by kernel_rfl
  rw [← e]
  rintro k l hk ⟨hl, h60⟩
  have h57 := pts_57 hk.1
  have hpts : k.2.1 = ptsC k.1 := by
    rw [hk.2]; exact plane_pts k.1 (isP_mem hk.1)
  unfold g108
  rw [gd_pos rfl, hpts]
  refine whileO_nat (st := fun x : Nat => (((x : Int), flt (fun (x : Nat) => mayA k.1 l (x : Int)) x, ()) : Row)) (lo := 0) (hi := (ptsC k.1).length) (Nat.zero_le _) (fun x _ hx => ?_) ?_
  · have := flt_len (q := fun (x : Nat) => mayA k.1 l (x : Int)) (n := x)
    dsimp only
    rw [cond_t (ilt_iff.2 (by omega)), gd_pos rfl, in108b hk hl h60 hx (by omega), flt_add]
  · dsimp only
    rw [cond_f (ilt_false.2 (by omega)), gd_pos (by omega), take_all]
    rfl
set_option maxRecDepth 100000 in
theorem ok108 : con108.Ok Try.prog := Con.of_goal mixed (okC ok71 okN) con108 goal108
theorem goal61 : con61.goal Try.prog (spOf [con78, con104, con108]) g61_sh [] lm30 := by
  have e : (∀ (p : Int) (l : List Int), small l → g61 p l = some (freeX p l)) = con61.goal Try.prog (spOf [con78, con104, con108]) g61_sh [] lm30 := by kernel_rfl
  rw [← e]
  intro p l hs
  unfold g61 freeX
  rw [gd_pos hs]
  by_cases h : okSet p l = true
  · obtain ⟨h1, h2, h3⟩ := set_pl h
    have hp1 : (planeF p).1 = p := rfl
    have h2' : setP (planeF p).1 l := h2
    simp only [setF_ok h, if_pos h, Bool.not_true, cond_false, Option.isSome_some, Option.getD_some, gd_true, gd_pos h1, hp1, gd_pos h2]
    cases arcF p l <;> rfl
  · rw [if_neg h, setF_no h]; rfl
set_option maxRecDepth 100000 in
theorem ok61 : con61.Ok Try.prog := Con.of_goal mixed (okC ok78 (okC ok104 (okC ok108 okN))) con61 goal61
end Go.Arcs

set_option linter.unusedVariables false
set_option linter.unusedSimpArgs false
namespace Go.Arcs
open Go Go.Ab Go.Proofs

theorem goal38s : con38s.goal Try.prog (spS [] []) g38s_sh [5] lm30 := by
  have e : (∀ (l : List Int), l.length ≤ 100000 → g38s l = some (l, ())) = con38s.goal Try.prog (spS [] []) g38s_sh [5] lm30 := by kernel_rfl
  rw [← e]
  intro l hl
  unfold g38s
  simp only [gd_true, Nat.le_refl]
  rw [gd_pos (by omega), gd_pos (by omega)]
  have : eqO (l.length = 0) (some (([] : List Int), ())) (some (l, ())) = some (l, ()) := eqO_some.2 ⟨rfl, fun h => by rw [List.eq_nil_of_length_eq_zero h]⟩
  rw [this]
  rfl
set_option maxRecDepth 100000 in
theorem ok38s : con38s.Ok Try.prog := SCon.of_goal mixed okN okS0 con38s goal38s

abbrev R3 := Int × List Int × List Int × Unit
abbrev R4 := Int × Int × List Int × List Int × Unit
theorem in108sa {k : PlaneD} {l : List Int} (hk : isPl k) (hl : l.all (inPt k.1) = true) (h60 : l.length ≤ 60) {x i : Nat} (hx : x < (ptsC k.1).length) (hi : i < l.length) {o o' : List Int} :
    whileO (g108s_l0 (some k) (((x : Int), l, o', ()) : R3) (((i : Int), l, o, ()) : R3)) (((i : Int), (0 : Int), l, o, ()) : R4) = some (cond (mayB k.1 l x i) (.go (((i + 1 : Nat) : Int), l, o, ())) (.out (.go (((x + 1 : Nat) : Int), l, o, ())))) := by
  have h57 := pts_57 hk.1
  refine whileO_chk (st := fun j : Nat => (((i : Int), (j : Int), l, o, ()) : R4)) (lo := 0) (hi := i) (Q := fun j => !strF k.1 (l.getD i 0) (l.getD j 0) x) (b := mayB k.1 l x i) (x := Lp.out (Lp.go ((((x + 1 : Nat) : Int), l, o, ()) : R3))) (y := Lp.go ((((i + 1 : Nat) : Int), l, o, ()) : R3)) (Nat.zero_le _) rng_all (fun j _ hj => ?_) ?_
  · unfold g108s_l0
    simp only [Int.toNat_natCast, Nat.zero_add, gd_true, Option.isSome_some, Option.getD_some]
    rw [cond_t (ilt_iff.2 (by omega)), gd_pos (by omega), gd_pos (by omega), gd_pos hk, gd_pos (all_at hl hi), gd_pos (all_at hl (by omega)), gd_pos (inPt_nat hk.1 hx), cast1 (i := j) (by omega), cast1 (i := x) (by omega)]
    cases strF k.1 (l.getD i 0) (l.getD j 0) x <;> rfl
  · unfold g108s_l0
    simp only [Int.toNat_natCast, gd_true]
    rw [cond_f (ilt_false.2 (by omega)), cast1 (i := i) (by omega)]
theorem in108sb {k : PlaneD} {l : List Int} (hk : isPl k) (hl : l.all (inPt k.1) = true) (h60 : l.length ≤ 60) {x : Nat} (hx : x < (ptsC k.1).length) {o : List Int} (ho : o.length ≤ 60) :
    whileO (g108s_l1 (some k) (((x : Int), l, o, ()) : R3)) (((0 : Int), l, o, ()) : R3) = some (.go (((x + 1 : Nat) : Int), l, addO o (mayA k.1 l x) x, ())) := by
  have h57 := pts_57 hk.1
  have main := whileO_chk (step := g108s_l1 (some k) (((x : Int), l, o, ()) : R3)) (st := fun i : Nat => (((i : Int), l, o, ()) : R3)) (lo := 0) (hi := l.length) (Q := mayI k.1 l x) (b := mayA k.1 l x) (x := Lp.go ((((x + 1 : Nat) : Int), l, o, ()) : R3)) (y := Lp.go ((((x + 1 : Nat) : Int), l, o ++ [(x : Int)], ()) : R3)) (Nat.zero_le _) rng_all (fun i _ hi => ?_) ?_
  · refine main.trans ?_
    unfold addO
    cases mayA k.1 l x <;> simp
  · unfold g108s_l1
    simp only [Int.toNat_natCast, gd_true, Nat.zero_add]
    rw [cond_t (ilt_iff.2 (by omega)), gd_pos (by omega), gd_pos (by omega), gd_pos (show (0 : Int) ≤ (i : Int) ∧ (i : Int) ≤ l.length by omega), in108sa hk hl h60 hx hi, cast1 (i := x) (by omega)]
    unfold mayI
    cases ieq (l.getD i 0) x <;> cases mayB k.1 l x i <;> rfl
  · unfold g108s_l1
    simp only [Int.toNat_natCast, gd_true, Nat.le_refl, List.take_length, List.length_append, List.length_singleton]
    rw [cond_f (ilt_false.2 (by omega)), gd_pos (by omega), cast1 (i := x) (by omega)]
theorem goal108s : con108s.goal Try.prog (spS [] [con71]) g108s_sh [] lm30 := by
  have e : (∀ (k : Option PlaneD) (l : List Int), k.isSome = true → isPl (k.getD plN) → setP (k.getD plN).1 l → g108s k l = some (frF (k.getD plN).1 l, l, ())) = con108s.goal Try.prog (spS [] [con71]) g108s_sh [] lm30 := by kernel_rfl
  rw [← e]
  rintro (_ | k) l h0 hk ⟨hl, h60⟩
  · cases h0
  simp only [Option.getD_some] at hk hl ⊢
  have h57 := pts_57 hk.1
  have hpts : k.2.1 = ptsC k.1 := by
    rw [hk.2]; exact plane_pts k.1 (isP_mem hk.1)
  unfold g108s
  simp only [Option.getD_some, Option.isSome_some, gd_true, hpts]
  refine whileO_nat (st := fun x : Nat => (((x : Int), l, flt (fun (x : Nat) => mayA k.1 l (x : Int)) x, ()) : R3)) (lo := 0) (hi := (ptsC k.1).length) (Nat.zero_le _) (fun x _ hx => ?_) ?_
  · have := flt_len (q := fun (x : Nat) => mayA k.1 l (x : Int)) (n := x)
    dsimp only
    rw [cond_t (ilt_iff.2 (by omega)), in108sb hk hl h60 hx (by omega), flt_add]
  · dsimp only
    rw [cond_f (ilt_false.2 (by omega)), gd_pos (by omega), take_all]
    rfl
set_option maxRecDepth 100000 in
theorem ok108s : con108s.Ok Try.prog := SCon.of_goal mixed (okC ok71 okN) okS0 con108s goal108s

/-! Growing -/
/-- What is chosen from is new. -/
def newF (p : Int) (f : List Int → List Int) : Prop := ∀ l, okSet p l = true → ∀ x ∈ f l, inPt p x = true ∧ x ∉ l
section
variable {p : Int}
theorem okSet_mk {l : List Int} (hp : isP p) (hl : l.all (inPt p) = true) (hr : ris l = true) : okSet p l = true := by
  unfold okSet
  rw [isPb_iff.2 hp, hl, hr]; rfl
theorem new_fr (hp : isP p) : newF p (frF p) := fun l h x hx => by
  obtain ⟨_, hl, hr⟩ := okSet_all h
  unfold frF flt at hx
  obtain ⟨n, hn, rfl⟩ := List.mem_map.1 hx
  obtain ⟨hn, hm⟩ := List.mem_filter.1 hn
  have hn := List.mem_range.1 hn
  exact ⟨inPt_nat hp hn, ((may_iff hp hl hr hn).1 hm).1⟩
theorem new_ref (hp : isP p) : newF p (freeR p) := fun l h x hx => by
  unfold freeR flt at hx
  obtain ⟨n, hn, rfl⟩ := List.mem_map.1 hx
  obtain ⟨hn, hm⟩ := List.mem_filter.1 hn
  have hn := List.mem_range.1 hn
  rw [Bool.and_eq_true, Bool.not_eq_true', List.contains_eq_mem, decide_eq_false_iff_not] at hm
  exact ⟨inPt_nat hp hn, hm.1⟩
theorem head_in {l : List Int} (h : l.length ≠ 0) : l.getD 0 0 ∈ l := by
  rw [gd_at (by omega)]; exact List.getElem_mem _
theorem with_ok {l : List Int} (h : okSet p l = true) {x : Int} (hx : inPt p x = true) : okSet p (withL l x) = true := by
  obtain ⟨h1, h2, h3⟩ := okSet_all h
  exact okSet_mk (isPb_iff.1 h1) (with_all h2 hx) (with_ris h3)
theorem with_len {l : List Int} {x : Int} (h : x ∉ l) : (withL l x).length = l.length + 1 := by
  rw [(with_perm h).length_eq]; rfl
theorem grow_loop {S X : Type} {step : S → Option (Lp S X)} (st : List Int → S) (out : List Int → X) {f : List Int → List Int} (hf : newF p f)
    (h1 : ∀ l, okSet p l = true → (f l).length = 0 → step (st l) = some (.out (out l))) (h2 : ∀ l, okSet p l = true → (f l).length ≠ 0 → step (st l) = some (.go (st (withL l ((f l).getD 0 0))))) :
    ∀ (n : Nat) (l : List Int), okSet p l = true → 58 ≤ l.length + n → whileO step (st l) = some (out (growA f n l))
  | 0, l, hl, hn => by have := ok_len hl; omega
  | n + 1, l, hl, hn => by
    simp only [growA]
    by_cases h0 : (f l).length = 0
    · rw [if_pos h0]; exact whileO_out (h1 l hl h0)
    · rw [if_neg h0, whileO_go (h2 l hl h0)]
      obtain ⟨a, b⟩ := hf l hl _ (head_in h0)
      exact grow_loop st out hf h1 h2 n _ (with_ok hl a) (by rw [with_len b]; omega)
theorem grow_ok {f : List Int → List Int} (hf : newF p f) : ∀ (n : Nat) {l : List Int}, okSet p l = true → okSet p (growA f n l) = true
  | 0, l, hl => hl
  | n + 1, l, hl => by
    simp only [growA]
    split
    · exact hl
    · rename_i h0
      exact grow_ok hf n (with_ok hl (hf l hl _ (head_in h0)).1)
end
theorem goal62 : con62.goal Try.prog (spS [con38s, con108s, sortCon 66 true] [con78, con104]) g62_sh [] lm30 := by
  have e : (∀ (p : Int) (l : List Int), small l → g62 p l = some (growX p l)) = con62.goal Try.prog (spS [con38s, con108s, sortCon 66 true] [con78, con104]) g62_sh [] lm30 := by kernel_rfl
  rw [← e]
  intro p l hs
  unfold g62 growX
  rw [gd_pos hs]
  by_cases h : okSet p l = true
  · obtain ⟨h1, h2, hp⟩ := set_pl h
    have hp1 : (planeF p).1 = p := rfl
    have hlen := ok_len h
    have hle : l.length ≤ 100000 := by omega
    simp only [setF_ok h, if_pos h, Bool.not_true, cond_false, Option.isSome_some, Option.getD_some, gd_true, gd_pos h1, hp1, gd_pos h2, gd_pos hle]
    cases ha : arcF p l with
    | false => rfl
    | true =>
      rw [if_pos rfl]
      refine (cond_f rfl).trans ?_
      refine grow_loop (p := p) (st := fun l => ((frF p l, l, ()) : List Int × List Int × Unit)) (out := fun l => ((l, 0, ()) : List Int × Int × Unit)) (new_fr hp) (fun l hl h0 => ?_) (fun l hl h0 => ?_) 60 l h (by omega)
      · dsimp only
        rw [cond_f (ilt_false.2 (by omega)), gd_pos (by omega), take_all]
      · obtain ⟨b1, b2, b3⟩ := okSet_all hl
        have hll := ok_len hl
        obtain ⟨a1, a2⟩ := new_fr hp l hl _ (head_in h0)
        have hsrt : sortL (l ++ [(frF p l).getD 0 0]) = withL l ((frF p l).getD 0 0) := with_sort b3 a2
        have hok := with_ok hl a1
        have hwl := with_len a2
        have hset : setP p (withL l ((frF p l).getD 0 0)) := (set_pl hok).2.1
        simp only [List.take_length, hsrt, gd_pos hset, hwl, gd_true, Nat.le_refl, List.length_append, List.length_singleton]
        rw [cond_t (ilt_iff.2 (by omega)), gd_pos (by omega), gd_pos (by omega), gd_pos (by omega)]
  · rw [if_neg h, setF_no h]; rfl
set_option maxRecDepth 100000 in
theorem ok62 : con62.Ok Try.prog := Con.of_goalS mixed (okC ok78 (okC ok104 okN)) (okS ok38s (okS ok108s (okS (ok66 true) okS0))) con62 goal62

/-! The reference -/
theorem ile_d {x y : Int} : ile x y = decide (x ≤ y) := by
  rw [Bool.eq_iff_iff, ile_iff, decide_eq_true_eq]
theorem goal94 : con94.goal Try.prog (spOf []) g94_sh [] lm30 := by
  have e : (∀ (l : List Int) (x : Int), small l → g94 l x = some (l.contains x, ())) = con94.goal Try.prog (spOf []) g94_sh [] lm30 := by kernel_rfl
  rw [← e]
  intro l x hs
  unfold small at hs
  unfold g94
  have hb : (!l.contains x) = true ↔ ∀ i, 0 ≤ i → i < l.length → (!ieq x (l.getD i 0)) = true := by
    rw [Bool.not_eq_true', List.contains_eq_mem, decide_eq_false_iff_not]
    constructor
    · intro h i _ hi
      rw [Bool.not_eq_true', ieq_false]
      intro e
      exact h (by rw [e, gd_at hi]; exact List.getElem_mem hi)
    · intro h hm
      obtain ⟨i, hi, he⟩ := List.getElem_of_mem hm
      have := h i (Nat.zero_le _) hi
      rw [Bool.not_eq_true', ieq_false, gd_at hi] at this
      exact this he.symm
  refine (whileO_chk (st := fun i : Nat => (((i : Int), ()) : I1D)) (lo := 0) (hi := l.length) (Q := fun i => !ieq x (l.getD i 0)) (b := !l.contains x) (x := ((true, ()) : Bool × Unit)) (y := ((false, ()) : Bool × Unit)) (Nat.zero_le _) hb (fun i _ hi => ?_) ?_).trans (by cases l.contains x <;> rfl)
  · dsimp only
    rw [cond_t (ilt_iff.2 (by omega)), gd_pos (by omega), Int.toNat_natCast, cast1 (by omega)]
    cases ieq x (l.getD i 0) <;> rfl
  · dsimp only
    rw [cond_f (ilt_false.2 (by omega))]
set_option maxRecDepth 100000 in
theorem ok94 : con94.Ok Try.prog := Con.of_goal mixed okN con94 goal94
theorem fil_take {q : Int → Bool} {l : List Int} {i : Nat} (hi : i < l.length) : (l.take (i + 1)).filter q = (l.take i).filter q ++ if q (l.getD i 0) = true then [l.getD i 0] else [] := by
  rw [List.take_succ_eq_append_getElem hi, List.filter_append, gd_at hi]
  congr 1
  by_cases hq : q l[i] = true
  · rw [if_pos hq, List.filter_cons_of_pos hq]; rfl
  · rw [if_neg hq, List.filter_cons_of_neg hq]; rfl
theorem fil_len {q : Int → Bool} {l : List Int} {i : Nat} : ((l.take i).filter q).length ≤ l.length := by
  have := List.length_filter_le q (l.take i)
  rw [List.length_take] at this
  omega
theorem goal95 : con95.goal Try.prog (spOf []) g95_sh [] lm30 := by
  have e : (∀ (l : List Int) (x : Int), l.length ≤ 1000 → g95 l x = some (withL l x, ())) = con95.goal Try.prog (spOf []) g95_sh [] lm30 := by kernel_rfl
  rw [← e]
  intro l x hl
  unfold g95
  rw [gd_pos rfl]
  let A : List Int := l.filter (fun y => ilt y x)
  have hA : A.length ≤ l.length := List.length_filter_le _ _
  have hA' : (l.filter (fun y => ilt y x)).length ≤ l.length := List.length_filter_le _ _
  refine whileO_nat (st := fun i : Nat => (((i : Int), (l.take i).filter (fun y => ilt y x), ()) : Row)) (lo := 0) (hi := l.length) (Nat.zero_le _) (fun i _ hi => ?_) ?_
  · have h1 := fil_len (q := fun y => ilt y x) (l := l) (i := i)
    simp only [Int.toNat_natCast, Nat.le_refl, gd_true, List.take_length, List.length_append, List.length_singleton]
    rw [cond_t (ilt_iff.2 (by omega)), gd_pos (by omega), gd_pos (by omega), cast1 (by omega), fil_take hi]
    cases ilt (l.getD i 0) x <;> simp
  · simp only [List.take_length, Nat.le_refl, gd_true]
    rw [cond_f (ilt_false.2 (by omega)), gd_pos (by omega)]
    refine (congrArg (whileO _) (?_ : _ = ((((A ++ x :: (l.take 0).filter (fun y => ilt x y)).length : Int), ((0 : Nat) : Int), A ++ x :: (l.take 0).filter (fun y => ilt x y), ()) : Int × Int × List Int × Unit))).trans ?_
    · simp [A]
    refine whileO_nat (st := fun i : Nat => ((((A ++ x :: (l.take i).filter (fun y => ilt x y)).length : Int), (i : Int), A ++ x :: (l.take i).filter (fun y => ilt x y), ()) : Int × Int × List Int × Unit)) (lo := 0) (hi := l.length) (Nat.zero_le _) (fun i _ hi => ?_) ?_
    · have h1 := fil_len (q := fun y => ilt x y) (l := l) (i := i)
      have h2 : (A ++ x :: (l.take i).filter (fun y => ilt x y)).length ≤ 2001 := by
        rw [List.length_append, List.length_cons]; omega
      simp only [Int.toNat_natCast, Nat.le_refl, gd_true, List.take_length]
      rw [cond_t (ilt_iff.2 (by omega)), gd_pos (by omega), gd_pos (by omega), cast1 (by omega), fil_take hi]
      cases ilt x (l.getD i 0) <;> simp [Nat.add_assoc]
    · simp only [Int.toNat_natCast, List.take_length]
      rw [cond_f (ilt_false.2 (by omega)), gd_pos (by omega), take_all]
      rfl
set_option maxRecDepth 100000 in
theorem ok95 : con95.Ok Try.prog := Con.of_goal mixed okN con95 goal95
theorem goal59 : con59.goal Try.prog (spOf [con81, con85]) g59_sh [] lm30 := by
  have e : (∀ (p : Int) (l : List Int), isP p → setP p l → g59 p l = some (arcR p l, ())) = con59.goal Try.prog (spOf [con81, con85]) g59_sh [] lm30 := by kernel_rfl
  rw [← e]
  rintro p l hp ⟨hl, h60⟩
  unfold g59 arcR
  rw [gd_pos hp, gd_pos (tab_sq hp)]
  refine (gd_pos (all_rng hp hl)).trans ?_
  rw [gd_pos (by unfold small; omega), ile_d]
set_option maxRecDepth 100000 in
theorem ok59 : con59.Ok Try.prog := Con.of_goal mixed (okC ok81 (okC ok85 okN)) con59 goal59
theorem goal63 : con63.goal Try.prog (spOf [con59]) g63_sh [] lm30 := by
  have e : (∀ (p : Int) (l : List Int), isP p → setP p l → g63 p l = some (stR p l, ())) = con63.goal Try.prog (spOf [con59]) g63_sh [] lm30 := by kernel_rfl
  rw [← e]
  intro p l hp hl
  unfold g63 stR
  rw [gd_pos hp, gd_pos hl]
  cases arcR p l <;> rfl
set_option maxRecDepth 100000 in
theorem ok63 : con63.Ok Try.prog := Con.of_goal mixed (okC ok59 okN) con63 goal63
theorem goal64 : con64.goal Try.prog (spOf [con81, con85, con94, con95]) g64_sh [] lm30 := by
  have e : (∀ (p : Int) (l : List Int), isP p → setP p l → g64 p l = some (freeR p l, ())) = con64.goal Try.prog (spOf [con81, con85, con94, con95]) g64_sh [] lm30 := by kernel_rfl
  rw [← e]
  rintro p l hp ⟨hl, h60⟩
  have h57 := pts_57 hp
  have hs : small l := by unfold small; omega
  unfold g64
  rw [gd_pos hp, gd_pos rfl, tab_len]
  have hc := tab_sq hp
  refine whileO_nat (st := fun x : Nat => (((x : Int), flt (fun (x : Nat) => !l.contains (x : Int) && decide (mostF (tabF p) (withL l (x : Int)) ≤ 2)) x, ()) : Row)) (lo := 0) (hi := (ptsC p).length) (Nat.zero_le _) (fun x _ hx => ?_) ?_
  · have hfl := flt_len (q := fun (x : Nat) => !l.contains (x : Int) && decide (mostF (tabF p) (withL l (x : Int)) ≤ 2)) (n := x)
    have hxin := inPt_nat hp hx
    have ha := all_rng hp (with_all hl hxin)
    rw [tab_len] at ha
    have hl1000 : l.length ≤ 1000 := by omega
    dsimp only
    rw [cond_t (ilt_iff.2 (by omega)), gd_pos hs, flt_add]
    unfold addO
    cases hct : l.contains (x : Int) with
    | true => simp [gd_true, cast1 (i := x) (by omega)]
    | false =>
      have hm : (x : Int) ∉ l := by simpa using hct
      have hws : small (withL l (x : Int)) := by unfold small; rw [with_len hm]; omega
      rw [gd_pos (fun h => ⟨h, h, hl1000⟩)]
      refine (gd_pos (fun h => ⟨h, h, hc, ha, hws⟩)).trans ?_
      rw [gd_pos (fun h => h), gd_pos (fun h => h)]
      simp only [Bool.not_false, cond_true, Bool.true_and, ile_d, Nat.le_refl, gd_true, List.take_length, List.length_append, List.length_singleton]
      rw [gd_pos (by omega), cast1 (i := x) (by omega)]
      cases decide (mostF (tabF p) (withL l (x : Int)) ≤ 2) <;> simp
  · dsimp only
    rw [cond_f (ilt_false.2 (by omega)), gd_pos (by omega), take_all]
    rfl
set_option maxRecDepth 100000 in
theorem ok64 : con64.Ok Try.prog := Con.of_goal mixed (okC ok81 (okC ok85 (okC ok94 (okC ok95 okN)))) con64 goal64
theorem goal65 : con65.goal Try.prog (spOf [con64, con95]) g65_sh [] lm30 := by
  have e : (∀ (p : Int) (l : List Int), isP p → okSet p l = true → g65 p l = some (growA (freeR p) 60 l, ())) = con65.goal Try.prog (spOf [con64, con95]) g65_sh [] lm30 := by kernel_rfl
  rw [← e]
  intro p l hp hl
  unfold g65
  refine grow_loop (p := p) (st := fun l => ((l, ()) : List Int × Unit)) (out := fun l => ((l, ()) : List Int × Unit)) (new_ref hp) (fun l hl h0 => ?_) (fun l hl h0 => ?_) 60 l hl (by omega)
  · dsimp only
    rw [gd_pos hp, gd_pos (set_pl hl).2.1, cond_t (ieq_iff.2 (by omega))]
  · have hll := ok_len hl
    dsimp only
    rw [gd_pos hp, gd_pos (set_pl hl).2.1, cond_f (ieq_false.2 (by omega)), gd_pos (by omega), gd_pos (by omega)]
set_option maxRecDepth 100000 in
theorem ok65 : con65.Ok Try.prog := Con.of_goal mixed (okC ok64 (okC ok95 okN)) con65 goal65
end Go.Arcs

set_option linter.unusedVariables false
set_option linter.unusedSimpArgs false
namespace Go.Arcs
open Go Go.Ab Go.Proofs

set_option maxRecDepth 100000 in
theorem goal15 : con15.goal Try.prog (spOf [con34, con55, con61, con62, con36, con22, con59, con63, con64, con65, con43]) g15_sh [] lm30 := by
  have e : (∀ (p : Int) (l : List Int), small2 l → g15 p l = some (true, ())) = con15.goal Try.prog (spOf [con34, con55, con61, con62, con36, con22, con59, con63, con64, con65, con43]) g15_sh [] lm30 := by kernel_rfl
  rw [← e]
  intro p l hs
  have ta : small (l.take 60) := by unfold small; rw [List.length_take]; omega
  have hq : ∀ l : List Int, eqLf ieq l l = true := fun l => (eqLf_iff (fun x y => ieq_iff)).2 rfl
  have iq : ∀ x : Int, ieq x x = true := fun x => ieq_iff.2 rfl
  have i50 : ieq 5 0 = false := rfl
  have w0 : wr .i64 0 = 0 := by decide
  have hbb : ∀ x : Bool, beqB x x = true := fun x => by cases x <;> rfl
  unfold g15
  rw [gd_pos ta, gd_pos ta, gd_pos ta, gd_pos hs]
  have hot := ok_take (p := p) (l := l)
  cases h : okSet p l with
  | false =>
    rw [h] at hot
    have d1 : arcX p (l.take 60) = (false, 2, ()) := by unfold arcX; rw [hot]; rfl
    have d2 : freeX p (l.take 60) = ([], 2, ()) := by unfold freeX; rw [hot]; rfl
    have d3 : growX p (l.take 60) = ([], 2, ()) := by unfold growX; rw [hot]; rfl
    simp [d1, d2, d3, gd_true, iq, w0]
  | true =>
    have hlen := ok_len h
    have ht : l.take 60 = l := List.take_of_length_le (by omega)
    obtain ⟨h1, h2, hp⟩ := set_pl h
    obtain ⟨_, hl, hr⟩ := okSet_all h
    rw [ht]
    have ha := arc_eq hp hl hr
    have d1 : arcX p l = (arcF p l, 0, ()) := by unfold arcX; rw [if_pos h]
    cases hA : arcF p l with
    | false =>
      rw [hA] at ha d1
      have d2 : freeX p l = ([], 5, ()) := by unfold freeX; rw [if_pos h, hA]; rfl
      have d3 : growX p l = ([], 5, ()) := by unfold growX; rw [if_pos h, hA]; rfl
      have d4 : stR p l = 5 := by unfold stR; rw [ha]; rfl
      simp [d1, d2, d3, d4, ha, gd_true, iq, w0, hp, h2, hbb, i50]
    | true =>
      rw [hA] at ha d1
      have hf := free_eq hp hl hr hA
      have hg := grow_eq hp 60 hl hr hA
      have d2 : freeX p l = (freeR p l, 0, ()) := by unfold freeX; rw [if_pos h, hA, hf]; rfl
      have d3 : growX p l = (growA (freeR p) 60 l, 0, ()) := by unfold growX; rw [if_pos h, hA, hg]; rfl
      have d4 : stR p l = 0 := by unfold stR; rw [ha]; rfl
      have s1 : small (freeR p l) := by
        have h57 := pts_57 hp
        have : (freeR p l).length ≤ (ptsC p).length := flt_len
        unfold small; omega
      have s2 : small (growA (freeR p) 60 l) := by
        have := ok_len (grow_ok (new_ref hp) 60 h)
        unfold small; omega
      simp [d1, d2, d3, d4, ha, gd_true, iq, hp, h2, hbb, hq, s1, s2, h]
set_option maxRecDepth 100000 in
theorem ok15 : con15.Ok Try.prog := Con.of_goal mixed (okC ok34 (okC ok55 (okC ok61 (okC ok62 (okC ok36 (okC ok22 (okC ok59 (okC ok63 (okC ok64 (okC ok65 (okC ok43 okN))))))))))) con15 goal15
end Go.Arcs
