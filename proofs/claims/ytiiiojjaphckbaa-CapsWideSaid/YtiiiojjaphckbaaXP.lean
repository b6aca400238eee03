/- Rulers: contracts. -/
import Derived.Test.YtiiiojjaphckbaaXM
import Derived.Test.YtiiiojjaphckbaaXN
set_option linter.unusedVariables false
set_option linter.unusedSimpArgs false
namespace Go.Caps
open Go Go.Ab Go.Proofs

/-- All differences of two numbers of a list. -/
def difsR (l : List Int) : List Int := (List.range l.length).flatMap fun i => (l.take i).map fun b => l.getD i 0 - b
def inR (l : List Int) : Bool := decide (1 ≤ l.length) && decide (l.length ≤ 10) && l.all (inQ 0 60)
def rulP (l : List Int) : Prop := inR l = true ∧ ris l = true
noncomputable def con76 : Con := mkC 76 [.d LI] [.bool] (fun (l : List Int) => [rulP l]) (fun (l : List Int) => (nodK (difsR l), ()))
noncomputable def g76_l0 (x0 : List Int) (d1 d2 : Int × List Bool × Unit) : Option (Lp (Int × List Bool × Unit) (Lp (Int × List Bool × Unit) (Bool × Unit))) := bif ilt d2.1 (↑(List.length (List.take (Int.toNat d1.1) x0)) : Int) then gd ((0 : Int) ≤ d2.1 ∧ d2.1 < (↑(List.length (List.take (Int.toNat d1.1) x0)) : Int)) (gd ((0 : Int) ≤ wr IntKind.i64 (List.getD x0 (Int.toNat d1.1) (0 : Int) - List.getD (List.take (Int.toNat d1.1) x0) (Int.toNat d2.1) (0 : Int)) ∧ wr IntKind.i64 (List.getD x0 (Int.toNat d1.1) (0 : Int) - List.getD (List.take (Int.toNat d1.1) x0) (Int.toNat d2.1) (0 : Int)) < (61 : Int)) (gd ((0 : Nat) + Int.toNat (wr IntKind.i64 (List.getD x0 (Int.toNat d1.1) (0 : Int) - List.getD (List.take (Int.toNat d1.1) x0) (Int.toNat d2.1) (0 : Int))) * (1 : Nat) < List.length d2.2.1) (bif List.getD d2.2.1 ((0 : Nat) + Int.toNat (wr IntKind.i64 (List.getD x0 (Int.toNat d1.1) (0 : Int) - List.getD (List.take (Int.toNat d1.1) x0) (Int.toNat d2.1) (0 : Int))) * (1 : Nat)) false then some (Lp.out (Lp.out ((false, ()) : Bool × Unit))) else gd ((0 : Int) ≤ wr IntKind.i64 (List.getD x0 (Int.toNat d1.1) (0 : Int) - List.getD (List.take (Int.toNat d1.1) x0) (Int.toNat d2.1) (0 : Int)) ∧ wr IntKind.i64 (List.getD x0 (Int.toNat d1.1) (0 : Int) - List.getD (List.take (Int.toNat d1.1) x0) (Int.toNat d2.1) (0 : Int)) < (61 : Int)) (gd ((0 : Nat) + Int.toNat (wr IntKind.i64 (List.getD x0 (Int.toNat d1.1) (0 : Int) - List.getD (List.take (Int.toNat d1.1) x0) (Int.toNat d2.1) (0 : Int))) * (1 : Nat) < List.length d2.2.1) (some (Lp.go ((wr IntKind.i64 (d2.1 + (1 : Int)), List.set d2.2.1 ((0 : Nat) + Int.toNat (wr IntKind.i64 (List.getD x0 (Int.toNat d1.1) (0 : Int) - List.getD (List.take (Int.toNat d1.1) x0) (Int.toNat d2.1) (0 : Int))) * (1 : Nat)) true, ()) : Int × List Bool × Unit))))))) else some (Lp.out (Lp.go ((wr IntKind.i64 (d1.1 + (1 : Int)), d2.2.1, ()) : Int × List Bool × Unit)))
noncomputable def g76 (x0 : List Int) : Option (Bool × Unit) := whileO (fun (d1 : Int × List Bool × Unit) => bif ilt d1.1 (↑(List.length x0) : Int) then gd ((0 : Int) ≤ d1.1 ∧ d1.1 < (↑(List.length x0) : Int)) (gd ((0 : Int) ≤ d1.1 ∧ d1.1 ≤ (↑(List.length x0) : Int)) (whileO (g76_l0 x0 d1) (((0 : Int), d1.2.1, ()) : Int × List Bool × Unit))) else some (Lp.out ((true, ()) : Bool × Unit))) (((0 : Int), false :: false :: false :: false :: false :: false :: false :: false :: false :: false :: false :: false :: false :: false :: false :: false :: false :: false :: false :: false :: false :: false :: false :: false :: false :: false :: false :: false :: false :: false :: false :: false :: false :: false :: false :: false :: false :: false :: false :: false :: false :: false :: false :: false :: false :: false :: false :: false :: false :: false :: false :: false :: false :: false :: false :: false :: false :: false :: false :: false :: false :: ([] : List Bool), ()) : Int × List Bool × Unit)
noncomputable def g76_sh : List LSh := LSh.mk (((3, TV.ref (0) (1 : Nat) (0 : Nat) (0 : Nat)) : Nat × TV) :: ((10, TV.v (Ty.int IntKind.i64)) : Nat × TV) :: ([] : List (Nat × TV))) (TB.arr Ty.bool false :: ([] : List TB)) :: LSh.mk (((3, TV.ref (0) (1 : Nat) (0 : Nat) (0 : Nat)) : Nat × TV) :: ((19, TV.v (Ty.int IntKind.i64)) : Nat × TV) :: ([] : List (Nat × TV))) (TB.arr Ty.bool false :: ([] : List TB)) :: ([] : List LSh)
def rulF (l : List Int) : Bool := ieq (l.getD 0 0) 0 && (ris l && nodK (difsR l))
noncomputable def con37 : Con := mkC 37 [.d LI] [.bool] (fun (l : List Int) => [inR l = true]) (fun (l : List Int) => (rulF l, ()))
noncomputable def g37_l0 (x0 : List Int) (d1 d2 : Int × List Bool × Unit) : Option (Lp (Int × List Bool × Unit) (Lp (Int × List Bool × Unit) (Bool × Unit))) := bif ilt d2.1 (↑(List.length (List.take (Int.toNat d1.1) x0)) : Int) then gd ((0 : Int) ≤ d2.1 ∧ d2.1 < (↑(List.length (List.take (Int.toNat d1.1) x0)) : Int)) (gd ((!ilt (wr IntKind.i64 (List.getD x0 (Int.toNat d1.1) (0 : Int) - List.getD (List.take (Int.toNat d1.1) x0) (Int.toNat d2.1) (0 : Int))) (1 : Int)) = true → (!ilt (wr IntKind.i64 (List.getD x0 (Int.toNat d1.1) (0 : Int) - List.getD (List.take (Int.toNat d1.1) x0) (Int.toNat d2.1) (0 : Int))) (1 : Int)) = true ∧ (0 : Int) ≤ wr IntKind.i64 (List.getD x0 (Int.toNat d1.1) (0 : Int) - List.getD (List.take (Int.toNat d1.1) x0) (Int.toNat d2.1) (0 : Int)) ∧ wr IntKind.i64 (List.getD x0 (Int.toNat d1.1) (0 : Int) - List.getD (List.take (Int.toNat d1.1) x0) (Int.toNat d2.1) (0 : Int)) < (100 : Int)) (gd ((!ilt (wr IntKind.i64 (List.getD x0 (Int.toNat d1.1) (0 : Int) - List.getD (List.take (Int.toNat d1.1) x0) (Int.toNat d2.1) (0 : Int))) (1 : Int)) = true → (!ilt (wr IntKind.i64 (List.getD x0 (Int.toNat d1.1) (0 : Int) - List.getD (List.take (Int.toNat d1.1) x0) (Int.toNat d2.1) (0 : Int))) (1 : Int)) = true ∧ (0 : Nat) + Int.toNat (wr IntKind.i64 (List.getD x0 (Int.toNat d1.1) (0 : Int) - List.getD (List.take (Int.toNat d1.1) x0) (Int.toNat d2.1) (0 : Int))) * (1 : Nat) < List.length d2.2.1) (gd (ilt (wr IntKind.i64 (List.getD x0 (Int.toNat d1.1) (0 : Int) - List.getD (List.take (Int.toNat d1.1) x0) (Int.toNat d2.1) (0 : Int))) (1 : Int) = false → (!ilt (wr IntKind.i64 (List.getD x0 (Int.toNat d1.1) (0 : Int) - List.getD (List.take (Int.toNat d1.1) x0) (Int.toNat d2.1) (0 : Int))) (1 : Int)) = true) (bif bif ilt (wr IntKind.i64 (List.getD x0 (Int.toNat d1.1) (0 : Int) - List.getD (List.take (Int.toNat d1.1) x0) (Int.toNat d2.1) (0 : Int))) (1 : Int) then true else List.getD d2.2.1 ((0 : Nat) + Int.toNat (wr IntKind.i64 (List.getD x0 (Int.toNat d1.1) (0 : Int) - List.getD (List.take (Int.toNat d1.1) x0) (Int.toNat d2.1) (0 : Int))) * (1 : Nat)) false then some (Lp.out (Lp.out ((false, ()) : Bool × Unit))) else gd ((0 : Int) ≤ wr IntKind.i64 (List.getD x0 (Int.toNat d1.1) (0 : Int) - List.getD (List.take (Int.toNat d1.1) x0) (Int.toNat d2.1) (0 : Int)) ∧ wr IntKind.i64 (List.getD x0 (Int.toNat d1.1) (0 : Int) - List.getD (List.take (Int.toNat d1.1) x0) (Int.toNat d2.1) (0 : Int)) < (100 : Int)) (gd ((0 : Nat) + Int.toNat (wr IntKind.i64 (List.getD x0 (Int.toNat d1.1) (0 : Int) - List.getD (List.take (Int.toNat d1.1) x0) (Int.toNat d2.1) (0 : Int))) * (1 : Nat) < List.length d2.2.1) (some (Lp.go ((wr IntKind.i64 (d2.1 + (1 : Int)), List.set d2.2.1 ((0 : Nat) + Int.toNat (wr IntKind.i64 (List.getD x0 (Int.toNat d1.1) (0 : Int) - List.getD (List.take (Int.toNat d1.1) x0) (Int.toNat d2.1) (0 : Int))) * (1 : Nat)) true, ()) : Int × List Bool × Unit)))))))) else some (Lp.out (Lp.go ((wr IntKind.i64 (d1.1 + (1 : Int)), d2.2.1, ()) : Int × List Bool × Unit)))
noncomputable def g37 (x0 : List Int) : Option (Bool × Unit) := gd ((0 : Int) ≤ (0 : Int) ∧ (0 : Int) < (↑(List.length x0) : Int)) (bif !ieq (List.getD x0 (0 : Nat) (0 : Int)) (0 : Int) then some ((false, ()) : Bool × Unit) else whileO (fun (d1 : Int × List Bool × Unit) => bif ilt d1.1 (↑(List.length x0) : Int) then gd ((0 : Int) ≤ d1.1 ∧ d1.1 < (↑(List.length x0) : Int)) (gd ((0 : Int) ≤ d1.1 ∧ d1.1 ≤ (↑(List.length x0) : Int)) (whileO (g37_l0 x0 d1) (((0 : Int), d1.2.1, ()) : Int × List Bool × Unit))) else some (Lp.out ((true, ()) : Bool × Unit))) (((0 : Int), false :: false :: false :: false :: false :: false :: false :: false :: false :: false :: false :: false :: false :: false :: false :: false :: false :: false :: false :: false :: false :: false :: false :: false :: false :: false :: false :: false :: false :: false :: false :: false :: false :: false :: false :: false :: false :: false :: false :: false :: false :: false :: false :: false :: false :: false :: false :: false :: false :: false :: false :: false :: false :: false :: false :: false :: false :: false :: false :: false :: false :: false :: false :: false :: false :: false :: false :: false :: false :: false :: false :: false :: false :: false :: false :: false :: false :: false :: false :: false :: false :: false :: false :: false :: false :: false :: false :: false :: false :: false :: false :: false :: false :: false :: false :: false :: false :: false :: false :: false :: ([] : List Bool), ()) : Int × List Bool × Unit))
noncomputable def g37_sh : List LSh := LSh.mk (((3, TV.ref (0) (1 : Nat) (0 : Nat) (0 : Nat)) : Nat × TV) :: ((15, TV.v (Ty.int IntKind.i64)) : Nat × TV) :: ([] : List (Nat × TV))) (TB.arr Ty.bool false :: ([] : List TB)) :: LSh.mk (((3, TV.ref (0) (1 : Nat) (0 : Nat) (0 : Nat)) : Nat × TV) :: ((24, TV.v (Ty.int IntKind.i64)) : Nat × TV) :: ([] : List (Nat × TV))) (TB.arr Ty.bool false :: ([] : List TB)) :: ([] : List LSh)
def minL (l : List Int) : Int := l.tail.foldl imin (l.getD 0 0)
def maxL (l : List Int) : Int := l.tail.foldl imax (l.getD 0 0)
noncomputable def con74 : Con := mkC 74 [.d LI] [I64] (fun (l : List Int) => [1 ≤ l.length ∧ l.length ≤ 1000]) (fun (l : List Int) => (minL l, ()))
noncomputable def g74 (x0 : List Int) : Option (Int × Unit) := bif ilt (↑(List.length x0) : Int) (1 : Int) then gd False (gd False (gd ((0 : Int) ≤ (0 : Int) ∧ (0 : Int) < (↑(List.length x0) : Int)) (whileO (fun (d1 : Int × Int × Unit) => bif ilt d1.2.1 (↑(List.length x0) : Int) then gd ((0 : Int) ≤ d1.2.1 ∧ d1.2.1 < (↑(List.length x0) : Int)) (some (Lp.go ((imin d1.1 (List.getD x0 (Int.toNat d1.2.1) (0 : Int)), wr IntKind.i64 (d1.2.1 + (1 : Int)), ()) : Int × Int × Unit))) else some (Lp.out ((d1.1, ()) : Int × Unit))) ((List.getD x0 (0 : Nat) (0 : Int), (1 : Int), ()) : Int × Int × Unit)))) else gd ((0 : Int) ≤ (0 : Int) ∧ (0 : Int) < (↑(List.length x0) : Int)) (whileO (fun (d1 : Int × Int × Unit) => bif ilt d1.2.1 (↑(List.length x0) : Int) then gd ((0 : Int) ≤ d1.2.1 ∧ d1.2.1 < (↑(List.length x0) : Int)) (some (Lp.go ((imin d1.1 (List.getD x0 (Int.toNat d1.2.1) (0 : Int)), wr IntKind.i64 (d1.2.1 + (1 : Int)), ()) : Int × Int × Unit))) else some (Lp.out ((d1.1, ()) : Int × Unit))) ((List.getD x0 (0 : Nat) (0 : Int), (1 : Int), ()) : Int × Int × Unit))
noncomputable def g74_sh : List LSh := LSh.mk (((3, TV.v (Ty.int IntKind.i64)) : Nat × TV) :: ((4, TV.v (Ty.int IntKind.i64)) : Nat × TV) :: ([] : List (Nat × TV))) ([] : List TB) :: ([] : List LSh)
noncomputable def con75 : Con := mkC 75 [.d LI] [I64] (fun (l : List Int) => [1 ≤ l.length ∧ l.length ≤ 1000]) (fun (l : List Int) => (maxL l, ()))
noncomputable def g75 (x0 : List Int) : Option (Int × Unit) := bif ilt (↑(List.length x0) : Int) (1 : Int) then gd False (gd False (gd ((0 : Int) ≤ (0 : Int) ∧ (0 : Int) < (↑(List.length x0) : Int)) (whileO (fun (d1 : Int × Int × Unit) => bif ilt d1.2.1 (↑(List.length x0) : Int) then gd ((0 : Int) ≤ d1.2.1 ∧ d1.2.1 < (↑(List.length x0) : Int)) (some (Lp.go ((imax d1.1 (List.getD x0 (Int.toNat d1.2.1) (0 : Int)), wr IntKind.i64 (d1.2.1 + (1 : Int)), ()) : Int × Int × Unit))) else some (Lp.out ((d1.1, ()) : Int × Unit))) ((List.getD x0 (0 : Nat) (0 : Int), (1 : Int), ()) : Int × Int × Unit)))) else gd ((0 : Int) ≤ (0 : Int) ∧ (0 : Int) < (↑(List.length x0) : Int)) (whileO (fun (d1 : Int × Int × Unit) => bif ilt d1.2.1 (↑(List.length x0) : Int) then gd ((0 : Int) ≤ d1.2.1 ∧ d1.2.1 < (↑(List.length x0) : Int)) (some (Lp.go ((imax d1.1 (List.getD x0 (Int.toNat d1.2.1) (0 : Int)), wr IntKind.i64 (d1.2.1 + (1 : Int)), ()) : Int × Int × Unit))) else some (Lp.out ((d1.1, ()) : Int × Unit))) ((List.getD x0 (0 : Nat) (0 : Int), (1 : Int), ()) : Int × Int × Unit))
noncomputable def g75_sh : List LSh := LSh.mk (((3, TV.v (Ty.int IntKind.i64)) : Nat × TV) :: ((4, TV.v (Ty.int IntKind.i64)) : Nat × TV) :: ([] : List (Nat × TV))) ([] : List TB) :: ([] : List LSh)
def rulX (l : List Int) : Bool × Int × Unit := if inR l = true then (rulF l, 0, ()) else (false, 2, ())
noncomputable def con34 : Con := mkC 34 [.d LI] [.bool, I64] (fun (l : List Int) => [small l]) (fun (l : List Int) => rulX l)
noncomputable def g34 (x0 : List Int) : Option (Bool × Int × Unit) := gd ((!ilt (↑(List.length x0) : Int) (1 : Int)) = true → (!ilt (↑(List.length x0) : Int) (1 : Int)) = true) (gd ((!ilt (↑(List.length x0) : Int) (1 : Int)) = true → (!ilt (↑(List.length x0) : Int) (1 : Int)) = true) (gd (ilt (↑(List.length x0) : Int) (1 : Int) = false → (!ilt (↑(List.length x0) : Int) (1 : Int)) = true) (gd ((!bif ilt (↑(List.length x0) : Int) (1 : Int) then true else ilt (10 : Int) (↑(List.length x0) : Int)) = true → (!bif ilt (↑(List.length x0) : Int) (1 : Int) then true else ilt (10 : Int) (↑(List.length x0) : Int)) = true ∧ (1 : Nat) ≤ List.length x0 ∧ List.length x0 ≤ (1000 : Nat)) (gd ((!bif ilt (↑(List.length x0) : Int) (1 : Int) then true else ilt (10 : Int) (↑(List.length x0) : Int)) = true → (!bif ilt (↑(List.length x0) : Int) (1 : Int) then true else ilt (10 : Int) (↑(List.length x0) : Int)) = true) (gd ((bif ilt (↑(List.length x0) : Int) (1 : Int) then true else ilt (10 : Int) (↑(List.length x0) : Int)) = false → (!bif ilt (↑(List.length x0) : Int) (1 : Int) then true else ilt (10 : Int) (↑(List.length x0) : Int)) = true) (gd ((!bif bif ilt (↑(List.length x0) : Int) (1 : Int) then true else ilt (10 : Int) (↑(List.length x0) : Int) then true else ilt (minL x0) (0 : Int)) = true → (!bif bif ilt (↑(List.length x0) : Int) (1 : Int) then true else ilt (10 : Int) (↑(List.length x0) : Int) then true else ilt (minL x0) (0 : Int)) = true ∧ (1 : Nat) ≤ List.length x0 ∧ List.length x0 ≤ (1000 : Nat)) (gd ((!bif bif ilt (↑(List.length x0) : Int) (1 : Int) then true else ilt (10 : Int) (↑(List.length x0) : Int) then true else ilt (minL x0) (0 : Int)) = true → (!bif bif ilt (↑(List.length x0) : Int) (1 : Int) then true else ilt (10 : Int) (↑(List.length x0) : Int) then true else ilt (minL x0) (0 : Int)) = true) (gd ((bif bif ilt (↑(List.length x0) : Int) (1 : Int) then true else ilt (10 : Int) (↑(List.length x0) : Int) then true else ilt (minL x0) (0 : Int)) = false → (!bif bif ilt (↑(List.length x0) : Int) (1 : Int) then true else ilt (10 : Int) (↑(List.length x0) : Int) then true else ilt (minL x0) (0 : Int)) = true) (bif bif bif bif ilt (↑(List.length x0) : Int) (1 : Int) then true else ilt (10 : Int) (↑(List.length x0) : Int) then true else ilt (minL x0) (0 : Int) then true else ilt (60 : Int) (maxL x0) then some ((false, (2 : Int), ()) : Bool × Int × Unit) else gd ((0 : Int) ≤ (0 : Int) ∧ (0 : Int) < (↑(List.length x0) : Int)) (gd (ieq (List.getD x0 (0 : Nat) (0 : Int)) (0 : Int) = true → ieq (List.getD x0 (0 : Nat) (0 : Int)) (0 : Int) = true ∧ (↑(List.length x0) : Int) < (9223372036854775808 : Int)) (gd (ieq (List.getD x0 (0 : Nat) (0 : Int)) (0 : Int) = true → ieq (List.getD x0 (0 : Nat) (0 : Int)) (0 : Int) = true) (gd ((bif ieq (List.getD x0 (0 : Nat) (0 : Int)) (0 : Int) then ris x0 else false) = true → (bif ieq (List.getD x0 (0 : Nat) (0 : Int)) (0 : Int) then ris x0 else false) = true ∧ rulP x0) (gd ((bif ieq (List.getD x0 (0 : Nat) (0 : Int)) (0 : Int) then ris x0 else false) = true → (bif ieq (List.getD x0 (0 : Nat) (0 : Int)) (0 : Int) then ris x0 else false) = true) (some ((bif bif ieq (List.getD x0 (0 : Nat) (0 : Int)) (0 : Int) then ris x0 else false then nodK (difsR x0) else false, (0 : Int), ()) : Bool × Int × Unit)))))))))))))))
noncomputable def g34_sh : List LSh := ([] : List LSh)

/-! the search -/
noncomputable def con54s : SCon := mkS 54 [.v LI] [] [.slf 0 1] [.arr I64 true] (fun (l : List Int) => [l.length ≤ 100000]) (fun (l : List Int) => (l, ()))
noncomputable def g54s (x0 : List Int) : Option (List Int × Unit) := Option.map id (eqO (List.length x0 = (0 : Nat)) (gd ((0 : Nat) = (0 : Nat)) (some ((([] : List Int), ()) : List Int × Unit))) (gd ((0 : Nat) ≤ (0 : Nat)) (gd (((0 : Nat) + List.length x0) * (8 : Nat) ≤ (1099511627776 : Nat)) (gd ((0 : Nat) + List.length x0 = List.length x0) (some ((x0, ()) : List Int × Unit))))))
noncomputable def g54s_sh : List LSh := ([] : List LSh)
def mayS (k len : Int) (l : List Int) (x : Int) : Bool := (decide (0 < l.length) || ieq x 0) && (decide ((l.length : Int) < k - 1) || ieq x len) && nodK (difsR (l ++ [x]))
def maySP (k len : Int) (l : List Int) (x : Int) : Prop := rulP (l ++ [x]) ∧ 1 ≤ k ∧ k ≤ 10 ∧ 0 ≤ len ∧ len ≤ 60
noncomputable def con78 : Con := mkC 78 [.d LI, .d I64, .d (.ptr I64), .d (.ptr I64)] [.bool] (fun (l : List Int) (x k len : Int) => [maySP k len l x]) (fun (l : List Int) (x k len : Int) => (mayS k len l x, ()))
noncomputable def g78 (x0 : List Int) (x1 x2 x3 : Int) : Option (Bool × Unit) := gd ((!ilt (0 : Int) (↑(List.length x0) : Int)) = true → (!ilt (0 : Int) (↑(List.length x0) : Int)) = true) (gd (ilt (0 : Int) (↑(List.length x0) : Int) = false → (!ilt (0 : Int) (↑(List.length x0) : Int)) = true) (gd ((bif ilt (0 : Int) (↑(List.length x0) : Int) then true else ieq x1 (0 : Int)) = true → (bif ilt (0 : Int) (↑(List.length x0) : Int) then true else ieq x1 (0 : Int)) = true) (gd ((bif ilt (0 : Int) (↑(List.length x0) : Int) then true else ieq x1 (0 : Int)) = true → (bif ilt (0 : Int) (↑(List.length x0) : Int) then true else ieq x1 (0 : Int)) = true) (gd ((bif ilt (0 : Int) (↑(List.length x0) : Int) then true else ieq x1 (0 : Int)) = true → (bif ilt (0 : Int) (↑(List.length x0) : Int) then true else ieq x1 (0 : Int)) = true ∧ (bif ilt (0 : Int) (↑(List.length x0) : Int) then true else ieq x1 (0 : Int)) = true) (gd (((bif ilt (0 : Int) (↑(List.length x0) : Int) then true else ieq x1 (0 : Int)) && ((bif ilt (0 : Int) (↑(List.length x0) : Int) then true else ieq x1 (0 : Int)) && !ilt (↑(List.length x0) : Int) (wr IntKind.i64 (x2 - (1 : Int))))) = true → ((bif ilt (0 : Int) (↑(List.length x0) : Int) then true else ieq x1 (0 : Int)) && ((bif ilt (0 : Int) (↑(List.length x0) : Int) then true else ieq x1 (0 : Int)) && !ilt (↑(List.length x0) : Int) (wr IntKind.i64 (x2 - (1 : Int))))) = true ∧ ((bif ilt (0 : Int) (↑(List.length x0) : Int) then true else ieq x1 (0 : Int)) && ((bif ilt (0 : Int) (↑(List.length x0) : Int) then true else ieq x1 (0 : Int)) && !ilt (↑(List.length x0) : Int) (wr IntKind.i64 (x2 - (1 : Int))))) = true) (gd ((bif ilt (0 : Int) (↑(List.length x0) : Int) then true else ieq x1 (0 : Int)) = true → (bif ilt (0 : Int) (↑(List.length x0) : Int) then true else ieq x1 (0 : Int)) = true ∧ (bif ilt (0 : Int) (↑(List.length x0) : Int) then true else ieq x1 (0 : Int)) = true ∧ (ilt (↑(List.length x0) : Int) (wr IntKind.i64 (x2 - (1 : Int))) = false → ((bif ilt (0 : Int) (↑(List.length x0) : Int) then true else ieq x1 (0 : Int)) && ((bif ilt (0 : Int) (↑(List.length x0) : Int) then true else ieq x1 (0 : Int)) && !ilt (↑(List.length x0) : Int) (wr IntKind.i64 (x2 - (1 : Int))))) = true)) (gd ((bif ilt (0 : Int) (↑(List.length x0) : Int) then true else ieq x1 (0 : Int)) = true → (bif ilt (0 : Int) (↑(List.length x0) : Int) then true else ieq x1 (0 : Int)) = true) (gd ((bif bif ilt (0 : Int) (↑(List.length x0) : Int) then true else ieq x1 (0 : Int) then bif ilt (↑(List.length x0) : Int) (wr IntKind.i64 (x2 - (1 : Int))) then true else ieq x1 x3 else false) = true → (bif bif ilt (0 : Int) (↑(List.length x0) : Int) then true else ieq x1 (0 : Int) then bif ilt (↑(List.length x0) : Int) (wr IntKind.i64 (x2 - (1 : Int))) then true else ieq x1 x3 else false) = true) (gd ((bif bif ilt (0 : Int) (↑(List.length x0) : Int) then true else ieq x1 (0 : Int) then bif ilt (↑(List.length x0) : Int) (wr IntKind.i64 (x2 - (1 : Int))) then true else ieq x1 x3 else false) = true → List.length x0 ≤ (100000 : Nat)) (gd ((bif bif ilt (0 : Int) (↑(List.length x0) : Int) then true else ieq x1 (0 : Int) then bif ilt (↑(List.length x0) : Int) (wr IntKind.i64 (x2 - (1 : Int))) then true else ieq x1 x3 else false) = true → (bif bif ilt (0 : Int) (↑(List.length x0) : Int) then true else ieq x1 (0 : Int) then bif ilt (↑(List.length x0) : Int) (wr IntKind.i64 (x2 - (1 : Int))) then true else ieq x1 x3 else false) = true) (gd ((bif bif ilt (0 : Int) (↑(List.length x0) : Int) then true else ieq x1 (0 : Int) then bif ilt (↑(List.length x0) : Int) (wr IntKind.i64 (x2 - (1 : Int))) then true else ieq x1 x3 else false) = true → (bif bif ilt (0 : Int) (↑(List.length x0) : Int) then true else ieq x1 (0 : Int) then bif ilt (↑(List.length x0) : Int) (wr IntKind.i64 (x2 - (1 : Int))) then true else ieq x1 x3 else false) = true ∧ (bif bif ilt (0 : Int) (↑(List.length x0) : Int) then true else ieq x1 (0 : Int) then bif ilt (↑(List.length x0) : Int) (wr IntKind.i64 (x2 - (1 : Int))) then true else ieq x1 x3 else false) = true ∧ List.length (bif bif bif ilt (0 : Int) (↑(List.length x0) : Int) then true else ieq x1 (0 : Int) then bif ilt (↑(List.length x0) : Int) (wr IntKind.i64 (x2 - (1 : Int))) then true else ieq x1 x3 else false then x0 else ([] : List Int)) ≤ List.length (bif bif bif ilt (0 : Int) (↑(List.length x0) : Int) then true else ieq x1 (0 : Int) then bif ilt (↑(List.length x0) : Int) (wr IntKind.i64 (x2 - (1 : Int))) then true else ieq x1 x3 else false then x0 else ([] : List Int)) ∧ (List.length (bif bif bif ilt (0 : Int) (↑(List.length x0) : Int) then true else ieq x1 (0 : Int) then bif ilt (↑(List.length x0) : Int) (wr IntKind.i64 (x2 - (1 : Int))) then true else ieq x1 x3 else false then x0 else ([] : List Int)) + (1 : Nat)) * (8 : Nat) ≤ (1099511627776 : Nat)) (gd ((bif bif ilt (0 : Int) (↑(List.length x0) : Int) then true else ieq x1 (0 : Int) then bif ilt (↑(List.length x0) : Int) (wr IntKind.i64 (x2 - (1 : Int))) then true else ieq x1 x3 else false) = true → (bif bif ilt (0 : Int) (↑(List.length x0) : Int) then true else ieq x1 (0 : Int) then bif ilt (↑(List.length x0) : Int) (wr IntKind.i64 (x2 - (1 : Int))) then true else ieq x1 x3 else false) = true ∧ (0 : Nat) + (List.length (bif bif bif ilt (0 : Int) (↑(List.length x0) : Int) then true else ieq x1 (0 : Int) then bif ilt (↑(List.length x0) : Int) (wr IntKind.i64 (x2 - (1 : Int))) then true else ieq x1 x3 else false then x0 else ([] : List Int)) + (1 : Nat)) ≤ List.length (bif bif bif ilt (0 : Int) (↑(List.length x0) : Int) then true else ieq x1 (0 : Int) then bif ilt (↑(List.length x0) : Int) (wr IntKind.i64 (x2 - (1 : Int))) then true else ieq x1 x3 else false then List.take (List.length (bif bif bif ilt (0 : Int) (↑(List.length x0) : Int) then true else ieq x1 (0 : Int) then bif ilt (↑(List.length x0) : Int) (wr IntKind.i64 (x2 - (1 : Int))) then true else ieq x1 x3 else false then x0 else ([] : List Int))) (bif bif bif ilt (0 : Int) (↑(List.length x0) : Int) then true else ieq x1 (0 : Int) then bif ilt (↑(List.length x0) : Int) (wr IntKind.i64 (x2 - (1 : Int))) then true else ieq x1 x3 else false then x0 else ([] : List Int)) ++ x1 :: ([] : List Int) else ([] : List Int)) ∧ rulP (List.take (List.length (bif bif bif ilt (0 : Int) (↑(List.length x0) : Int) then true else ieq x1 (0 : Int) then bif ilt (↑(List.length x0) : Int) (wr IntKind.i64 (x2 - (1 : Int))) then true else ieq x1 x3 else false then x0 else ([] : List Int)) + (1 : Nat)) (List.drop (0 : Nat) (bif bif bif ilt (0 : Int) (↑(List.length x0) : Int) then true else ieq x1 (0 : Int) then bif ilt (↑(List.length x0) : Int) (wr IntKind.i64 (x2 - (1 : Int))) then true else ieq x1 x3 else false then List.take (List.length (bif bif bif ilt (0 : Int) (↑(List.length x0) : Int) then true else ieq x1 (0 : Int) then bif ilt (↑(List.length x0) : Int) (wr IntKind.i64 (x2 - (1 : Int))) then true else ieq x1 x3 else false then x0 else ([] : List Int))) (bif bif bif ilt (0 : Int) (↑(List.length x0) : Int) then true else ieq x1 (0 : Int) then bif ilt (↑(List.length x0) : Int) (wr IntKind.i64 (x2 - (1 : Int))) then true else ieq x1 x3 else false then x0 else ([] : List Int)) ++ x1 :: ([] : List Int) else ([] : List Int))))) (gd ((bif bif ilt (0 : Int) (↑(List.length x0) : Int) then true else ieq x1 (0 : Int) then bif ilt (↑(List.length x0) : Int) (wr IntKind.i64 (x2 - (1 : Int))) then true else ieq x1 x3 else false) = true → (bif bif ilt (0 : Int) (↑(List.length x0) : Int) then true else ieq x1 (0 : Int) then bif ilt (↑(List.length x0) : Int) (wr IntKind.i64 (x2 - (1 : Int))) then true else ieq x1 x3 else false) = true) (some ((bif bif bif ilt (0 : Int) (↑(List.length x0) : Int) then true else ieq x1 (0 : Int) then bif ilt (↑(List.length x0) : Int) (wr IntKind.i64 (x2 - (1 : Int))) then true else ieq x1 x3 else false then nodK (difsR (List.take (List.length (bif bif bif ilt (0 : Int) (↑(List.length x0) : Int) then true else ieq x1 (0 : Int) then bif ilt (↑(List.length x0) : Int) (wr IntKind.i64 (x2 - (1 : Int))) then true else ieq x1 x3 else false then x0 else ([] : List Int)) + (1 : Nat)) (List.drop (0 : Nat) (bif bif bif ilt (0 : Int) (↑(List.length x0) : Int) then true else ieq x1 (0 : Int) then bif ilt (↑(List.length x0) : Int) (wr IntKind.i64 (x2 - (1 : Int))) then true else ieq x1 x3 else false then List.take (List.length (bif bif bif ilt (0 : Int) (↑(List.length x0) : Int) then true else ieq x1 (0 : Int) then bif ilt (↑(List.length x0) : Int) (wr IntKind.i64 (x2 - (1 : Int))) then true else ieq x1 x3 else false then x0 else ([] : List Int))) (bif bif bif ilt (0 : Int) (↑(List.length x0) : Int) then true else ieq x1 (0 : Int) then bif ilt (↑(List.length x0) : Int) (wr IntKind.i64 (x2 - (1 : Int))) then true else ieq x1 x3 else false then x0 else ([] : List Int)) ++ x1 :: ([] : List Int) else ([] : List Int))))) else false, ()) : Bool × Unit)))))))))))))))
noncomputable def g78_sh : List LSh := ([] : List LSh)
def tryF (g : Int → Int → List Int → Srch) (may : List Int → Int → Bool) (len : Int) : Nat → Int → List Int → Srch
  | 0, _, a => (false, len, a, ())
  | c + 1, x, a => if may (a.take len.toNat) x = true then
      (if (g (x + 1) (len + 1) (a.take len.toNat ++ [x])).1 = true then g (x + 1) (len + 1) (a.take len.toNat ++ [x])
        else tryF g may len c (x + 1) (g (x + 1) (len + 1) (a.take len.toNat ++ [x])).2.2.1)
    else tryF g may len c (x + 1) a
def growF (may : List Int → Int → Bool) (n size : Int) : Nat → Int → Int → List Int → Srch
  | 0, _, len, a => (false, len, a, ())
  | f + 1, frm, len, a => if len = size then (true, len, a, ()) else tryF (growF may n size f) may len (n - (size - len) + 1 - frm).toNat frm a
def risTo (frm : Int) (l : List Int) : Prop := ris l = true ∧ ∀ x ∈ l, 0 ≤ x ∧ x < frm
def pre99 (f : Nat) (frm len n size : Int) (a : List Int) : Prop := 0 ≤ len ∧ len ≤ size ∧ size ≤ 60 ∧ 0 ≤ n ∧ n ≤ 100 ∧ 0 ≤ frm ∧ size - len < f ∧ len ≤ a.length ∧ risTo frm (a.take len.toNat)

abbrev Gr99 : TV := .fn 99 (.cons (.ref 0 1 0 0) (.cons (.ref 1 1 0 0) (.cons (.ref 2 1 0 0) (.cons (.ref 3 1 0 0) (.cons (.ref 4 1 0 0) .nil)))))
abbrev A99 : List TV := [.v I64, .ref 0 1 0 0, .ref 1 1 0 0, .ref 2 1 0 0, .ref 3 1 0 0, .ref 4 1 0 0]
abbrev I99s : List TB := [.cells [.sl 7 1 0], .cells [.v I64], .cells [.v I64], .cells [.fn 78 (.cons (.ref 5 1 0 0) (.cons (.ref 6 1 0 0) .nil))], .cells [Gr99], .cells [.v I64], .cells [.v I64], .arr I64 true]
abbrev O99s : List TB := [.cells [.sl 8 1 0], .cells [.v I64], .cells [.v I64], .cells [.fn 78 (.cons (.ref 5 1 0 0) (.cons (.ref 6 1 0 0) .nil))], .cells [Gr99], .cells [.v I64], .cells [.v I64], .dead, .arr I64 true]
noncomputable def con99s (f : Nat) : SCon := mkS 99 A99 I99s [.v .bool] O99s (fun (frm len size n k lim : Int) (a : List Int) => [pre99 f frm len n size a, size ≤ 10 ∧ n ≤ 61 ∧ k = size ∧ 0 ≤ lim ∧ lim ≤ 60]) (fun (frm len size n k lim : Int) (a : List Int) => ((growF (mayS k lim) n size f frm len a).1, (growF (mayS k lim) n size f frm len a).2.1, size, n, k, lim, (growF (mayS k lim) n size f frm len a).2.2.1, ()))
noncomputable def g99s (f : Nat) (x0 x1 x2 x3 x4 x5 : Int) (x6 : List Int) : Option (Bool × Int × Int × Int × Int × Int × List Int × Unit) := bif ieq (↑(Int.toNat x1) : Int) x2 then some ((true, (↑(Int.toNat x1) : Int), x2, x3, x4, x5, x6, ()) : Bool × Int × Int × Int × Int × Int × List Int × Unit) else whileO (fun (d8 : Int × Int × Int × Int × Int × Int × List Int × Unit) => bif ile d8.1 (wr IntKind.i64 (d8.2.2.2.1 - wr IntKind.i64 (d8.2.2.1 - (↑(Int.toNat d8.2.1) : Int)))) then gd ((0 : Nat) + Int.toNat d8.2.1 ≤ List.length d8.2.2.2.2.2.2.1) (gd (maySP d8.2.2.2.2.1 d8.2.2.2.2.2.1 (List.take (Int.toNat d8.2.1) (List.drop (0 : Nat) d8.2.2.2.2.2.2.1)) d8.1) (bif mayS d8.2.2.2.2.1 d8.2.2.2.2.2.1 (List.take (Int.toNat d8.2.1) (List.drop (0 : Nat) d8.2.2.2.2.2.2.1)) d8.1 then gd (Int.toNat d8.2.1 ≤ List.length d8.2.2.2.2.2.2.1) (gd ((Int.toNat d8.2.1 + (1 : Nat)) * (8 : Nat) ≤ (1099511627776 : Nat)) (gd (pre99 f (wr IntKind.i64 (d8.1 + (1 : Int))) (↑(Int.toNat d8.2.1 + (1 : Nat)) : Int) d8.2.2.2.1 d8.2.2.1 (List.take (Int.toNat d8.2.1) d8.2.2.2.2.2.2.1 ++ d8.1 :: ([] : List Int))) (gd (d8.2.2.1 ≤ (10 : Int) ∧ d8.2.2.2.1 ≤ (61 : Int) ∧ d8.2.2.2.2.1 = d8.2.2.1 ∧ (0 : Int) ≤ d8.2.2.2.2.2.1 ∧ d8.2.2.2.2.2.1 ≤ (60 : Int)) (bif (growF (mayS d8.2.2.2.2.1 d8.2.2.2.2.2.1) d8.2.2.2.1 d8.2.2.1 f (wr IntKind.i64 (d8.1 + (1 : Int))) (↑(Int.toNat d8.2.1 + (1 : Nat)) : Int) (List.take (Int.toNat d8.2.1) d8.2.2.2.2.2.2.1 ++ d8.1 :: ([] : List Int))).1 then some (Lp.out ((true, (↑(Int.toNat (growF (mayS d8.2.2.2.2.1 d8.2.2.2.2.2.1) d8.2.2.2.1 d8.2.2.1 f (wr IntKind.i64 (d8.1 + (1 : Int))) (↑(Int.toNat d8.2.1 + (1 : Nat)) : Int) (List.take (Int.toNat d8.2.1) d8.2.2.2.2.2.2.1 ++ d8.1 :: ([] : List Int))).2.1) : Int), d8.2.2.1, d8.2.2.2.1, d8.2.2.2.2.1, d8.2.2.2.2.2.1, (growF (mayS d8.2.2.2.2.1 d8.2.2.2.2.2.1) d8.2.2.2.1 d8.2.2.1 f (wr IntKind.i64 (d8.1 + (1 : Int))) (↑(Int.toNat d8.2.1 + (1 : Nat)) : Int) (List.take (Int.toNat d8.2.1) d8.2.2.2.2.2.2.1 ++ d8.1 :: ([] : List Int))).2.2.1, ()) : Bool × Int × Int × Int × Int × Int × List Int × Unit)) else gd ((0 : Int) ≤ wr IntKind.i64 ((↑(Int.toNat (growF (mayS d8.2.2.2.2.1 d8.2.2.2.2.2.1) d8.2.2.2.1 d8.2.2.1 f (wr IntKind.i64 (d8.1 + (1 : Int))) (↑(Int.toNat d8.2.1 + (1 : Nat)) : Int) (List.take (Int.toNat d8.2.1) d8.2.2.2.2.2.2.1 ++ d8.1 :: ([] : List Int))).2.1) : Int) - (1 : Int)) ∧ wr IntKind.i64 ((↑(Int.toNat (growF (mayS d8.2.2.2.2.1 d8.2.2.2.2.2.1) d8.2.2.2.1 d8.2.2.1 f (wr IntKind.i64 (d8.1 + (1 : Int))) (↑(Int.toNat d8.2.1 + (1 : Nat)) : Int) (List.take (Int.toNat d8.2.1) d8.2.2.2.2.2.2.1 ++ d8.1 :: ([] : List Int))).2.1) : Int) - (1 : Int)) ≤ (↑(Int.toNat (growF (mayS d8.2.2.2.2.1 d8.2.2.2.2.2.1) d8.2.2.2.1 d8.2.2.1 f (wr IntKind.i64 (d8.1 + (1 : Int))) (↑(Int.toNat d8.2.1 + (1 : Nat)) : Int) (List.take (Int.toNat d8.2.1) d8.2.2.2.2.2.2.1 ++ d8.1 :: ([] : List Int))).2.1) : Int)) (some (Lp.go ((wr IntKind.i64 (d8.1 + (1 : Int)), (↑(Int.toNat (wr IntKind.i64 ((↑(Int.toNat (growF (mayS d8.2.2.2.2.1 d8.2.2.2.2.2.1) d8.2.2.2.1 d8.2.2.1 f (wr IntKind.i64 (d8.1 + (1 : Int))) (↑(Int.toNat d8.2.1 + (1 : Nat)) : Int) (List.take (Int.toNat d8.2.1) d8.2.2.2.2.2.2.1 ++ d8.1 :: ([] : List Int))).2.1) : Int) - (1 : Int)))) : Int), d8.2.2.1, d8.2.2.2.1, d8.2.2.2.2.1, d8.2.2.2.2.2.1, (growF (mayS d8.2.2.2.2.1 d8.2.2.2.2.2.1) d8.2.2.2.1 d8.2.2.1 f (wr IntKind.i64 (d8.1 + (1 : Int))) (↑(Int.toNat d8.2.1 + (1 : Nat)) : Int) (List.take (Int.toNat d8.2.1) d8.2.2.2.2.2.2.1 ++ d8.1 :: ([] : List Int))).2.2.1, ()) : Int × Int × Int × Int × Int × Int × List Int × Unit))))))) else some (Lp.go ((wr IntKind.i64 (d8.1 + (1 : Int)), (↑(Int.toNat d8.2.1) : Int), d8.2.2.1, d8.2.2.2.1, d8.2.2.2.2.1, d8.2.2.2.2.2.1, d8.2.2.2.2.2.2.1, ()) : Int × Int × Int × Int × Int × Int × List Int × Unit)))) else some (Lp.out ((false, (↑(Int.toNat d8.2.1) : Int), d8.2.2.1, d8.2.2.2.1, d8.2.2.2.2.1, d8.2.2.2.2.2.1, d8.2.2.2.2.2.2.1, ()) : Bool × Int × Int × Int × Int × Int × List Int × Unit))) ((x0, (↑(Int.toNat x1) : Int), x2, x3, x4, x5, x6, ()) : Int × Int × Int × Int × Int × Int × List Int × Unit)
noncomputable def g99s_sh : List LSh := LSh.mk3 (((1, TV.ref (0) (1 : Nat) (0 : Nat) (0 : Nat)) : Nat × TV) :: ((2, TV.ref (1) (1 : Nat) (0 : Nat) (0 : Nat)) : Nat × TV) :: ((3, TV.ref (2) (1 : Nat) (0 : Nat) (0 : Nat)) : Nat × TV) :: ((4, TV.ref (3) (1 : Nat) (0 : Nat) (0 : Nat)) : Nat × TV) :: ((5, TV.ref (4) (1 : Nat) (0 : Nat) (0 : Nat)) : Nat × TV) :: ((8, TV.v (Ty.int IntKind.i64)) : Nat × TV) :: ([] : List (Nat × TV))) (TB.cells (TV.sl (8) (1) (0) :: ([] : List TV)) :: TB.cells (TV.v (Ty.int IntKind.i64) :: ([] : List TV)) :: TB.cells (TV.v (Ty.int IntKind.i64) :: ([] : List TV)) :: TB.cells (TV.fn (78) (TV.cons (TV.ref (5) (1 : Nat) (0 : Nat) (0 : Nat)) (TV.cons (TV.ref (6) (1 : Nat) (0 : Nat) (0 : Nat)) TV.nil)) :: ([] : List TV)) :: TB.cells (TV.fn (99) (TV.cons (TV.ref (0) (1 : Nat) (0 : Nat) (0 : Nat)) (TV.cons (TV.ref (1) (1 : Nat) (0 : Nat) (0 : Nat)) (TV.cons (TV.ref (2) (1 : Nat) (0 : Nat) (0 : Nat)) (TV.cons (TV.ref (3) (1 : Nat) (0 : Nat) (0 : Nat)) (TV.cons (TV.ref (4) (1 : Nat) (0 : Nat) (0 : Nat)) TV.nil))))) :: ([] : List TV)) :: TB.cells (TV.v (Ty.int IntKind.i64) :: ([] : List TV)) :: TB.cells (TV.v (Ty.int IntKind.i64) :: ([] : List TV)) :: TB.dead :: TB.arr (Ty.int IntKind.i64) true :: ([] : List TB)) (8) :: ([] : List LSh)

def foundL (s : Srch) : List Int := s.2.2.1.take s.2.1.toNat
def optS (s : Srch) : Bool × List Int := (!s.1, bif s.1 then foundL s else [])
def srS (k lim n : Int) : Srch := growF (mayS k lim) n k 62 0 0 []
noncomputable def con77s : SCon := mkS 77 [.v I64, .v I64, .fn 78 (.cons (.ref 0 1 0 0) (.cons (.ref 1 1 0 0) .nil))] [.cells [.v I64], .cells [.v I64]] [.opt (.v LI)] [.cells [.v I64], .cells [.v I64]] (fun (n size k lim : Int) => [1 ≤ size ∧ size ≤ 10 ∧ 0 ≤ n ∧ n ≤ 61 ∧ k = size ∧ 0 ≤ lim ∧ lim ≤ 60]) (fun (n size k lim : Int) => (!(srS k lim n).1, bif (srS k lim n).1 then foundL (srS k lim n) else [], k, lim, ()))
noncomputable def g77s (x0 x1 x2 x3 : Int) : Option (Bool × List Int × Int × Int × Unit) := gd (pre99 (62 : Nat) (0 : Int) (0 : Int) x0 x1 ([] : List Int)) (gd (x1 ≤ (10 : Int) ∧ x0 ≤ (61 : Int) ∧ x2 = x1 ∧ (0 : Int) ≤ x3 ∧ x3 ≤ (60 : Int)) (bif !(growF (mayS x2 x3) x0 x1 (62 : Nat) (0 : Int) (0 : Int) ([] : List Int)).1 then gd (true = true) (some ((true, ([] : List Int), x2, x3, ()) : Bool × List Int × Int × Int × Unit)) else gd ((0 : Nat) + Int.toNat (growF (mayS x2 x3) x0 x1 (62 : Nat) (0 : Int) (0 : Int) ([] : List Int)).2.1 ≤ List.length (growF (mayS x2 x3) x0 x1 (62 : Nat) (0 : Int) (0 : Int) ([] : List Int)).2.2.1) (gd (List.length (List.take (Int.toNat (growF (mayS x2 x3) x0 x1 (62 : Nat) (0 : Int) (0 : Int) ([] : List Int)).2.1) (List.drop (0 : Nat) (growF (mayS x2 x3) x0 x1 (62 : Nat) (0 : Int) (0 : Int) ([] : List Int)).2.2.1)) ≠ (0 : Nat)) (some ((false, List.take (Int.toNat (growF (mayS x2 x3) x0 x1 (62 : Nat) (0 : Int) (0 : Int) ([] : List Int)).2.1) (List.drop (0 : Nat) (growF (mayS x2 x3) x0 x1 (62 : Nat) (0 : Int) (0 : Int) ([] : List Int)).2.2.1), x2, x3, ()) : Bool × List Int × Int × Int × Unit)))))
noncomputable def g77s_sh : List LSh := ([] : List LSh)

def shortL (S : Int → Option (List Int)) : Nat → Int → List Int
  | 0, _ => []
  | f + 1, len => match S len with | some l => l | none => shortL S f (len + 1)
def srO (k len : Int) : Option (List Int) := if (srS k len (len + 1)).1 = true then some (foundL (srS k len (len + 1))) else none
def shortX (k : Int) : List Int × Int × Unit := if decide (1 ≤ k) && decide (k ≤ 7) then (shortL (srO k) 40 0, 0, ()) else ([], 2, ())
noncomputable def con35 : Con := mkC 35 [.d I64] [LI, I64] (fun (k : Int) => []) (fun (k : Int) => shortX k)
noncomputable def g35 (x0 : Int) : Option (List Int × Int × Unit) := gd ((!ilt x0 (1 : Int)) = true → (!ilt x0 (1 : Int)) = true) (gd (ilt x0 (1 : Int) = false → (!ilt x0 (1 : Int)) = true) (bif bif ilt x0 (1 : Int) then true else ilt (7 : Int) x0 then some ((([] : List Int), (2 : Int), ()) : List Int × Int × Unit) else whileO (fun (d1 : Int × Int × Unit) => gd ((1 : Int) ≤ d1.1 ∧ d1.1 ≤ (10 : Int) ∧ (0 : Int) ≤ wr IntKind.i64 (d1.2.1 + (1 : Int)) ∧ wr IntKind.i64 (d1.2.1 + (1 : Int)) ≤ (61 : Int) ∧ d1.1 = d1.1 ∧ (0 : Int) ≤ d1.2.1 ∧ d1.2.1 ≤ (60 : Int)) (bif !!(srS d1.1 d1.2.1 (wr IntKind.i64 (d1.2.1 + (1 : Int)))).1 then some (Lp.out ((bif !(srS d1.1 d1.2.1 (wr IntKind.i64 (d1.2.1 + (1 : Int)))).1 then ([] : List Int) else bif (srS d1.1 d1.2.1 (wr IntKind.i64 (d1.2.1 + (1 : Int)))).1 then foundL (srS d1.1 d1.2.1 (wr IntKind.i64 (d1.2.1 + (1 : Int)))) else ([] : List Int), (0 : Int), ()) : List Int × Int × Unit)) else some (Lp.go ((d1.1, wr IntKind.i64 (d1.2.1 + (1 : Int)), ()) : Int × Int × Unit)))) ((x0, (0 : Int), ()) : Int × Int × Unit)))
noncomputable def g35_sh : List LSh := LSh.mk (((1, TV.ref (0) (1 : Nat) (0 : Nat) (0 : Nat)) : Nat × TV) :: ((4, TV.ref (1) (1 : Nat) (0 : Nat) (0 : Nat)) : Nat × TV) :: ([] : List (Nat × TV))) (TB.cells (TV.v (Ty.int IntKind.i64) :: ([] : List TV)) :: TB.cells (TV.v (Ty.int IntKind.i64) :: ([] : List TV)) :: ([] : List TB)) :: ([] : List LSh)

/-! the reference -/
def isN (o : Option (List Int)) : Bool := o.isNone
def optL (o : Option (List Int)) : List Int := o.getD []
def refS (k len : Int) : Nat → List Int → Option (List Int)
  | 0, _ => none
  | f + 1, l => if (l.length : Int) = k then (if l.getD (k - 1).toNat 0 = len then some l else none)
    else tryC (refS k len f) (fun l' => !rulF l') l (len + 1 - (l.getD (l.length - 1) 0 + 1)).toNat (l.getD (l.length - 1) 0 + 1)
def pre79 (f : Nat) (k len : Int) (l : List Int) : Prop := 1 ≤ k ∧ k ≤ 10 ∧ 0 ≤ len ∧ len ≤ 60 ∧ inR l = true ∧ (l.length : Int) ≤ k ∧ k - l.length < f
noncomputable def con79 (f : Nat) : SCon := mkS 79 [.v I64, .v I64, .slf 0 1] [.arr I64 true] [.opt (.v LI)] [.dead] (fun (k len : Int) (l : List Int) => [pre79 f k len l]) (fun (k len : Int) (l : List Int) => (isN (refS k len f l), optL (refS k len f l), ()))
noncomputable def g79 (f : Nat) (x0 x1 : Int) (x2 : List Int) : Option (Bool × List Int × Unit) := bif ieq (↑(List.length x2) : Int) x0 then gd ((0 : Int) ≤ wr IntKind.i64 (x0 - (1 : Int)) ∧ wr IntKind.i64 (x0 - (1 : Int)) < (↑(List.length x2) : Int)) (gd ((0 : Nat) + Int.toNat (wr IntKind.i64 (x0 - (1 : Int))) < List.length x2) (bif ieq (List.getD x2 ((0 : Nat) + Int.toNat (wr IntKind.i64 (x0 - (1 : Int)))) (0 : Int)) x1 then gd ((0 : Nat) + List.length x2 ≤ List.length x2) (gd (List.length (List.take (List.length x2) (List.drop (0 : Nat) x2)) ≠ (0 : Nat)) (some ((false, List.take (List.length x2) (List.drop (0 : Nat) x2), ()) : Bool × List Int × Unit))) else gd (true = true) (some ((true, ([] : List Int), ()) : Bool × List Int × Unit)))) else gd ((0 : Int) ≤ wr IntKind.i64 ((↑(List.length x2) : Int) - (1 : Int)) ∧ wr IntKind.i64 ((↑(List.length x2) : Int) - (1 : Int)) < (↑(List.length x2) : Int)) (gd ((0 : Nat) + Int.toNat (wr IntKind.i64 ((↑(List.length x2) : Int) - (1 : Int))) < List.length x2) (gd (List.length x2 = List.length x2) (whileO (fun (d4 : Int × List Int × Unit) => bif ile d4.1 x1 then gd ((0 : Int) ≤ (↑(List.length d4.2.1) : Int) ∧ (↑(List.length d4.2.1) : Int) ≤ (↑(List.length d4.2.1) : Int) ∧ (↑(List.length d4.2.1) : Int) ≤ (↑(List.length d4.2.1) : Int)) (gd ((0 : Nat) + List.length d4.2.1 ≤ List.length d4.2.1) (gd (List.length d4.2.1 < List.length d4.2.1 + (1 : Nat)) (gd ((List.length d4.2.1 + (1 : Nat)) * (8 : Nat) ≤ (1099511627776 : Nat)) (gd ((0 : Nat) + (List.length d4.2.1 + (1 : Nat)) ≤ List.length (List.take (List.length d4.2.1) (List.drop (0 : Nat) d4.2.1) ++ d4.1 :: ([] : List Int))) (gd (inR (List.take (List.length d4.2.1 + (1 : Nat)) (List.drop (0 : Nat) (List.take (List.length d4.2.1) (List.drop (0 : Nat) d4.2.1) ++ d4.1 :: ([] : List Int)))) = true) (bif rulF (List.take (List.length d4.2.1 + (1 : Nat)) (List.drop (0 : Nat) (List.take (List.length d4.2.1) (List.drop (0 : Nat) d4.2.1) ++ d4.1 :: ([] : List Int)))) then gd (List.length d4.2.1 + (1 : Nat) = List.length (List.take (List.length d4.2.1) (List.drop (0 : Nat) d4.2.1) ++ d4.1 :: ([] : List Int))) (gd (pre79 f x0 x1 (List.take (List.length d4.2.1) (List.drop (0 : Nat) d4.2.1) ++ d4.1 :: ([] : List Int))) (bif !isN (refS x0 x1 f (List.take (List.length d4.2.1) (List.drop (0 : Nat) d4.2.1) ++ d4.1 :: ([] : List Int))) then gd (isN (refS x0 x1 f (List.take (List.length d4.2.1) (List.drop (0 : Nat) d4.2.1) ++ d4.1 :: ([] : List Int))) = false → ∀ (x5 : Prop), List.Mem x5 ([] : List Prop) → x5) (some (Lp.out ((isN (refS x0 x1 f (List.take (List.length d4.2.1) (List.drop (0 : Nat) d4.2.1) ++ d4.1 :: ([] : List Int))), optL (refS x0 x1 f (List.take (List.length d4.2.1) (List.drop (0 : Nat) d4.2.1) ++ d4.1 :: ([] : List Int))), ()) : Bool × List Int × Unit))) else gd (List.length d4.2.1 = List.length d4.2.1) (some (Lp.go ((wr IntKind.i64 (d4.1 + (1 : Int)), d4.2.1, ()) : Int × List Int × Unit))))) else gd (List.length d4.2.1 = List.length d4.2.1) (some (Lp.go ((wr IntKind.i64 (d4.1 + (1 : Int)), d4.2.1, ()) : Int × List Int × Unit))))))))) else gd (true = true) (some (Lp.out ((true, ([] : List Int), ()) : Bool × List Int × Unit)))) ((wr IntKind.i64 (List.getD x2 ((0 : Nat) + Int.toNat (wr IntKind.i64 ((↑(List.length x2) : Int) - (1 : Int)))) (0 : Int) + (1 : Int)), x2, ()) : Int × List Int × Unit))))
noncomputable def g79_sh : List LSh := LSh.mk3 (((2, TV.slf (1) (1)) : Nat × TV) :: ((7, TV.v (Ty.int IntKind.i64)) : Nat × TV) :: ([] : List (Nat × TV))) (TB.dead :: TB.arr (Ty.int IntKind.i64) true :: ([] : List TB)) (1) :: ([] : List LSh)
def refL (k : Int) : List Int := shortL (fun len => refS k len 12 [0]) 40 0
noncomputable def con36 : Con := mkC 36 [.d I64] [LI] (fun (k : Int) => [1 ≤ k ∧ k ≤ 7]) (fun (k : Int) => (refL k, ()))
noncomputable def g36 (x0 : Int) : Option (List Int × Unit) := whileO (fun (d1 : Int × Unit) => gd ((1 : Nat) = (1 : Nat)) (gd ((1 : Nat) = (1 : Nat)) (gd (pre79 (12 : Nat) x0 d1.1 ((0 : Int) :: ([] : List Int))) (bif !isN (refS x0 d1.1 (12 : Nat) ((0 : Int) :: ([] : List Int))) then some (Lp.out ((bif isN (refS x0 d1.1 (12 : Nat) ((0 : Int) :: ([] : List Int))) then ([] : List Int) else optL (refS x0 d1.1 (12 : Nat) ((0 : Int) :: ([] : List Int))), ()) : List Int × Unit)) else some (Lp.go ((wr IntKind.i64 (d1.1 + (1 : Int)), ()) : Int × Unit)))))) (((0 : Int), ()) : Int × Unit)
noncomputable def g36_sh : List LSh := LSh.mk (((3, TV.v (Ty.int IntKind.i64)) : Nat × TV) :: ([] : List (Nat × TV))) ([] : List TB) :: ([] : List LSh)
noncomputable def con9 : Con := mkC 9 [.d LI, .d I64] [.bool] (fun (l : List Int) (k : Int) => [small l]) (fun (l : List Int) (k : Int) => (true, ()))
noncomputable def g9 (x0 : List Int) (x1 : Int) : Option (Bool × Unit) := gd (small (List.take (90 : Nat) x0)) (gd ((!ilt x1 (1 : Int)) = true → (!ilt x1 (1 : Int)) = true) (gd (ilt x1 (1 : Int) = false → (!ilt x1 (1 : Int)) = true) (bif bif ilt x1 (1 : Int) then true else ilt (7 : Int) x1 then gd ((!!ieq (↑(List.length (shortX x1).1) : Int) (0 : Int)) = true → (!!ieq (↑(List.length (shortX x1).1) : Int) (0 : Int)) = true) (gd ((!ieq (↑(List.length (shortX x1).1) : Int) (0 : Int)) = false → (!!ieq (↑(List.length (shortX x1).1) : Int) (0 : Int)) = true) (bif bif !ieq (↑(List.length (shortX x1).1) : Int) (0 : Int) then true else !ieq (shortX x1).2.1 (2 : Int) then some ((false, ()) : Bool × Unit) else gd (ile (1 : Int) (↑(List.length x0) : Int) = true → ile (1 : Int) (↑(List.length x0) : Int) = true) (gd (ile (1 : Int) (↑(List.length x0) : Int) = true → ile (1 : Int) (↑(List.length x0) : Int) = true) (gd (ile (1 : Int) (↑(List.length x0) : Int) = true → ile (1 : Int) (↑(List.length x0) : Int) = true) (whileO (fun (d2 : Bool × Int × Unit) => bif ilt d2.2.1 (↑(List.length x0) : Int) then gd ((0 : Int) ≤ d2.2.1 ∧ d2.2.1 < (↑(List.length x0) : Int)) (gd (d2.1 = true → d2.1 = true) (gd (d2.1 = true → d2.1 = true) (gd ((bif d2.1 then ile (0 : Int) (List.getD x0 (Int.toNat d2.2.1) (0 : Int)) else false) = true → (bif d2.1 then ile (0 : Int) (List.getD x0 (Int.toNat d2.2.1) (0 : Int)) else false) = true) (gd ((bif d2.1 then ile (0 : Int) (List.getD x0 (Int.toNat d2.2.1) (0 : Int)) else false) = true → (bif d2.1 then ile (0 : Int) (List.getD x0 (Int.toNat d2.2.1) (0 : Int)) else false) = true) (some (Lp.go ((bif bif d2.1 then ile (0 : Int) (List.getD x0 (Int.toNat d2.2.1) (0 : Int)) else false then ile (List.getD x0 (Int.toNat d2.2.1) (0 : Int)) (60 : Int) else false, wr IntKind.i64 (d2.2.1 + (1 : Int)), ()) : Bool × Int × Unit))))))) else bif !d2.1 then gd ((!(rulX (List.take (90 : Nat) x0)).1) = true → (!(rulX (List.take (90 : Nat) x0)).1) = true) (gd ((!(rulX (List.take (90 : Nat) x0)).1) = true → (!(rulX (List.take (90 : Nat) x0)).1) = true) (gd ((bif !(rulX (List.take (90 : Nat) x0)).1 then ieq (rulX (List.take (90 : Nat) x0)).2.1 (2 : Int) else false) = true → (bif !(rulX (List.take (90 : Nat) x0)).1 then ieq (rulX (List.take (90 : Nat) x0)).2.1 (2 : Int) else false) = true) (some (Lp.out ((bif bif !(rulX (List.take (90 : Nat) x0)).1 then ieq (rulX (List.take (90 : Nat) x0)).2.1 (2 : Int) else false then true else false, ()) : Bool × Unit))))) else gd (inR x0 = true) (gd (beqB (rulX (List.take (90 : Nat) x0)).1 (rulF x0) = true → beqB (rulX (List.take (90 : Nat) x0)).1 (rulF x0) = true) (gd (beqB (rulX (List.take (90 : Nat) x0)).1 (rulF x0) = true → beqB (rulX (List.take (90 : Nat) x0)).1 (rulF x0) = true) (gd ((bif beqB (rulX (List.take (90 : Nat) x0)).1 (rulF x0) then ieq (rulX (List.take (90 : Nat) x0)).2.1 (0 : Int) else false) = true → (bif beqB (rulX (List.take (90 : Nat) x0)).1 (rulF x0) then ieq (rulX (List.take (90 : Nat) x0)).2.1 (0 : Int) else false) = true) (some (Lp.out ((bif bif beqB (rulX (List.take (90 : Nat) x0)).1 (rulF x0) then ieq (rulX (List.take (90 : Nat) x0)).2.1 (0 : Int) else false then true else false, ()) : Bool × Unit))))))) ((bif ile (1 : Int) (↑(List.length x0) : Int) then ile (↑(List.length x0) : Int) (10 : Int) else false, (0 : Int), ()) : Bool × Int × Unit)))))) else gd ((1 : Int) ≤ x1 ∧ x1 ≤ (7 : Int)) (gd (small (shortX x1).1) (gd (small (refL x1)) (gd ((!!eqLf ieq (shortX x1).1 (refL x1)) = true → (!!eqLf ieq (shortX x1).1 (refL x1)) = true) (gd ((!eqLf ieq (shortX x1).1 (refL x1)) = false → (!!eqLf ieq (shortX x1).1 (refL x1)) = true) (bif bif !eqLf ieq (shortX x1).1 (refL x1) then true else !ieq (shortX x1).2.1 (0 : Int) then some ((false, ()) : Bool × Unit) else gd (ile (1 : Int) (↑(List.length x0) : Int) = true → ile (1 : Int) (↑(List.length x0) : Int) = true) (gd (ile (1 : Int) (↑(List.length x0) : Int) = true → ile (1 : Int) (↑(List.length x0) : Int) = true) (gd (ile (1 : Int) (↑(List.length x0) : Int) = true → ile (1 : Int) (↑(List.length x0) : Int) = true) (whileO (fun (d2 : Bool × Int × Unit) => bif ilt d2.2.1 (↑(List.length x0) : Int) then gd ((0 : Int) ≤ d2.2.1 ∧ d2.2.1 < (↑(List.length x0) : Int)) (gd (d2.1 = true → d2.1 = true) (gd (d2.1 = true → d2.1 = true) (gd ((bif d2.1 then ile (0 : Int) (List.getD x0 (Int.toNat d2.2.1) (0 : Int)) else false) = true → (bif d2.1 then ile (0 : Int) (List.getD x0 (Int.toNat d2.2.1) (0 : Int)) else false) = true) (gd ((bif d2.1 then ile (0 : Int) (List.getD x0 (Int.toNat d2.2.1) (0 : Int)) else false) = true → (bif d2.1 then ile (0 : Int) (List.getD x0 (Int.toNat d2.2.1) (0 : Int)) else false) = true) (some (Lp.go ((bif bif d2.1 then ile (0 : Int) (List.getD x0 (Int.toNat d2.2.1) (0 : Int)) else false then ile (List.getD x0 (Int.toNat d2.2.1) (0 : Int)) (60 : Int) else false, wr IntKind.i64 (d2.2.1 + (1 : Int)), ()) : Bool × Int × Unit))))))) else bif !d2.1 then gd ((!(rulX (List.take (90 : Nat) x0)).1) = true → (!(rulX (List.take (90 : Nat) x0)).1) = true) (gd ((!(rulX (List.take (90 : Nat) x0)).1) = true → (!(rulX (List.take (90 : Nat) x0)).1) = true) (gd ((bif !(rulX (List.take (90 : Nat) x0)).1 then ieq (rulX (List.take (90 : Nat) x0)).2.1 (2 : Int) else false) = true → (bif !(rulX (List.take (90 : Nat) x0)).1 then ieq (rulX (List.take (90 : Nat) x0)).2.1 (2 : Int) else false) = true) (some (Lp.out ((bif bif !(rulX (List.take (90 : Nat) x0)).1 then ieq (rulX (List.take (90 : Nat) x0)).2.1 (2 : Int) else false then true else false, ()) : Bool × Unit))))) else gd (inR x0 = true) (gd (beqB (rulX (List.take (90 : Nat) x0)).1 (rulF x0) = true → beqB (rulX (List.take (90 : Nat) x0)).1 (rulF x0) = true) (gd (beqB (rulX (List.take (90 : Nat) x0)).1 (rulF x0) = true → beqB (rulX (List.take (90 : Nat) x0)).1 (rulF x0) = true) (gd ((bif beqB (rulX (List.take (90 : Nat) x0)).1 (rulF x0) then ieq (rulX (List.take (90 : Nat) x0)).2.1 (0 : Int) else false) = true → (bif beqB (rulX (List.take (90 : Nat) x0)).1 (rulF x0) then ieq (rulX (List.take (90 : Nat) x0)).2.1 (0 : Int) else false) = true) (some (Lp.out ((bif bif beqB (rulX (List.take (90 : Nat) x0)).1 (rulF x0) then ieq (rulX (List.take (90 : Nat) x0)).2.1 (0 : Int) else false then true else false, ()) : Bool × Unit))))))) ((bif ile (1 : Int) (↑(List.length x0) : Int) then ile (↑(List.length x0) : Int) (10 : Int) else false, (0 : Int), ()) : Bool × Int × Unit))))))))))))
noncomputable def g9_sh : List LSh := LSh.mk (((9, TV.v Ty.bool) : Nat × TV) :: ((55, TV.v (Ty.int IntKind.i64)) : Nat × TV) :: ([] : List (Nat × TV))) ([] : List TB) :: ([] : List LSh)


end Go.Caps

set_option linter.unusedVariables false
set_option linter.unusedSimpArgs false
namespace Go.Caps
open Go Go.Ab Go.Proofs

theorem inR_spec {l : List Int} (h : inR l = true) : 1 ≤ l.length ∧ l.length ≤ 10 ∧ ∀ x ∈ l, 0 ≤ x ∧ x ≤ 60 := by
  simp only [inR, Bool.and_eq_true, decide_eq_true_eq, List.all_eq_true, inQ] at h
  exact ⟨h.1.1, h.1.2, fun x hx => by have := h.2 x hx; omega⟩
theorem inR_iff {l : List Int} : inR l = true ↔ 1 ≤ l.length ∧ l.length ≤ 10 ∧ ∀ x ∈ l, 0 ≤ x ∧ x ≤ 60 := by
  refine ⟨inR_spec, fun ⟨h1, h2, h3⟩ => ?_⟩
  simp only [inR, Bool.and_eq_true, decide_eq_true_eq, List.all_eq_true, inQ]
  exact ⟨⟨h1, h2⟩, fun x hx => by have := h3 x hx; omega⟩

/-- One loop that looks whether its keys were met before. -/
theorem seen_loopP {S X : Type} {step : S → Option (Lp S X)} {N m : Nat} {st : Nat → List Bool → S} {key : Nat → Option Int} {part : Nat → List Int} {x : X} {fin : List Bool → X} {pre : List Int} (h0 : part 0 = []) (hp : ∀ j, j < m → part (j + 1) = part j ++ (key j).toList)
    (h : ∀ j ks, j < m → (∃ r, ks = pre ++ r) → step (st j (seenL N ks)) = some (match key j with
      | none => .go (st (j + 1) (seenL N ks))
      | some k => cond (ks.contains k) (.out x) (.go (st (j + 1) (seenL N (ks ++ [k]))))))
    (hf : ∀ ks, step (st m (seenL N ks)) = some (.out (fin (seenL N ks)))) (hpre : nodK pre = true) :
    whileO step (st 0 (seenL N pre)) = some (cond (nodK (pre ++ part m)) (fin (seenL N (pre ++ part m))) x) := by
  have ext : ∀ d j, j + d = m → ∃ r, part m = part j ++ r := by
    intro d
    induction d with
    | zero => intro j hj; have : j = m := by omega
              subst this; exact ⟨[], by simp⟩
    | succ d ih =>
      intro j hj
      obtain ⟨r, hr⟩ := ih (j + 1) (by omega)
      exact ⟨(key j).toList ++ r, by rw [hr, hp j (by omega), List.append_assoc]⟩
  have main : ∀ d j, j + d = m → nodK (pre ++ part j) = true → whileO step (st j (seenL N (pre ++ part j))) = some (cond (nodK (pre ++ part m)) (fin (seenL N (pre ++ part m))) x) := by
    intro d
    induction d with
    | zero =>
      intro j hj hn
      have : j = m := by omega
      subst this
      rw [whileO_out (hf _), hn]; rfl
    | succ d ih =>
      intro j hj hn
      have hs := h j (pre ++ part j) (by omega) ⟨_, rfl⟩
      have hpj := hp j (by omega)
      cases hk : key j with
      | none =>
        rw [hk] at hs hpj
        have e : part (j + 1) = part j := by rw [hpj]; simp
        have := ih (j + 1) (by omega) (by rw [e]; exact hn)
        rw [e] at this
        exact (whileO_go hs).trans this
      | some k =>
        rw [hk] at hs hpj
        have e : pre ++ part (j + 1) = pre ++ part j ++ [k] := by rw [hpj]; simp
        cases hc : (pre ++ part j).contains k with
        | true =>
          simp only [hc, cond_true] at hs
          have hf : nodK (pre ++ part m) = false := by
            obtain ⟨r, hr⟩ := ext d (j + 1) (by omega)
            rw [hr, ← List.append_assoc, e]
            exact nod_pre (by rw [nod_snoc hn, hc]; rfl)
          rw [hf]
          exact whileO_out hs
        | false =>
          simp only [hc, cond_false] at hs
          have := ih (j + 1) (by omega) (by rw [e, nod_snoc hn, hc]; rfl)
          rw [e] at this
          exact (whileO_go hs).trans this
  have := main m 0 (by omega) (by rw [h0, List.append_nil]; exact hpre)
  rwa [h0, List.append_nil] at this
theorem seen_rows' {S X : Type} {step : S → Option (Lp S X)} {N m : Nat} {st : Nat → List Bool → S} {row : Nat → List Int} {pre : Nat → List Int} {x y : X} (h0 : nodK (pre 0) = true) (hp : ∀ i, i < m → pre (i + 1) = pre i ++ row i)
    (h : ∀ i, i < m → nodK (pre i) = true → step (st i (seenL N (pre i))) = some (cond (nodK (pre i ++ row i)) (.go (st (i + 1) (seenL N (pre i ++ row i)))) (.out x)))
    (hf : ∀ ks, step (st m (seenL N ks)) = some (.out y)) : whileO step (st 0 (seenL N (pre 0))) = some (cond (nodK (pre m)) y x) := by
  have ext : ∀ d i, i + d = m → ∃ r, pre m = pre i ++ r := by
    intro d
    induction d with
    | zero => intro i hi; have : i = m := by omega
              subst this; exact ⟨[], by simp⟩
    | succ d ih =>
      intro i hi
      obtain ⟨r, hr⟩ := ih (i + 1) (by omega)
      exact ⟨row i ++ r, by rw [hr, hp i (by omega), List.append_assoc]⟩
  have main : ∀ d i, i + d = m → nodK (pre i) = true → whileO step (st i (seenL N (pre i))) = some (cond (nodK (pre m)) y x) := by
    intro d
    induction d with
    | zero =>
      intro i hi hn
      have : i = m := by omega
      subst this
      rw [whileO_out (hf _), hn]; rfl
    | succ d ih =>
      intro i hi hn
      have hs := h i (by omega) hn
      have hpi := hp i (by omega)
      cases hc : nodK (pre i ++ row i) with
      | true =>
        rw [hc] at hs
        have := ih (i + 1) (by omega) (by rw [hpi]; exact hc)
        rw [hpi] at this
        exact (whileO_go hs).trans this
      | false =>
        rw [hc] at hs
        have hf : nodK (pre m) = false := by
          obtain ⟨r, hr⟩ := ext d (i + 1) (by omega)
          rw [hr, hpi]
          exact nod_pre hc
        rw [hf]
        exact whileO_out hs
  exact main m 0 (by omega) h0

/-- The differences of one number and those before it; those below 1 are all the same. -/
def rowR (q : Int → Int) (l : List Int) (i j : Nat) : List Int := (l.take j).map fun b => q (l.getD i 0 - b)
def low (d : Int) : Int := if d < 1 then -1 else d
theorem rowR_succ {q : Int → Int} {l : List Int} {i j : Nat} (h : j < l.length) : rowR q l i (j + 1) = rowR q l i j ++ [q (l.getD i 0 - l.getD j 0)] := by
  unfold rowR
  rw [List.take_succ_eq_append_getElem h, List.map_append, gd_at (l := l) (i := j) h]
  rfl
theorem rows_succ {q : Int → Int} {l : List Int} {i : Nat} : (List.range (i + 1)).flatMap (fun i => rowR q l i i) = (List.range i).flatMap (fun i => rowR q l i i) ++ rowR q l i i := by
  rw [List.range_succ, List.flatMap_append]
  simp

theorem ris_at {l : List Int} (hr : ris l = true) {i j : Nat} (hj : j < i) (hi : i < l.length) : l.getD j 0 < l.getD i 0 := by
  rw [gd_at hi, gd_at (by omega)]
  exact List.pairwise_iff_getElem.1 (ris_pw hr) j i (by omega) hi hj

theorem in76 {l : List Int} (h : rulP l) {i : Nat} (hi : i < l.length) {pre : List Int} (hpre : nodK pre = true) {D : List Bool} :
    whileO (g76_l0 l (((i : Int), D, ()) : StB)) (((0 : Int), seenL 61 pre, ()) : StB) = some (cond (nodK (pre ++ rowR id l i i)) (.go ((((i + 1 : Nat) : Int), seenL 61 (pre ++ rowR id l i i), ()) : StB)) (.out ((false, ()) : Bool × Unit))) := by
  obtain ⟨h1, h2, h3⟩ := inR_spec h.1
  have hw : wr .i64 ((i : Int) + 1) = ((i + 1 : Nat) : Int) := cast1 (by omega)
  have htl : (List.take i l).length = i := by rw [List.length_take]; omega
  refine seen_loop (m := i) (st := fun j L => (((j : Nat) : Int), L, ())) (key := fun j => some (l.getD i 0 - l.getD j 0)) (part := rowR id l i) (x := Lp.out ((false, ()) : Bool × Unit)) (fin := fun L => Lp.go ((((i + 1 : Nat) : Int), L, ()) : StB)) rfl (fun j hj => rowR_succ (q := id) (by omega)) (fun j ks hj => ?_) (fun ks => ?_) hpre
  · unfold g76_l0
    dsimp only
    have hg : (List.take i l).getD j 0 = l.getD j 0 := by
      rw [gd_at (by rw [htl]; exact hj), gd_at (by omega), List.getElem_take]
    rw [Int.toNat_natCast (n := i), Int.toNat_natCast (n := j), hg, htl]
    have hlt := ris_at h.2 hj hi
    have b1 := h3 _ (mem_at hi)
    have b2 := h3 (l.getD j 0) (mem_at (by omega))
    rw [wr_id (by omega)]
    obtain ⟨d, hd⟩ : ∃ d : Nat, l.getD i 0 - l.getD j 0 = d := ⟨(l.getD i 0 - l.getD j 0).toNat, by omega⟩
    rw [hd]
    rw [cond_t (ilt_iff.2 (by omega)), gd_pos (by omega), gd_pos (by omega), seen_len, Int.toNat_natCast, Nat.zero_add, Nat.mul_one, gd_pos (by omega), seen_at (by omega), cast1 (by omega)]
    cases ks.contains (d : Int) with
    | true => rfl
    | false =>
      rw [cond_f rfl, gd_pos (by omega), gd_pos (by omega), seen_set (by omega)]
      rfl
  · unfold g76_l0
    dsimp only
    rw [hw, Int.toNat_natCast, htl, cond_f (ilt_false.2 (by omega))]

theorem goal76 : con76.goal Try.prog (spOf []) g76_sh [] lm30 := by
  have e : (∀ (l : List Int), rulP l → g76 l = some (nodK (difsR l), ())) = con76.goal Try.prog (spOf []) g76_sh [] lm30 := by kernel_rfl
  rw [← e]
  intro l h
  obtain ⟨h1, h2, h3⟩ := inR_spec h.1
  unfold g76
  have hall : difsR l = (List.range l.length).flatMap (fun i => rowR id l i i) := rfl
  rw [hall]
  refine (seen_rows (N := 61) (st := fun i L => (((i : Nat) : Int), L, ())) (row := fun i => rowR id l i i) (pre := fun i => (List.range i).flatMap (fun i => rowR id l i i)) (x := ((false, ()) : Bool × Unit)) (y := ((true, ()) : Bool × Unit)) rfl (fun i _ => rows_succ) (fun i hi hn => ?_) (fun ks => ?_)).trans (by rw [cond_eta])
  · dsimp only
    rw [cond_t (ilt_iff.2 (by omega)), gd_pos (by omega), gd_pos (by omega), in76 h hi hn]
  · dsimp only
    rw [cond_f (ilt_false.2 (by omega))]
set_option maxRecDepth 100000 in
theorem ok76 : con76.Ok Try.prog := Con.of_goal mixed okN con76 goal76

theorem seen_neg {N : Nat} : seenL N [-1] = seenL N [] := by
  unfold seenL
  refine List.map_congr_left fun d _ => ?_
  have : ¬ ((d : Int) = -1) := by omega
  simp [this]
theorem in37 {l : List Int} (h : inR l = true) {i : Nat} (hi : i < l.length) {pre : List Int} (hm : -1 ∈ pre) (hpre : nodK pre = true) {D : List Bool} :
    whileO (g37_l0 l (((i : Int), D, ()) : StB)) (((0 : Int), seenL 100 pre, ()) : StB) = some (cond (nodK (pre ++ rowR low l i i)) (.go ((((i + 1 : Nat) : Int), seenL 100 (pre ++ rowR low l i i), ()) : StB)) (.out ((false, ()) : Bool × Unit))) := by
  obtain ⟨h1, h2, h3⟩ := inR_spec h
  have hw : wr .i64 ((i : Int) + 1) = ((i + 1 : Nat) : Int) := cast1 (by omega)
  have htl : (List.take i l).length = i := by rw [List.length_take]; omega
  refine seen_loopP (m := i) (st := fun j L => (((j : Nat) : Int), L, ())) (key := fun j => some (low (l.getD i 0 - l.getD j 0))) (part := rowR low l i) (x := Lp.out ((false, ()) : Bool × Unit)) (fin := fun L => Lp.go ((((i + 1 : Nat) : Int), L, ()) : StB)) rfl (fun j hj => rowR_succ (q := low) (by omega)) (fun j ks hj hks => ?_) (fun ks => ?_) hpre
  · have hmk : ks.contains (-1) = true := by
      obtain ⟨r, rfl⟩ := hks
      simp [hm]
    unfold g37_l0
    dsimp only
    have hg : (List.take i l).getD j 0 = l.getD j 0 := by
      rw [gd_at (by rw [htl]; exact hj), gd_at (by omega), List.getElem_take]
    rw [Int.toNat_natCast (n := i), Int.toNat_natCast (n := j), hg, htl]
    have b1 := h3 _ (mem_at hi)
    have b2 := h3 (l.getD j 0) (mem_at (by omega))
    rw [wr_id (by omega)]
    generalize hdd : l.getD i 0 - l.getD j 0 = d
    by_cases hd : d < 1
    · have hl : low d = -1 := if_pos hd
      rw [cond_t (ilt_iff.2 (by omega)), gd_pos (by omega), ilt_iff.2 hd]
      simp only [Bool.not_true, Bool.false_eq_true, false_imp_iff, gd_true, reduceCtorEq, cond_true, hl, hmk]
    · have hl : low d = d := if_neg hd
      obtain ⟨n, rfl⟩ : ∃ n : Nat, d = n := ⟨d.toNat, by omega⟩
      have hn : n < 100 := by omega
      rw [cond_t (ilt_iff.2 (by omega)), gd_pos (by omega), ilt_false.2 (by omega), seen_len, Int.toNat_natCast, Nat.zero_add, Nat.mul_one, seen_at hn, cast1 (by omega)]
      rw [gd_pos (fun _ => ⟨rfl, by omega, by omega⟩), gd_pos (fun _ => ⟨rfl, by omega⟩), gd_pos (show false = false → (!false) = true from fun _ => rfl)]
      simp only [cond_false, hl]
      cases ks.contains (n : Int) with
      | true => rfl
      | false =>
        rw [cond_f rfl, gd_pos (by omega), gd_pos (by omega), seen_set hn]
        rfl
  · unfold g37_l0
    dsimp only
    rw [hw, Int.toNat_natCast, htl, cond_f (ilt_false.2 (by omega))]

theorem low_all {ds : List Int} : nodK ([-1] ++ ds.map low) = (ds.all (fun d => decide (1 ≤ d)) && nodK ds) := by
  rw [Bool.eq_iff_iff, Bool.and_eq_true, nodK_iff, nodK_iff, List.all_eq_true]
  have key : (∀ x ∈ ds, decide (1 ≤ x) = true) → ds.map low = ds := fun h => by
    conv => rhs; rw [← List.map_id ds]
    refine List.map_congr_left fun d hd => ?_
    have := h d hd
    rw [decide_eq_true_eq] at this
    exact if_neg (by omega)
  rw [List.cons_append, List.nil_append, List.nodup_cons]
  constructor
  · rintro ⟨h1, h2⟩
    have ha : ∀ x ∈ ds, decide (1 ≤ x) = true := fun x hx => by
      rw [decide_eq_true_eq]
      rcases Int.lt_or_le x 1 with h | h
      · exact absurd (List.mem_map.2 ⟨x, hx, show low x = -1 from if_pos h⟩) h1
      · exact h
    rw [key ha] at h2
    exact ⟨ha, h2⟩
  · rintro ⟨ha, h2⟩
    rw [key ha]
    exact ⟨fun hm => by have := ha _ hm; rw [decide_eq_true_eq] at this; omega, h2⟩
theorem rows_low {l : List Int} : (List.range l.length).flatMap (fun i => rowR low l i i) = (difsR l).map low := by
  unfold difsR rowR
  rw [List.map_flatMap]
  simp only [List.map_map]
  rfl
theorem pw_ris : ∀ {l : List Int}, l.Pairwise (· < ·) → ris l = true
  | [], _ => rfl
  | [x], _ => rfl
  | x :: y :: l, h => by
    rw [List.pairwise_cons] at h
    simp only [ris, Bool.and_eq_true, decide_eq_true_eq]
    exact ⟨h.1 y (List.mem_cons_self ..), pw_ris h.2⟩
theorem mem_difs {l : List Int} {d : Int} : d ∈ difsR l ↔ ∃ i j, j < i ∧ i < l.length ∧ d = l.getD i 0 - l.getD j 0 := by
  unfold difsR
  simp only [List.mem_flatMap, List.mem_range, List.mem_map]
  constructor
  · rintro ⟨i, hi, b, hb, rfl⟩
    obtain ⟨j, hj, rfl⟩ := List.mem_take_iff_getElem.1 hb
    exact ⟨i, j, by omega, hi, by rw [gd_at (l := l) (i := j) (by omega)]⟩
  · rintro ⟨i, j, hj, hi, rfl⟩
    exact ⟨i, hi, l.getD j 0, List.mem_take_iff_getElem.2 ⟨j, by omega, by rw [gd_at]⟩, rfl⟩
theorem difs_ris {l : List Int} : (difsR l).all (fun d => decide (1 ≤ d)) = ris l := by
  rw [Bool.eq_iff_iff, List.all_eq_true]
  constructor
  · intro h
    refine pw_ris (List.pairwise_iff_getElem.2 fun i j hi hj hij => ?_)
    have := h _ (mem_difs.2 ⟨j, i, hij, hj, rfl⟩)
    rw [decide_eq_true_eq, gd_at hj, gd_at hi] at this
    omega
  · intro h d hd
    obtain ⟨i, j, hj, hi, rfl⟩ := mem_difs.1 hd
    have := ris_at h hj hi
    rw [decide_eq_true_eq]; omega

theorem goal37 : con37.goal Try.prog (spOf []) g37_sh [] lm30 := by
  have e : (∀ (l : List Int), inR l = true → g37 l = some (rulF l, ())) = con37.goal Try.prog (spOf []) g37_sh [] lm30 := by kernel_rfl
  rw [← e]
  intro l h
  obtain ⟨h1, h2, h3⟩ := inR_spec h
  unfold g37
  rw [gd_pos (by omega)]
  unfold rulF
  cases h0 : ieq (l.getD 0 0) 0 with
  | false => rfl
  | true =>
    rw [Bool.not_true, cond_f rfl, Bool.true_and]
    have main := seen_rows' (N := 100) (step := fun (d1 : Int × List Bool × Unit) => bif ilt d1.1 (↑(List.length l) : Int) then gd ((0 : Int) ≤ d1.1 ∧ d1.1 < (↑(List.length l) : Int)) (gd ((0 : Int) ≤ d1.1 ∧ d1.1 ≤ (↑(List.length l) : Int)) (whileO (g37_l0 l d1) (((0 : Int), d1.2.1, ()) : Int × List Bool × Unit))) else some (Lp.out ((true, ()) : Bool × Unit))) (m := l.length) (st := fun i L => (((i : Nat) : Int), L, ())) (row := fun i => rowR low l i i) (pre := fun i => [-1] ++ (List.range i).flatMap (fun i => rowR low l i i)) (x := ((false, ()) : Bool × Unit)) (y := ((true, ()) : Bool × Unit)) rfl (fun i _ => by rw [rows_succ, List.append_assoc]) (fun i hi hn => ?_) (fun ks => ?_)
    · rw [show ([-1] ++ (List.range 0).flatMap (fun i => rowR low l i i)) = [-1] from rfl, seen_neg, rows_low, low_all, difs_ris, cond_eta] at main
      exact main
    · dsimp only
      rw [cond_t (ilt_iff.2 (by omega)), gd_pos (by omega), gd_pos (by omega), in37 h hi (by simp) hn]
    · dsimp only
      rw [cond_f (ilt_false.2 (by omega))]
set_option maxRecDepth 100000 in
theorem ok37 : con37.Ok Try.prog := Con.of_goal mixed okN con37 goal37

theorem min_loop (q : Int → Int → Int) {step : Int × Int × Unit → Option (Lp (Int × Int × Unit) (Int × Unit))} {l : List Int} (h : ∀ (m : Int) (i : Nat), i < l.length → step (m, (i : Int), ()) = some (.go (q m (l.getD i 0), ((i + 1 : Nat) : Int), ()))) (hf : ∀ m, step (m, (l.length : Int), ()) = some (.out (m, ()))) :
    ∀ (d i : Nat) (m : Int), i + d = l.length → whileO step (m, (i : Int), ()) = some ((l.drop i).foldl q m, ())
  | 0, i, m, hi => by
    have : i = l.length := by omega
    subst this
    rw [whileO_out (hf m), List.drop_length]; rfl
  | d + 1, i, m, hi => by
    rw [whileO_go (h m i (by omega)), min_loop q h hf d (i + 1) _ (by omega), List.drop_eq_getElem_cons (by omega : i < l.length), List.foldl_cons, gd_at (by omega)]

theorem goal74 : con74.goal Try.prog (spOf []) g74_sh [] lm30 := by
  have e : (∀ (l : List Int), (1 ≤ l.length ∧ l.length ≤ 1000) → g74 l = some (minL l, ())) = con74.goal Try.prog (spOf []) g74_sh [] lm30 := by kernel_rfl
  rw [← e]
  intro l h
  unfold g74
  rw [cond_f (ilt_false.2 (by omega)), gd_pos (by omega)]
  refine (min_loop imin (l := l) (fun m i hi => ?_) (fun m => ?_) (l.length - 1) 1 _ (by omega)).trans (by unfold minL; rw [List.drop_one])
  · dsimp only
    rw [cond_t (ilt_iff.2 (by omega)), gd_pos (by omega), Int.toNat_natCast, cast1 (by omega)]
  · dsimp only
    rw [cond_f (ilt_false.2 (by omega))]
set_option maxRecDepth 100000 in
theorem ok74 : con74.Ok Try.prog := Con.of_goal mixed okN con74 goal74
theorem goal75 : con75.goal Try.prog (spOf []) g75_sh [] lm30 := by
  have e : (∀ (l : List Int), (1 ≤ l.length ∧ l.length ≤ 1000) → g75 l = some (maxL l, ())) = con75.goal Try.prog (spOf []) g75_sh [] lm30 := by kernel_rfl
  rw [← e]
  intro l h
  unfold g75
  rw [cond_f (ilt_false.2 (by omega)), gd_pos (by omega)]
  refine (min_loop imax (l := l) (fun m i hi => ?_) (fun m => ?_) (l.length - 1) 1 _ (by omega)).trans (by unfold maxL; rw [List.drop_one])
  · dsimp only
    rw [cond_t (ilt_iff.2 (by omega)), gd_pos (by omega), Int.toNat_natCast, cast1 (by omega)]
  · dsimp only
    rw [cond_f (ilt_false.2 (by omega))]
set_option maxRecDepth 100000 in
theorem ok75 : con75.Ok Try.prog := Con.of_goal mixed okN con75 goal75
end Go.Caps

set_option linter.unusedVariables false
set_option linter.unusedSimpArgs false
namespace Go.Caps
open Go Go.Ab Go.Proofs

theorem foldl_min : ∀ {l : List Int} {m k : Int}, k ≤ l.foldl imin m ↔ k ≤ m ∧ ∀ x ∈ l, k ≤ x
  | [], m, k => by simp
  | x :: l, m, k => by
    rw [List.foldl_cons, foldl_min]
    simp only [List.mem_cons, forall_eq_or_imp]
    unfold imin
    split <;> constructor <;> rintro ⟨h1, h2⟩ <;> refine ⟨?_, ?_⟩ <;> first | omega | (exact h2) | (exact ⟨by omega, h2⟩) | (exact h2.2)
theorem foldl_max : ∀ {l : List Int} {m k : Int}, l.foldl imax m ≤ k ↔ m ≤ k ∧ ∀ x ∈ l, x ≤ k
  | [], m, k => by simp
  | x :: l, m, k => by
    rw [List.foldl_cons, foldl_max]
    simp only [List.mem_cons, forall_eq_or_imp]
    unfold imax
    split <;> constructor <;> rintro ⟨h1, h2⟩ <;> refine ⟨?_, ?_⟩ <;> first | omega | (exact h2) | (exact ⟨by omega, h2⟩) | (exact h2.2)
theorem head_tail {l : List Int} (h : 1 ≤ l.length) : l = l.getD 0 0 :: l.tail := by
  cases l with
  | nil => simp at h
  | cons x l => rfl
theorem minL_iff {l : List Int} (h : 1 ≤ l.length) {k : Int} : k ≤ minL l ↔ ∀ x ∈ l, k ≤ x := by
  unfold minL
  rw [foldl_min]
  conv => rhs; rw [head_tail h]
  simp
theorem maxL_iff {l : List Int} (h : 1 ≤ l.length) {k : Int} : maxL l ≤ k ↔ ∀ x ∈ l, x ≤ k := by
  unfold maxL
  rw [foldl_max]
  conv => rhs; rw [head_tail h]
  simp

theorem goal34 : con34.goal Try.prog (spOf [con74, con75, con71, con76]) g34_sh [] lm30 := by
  have e : (∀ (l : List Int), small l → g34 l = some (rulX l)) = con34.goal Try.prog (spOf [con74, con75, con71, con76]) g34_sh [] lm30 := by kernel_rfl
  rw [← e]
  intro l hs
  unfold g34 rulX
  by_cases a : (l.length : Int) < 1
  · have hf : inR l = false := by rw [Bool.eq_false_iff, Ne, inR_iff]; omega
    simp [ilt_iff.2 a, gd_true, hf]
  by_cases b : 10 < (l.length : Int)
  · have hf : inR l = false := by rw [Bool.eq_false_iff, Ne, inR_iff]; omega
    simp [ilt_false.2 (Int.not_lt.1 a), ilt_iff.2 b, gd_true, hf]
  have h1 : 1 ≤ l.length := by omega
  have h1' : l.length ≤ 1000 := by omega
  by_cases c : minL l < 0
  · have hf : inR l = false := by
      rw [Bool.eq_false_iff, Ne, inR_iff]
      rintro ⟨_, _, h⟩
      have := (minL_iff h1).2 fun x hx => (h x hx).1
      omega
    simp [ilt_false.2 (Int.not_lt.1 a), ilt_false.2 (Int.not_lt.1 b), ilt_iff.2 c, gd_true, hf, h1, h1']
  by_cases d : 60 < maxL l
  · have hf : inR l = false := by
      rw [Bool.eq_false_iff, Ne, inR_iff]
      rintro ⟨_, _, h⟩
      have := (maxL_iff h1).2 fun x hx => (h x hx).2
      omega
    simp [ilt_false.2 (Int.not_lt.1 a), ilt_false.2 (Int.not_lt.1 b), ilt_false.2 (Int.not_lt.1 c), ilt_iff.2 d, gd_true, hf, h1, h1']
  have hf : inR l = true := by
    rw [inR_iff]
    exact ⟨h1, by omega, fun x hx => ⟨(minL_iff h1).1 (Int.not_lt.1 c) x hx, (maxL_iff h1).1 (Int.not_lt.1 d) x hx⟩⟩
  have h0 : (0 : Int) < l.length := by omega
  have hn : l ≠ [] := by intro h; rw [h] at h1; simp at h1
  rw [if_pos hf]
  unfold rulF
  simp only [ilt_false.2 (Int.not_lt.1 a), ilt_false.2 (Int.not_lt.1 b), ilt_false.2 (Int.not_lt.1 c), ilt_false.2 (Int.not_lt.1 d), gd_true, h1, h1', h0, hs, cond_false, Bool.not_false, Bool.not_true, and_true, imp_self, forall_const, Int.le_refl, and_self, implies_true]
  cases hz : ieq (l.getD 0 0) 0 with
  | false => simp [gd_true]
  | true =>
    cases hr : ris l with
    | false => simp [gd_true]; rw [gd_pos (by omega)]
    | true => simp [gd_true, show rulP l from ⟨hf, hr⟩]; rw [gd_pos (by omega)]
set_option maxRecDepth 100000 in
theorem ok34 : con34.Ok Try.prog := Con.of_goal mixed (okC ok74 (okC ok75 (okC ok71 (okC ok76 okN)))) con34 goal34

theorem goal54s : con54s.goal Try.prog (spS [] []) g54s_sh [5] lm30 := by
  have e : (∀ (l : List Int), l.length ≤ 100000 → g54s l = some (l, ())) = con54s.goal Try.prog (spS [] []) g54s_sh [5] lm30 := by kernel_rfl
  rw [← e]
  intro l hl
  unfold g54s
  rw [gd_pos rfl, gd_pos (by omega), gd_pos (by omega), gd_pos (by omega)]
  have : eqO (l.length = 0) (some (([] : List Int), ())) (some (l, ())) = some (l, ()) := eqO_some.2 ⟨rfl, fun h => by rw [List.eq_nil_of_length_eq_zero h]⟩
  rw [this]
  rfl
set_option maxRecDepth 100000 in
theorem ok54s : con54s.Ok Try.prog := SCon.of_goal mixed okN okS0 con54s goal54s

/-! ### The search -/
def tryX (G : Int → List Int → Option (List Int)) (may : List Int → Int → Bool) (l : List Int) : Nat → Int → Option (List Int)
  | 0, _ => none
  | c + 1, x => match bif may l x then G (x + 1) (l ++ [x]) else none with
    | some r => some r
    | none => tryX G may l c (x + 1)
def dfsF (may : List Int → Int → Bool) (n size : Int) : Nat → Int → List Int → Option (List Int)
  | 0, _, _ => none
  | f + 1, frm, l => if (l.length : Int) = size then some l else tryX (dfsF may n size f) may l (n - (size - l.length) + 1 - frm).toNat frm

theorem tryF_ok {g : Int → Int → List Int → Srch} {G : Int → List Int → Option (List Int)} {may : List Int → Int → Bool} {len : Int} (h0 : 0 ≤ len) (hg : ∀ x a, len.toNat + 1 ≤ a.length → SOk (g x (len + 1) a) (G x (a.take (len.toNat + 1))) (a.take (len.toNat + 1))) :
    ∀ (c : Nat) (x : Int) (a : List Int), len.toNat ≤ a.length → SOk (tryF g may len c x a) (tryX G may (a.take len.toNat) c x) (a.take len.toNat)
  | 0, x, a, ha => by
    simp only [tryF, tryX, SOk, Option.isSome_none, Option.getD_none, List.length_take, Nat.min_eq_left ha, and_true, true_and]
    omega
  | c + 1, x, a, ha => by
    have hl : (a.take len.toNat).length = len.toNat := by rw [List.length_take]; omega
    have h1 : (a.take len.toNat ++ [x]).take len.toNat = a.take len.toNat := by rw [List.take_append_of_le_length (by omega), List.take_take, Nat.min_self]
    have h2 : (a.take len.toNat ++ [x]).length = len.toNat + 1 := by simp [hl]
    have h3 : (a.take len.toNat ++ [x]).take (len.toNat + 1) = a.take len.toNat ++ [x] := List.take_of_length_le (by omega)
    simp only [tryF, tryX]
    cases hb : may (a.take len.toNat) x with
    | false =>
      have := tryF_ok (may := may) h0 hg c (x + 1) a ha
      simpa using this
    | true =>
      have hs := hg (x + 1) (a.take len.toNat ++ [x]) (by omega)
      rw [h3] at hs
      simp only [if_true, cond_true]
      cases hr : G (x + 1) (a.take len.toNat ++ [x]) with
      | some r =>
        rw [hr] at hs
        have e1 : (g (x + 1) (len + 1) (a.take len.toNat ++ [x])).1 = true := hs.1
        rw [if_pos e1]
        exact hs
      | none =>
        rw [hr] at hs
        have e1 : (g (x + 1) (len + 1) (a.take len.toNat ++ [x])).1 = false := hs.1
        have e3 := hs.2.2
        simp only [Option.getD_none, h2] at e3
        have hle := hs.le
        simp only [Option.getD_none, h2] at hle
        rw [if_neg (by rw [e1]; simp)]
        have := tryF_ok (may := may) h0 hg c (x + 1) (g (x + 1) (len + 1) (a.take len.toNat ++ [x])).2.2.1 (by omega)
        have e4 : (g (x + 1) (len + 1) (a.take len.toNat ++ [x])).2.2.1.take len.toNat = a.take len.toNat := by
          have := congrArg (List.take len.toNat) e3
          rw [List.take_take, h1, Nat.min_eq_left (by omega)] at this
          exact this
        rw [e4] at this
        exact this

theorem growF_ok {may : List Int → Int → Bool} {n size : Int} : ∀ (f : Nat) (frm len : Int) (a : List Int), 0 ≤ len → len.toNat ≤ a.length → SOk (growF may n size f frm len a) (dfsF may n size f frm (a.take len.toNat)) (a.take len.toNat)
  | 0, frm, len, a, h0, ha => by
    simp only [growF, dfsF, SOk, Option.isSome_none, Option.getD_none, List.length_take, Nat.min_eq_left ha, and_true, true_and]
    omega
  | f + 1, frm, len, a, h0, ha => by
    have hl : (a.take len.toNat).length = len.toNat := by rw [List.length_take]; omega
    simp only [growF, dfsF]
    by_cases hn : len = size
    · rw [if_pos hn, if_pos (by omega)]
      simp only [SOk, Option.isSome_some, Option.getD_some, hl, true_and]
      exact ⟨by omega, trivial⟩
    · rw [if_neg hn, if_neg (by omega)]
      have e : ((a.take len.toNat).length : Int) = len := by omega
      rw [e]
      refine tryF_ok h0 (fun x b hb => ?_) _ _ _ ha
      have := growF_ok (may := may) (n := n) (size := size) f x (len + 1) b (by omega) (by omega)
      rwa [show (len + 1).toNat = len.toNat + 1 by omega] at this

theorem tryF_loop {S X : Type} {step : S → Option (Lp S X)} (st : Int → List Int → S) (out : Srch → X) {g : Int → Int → List Int → Srch} {may : List Int → Int → Bool} {len frm C : Int} {l : List Int} (hl : l.length = len.toNat)
    (hbad : ∀ (x : Int) (a : List Int), frm ≤ x → x < C → a.take len.toNat = l → may l x = false → step (st x a) = some (.go (st (x + 1) a)))
    (hok : ∀ (x : Int) (a : List Int), frm ≤ x → x < C → a.take len.toNat = l → may l x = true → (g (x + 1) (len + 1) (l ++ [x])).1 = true → step (st x a) = some (.out (out (g (x + 1) (len + 1) (l ++ [x])))))
    (hno : ∀ (x : Int) (a : List Int), frm ≤ x → x < C → a.take len.toNat = l → may l x = true → (g (x + 1) (len + 1) (l ++ [x])).1 = false → step (st x a) = some (.go (st (x + 1) (g (x + 1) (len + 1) (l ++ [x])).2.2.1)))
    (hend : ∀ x a, C ≤ x → a.take len.toNat = l → step (st x a) = some (.out (out (false, len, a, ()))))
    (hg : ∀ (x : Int), frm ≤ x → x < C → (g (x + 1) (len + 1) (l ++ [x])).1 = false → (g (x + 1) (len + 1) (l ++ [x])).2.2.1.take len.toNat = l) :
    ∀ (c : Nat) (x : Int) (a : List Int), c = (C - x).toNat → frm ≤ x → a.take len.toNat = l → whileO step (st x a) = some (out (tryF g may len c x a))
  | 0, x, a, hx, hf, ha => whileO_out (hend x a (by omega) ha)
  | c + 1, x, a, hx, hf, ha => by
    simp only [tryF, ha]
    cases hb : may l x with
    | false =>
      rw [whileO_go (hbad x a hf (by omega) ha hb), if_neg (by simp)]
      exact tryF_loop st out hl hbad hok hno hend hg c (x + 1) _ (by omega) (by omega) ha
    | true =>
      rw [if_pos rfl]
      cases hr : (g (x + 1) (len + 1) (l ++ [x])).1 with
      | true => rw [if_pos rfl]; exact whileO_out (hok x a hf (by omega) ha hb hr)
      | false =>
        rw [if_neg (by simp), whileO_go (hno x a hf (by omega) ha hb hr)]
        exact tryF_loop st out hl hbad hok hno hend hg c (x + 1) _ (by omega) (by omega) (hg x hf (by omega) hr)

theorem ris_snoc {l : List Int} {x : Int} (h : ris l = true) (hx : ∀ y ∈ l, y < x) : ris (l ++ [x]) = true :=
  pw_ris (List.pairwise_append.2 ⟨ris_pw h, List.pairwise_singleton .., fun a ha b hb => by rw [List.mem_singleton.1 hb]; exact hx a ha⟩)
theorem risTo_snoc {frm x : Int} {l : List Int} (h : risTo frm l) (h0 : 0 ≤ frm) (hx : frm ≤ x) : risTo (x + 1) (l ++ [x]) :=
  ⟨ris_snoc h.1 fun y hy => by have := h.2 y hy; omega, fun y hy => by
    rcases List.mem_append.1 hy with hy | hy
    · have := h.2 y hy; omega
    · rw [List.mem_singleton.1 hy]; omega⟩
/-- What is known when the search goes on. -/
theorem pre_next {f : Nat} {frm len n size x : Int} {a : List Int} (h : pre99 (f + 1) frm len n size a) (hk : len ≠ size) (hx : frm ≤ x) : pre99 f (x + 1) (len + 1) n size (a.take len.toNat ++ [x]) := by
  obtain ⟨h1, h2, h3, h4, h5, h6, h7, h8, h9⟩ := h
  have hl : (a.take len.toNat).length = len.toNat := by rw [List.length_take]; omega
  refine ⟨by omega, by omega, h3, h4, h5, by omega, by omega, by simp only [List.length_append, hl, List.length_singleton]; omega, ?_⟩
  rw [show (len + 1).toNat = len.toNat + 1 by omega, List.take_of_length_le (by simp [hl])]
  exact risTo_snoc h9 h6 hx
end Go.Caps

set_option linter.unusedVariables false
set_option linter.unusedSimpArgs false
namespace Go.Caps
open Go Go.Ab Go.Proofs

theorem goal78 : con78.goal Try.prog (spS [con54s] [con76]) g78_sh [] lm30 := by
  have e : (∀ (l : List Int) (x k len : Int), maySP k len l x → g78 l x k len = some (mayS k len l x, ())) = con78.goal Try.prog (spS [con54s] [con76]) g78_sh [] lm30 := by kernel_rfl
  rw [← e]
  rintro l x k lim ⟨hr, hk1, hk2, hl1, hl2⟩
  obtain ⟨h1, h2, h3⟩ := inR_spec hr.1
  rw [List.length_append, List.length_singleton] at h2
  have hw : wr .i64 (k - 1) = k - 1 := wr_id (by omega)
  have e1 : List.take (l.length + 1) (l ++ [x]) = l ++ [x] := List.take_of_length_le (by simp)
  unfold g78 mayS
  have d1 : ilt 0 (l.length : Int) = decide (0 < l.length) := by rw [ilt_d]; congr 1; simp
  have d2 : ilt (l.length : Int) (k - 1) = decide ((l.length : Int) < k - 1) := ilt_d
  rw [hw, d1, d2]
  have hA : (bif decide (0 < l.length) then true else ieq x 0) = (decide (0 < l.length) || ieq x 0) := by cases decide (0 < l.length) <;> rfl
  have hB : (bif decide ((l.length : Int) < k - 1) then true else ieq x lim) = (decide ((l.length : Int) < k - 1) || ieq x lim) := by cases decide ((l.length : Int) < k - 1) <;> rfl
  simp only [hA, hB]
  by_cases hA' : (decide (0 < l.length) || ieq x 0) = true
  · by_cases hB' : (decide ((l.length : Int) < k - 1) || ieq x lim) = true
    · simp [hA', hB', gd_true, hr, e1, show l.length ≤ 100000 by omega, show (l.length + 1) * 8 ≤ 1099511627776 by omega]
    · rw [Bool.not_eq_true] at hB'
      simp [hA', hB', gd_true]
  · rw [Bool.not_eq_true] at hA'
    simp [hA', gd_true]
set_option maxRecDepth 100000 in
theorem ok78 : con78.Ok Try.prog := Con.of_goalS mixed (okC ok76 okN) (okS ok54s okS0) con78 goal78

theorem ok99s_0 : (con99s 0).Ok Try.prog := scon_false _ (by kernel_rfl) (by
  have e : (∀ (frm len size n k lim : Int) (a : List Int) (p : List Prop), some [pre99 0 frm len n size a, size ≤ 10 ∧ n ≤ 61 ∧ k = size ∧ 0 ≤ lim ∧ lim ≤ 60] = some p → ¬ allP p) = (allD ((con99s 0).ins.flatMap TV.ts ++ tsB (con99s 0).ibl) fun env => ∀ p, (con99s 0).pre env = some p → ¬ allP p) := by kernel_rfl
  rw [← e]
  intro frm len size n k lim a p hp hq
  cases hp
  have := (allP_cons.1 hq).1
  unfold pre99 at this
  omega)

theorem risTo_inR {x : Int} {l : List Int} (h : risTo x l) (hx : x ≤ 61) (h1 : 1 ≤ l.length) (h2 : l.length ≤ 10) : rulP l :=
  ⟨inR_iff.2 ⟨h1, h2, fun y hy => by have := h.2 y hy; omega⟩, h.1⟩

theorem goal99s (f : Nat) : (con99s (f + 1)).goal Try.prog (spS [con99s f] [con78]) g99s_sh [] lm30 := by
  have e : (∀ (frm len size n k lim : Int) (a : List Int), pre99 (f + 1) frm len n size a → (size ≤ 10 ∧ n ≤ 61 ∧ k = size ∧ 0 ≤ lim ∧ lim ≤ 60) → g99s f frm len size n k lim a = some ((growF (mayS k lim) n size (f + 1) frm len a).1, (growF (mayS k lim) n size (f + 1) frm len a).2.1, size, n, k, lim, (growF (mayS k lim) n size (f + 1) frm len a).2.2.1, ())) = (con99s (f + 1)).goal Try.prog (spS [con99s f] [con78]) g99s_sh [] lm30 := by kernel_rfl
  rw [← e]
  intro frm len size n k lim a hp hq
  have hp0 := hp
  obtain ⟨h0, hls, hs60, hn0, hn, hf0, hfu, ha, hr⟩ := hp
  obtain ⟨q1, q2, q3, q4, q5⟩ := hq
  have hlen : ((len.toNat : Nat) : Int) = len := by omega
  unfold g99s
  rw [hlen]
  by_cases hk : len = size
  · rw [cond_t (by rw [ieq_d]; simpa using hk)]
    simp only [growF, if_pos hk]
  · rw [cond_f (by rw [ieq_d]; simpa using hk)]
    simp only [growF, if_neg hk]
    have hl : (a.take len.toNat).length = len.toNat := by rw [List.length_take]; omega
    have hX : ∀ x : Int, (a.take len.toNat ++ [x]).length = len.toNat + 1 := fun x => by simp only [List.length_append, hl, List.length_singleton]
    have hG := fun x : Int => growF_ok (may := mayS k lim) (n := n) (size := size) f (x + 1) (len + 1) (a.take len.toNat ++ [x]) (by omega) (by rw [hX x]; omega)
    have ht : ∀ x : Int, (a.take len.toNat ++ [x]).take (len + 1).toNat = a.take len.toNat ++ [x] := fun x => List.take_of_length_le (by rw [hX x]; omega)
    simp only [ht] at hG
    have hpn := fun (x : Int) (hx : frm ≤ x) => pre_next hp0 hk hx
    have hw1 : ((len.toNat + 1 : Nat) : Int) = len + 1 := by omega
    have hw2 : wr .i64 (len + 1 - 1) = len := by rw [wr_id (by omega)]; omega
    have hw3 : wr .i64 (n - wr .i64 (size - len)) = n - (size - len) := by rw [wr_id (n := size - len) (by omega), wr_id (by omega)]
    have c2 : (((len.toNat + 1) * 8 ≤ 1099511627776) = True) := by simp; omega
    have hnone : ∀ x : Int, (growF (mayS k lim) n size f (x + 1) (len + 1) (a.take len.toNat ++ [x])).1 = false → dfsF (mayS k lim) n size f (x + 1) (a.take len.toNat ++ [x]) = none := fun x hr => by
      have := (hG x).1
      rw [hr] at this
      simpa using this.symm
    refine tryF_loop (C := n - (size - len) + 1) (frm := frm) (st := fun x a => ((x, len, size, n, k, lim, a, ()) : Int × Int × Int × Int × Int × Int × List Int × Unit)) (out := fun s => (s.1, s.2.1, size, n, k, lim, s.2.2.1, ())) hl ?_ ?_ ?_ ?_ ?_ _ frm a rfl (Int.le_refl _) rfl
    · intro x b hx1 hx2 hb hm
      have c1 : ile x (n - (size - len)) = true := by rw [ile_d]; simp only [decide_eq_true_eq]; omega
      have cb : len.toNat ≤ b.length := by rw [← hl, ← hb, List.length_take]; omega
      have hP : maySP k lim (a.take len.toNat) x := ⟨risTo_inR (risTo_snoc hr hf0 hx1) (by omega) (by rw [hX]; omega) (by rw [hX]; omega), by omega, by omega, q4, q5⟩
      have hw : wr .i64 (x + 1) = x + 1 := wr_id (by omega)
      simp only [hlen, hw3, c1, cond_true, Nat.zero_add, gd_pos cb, List.drop_zero, hb, gd_pos hP, hm, cond_false, hw]
    · intro x b hx1 hx2 hb hm hgr
      have c1 : ile x (n - (size - len)) = true := by rw [ile_d]; simp only [decide_eq_true_eq]; omega
      have cb : len.toNat ≤ b.length := by rw [← hl, ← hb, List.length_take]; omega
      have hP : maySP k lim (a.take len.toNat) x := ⟨risTo_inR (risTo_snoc hr hf0 hx1) (by omega) (by rw [hX]; omega) (by rw [hX]; omega), by omega, by omega, q4, q5⟩
      have hw : wr .i64 (x + 1) = x + 1 := wr_id (by omega)
      have hpos : ((((growF (mayS k lim) n size f (x + 1) (len + 1) (a.take len.toNat ++ [x])).2.1).toNat : Nat) : Int) = (growF (mayS k lim) n size f (x + 1) (len + 1) (a.take len.toNat ++ [x])).2.1 := by rw [(hG x).2.1]; simp
      simp only [hlen, hw3, c1, cond_true, Nat.zero_add, gd_pos cb, List.drop_zero, hb, gd_pos hP, hm, hw, c2, gd_true, hw1, gd_pos (hpn x hx1), gd_pos (show size ≤ 10 ∧ n ≤ 61 ∧ k = size ∧ 0 ≤ lim ∧ lim ≤ 60 from ⟨q1, q2, q3, q4, q5⟩), hgr, hpos]
    · intro x b hx1 hx2 hb hm hgr
      have c1 : ile x (n - (size - len)) = true := by rw [ile_d]; simp only [decide_eq_true_eq]; omega
      have cb : len.toNat ≤ b.length := by rw [← hl, ← hb, List.length_take]; omega
      have hP : maySP k lim (a.take len.toNat) x := ⟨risTo_inR (risTo_snoc hr hf0 hx1) (by omega) (by rw [hX]; omega) (by rw [hX]; omega), by omega, by omega, q4, q5⟩
      have hw : wr .i64 (x + 1) = x + 1 := wr_id (by omega)
      have h21 : (growF (mayS k lim) n size f (x + 1) (len + 1) (a.take len.toNat ++ [x])).2.1 = len + 1 := by
        have := (hG x).2.1
        rw [hnone x hgr, Option.getD_none, hX] at this
        rw [this]; omega
      have h22 : (len + 1).toNat = len.toNat + 1 := by omega
      simp only [hlen, hw3, c1, cond_true, Nat.zero_add, gd_pos cb, List.drop_zero, hb, gd_pos hP, hm, hw, c2, gd_true, hw1, gd_pos (hpn x hx1), gd_pos (show size ≤ 10 ∧ n ≤ 61 ∧ k = size ∧ 0 ≤ lim ∧ lim ≤ 60 from ⟨q1, q2, q3, q4, q5⟩), hgr, h21, h22, hw2, cond_false]
      rw [gd_pos (by omega)]
    · intro x b hx hb
      have c1 : ile x (n - (size - len)) = false := by rw [ile_d]; simp only [decide_eq_false_iff_not]; omega
      simp only [hlen, hw3, c1, cond_false]
    · intro x hx1 hx2 hgr
      have h3 := (hG x).2.2
      rw [hnone x hgr, Option.getD_none, hX] at h3
      have := congrArg (List.take len.toNat) h3
      rw [List.take_take, Nat.min_eq_left (by omega), List.take_append_of_le_length (by omega), List.take_take, Nat.min_self] at this
      exact this
set_option maxRecDepth 100000 in
theorem ok99s : ∀ f, (con99s f).Ok Try.prog
  | 0 => ok99s_0
  | f + 1 => SCon.of_goal mixed (okC ok78 okN) (okS (ok99s f) okS0) (con99s (f + 1)) (goal99s f)

/-- What the whole search finds. -/
theorem dfs_len {may : List Int → Int → Bool} {n size : Int} : ∀ (f : Nat) (frm : Int) (l r : List Int), dfsF may n size f frm l = some r → (r.length : Int) = size
  | 0, frm, l, r, h => by simp [dfsF] at h
  | f + 1, frm, l, r, h => by
    simp only [dfsF] at h
    split at h
    · rename_i hn; cases h; exact hn
    · have key : ∀ (c : Nat) (x : Int), tryX (dfsF may n size f) may l c x = some r → (r.length : Int) = size := by
        intro c
        induction c with
        | zero => intro x h; simp [tryX] at h
        | succ c ih =>
          intro x h
          simp only [tryX] at h
          split at h
          · rename_i q hq
            cases h
            cases hb : may l x with
            | false => rw [hb] at hq; simp at hq
            | true => rw [hb] at hq; exact dfs_len f _ _ _ hq
          · exact ih _ h
      exact key _ _ h
theorem sr_ok {may : List Int → Int → Bool} {n size : Int} : SOk (growF may n size 62 0 0 []) (dfsF may n size 62 0 []) [] := by
  have := growF_ok (may := may) (n := n) (size := size) 62 0 0 [] (by omega) (by simp)
  simpa using this
theorem sr_none {may : List Int → Int → Bool} {n size : Int} (h : dfsF may n size 62 0 [] = none) : (growF may n size 62 0 0 []).1 = false := by
  have := (sr_ok (may := may) (n := n) (size := size)).1
  rw [h] at this; exact this
theorem sr_some {may : List Int → Int → Bool} {n size : Int} {r : List Int} (h : dfsF may n size 62 0 [] = some r) : (growF may n size 62 0 0 []).1 = true ∧ foundL (growF may n size 62 0 0 []) = r ∧ (growF may n size 62 0 0 []).2.1.toNat = r.length ∧ r.length ≤ (growF may n size 62 0 0 []).2.2.1.length := by
  have hs := sr_ok (may := may) (n := n) (size := size)
  rw [h] at hs
  have hle := hs.le
  obtain ⟨h1, h2, h3⟩ := hs
  simp only [Option.getD_some] at h2 h3 hle
  refine ⟨h1, ?_, by rw [h2]; simp, hle⟩
  unfold foundL
  rw [h2]
  simpa using h3

theorem goal77s : con77s.goal Try.prog (spS [con99s 62] [con78]) g77s_sh [9] lm30 := by
  have e : (∀ (n size k lim : Int), (1 ≤ size ∧ size ≤ 10 ∧ 0 ≤ n ∧ n ≤ 61 ∧ k = size ∧ 0 ≤ lim ∧ lim ≤ 60) → g77s n size k lim = some (!(srS k lim n).1, bif (srS k lim n).1 then foundL (srS k lim n) else [], k, lim, ())) = con77s.goal Try.prog (spS [con99s 62] [con78]) g77s_sh [9] lm30 := by kernel_rfl
  rw [← e]
  rintro n size k lim ⟨h1, h2, h3, h4, h5, h6, h7⟩
  subst h5
  unfold g77s srS
  rw [gd_pos ⟨by omega, by omega, by omega, h3, by omega, by omega, by omega, by simp, rfl, fun x hx => nomatch hx⟩, gd_pos ⟨h2, h4, rfl, h6, h7⟩]
  cases hd : dfsF (mayS k lim) n k 62 0 [] with
  | none => simp [sr_none hd, gd_true]
  | some r =>
    obtain ⟨s1, s2, s3, s4⟩ := sr_some hd
    have hl := dfs_len _ _ _ _ hd
    have e2 : ∀ s : Srch, foundL s = s.2.2.1.take s.2.1.toNat := fun _ => rfl
    simp only [s1, Bool.not_true, cond_false, cond_true, Nat.zero_add, List.drop_zero, e2]
    rw [gd_pos (by omega), gd_pos (by rw [List.length_take]; omega)]
set_option maxRecDepth 100000 in
theorem ok77s : con77s.Ok Try.prog := SCon.of_goal mixed (okC ok78 okN) (okS (ok99s 62) okS0) con77s goal77s

theorem srO_eq {k len : Int} : srO k len = dfsF (mayS k len) (len + 1) k 62 0 [] := by
  unfold srO srS
  cases hd : dfsF (mayS k len) (len + 1) k 62 0 [] with
  | none => rw [if_neg (by rw [sr_none hd]; simp)]
  | some r => obtain ⟨s1, s2, s3, s4⟩ := sr_some hd; rw [if_pos s1, s2]
end Go.Caps

set_option linter.unusedVariables false
set_option linter.unusedSimpArgs false
namespace Go.Caps
open Go Go.Ab Go.Proofs

/-! ### What a search finds -/
theorem tryX_some {G : Int → List Int → Option (List Int)} {may : List Int → Int → Bool} {l r : List Int} : ∀ (c : Nat) (x : Int), tryX G may l c x = some r → ∃ y, x ≤ y ∧ y < x + c ∧ may l y = true ∧ G (y + 1) (l ++ [y]) = some r ∧ ∀ z, x ≤ z → z < y → may l z = true → G (z + 1) (l ++ [z]) = none
  | 0, x, h => by simp [tryX] at h
  | c + 1, x, h => by
    simp only [tryX] at h
    split at h
    · rename_i q hq
      cases h
      cases hb : may l x with
      | false => rw [hb] at hq; simp at hq
      | true => rw [hb] at hq; exact ⟨x, by omega, by omega, hb, hq, fun z h1 h2 => by omega⟩
    · rename_i hq
      obtain ⟨y, h1, h2, h3, h4, h5⟩ := tryX_some c (x + 1) h
      refine ⟨y, by omega, by omega, h3, h4, fun z z1 z2 z3 => ?_⟩
      by_cases hz : z = x
      · subst hz
        rw [z3] at hq; simpa using hq
      · exact h5 z (by omega) z2 z3
theorem tryX_none {G : Int → List Int → Option (List Int)} {may : List Int → Int → Bool} {l : List Int} : ∀ (c : Nat) (x : Int), tryX G may l c x = none → ∀ y, x ≤ y → y < x + c → may l y = true → G (y + 1) (l ++ [y]) = none
  | 0, x, h, y, h1, h2, h3 => by omega
  | c + 1, x, h, y, h1, h2, h3 => by
    simp only [tryX] at h
    split at h
    · cases h
    · rename_i hq
      by_cases hy : y = x
      · subst hy
        rw [h3] at hq; simpa using hq
      · exact tryX_none c (x + 1) h y (by omega) (by omega) h3

theorem take_snoc {w : List Int} {m : Nat} (h : m < w.length) : w.take (m + 1) = w.take m ++ [w.getD m 0] := by
  rw [List.take_add_one, List.getD_eq_getElem?_getD, List.getElem?_eq_getElem h]; rfl

theorem ris_room {w : List Int} (hr : ris w = true) {n : Int} (hn : ∀ x ∈ w, x < n) : ∀ (d m : Nat), m + d + 1 = w.length → w.getD m 0 ≤ n - 1 - d
  | 0, m, h => by have := hn _ (mem_at (l := w) (i := m) (by omega)); omega
  | d + 1, m, h => by
    have h1 := ris_room hr hn d (m + 1) (by omega)
    have h2 := ris_at hr (show m < m + 1 by omega) (by omega)
    omega

/-- If there is a list, one is found. -/
theorem dfs_ne {may : List Int → Int → Bool} {n size : Int} {w : List Int} (hw : (w.length : Int) = size) (hr : ris w = true) (hn : ∀ x ∈ w, 0 ≤ x ∧ x < n) :
    ∀ (f m : Nat) (frm : Int), m ≤ w.length → w.length - m < f → (∀ i, m ≤ i → i < w.length → may (w.take i) (w.getD i 0) = true) → (m < w.length → frm ≤ w.getD m 0) → dfsF may n size f frm (w.take m) ≠ none
  | 0, m, frm, hm, hf, _, _ => by omega
  | f + 1, m, frm, hm, hf, hmay, hfrm => fun h => by
    have hl : (w.take m).length = m := by rw [List.length_take]; omega
    simp only [dfsF] at h
    split at h
    · cases h
    · rename_i hne
      have hlt : m < w.length := by omega
      have hroom := ris_room hr (fun x hx => (hn x hx).2) (w.length - m - 1) m (by omega)
      have hf1 := hfrm hlt
      have := tryX_none _ _ h (w.getD m 0) hf1 (by omega) (hmay m (Nat.le_refl _) hlt)
      rw [← take_snoc hlt] at this
      exact dfs_ne hw hr hn f (m + 1) _ (by omega) (by omega) (fun i h1 h2 => hmay i (by omega) h2) (fun h => by have := ris_at hr (show m < m + 1 by omega) h; omega) this

/-! ### The reference's -/
theorem try_eq {G : Int → List Int → Option (List Int)} {G' : List Int → Option (List Int)} {may : List Int → Int → Bool} {bad : List Int → Bool} {l : List Int} : ∀ (c c' : Nat) (x : Int), c ≤ c' →
    (∀ y, x ≤ y → y < x + c → (bif may l y then G (y + 1) (l ++ [y]) else none) = (bif bad (l ++ [y]) then none else G' (l ++ [y]))) → (∀ y, x + c ≤ y → y < x + c' → (bif bad (l ++ [y]) then none else G' (l ++ [y])) = none) → tryX G may l c x = tryC G' bad l c' x
  | 0, 0, x, _, _, _ => rfl
  | 0, c' + 1, x, _, h1, h2 => by
    have := try_eq (G := G) (may := may) 0 c' (x + 1) (by omega) (fun y _ _ => by omega) (fun y k1 k2 => h2 y (by omega) (by omega))
    simp only [tryX] at this ⊢
    simp only [tryC]
    rw [h2 x (by omega) (by omega)]
    exact this
  | c + 1, 0, x, h, _, _ => by omega
  | c + 1, c' + 1, x, hc, h1, h2 => by
    simp only [tryX, tryC]
    rw [h1 x (by omega) (by omega), try_eq c c' (x + 1) (by omega) (fun y k1 k2 => h1 y (by omega) (by omega)) (fun y k1 k2 => h2 y (by omega) (by omega))]
    cases (bif bad (l ++ [x]) then none else G' (l ++ [x])) <;> rfl

theorem last_snoc {l : List Int} {x : Int} : (l ++ [x]).getD ((l ++ [x]).length - 1) 0 = x := by
  rw [List.length_append, List.length_singleton, Nat.add_sub_cancel, List.getD_eq_getElem?_getD, List.getElem?_append_right (Nat.le_refl _), Nat.sub_self]; rfl
theorem snoc_len {l : List Int} {x : Int} : (l ++ [x]).length = l.length + 1 := by simp

theorem refS_none {k lim : Int} : ∀ (f : Nat) (l : List Int), 1 ≤ l.length → (l.length : Int) ≤ k → lim - l.getD (l.length - 1) 0 < k - l.length → refS k lim f l = none
  | 0, l, _, _, _ => rfl
  | f + 1, l, h1, h2, h3 => by
    simp only [refS]
    by_cases hk : (l.length : Int) = k
    · rw [if_pos hk, if_neg]
      rw [show (k - 1).toNat = l.length - 1 by omega]
      omega
    · rw [if_neg hk]
      cases ht : tryC (refS k lim f) (fun l' => !rulF l') l (lim + 1 - (l.getD (l.length - 1) 0 + 1)).toNat (l.getD (l.length - 1) 0 + 1) with
      | none => rfl
      | some r =>
        obtain ⟨y, y1, y2, y3, y4⟩ := tryC_some _ _ ht
        rw [refS_none f (l ++ [y]) (by rw [snoc_len]; omega) (by rw [snoc_len]; omega) (by rw [last_snoc, snoc_len]; omega)] at y4
        cases y4

theorem rul_snoc {l : List Int} {x : Int} (h0 : l.getD 0 0 = 0) (h1 : 1 ≤ l.length) (hr : ris l = true) (hx : l.getD (l.length - 1) 0 < x) : rulF (l ++ [x]) = nodK (difsR (l ++ [x])) := by
  unfold rulF
  have e0 : (l ++ [x]).getD 0 0 = 0 := by rw [List.getD_eq_getElem?_getD, List.getElem?_append_left (by omega), ← List.getD_eq_getElem?_getD, h0]
  have e1 : ris (l ++ [x]) = true := ris_snoc hr fun y hy => by
    obtain ⟨i, hi, rfl⟩ := List.getElem_of_mem hy
    have : l[i] ≤ l.getD (l.length - 1) 0 := by
      by_cases he : i = l.length - 1
      · subst he; rw [gd_at hi]; exact Int.le_refl _
      · have := ris_at hr (show i < l.length - 1 by omega) (by omega)
        rw [gd_at hi] at this
        omega
    omega
  rw [e0, e1]
  rfl

theorem dfs_ref {k lim : Int} (hk : 1 ≤ k) (hlim : 0 ≤ lim) : ∀ (f f' : Nat) (l : List Int), 1 ≤ l.length → (l.length : Int) ≤ k → k - l.length < f → k - l.length < f' → l.getD 0 0 = 0 → ris l = true → ((l.length : Int) = k → l.getD (l.length - 1) 0 = lim) →
    dfsF (mayS k lim) (lim + 1) k f (l.getD (l.length - 1) 0 + 1) l = refS k lim f' l
  | 0, _, l, _, _, hf, _, _, _, _ => by omega
  | _, 0, l, _, _, _, hf, _, _, _ => by omega
  | f + 1, f' + 1, l, h1, h2, hf, hf', h0, hr, hlast => by
    simp only [dfsF, refS]
    by_cases hc : (l.length : Int) = k
    · rw [if_pos hc, if_pos hc, if_pos]
      rw [show (k - 1).toNat = l.length - 1 by omega]
      exact hlast hc
    · rw [if_neg hc, if_neg hc]
      refine try_eq _ _ _ (by omega) (fun y y1 y2 => ?_) (fun y y1 y2 => ?_)
      · have e := rul_snoc h0 h1 hr (x := y) (by omega)
        have hd : (decide (0 < l.length) || ieq y 0) = true := by rw [decide_eq_true (by omega)]; rfl
        simp only [mayS, hd, Bool.true_and, e]
        have e0 : (l ++ [y]).getD 0 0 = 0 := by rw [List.getD_eq_getElem?_getD, List.getElem?_append_left (by omega), ← List.getD_eq_getElem?_getD, h0]
        have e1 : ris (l ++ [y]) = true := by
          refine ris_snoc hr fun z hz => ?_
          obtain ⟨i, hi, rfl⟩ := List.getElem_of_mem hz
          have : l[i] ≤ l.getD (l.length - 1) 0 := by
            by_cases he : i = l.length - 1
            · subst he; rw [gd_at hi]; exact Int.le_refl _
            · have := ris_at hr (show i < l.length - 1 by omega) (by omega)
              rw [gd_at hi] at this
              omega
          omega
        cases hn : nodK (difsR (l ++ [y])) with
        | false => simp
        | true =>
          simp only [Bool.and_true, Bool.not_true, cond_false]
          have next := fun hl => dfs_ref hk hlim f f' (l ++ [y]) (by rw [snoc_len]; omega) (by rw [snoc_len]; omega) (by rw [snoc_len]; omega) (by rw [snoc_len]; omega) e0 e1 hl
          rw [last_snoc, snoc_len] at next
          by_cases hlt : (l.length : Int) < k - 1
          · rw [decide_eq_true hlt, Bool.true_or, cond_true]
            exact next (by omega)
          · rw [decide_eq_false hlt, Bool.false_or]
            by_cases hy : y = lim
            · rw [ieq_iff.2 hy, cond_true]
              exact next (fun _ => hy)
            · rw [ieq_false.2 hy, cond_false]
              cases f' with
              | zero => rfl
              | succ f' =>
                simp only [refS]
                rw [if_pos (by rw [snoc_len]; omega), if_neg]
                rw [show (k - 1).toNat = (l ++ [y]).length - 1 by rw [snoc_len]; omega, last_snoc]
                exact hy
      · rw [refS_none f' (l ++ [y]) (by rw [snoc_len]; omega) (by rw [snoc_len]; omega) (by rw [last_snoc, snoc_len]; omega)]
        cases !rulF (l ++ [y]) <;> rfl

theorem dfsF_succ {may : List Int → Int → Bool} {n size frm : Int} {f : Nat} {l : List Int} : dfsF may n size (f + 1) frm l = if (l.length : Int) = size then some l else tryX (dfsF may n size f) may l (n - (size - l.length) + 1 - frm).toNat frm := rfl
theorem refS_succ {k len : Int} {f : Nat} {l : List Int} : refS k len (f + 1) l = if (l.length : Int) = k then (if l.getD (k - 1).toNat 0 = len then some l else none) else tryC (refS k len f) (fun l' => !rulF l') l (len + 1 - (l.getD (l.length - 1) 0 + 1)).toNat (l.getD (l.length - 1) 0 + 1) := rfl
theorem short_eq {k lim : Int} (hk : 1 ≤ k) (hk7 : k ≤ 10) (hlim : 0 ≤ lim) : srO k lim = refS k lim 12 [0] := by
  rw [srO_eq]
  have main := dfs_ref hk hlim 61 12 [0] (by simp) (by simpa using hk) (by simp; omega) (by simp; omega) rfl rfl
  rw [show (62 : Nat) = 61 + 1 from rfl, dfsF_succ, if_neg (by simp; omega)]
  have hrest : ∀ (c : Nat) (x : Int), 1 ≤ x → tryX (dfsF (mayS k lim) (lim + 1) k 61) (mayS k lim) [] c x = none := by
    intro c
    induction c with
    | zero => intro x _; rfl
    | succ c ih =>
      intro x hx
      simp only [tryX]
      have : mayS k lim [] x = false := by
        unfold mayS
        rw [ieq_false.2 (by omega)]; rfl
      rw [this, cond_false]
      exact ih (x + 1) (by omega)
  by_cases hroom : lim + 1 - k < 0
  · rw [refS_none 12 [0] (by simp) (by simpa using hk) (by simp; omega)]
    rw [show (lim + 1 - (k - (([] : List Int).length : Int)) + 1 - 0).toNat = 0 by simp; omega]
    rfl
  · obtain ⟨c, hc⟩ : ∃ c, (lim + 1 - (k - (([] : List Int).length : Int)) + 1 - 0).toNat = c + 1 := ⟨(lim + 1 - (k - (([] : List Int).length : Int)) + 1 - 0).toNat - 1, by simp; omega⟩
    rw [hc]
    simp only [tryX, List.nil_append]
    by_cases h1 : k = 1
    · subst h1
      by_cases hl0 : lim = 0
      · subst hl0
        rfl
      · have hm : mayS 1 lim [] 0 = false := by
          unfold mayS
          rw [ieq_false.2 (show (0 : Int) ≠ lim by omega)]; rfl
        rw [hm, cond_false]
        simp only [hrest c (0 + 1) (by omega)]
        rw [show (12 : Nat) = 11 + 1 from rfl, refS_succ, if_pos (by simp), if_neg]
        show ¬ (0 : Int) = lim
        omega
    · have hm : mayS k lim [] 0 = true := by
        unfold mayS
        rw [decide_eq_true (show (([] : List Int).length : Int) < k - 1 by simp; omega)]; rfl
      rw [hm, cond_true]
      have m := main (by simp; omega)
      have e : ([0] : List Int).getD (([0] : List Int).length - 1) 0 + 1 = 0 + 1 := rfl
      rw [e] at m
      rw [m]
      cases hs : refS k lim 12 [0] with
      | some r => rfl
      | none => exact hrest c (0 + 1) (by omega)
end Go.Caps

set_option linter.unusedVariables false
set_option linter.unusedSimpArgs false
namespace Go.Caps
open Go Go.Ab Go.Proofs

theorem tryC_loop {S X : Type} {step : S → Option (Lp S X)} (st : Int → S) (out : Option (List Int) → X) {G : List Int → Option (List Int)} {bad : List Int → Bool} {l : List Int} {lo C : Int}
    (h : ∀ x, lo ≤ x → x < C → step (st x) = some (match bif bad (l ++ [x]) then none else G (l ++ [x]) with | some r => .out (out (some r)) | none => .go (st (x + 1))))
    (hend : ∀ x, C ≤ x → step (st x) = some (.out (out none))) : ∀ (c : Nat) (x : Int), c = (C - x).toNat → lo ≤ x → whileO step (st x) = some (out (tryC G bad l c x))
  | 0, x, hc, hx => by rw [whileO_out (hend x (by omega))]; rfl
  | c + 1, x, hc, hx => by
    have hs := h x hx (by omega)
    simp only [tryC]
    cases hq : (bif bad (l ++ [x]) then none else G (l ++ [x])) with
    | some r => rw [hq] at hs; exact whileO_out hs
    | none => rw [hq] at hs; rw [whileO_go hs]; exact tryC_loop st out h hend c (x + 1) (by omega) (by omega)

theorem tryC_prop2 {G : List Int → Option (List Int)} {bad : List Int → Bool} {l : List Int} {Q : List Int → Prop} (h : ∀ l' r, G l' = some r → Q r) : ∀ (c : Nat) (x : Int) (r : List Int), tryC G bad l c x = some r → Q r := tryC_prop h
theorem refS_len {k lim : Int} : ∀ (f : Nat) (l r : List Int), refS k lim f l = some r → (r.length : Int) = k
  | 0, l, r, h => by simp [refS] at h
  | f + 1, l, r, h => by
    simp only [refS] at h
    split at h
    · split at h
      · cases h; assumption
      · cases h
    · exact tryC_prop (refS_len f) _ _ _ h

theorem ok79_0 : (con79 0).Ok Try.prog := scon_false _ (by kernel_rfl) (by
  have e : (∀ (k lim : Int) (l : List Int) (p : List Prop), some [pre79 0 k lim l] = some p → ¬ allP p) = (allD ((con79 0).ins.flatMap TV.ts ++ tsB (con79 0).ibl) fun env => ∀ p, (con79 0).pre env = some p → ¬ allP p) := by kernel_rfl
  rw [← e]
  intro k lim l p hp hq
  cases hp
  have := (Ab.allP_one.1 hq)
  unfold pre79 at this
  omega)

theorem goal79 (f : Nat) : (con79 (f + 1)).goal Try.prog (spS [con79 f] [con37]) g79_sh [] lm30 := by
  have e : (∀ (k lim : Int) (l : List Int), pre79 (f + 1) k lim l → g79 f k lim l = some (isN (refS k lim (f + 1) l), optL (refS k lim (f + 1) l), ())) = (con79 (f + 1)).goal Try.prog (spS [con79 f] [con37]) g79_sh [] lm30 := by kernel_rfl
  rw [← e]
  rintro k lim l ⟨h1, h2, h3, h4, h5, h6, h7⟩
  obtain ⟨i1, i2, i3⟩ := inR_spec h5
  have ew : wr .i64 ((l.length : Int) - 1) = ((l.length - 1 : Nat) : Int) := by rw [wr_id (by omega)]; omega
  have ek : wr .i64 (k - 1) = k - 1 := wr_id (by omega)
  unfold g79
  rw [ew, ek]
  simp only [refS]
  by_cases hk : (l.length : Int) = k
  · rw [cond_t (by rw [ieq_d]; simpa using hk), if_pos hk, gd_pos (by omega), gd_pos (by omega), Nat.zero_add]
    by_cases hl : l.getD (k - 1).toNat 0 = lim
    · rw [if_pos hl, ieq_iff.2 hl, cond_t rfl, gd_pos (by omega), gd_pos (by rw [List.length_take, List.length_drop]; omega), List.drop_zero, List.take_of_length_le (Nat.le_refl _)]
      rfl
    · rw [if_neg hl, ieq_false.2 hl, cond_f rfl, gd_true]
      rfl
  · rw [cond_f (by rw [ieq_d]; simpa using hk), if_neg hk]
    rw [gd_pos (by omega), gd_pos (by omega), gd_true, Int.toNat_natCast, Nat.zero_add]
    have hlast := i3 _ (mem_at (l := l) (i := l.length - 1) (by omega))
    have hin : ∀ x : Int, l.getD (l.length - 1) 0 < x → x ≤ lim → inR (l ++ [x]) = true := fun x a b => inR_iff.2 ⟨by simp, by rw [snoc_len]; omega, fun y hy => by
      rcases List.mem_append.1 hy with hy | hy
      · exact i3 y hy
      · rw [List.mem_singleton.1 hy]; omega⟩
    rw [wr_id (n := l.getD (l.length - 1) 0 + 1) (by omega)]
    refine (tryC_loop (C := lim + 1) (lo := l.getD (l.length - 1) 0 + 1) (st := fun x => ((x, l, ()) : Int × List Int × Unit)) (out := fun r => ((isN r, optL r, ()) : Bool × List Int × Unit)) (G := refS k lim f) (bad := fun l' => !rulF l') (l := l) (fun x x1 x2 => ?_) (fun x x1 => ?_) _ _ rfl (Int.le_refl _))
    · have ht : List.take (l.length + 1) (l ++ [x]) = l ++ [x] := List.take_of_length_le (by simp)
      simp only [List.drop_zero, List.take_length, ht]
      rw [cond_t (ile_iff.2 (by omega)), gd_pos (by omega), gd_pos (by omega), gd_pos (by omega), gd_pos (by omega), gd_pos (by rw [snoc_len]; omega), gd_pos (hin x (by omega) (by omega))]
      cases hr : rulF (l ++ [x]) with
      | false => simp only [cond_false, Bool.not_false, cond_true, wr_id (show -9223372036854775808 ≤ x + 1 ∧ x + 1 ≤ 9223372036854775807 by omega), gd_true]
      | true =>
        have hp : pre79 f k lim (l ++ [x]) := ⟨h1, h2, h3, h4, hin x (by omega) (by omega), by rw [snoc_len]; omega, by rw [snoc_len]; omega⟩
        simp only [cond_true, Bool.not_true, cond_false, snoc_len, gd_true, gd_pos hp]
        cases hq : refS k lim f (l ++ [x]) with
        | none => simp only [isN, Option.isNone_none, Bool.not_true, cond_false, gd_true, wr_id (show -9223372036854775808 ≤ x + 1 ∧ x + 1 ≤ 9223372036854775807 by omega)]
        | some r =>
          simp only [isN, Option.isNone_some, Bool.not_false, cond_true]
          rw [gd_pos (fun _ x hx => nomatch hx)]
    · rw [cond_f (ile_false.2 (by omega)), gd_true]
      rfl
set_option maxRecDepth 100000 in
theorem ok79 : ∀ f, (con79 f).Ok Try.prog
  | 0 => ok79_0
  | f + 1 => SCon.of_goal mixed (okC ok37 okN) (okS (ok79 f) okS0) (con79 (f + 1)) (goal79 f)

/-! ### The shortest -/
theorem short_loop {S X : Type} {step : S → Option (Lp S X)} (st : Int → S) (out : List Int → X) {Q : Int → Option (List Int)} {L : Int} (hL : Q L ≠ none)
    (h : ∀ x, 0 ≤ x → x ≤ L → step (st x) = some (match Q x with | some r => .out (out r) | none => .go (st (x + 1)))) : ∀ (f : Nat) (x : Int), 0 ≤ x → x ≤ L → L < x + f → whileO step (st x) = some (out (shortL Q f x))
  | 0, x, h0, h1, h2 => by omega
  | f + 1, x, h0, h1, h2 => by
    have hs := h x h0 h1
    simp only [shortL]
    cases hq : Q x with
    | some r => rw [hq] at hs; exact whileO_out hs
    | none =>
      rw [hq] at hs
      rw [whileO_go hs]
      have : x ≠ L := fun e => by rw [e] at hq; exact hL hq
      exact short_loop st out hL h f (x + 1) (by omega) (by omega) (by omega)

/-- A ruler with so many numbers. -/
def knownR : List (List Int) := [[0], [0, 1], [0, 1, 3], [0, 1, 4, 6], [0, 1, 4, 9, 11], [0, 1, 4, 10, 12, 17], [0, 1, 4, 10, 18, 23, 25]]
def lastL : List Int := [0, 1, 3, 6, 11, 17, 25]
set_option maxRecDepth 100000 in
theorem known_ok : ∀ k ∈ List.range 7, ((knownR.getD k []).length = k + 1 ∧ ris (knownR.getD k []) = true ∧ (∀ x ∈ knownR.getD k [], 0 ≤ x ∧ x < lastL.getD k 0 + 1) ∧ ∀ i ∈ List.range (k + 1), mayS ((k + 1 : Nat) : Int) (lastL.getD k 0) ((knownR.getD k []).take i) ((knownR.getD k []).getD i 0) = true) ∧ 0 ≤ lastL.getD k 0 ∧ lastL.getD k 0 ≤ 25 := by decide +kernel

theorem sr_known {k : Int} (h1 : 1 ≤ k) (h7 : k ≤ 7) : ∃ L, 0 ≤ L ∧ L ≤ 25 ∧ srO k L ≠ none := by
  obtain ⟨K, hK, rfl⟩ : ∃ K : Nat, K < 7 ∧ k = ((K + 1 : Nat) : Int) := ⟨k.toNat - 1, by omega, by omega⟩
  obtain ⟨⟨k1, k2, k3, k4⟩, k5, k6⟩ := known_ok K (List.mem_range.2 hK)
  refine ⟨lastL.getD K 0, k5, k6, ?_⟩
  rw [srO_eq]
  have := dfs_ne (may := mayS ((K + 1 : Nat) : Int) (lastL.getD K 0)) (n := lastL.getD K 0 + 1) (size := ((K + 1 : Nat) : Int)) (w := knownR.getD K []) (by rw [k1]) k2 k3 62 0 0 (by omega) (by omega) (fun i _ hi => k4 i (List.mem_range.2 (by omega))) (fun h => (k3 _ (mem_at h)).1)
  rwa [List.take_zero] at this

theorem goal35 : con35.goal Try.prog (spS [con77s] [con78]) g35_sh [] lm30 := by
  have e : (∀ (k : Int), g35 k = some (shortX k)) = con35.goal Try.prog (spS [con77s] [con78]) g35_sh [] lm30 := by kernel_rfl
  rw [← e]
  intro k
  unfold g35 shortX
  by_cases h1 : k < 1
  · have : decide (1 ≤ k) = false := by simpa using h1
    simp [ilt_iff.2 h1, gd_true, this]
  by_cases h7 : 7 < k
  · have : decide (k ≤ 7) = false := by simpa using h7
    simp [ilt_false.2 (Int.not_lt.1 h1), ilt_iff.2 h7, gd_true, this]
  obtain ⟨L, l1, l2, l3⟩ := sr_known (Int.not_lt.1 h1) (Int.not_lt.1 h7)
  rw [decide_eq_true (Int.not_lt.1 h1), decide_eq_true (Int.not_lt.1 h7)]
  simp only [ilt_false.2 (Int.not_lt.1 h1), ilt_false.2 (Int.not_lt.1 h7), Bool.not_false, imp_self, gd_true, cond_false, Bool.and_self, if_true]
  refine (short_loop (st := fun x => ((k, x, ()) : Int × Int × Unit)) (out := fun l => ((l, 0, ()) : List Int × Int × Unit)) (Q := srO k) l3 (fun x x0 x1 => ?_) 40 0 (by omega) l1 (by omega))
  dsimp only
  rw [wr_id (n := x + 1) (by omega), gd_pos ⟨by omega, by omega, by omega, by omega, trivial, by omega, by omega⟩]
  unfold srO
  cases hs : (srS k x (x + 1)).1 <;> simp
set_option maxRecDepth 100000 in
theorem ok35 : con35.Ok Try.prog := Con.of_goalS mixed (okC ok78 okN) (okS ok77s okS0) con35 goal35

theorem goal36 : con36.goal Try.prog (spS [con79 12] []) g36_sh [9] lm30 := by
  have e : (∀ (k : Int), (1 ≤ k ∧ k ≤ 7) → g36 k = some (refL k, ())) = con36.goal Try.prog (spS [con79 12] []) g36_sh [9] lm30 := by kernel_rfl
  rw [← e]
  rintro k ⟨h1, h7⟩
  obtain ⟨L, l1, l2, l3⟩ := sr_known h1 h7
  rw [short_eq h1 (by omega) l1] at l3
  unfold g36 refL
  refine (short_loop (st := fun x => ((x, ()) : Int × Unit)) (out := fun l => ((l, ()) : List Int × Unit)) (Q := fun x => refS k x 12 [0]) l3 (fun x x0 x1 => ?_) 40 0 (by omega) l1 (by omega))
  dsimp only
  rw [gd_pos rfl, gd_pos rfl, gd_pos ⟨h1, by omega, x0, by omega, by decide, by simpa using h1, by simp; omega⟩, wr_id (n := x + 1) (by omega)]
  cases hs : refS k x 12 [0] with
  | none => rfl
  | some r => rfl
set_option maxRecDepth 100000 in
theorem ok36 : con36.Ok Try.prog := Con.of_goalS mixed okN (okS (ok79 12) okS0) con36 goal36

theorem shortL_congr {Q R : Int → Option (List Int)} (h : ∀ x, 0 ≤ x → Q x = R x) : ∀ (f : Nat) (x : Int), 0 ≤ x → shortL Q f x = shortL R f x
  | 0, x, _ => rfl
  | f + 1, x, hx => by
    simp only [shortL]
    rw [h x hx, shortL_congr h f (x + 1) (by omega)]
theorem shortX_eq {k : Int} (h1 : 1 ≤ k) (h7 : k ≤ 7) : shortX k = (refL k, 0, ()) := by
  unfold shortX refL
  rw [decide_eq_true h1, decide_eq_true h7]
  rw [shortL_congr (R := fun len => refS k len 12 [0]) (fun x hx => short_eq h1 (by omega) hx) 40 0 (Int.le_refl _)]
  rfl
theorem shortL_len {Q : Int → Option (List Int)} {n : Nat} (h : ∀ x r, Q x = some r → r.length ≤ n) : ∀ (f : Nat) (x : Int), (shortL Q f x).length ≤ n
  | 0, x => by simp [shortL]
  | f + 1, x => by
    simp only [shortL]
    cases hq : Q x with
    | some r => exact h x r hq
    | none => exact shortL_len h f (x + 1)
theorem refL_small {k : Int} (h1 : 1 ≤ k) (h7 : k ≤ 7) : small (refL k) := by
  have := shortL_len (Q := fun len => refS k len 12 [0]) (n := 7) (fun x r hr => by have := refS_len _ _ _ hr; omega) 40 0
  unfold small refL
  omega

theorem rulX_take {l : List Int} : rulX (l.take 90) = rulX l := by
  by_cases h : l.length ≤ 90
  · rw [List.take_of_length_le h]
  · unfold rulX
    have h1 : inR l = false := by rw [Bool.eq_false_iff, Ne, inR_iff]; omega
    have h2 : inR (l.take 90) = false := by rw [Bool.eq_false_iff, Ne, inR_iff, List.length_take]; omega
    rw [h1, h2]; rfl

theorem val_loop {X : Type} {step : Bool × Int × Unit → Option (Lp (Bool × Int × Unit) X)} {l : List Int} {x : X} {b : Bool} (hs : small l)
    (h : ∀ (v : Bool) (i : Nat), i < l.length → step (v, (i : Int), ()) = some (.go ((v && inQ 0 60 (l.getD i 0)), ((i + 1 : Nat) : Int), ()))) (hf : step (b && l.all (inQ 0 60), (l.length : Int), ()) = some (.out x)) :
    whileO step (b, (0 : Int), ()) = some x := by
  have key : ∀ (d i : Nat) (v : Bool), i + d = l.length → (v && (l.drop i).all (inQ 0 60)) = (b && l.all (inQ 0 60)) → whileO step (v, (i : Int), ()) = some x := by
    intro d
    induction d with
    | zero =>
      intro i v hi hv
      have : i = l.length := by omega
      subst this
      rw [List.drop_length, List.all_nil, Bool.and_true] at hv
      rw [hv]
      exact whileO_out hf
    | succ d ih =>
      intro i v hi hv
      rw [whileO_go (h v i (by omega))]
      refine ih (i + 1) _ (by omega) ?_
      rw [← hv, List.drop_eq_getElem_cons (by omega : i < l.length), List.all_cons, gd_at (by omega), Bool.and_assoc]
  exact key l.length 0 b (by omega) (by rw [List.drop_zero])

theorem goal9 : con9.goal Try.prog (spOf [con19, con34, con35, con27, con36, con37, con23]) g9_sh [] lm30 := by
  have e : (∀ (l : List Int) (k : Int), small l → g9 l k = some (true, ())) = con9.goal Try.prog (spOf [con19, con34, con35, con27, con36, con37, con23]) g9_sh [] lm30 := by kernel_rfl
  rw [← e]
  intro l k hs
  have ta : small (l.take 90) := by unfold small; rw [List.length_take]; omega
  have hl1 : ile 1 (l.length : Int) = decide (1 ≤ l.length) := by rw [ile_d]; congr 1; simp only [eq_iff_iff]; omega
  have hl2 : ile (l.length : Int) 10 = decide (l.length ≤ 10) := by rw [ile_d]; congr 1; simp only [eq_iff_iff]; omega
  have hin : ((bif decide (1 ≤ l.length) then decide (l.length ≤ 10) else false) && l.all (inQ 0 60)) = inR l := by
    unfold inR
    cases decide (1 ≤ l.length) <;> cases decide (l.length ≤ 10) <;> rfl
  have hstep : ∀ (v : Bool) (i : Nat), i < l.length → (bif bif v then ile 0 (l.getD i 0) else false then ile (l.getD i 0) 60 else false) = (v && inQ 0 60 (l.getD i 0)) := fun v i hi => by
    rw [ile_d, ile_d]
    unfold inQ
    cases v <;> cases decide (0 ≤ l.getD i 0) <;> rfl
  have i0 : ieq 0 0 = true := rfl
  have i2 : ieq 2 2 = true := rfl
  have hbb : ∀ x : Bool, beqB x x = true := fun x => by cases x <;> rfl
  unfold g9
  rw [gd_pos ta]
  simp only [rulX_take, hl1, hl2]
  have main : ∀ (step : Bool × Int × Unit → Option (Lp (Bool × Int × Unit) (Bool × Unit))), (∀ (v : Bool) (i : Nat), i < l.length → step (v, (i : Int), ()) = some (.go ((v && inQ 0 60 (l.getD i 0)), ((i + 1 : Nat) : Int), ()))) → (∀ v, v = inR l → step (v, (l.length : Int), ()) = some (.out (true, ()))) →
      whileO step ((bif decide (1 ≤ l.length) then decide (l.length ≤ 10) else false), (0 : Int), ()) = some (true, ()) := fun step h1 h2 => val_loop hs h1 (h2 _ hin)
  have hx2 : (k < 1 ∨ 7 < k) → shortX k = ([], 2, ()) := fun h => by
    unfold shortX
    rw [if_neg (by simp; omega)]
  by_cases h1 : k < 1
  case' pos =>
    simp only [ilt_iff.2 h1, hx2 (.inl h1), List.length_nil, Int.natCast_zero, i0, i2, Bool.not_true, Bool.not_false, gd_true, cond_true, cond_false, reduceCtorEq, imp_self, false_imp_iff, forall_const, implies_true, true_imp_iff, Bool.false_eq_true]
  case' neg =>
    by_cases h7 : 7 < k
    case' pos =>
      simp only [ilt_false.2 (Int.not_lt.1 h1), ilt_iff.2 h7, hx2 (.inr h7), List.length_nil, Int.natCast_zero, i0, i2, Bool.not_true, Bool.not_false, gd_true, cond_true, cond_false, reduceCtorEq, imp_self, false_imp_iff, forall_const, implies_true, true_imp_iff, Bool.false_eq_true]
    case' neg =>
      have h1 := Int.not_lt.1 h1
      have h7 := Int.not_lt.1 h7
      have hx := shortX_eq h1 h7
      have hsm := refL_small h1 h7
      have heq : eqLf ieq (refL k) (refL k) = true := by rw [eqLf_iff (fun _ _ => ieq_iff)]
      simp only [ilt_false.2 h1, ilt_false.2 h7, hx, gd_pos hsm, heq, gd_pos (show 1 ≤ k ∧ k ≤ 7 from ⟨h1, h7⟩), i0, Bool.not_true, Bool.not_false, gd_true, cond_true, cond_false, reduceCtorEq, imp_self, false_imp_iff, forall_const, implies_true, true_imp_iff, Bool.false_eq_true]
  all_goals
    refine main _ (fun v i hi => ?_) (fun v hv => ?_)
    · dsimp only
      rw [cond_t (ilt_iff.2 (by omega)), gd_pos (by omega), Int.toNat_natCast, hstep v i hi, cast1 (by unfold small at hs; omega)]
    · dsimp only
      rw [cond_f (ilt_false.2 (Int.le_refl _)), hv]
      cases hr : inR l with
      | false =>
        have : rulX l = (false, 2, ()) := by unfold rulX; rw [hr]; rfl
        simp [this, i2, gd_true]
      | true =>
        have : rulX l = (rulF l, 0, ()) := by unfold rulX; rw [hr]; rfl
        simp [this, i0, hbb, gd_true]
set_option maxRecDepth 100000 in
theorem ok9 : con9.Ok Try.prog := Con.of_goal mixed (okC ok19 (okC ok34 (okC ok35 (okC ok27 (okC ok36 (okC ok37 (okC ok23 okN))))))) con9 goal9
end Go.Caps
