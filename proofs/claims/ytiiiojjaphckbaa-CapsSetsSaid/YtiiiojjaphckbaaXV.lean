/- The law Sets: contracts. -/
import Derived.Test.YtiiiojjaphckbaaXK
import Derived.Test.YtiiiojjaphckbaaSS
import Derived.Test.YtiiiojjaphckbaaXR
set_option linter.unusedVariables false
set_option linter.unusedSimpArgs false
namespace Go.Caps
open Go Go.Ab Go.Proofs

def addN : Nat → Int → Int → Int
  | 0, _, _ => 0
  | n + 1, a, b => addN n a b + (a / p3 n % 3 + b / p3 n % 3) % 3 * p3 n
def addC (d a b : Int) : Int := addN d.toNat a b
noncomputable def con51 : Con := mkC 51 [.d I64, .d I64, .d I64] [I64] (fun (d a b : Int) => [isD d = true, cardP a, cardP b]) (fun (d a b : Int) => (addC d a b, ()))
noncomputable def g51 (x0 x1 x2 : Int) : Option (Int × Unit) := whileO (fun (d3 : Int × Int × Int × Unit) => bif ilt d3.2.2.1 x0 then gd (d3.2.1 ≠ (0 : Int)) (gd ((3 : Int) ≠ (0 : Int)) (gd (d3.2.1 ≠ (0 : Int)) (gd ((3 : Int) ≠ (0 : Int)) (gd ((3 : Int) ≠ (0 : Int)) (some (Lp.go ((wr IntKind.i64 (d3.1 + wr IntKind.i64 (Int.tmod (wr IntKind.i64 (Int.tmod (wr IntKind.i64 (Int.tdiv x1 d3.2.1)) (3 : Int) + Int.tmod (wr IntKind.i64 (Int.tdiv x2 d3.2.1)) (3 : Int))) (3 : Int) * d3.2.1)), wr IntKind.i64 (d3.2.1 * (3 : Int)), wr IntKind.i64 (d3.2.2.1 + (1 : Int)), ()) : Int × Int × Int × Unit))))))) else some (Lp.out ((d3.1, ()) : Int × Unit))) (((0 : Int), (1 : Int), (0 : Int), ()) : Int × Int × Int × Unit)
noncomputable def g51_sh : List LSh := LSh.mk (((7, TV.v (Ty.int IntKind.i64)) : Nat × TV) :: ((8, TV.v (Ty.int IntKind.i64)) : Nat × TV) :: ((10, TV.v (Ty.int IntKind.i64)) : Nat × TV) :: ([] : List (Nat × TV))) ([] : List TB) :: ([] : List LSh)
noncomputable def con13 : Con := mkC 13 [.d I64, .d I64, .d I64, .d I64] [.bool] (fun (d a b m : Int) => []) (fun (d a b m : Int) => (true, ()))
noncomputable def g13_c0 (x0 x1 x2 : Int) : Bool := bif bif ieq (thirdX x0 x2 x1).2.1 (0 : Int) then ieq (thirdX x0 x1 (thirdX x0 x1 x2).1).2.1 (0 : Int) else false then ieq (thirdX x0 (thirdX x0 x1 x2).1 x2).2.1 (0 : Int) else false
noncomputable def g13_c1 (x0 x1 x2 x3 : Int) : Bool := bif bif g13_c0 x0 x1 x2 then ieq (thirdX x0 (addC x0 x1 (wr IntKind.i64 (Int.tmod (wr IntKind.u64 x3) (wr IntKind.u64 (sizeF x0))))) (addC x0 x2 (wr IntKind.i64 (Int.tmod (wr IntKind.u64 x3) (wr IntKind.u64 (sizeF x0)))))).2.1 (0 : Int) else false then ieq (setsX x0 (List.take (3 : Nat) (List.drop (0 : Nat) (sortL (x1 :: x2 :: (thirdX x0 x1 x2).1 :: ([] : List Int)))))).2.1 (0 : Int) else false
noncomputable def g13_c2 (x0 x1 x2 x3 : Int) (d4 : Int × Int × List Int × List Int × Unit) : Bool := bif bif g13_c1 x0 x1 x2 x3 then ieq (setsX x0 (List.take (List.length d4.2.2.2.1) (List.drop (0 : Nat) d4.2.2.2.1))).2.1 (0 : Int) else false then ieq (capX x0 (List.take (Int.toNat d4.1) (List.drop (0 : Nat) d4.2.2.1))).2.1 (0 : Int) else false
noncomputable def g13_c3 (x0 x1 x2 x3 : Int) : Bool := ieq (thirdX x0 (addC x0 x1 (wr IntKind.i64 (Int.tmod (wr IntKind.u64 x3) (wr IntKind.u64 (sizeF x0))))) (addC x0 x2 (wr IntKind.i64 (Int.tmod (wr IntKind.u64 x3) (wr IntKind.u64 (sizeF x0)))))).1 (addC x0 (thirdX x0 x1 x2).1 (wr IntKind.i64 (Int.tmod (wr IntKind.u64 x3) (wr IntKind.u64 (sizeF x0)))))
noncomputable def g13_c4 (x0 x1 x2 x3 : Int) (d4 : Int × Int × List Int × List Int × Unit) : Bool := bif bif bif bif g13_c2 x0 x1 x2 x3 d4 then ieq (thirdX x0 x2 x1).1 (thirdX x0 x1 x2).1 else false then ieq (thirdX x0 x1 (thirdX x0 x1 x2).1).1 x2 else false then ieq (thirdX x0 (thirdX x0 x1 x2).1 x2).1 x1 else false then g13_c3 x0 x1 x2 x3 else false
noncomputable def g13_c5 (x0 x1 x2 x3 : Int) (d4 : Int × Int × List Int × List Int × Unit) : Bool := bif g13_c4 x0 x1 x2 x3 d4 then ieq (setsX x0 (List.take (3 : Nat) (List.drop (0 : Nat) (sortL (x1 :: x2 :: (thirdX x0 x1 x2).1 :: ([] : List Int)))))).1 (1 : Int) else false
noncomputable def g13_c6 (x0 : Int) (d4 : Int × Int × List Int × List Int × Unit) : Bool := ieq (setsX x0 (List.take (List.length d4.2.2.2.1) (List.drop (0 : Nat) d4.2.2.2.1))).1 (wr IntKind.i64 (Int.tdiv (wr IntKind.i64 (sizeF x0 * wr IntKind.i64 (sizeF x0 - (1 : Int)))) (6 : Int)))
noncomputable def g13 (x0 x1 x2 x3 : Int) : Option (Bool × Unit) := bif !ieq (thirdX x0 x1 x2).2.1 (0 : Int) then gd (ieq (thirdX x0 x1 x2).2.1 (2 : Int) = true → ieq (thirdX x0 x1 x2).2.1 (2 : Int) = true) (some ((bif ieq (thirdX x0 x1 x2).2.1 (2 : Int) then true else false, ()) : Bool × Unit)) else gd ((!ilt (thirdX x0 x1 x2).1 (0 : Int)) = true → (!ilt (thirdX x0 x1 x2).1 (0 : Int)) = true ∧ (!ilt (thirdX x0 x1 x2).1 (0 : Int)) = true) (gd (ilt (thirdX x0 x1 x2).1 (0 : Int) = false → (!ilt (thirdX x0 x1 x2).1 (0 : Int)) = true) (gd ((!bif ilt (thirdX x0 x1 x2).1 (0 : Int) then true else ile (sizeF x0) (thirdX x0 x1 x2).1) = true → (!bif ilt (thirdX x0 x1 x2).1 (0 : Int) then true else ile (sizeF x0) (thirdX x0 x1 x2).1) = true ∧ (!bif ilt (thirdX x0 x1 x2).1 (0 : Int) then true else ile (sizeF x0) (thirdX x0 x1 x2).1) = true) (gd ((bif ilt (thirdX x0 x1 x2).1 (0 : Int) then true else ile (sizeF x0) (thirdX x0 x1 x2).1) = false → (!bif ilt (thirdX x0 x1 x2).1 (0 : Int) then true else ile (sizeF x0) (thirdX x0 x1 x2).1) = true) (gd ((!bif bif ilt (thirdX x0 x1 x2).1 (0 : Int) then true else ile (sizeF x0) (thirdX x0 x1 x2).1 then true else ieq (thirdX x0 x1 x2).1 x1) = true → (!bif bif ilt (thirdX x0 x1 x2).1 (0 : Int) then true else ile (sizeF x0) (thirdX x0 x1 x2).1 then true else ieq (thirdX x0 x1 x2).1 x1) = true ∧ (!bif bif ilt (thirdX x0 x1 x2).1 (0 : Int) then true else ile (sizeF x0) (thirdX x0 x1 x2).1 then true else ieq (thirdX x0 x1 x2).1 x1) = true) (gd ((bif bif ilt (thirdX x0 x1 x2).1 (0 : Int) then true else ile (sizeF x0) (thirdX x0 x1 x2).1 then true else ieq (thirdX x0 x1 x2).1 x1) = false → (!bif bif ilt (thirdX x0 x1 x2).1 (0 : Int) then true else ile (sizeF x0) (thirdX x0 x1 x2).1 then true else ieq (thirdX x0 x1 x2).1 x1) = true) (bif bif bif bif ilt (thirdX x0 x1 x2).1 (0 : Int) then true else ile (sizeF x0) (thirdX x0 x1 x2).1 then true else ieq (thirdX x0 x1 x2).1 x1 then true else ieq (thirdX x0 x1 x2).1 x2 then some ((false, ()) : Bool × Unit) else gd (wr IntKind.u64 (sizeF x0) ≠ (0 : Int)) (gd (isD x0 = true) (gd (cardP x1) (gd (cardP (wr IntKind.i64 (Int.tmod (wr IntKind.u64 x3) (wr IntKind.u64 (sizeF x0))))) (gd (isD x0 = true) (gd (cardP x2) (gd (cardP (wr IntKind.i64 (Int.tmod (wr IntKind.u64 x3) (wr IntKind.u64 (sizeF x0))))) (gd ((3 : Nat) = (3 : Nat)) (gd ((3 : Nat) = (3 : Nat)) (gd ((3 : Nat) < (4611686018427387904 : Nat)) (gd ((3 : Nat) ≤ List.length (sortL (x1 :: x2 :: (thirdX x0 x1 x2).1 :: ([] : List Int)))) (gd (small (List.take (3 : Nat) (List.drop (0 : Nat) (sortL (x1 :: x2 :: (thirdX x0 x1 x2).1 :: ([] : List Int)))))) (gd ((3 : Nat) = List.length (sortL (x1 :: x2 :: (thirdX x0 x1 x2).1 :: ([] : List Int))) - (0 : Nat)) (gd ((0 : Nat) = (0 : Nat)) (whileO (fun (d4 : Int × Int × List Int × List Int × Unit) => bif ilt d4.2.1 (sizeF x0) then gd (List.length d4.2.2.2.1 ≤ List.length d4.2.2.2.1) (gd ((List.length d4.2.2.2.1 + (1 : Nat)) * (8 : Nat) ≤ (1099511627776 : Nat)) (gd (List.length d4.2.2.2.1 + (1 : Nat) = List.length (List.take (List.length d4.2.2.2.1) d4.2.2.2.1 ++ d4.2.1 :: ([] : List Int))) (some (Lp.go (((↑(Int.toNat d4.1) : Int), wr IntKind.i64 (d4.2.1 + (1 : Int)), d4.2.2.1, List.take (List.length d4.2.2.2.1) d4.2.2.2.1 ++ d4.2.1 :: ([] : List Int), ()) : Int × Int × List Int × List Int × Unit))))) else gd ((0 : Nat) + List.length d4.2.2.2.1 ≤ List.length d4.2.2.2.1) (gd (small (List.take (List.length d4.2.2.2.1) (List.drop (0 : Nat) d4.2.2.2.1))) (gd ((0 : Nat) + Int.toNat d4.1 ≤ List.length d4.2.2.1) (gd (small (List.take (Int.toNat d4.1) (List.drop (0 : Nat) d4.2.2.1))) (gd (ieq (thirdX x0 x2 x1).2.1 (0 : Int) = true → ieq (thirdX x0 x2 x1).2.1 (0 : Int) = true) (gd (ieq (thirdX x0 x2 x1).2.1 (0 : Int) = true → ieq (thirdX x0 x2 x1).2.1 (0 : Int) = true) (gd ((bif ieq (thirdX x0 x2 x1).2.1 (0 : Int) then ieq (thirdX x0 x1 (thirdX x0 x1 x2).1).2.1 (0 : Int) else false) = true → (bif ieq (thirdX x0 x2 x1).2.1 (0 : Int) then ieq (thirdX x0 x1 (thirdX x0 x1 x2).1).2.1 (0 : Int) else false) = true) (gd ((bif ieq (thirdX x0 x2 x1).2.1 (0 : Int) then ieq (thirdX x0 x1 (thirdX x0 x1 x2).1).2.1 (0 : Int) else false) = true → (bif ieq (thirdX x0 x2 x1).2.1 (0 : Int) then ieq (thirdX x0 x1 (thirdX x0 x1 x2).1).2.1 (0 : Int) else false) = true) (gd (g13_c0 x0 x1 x2 = true → g13_c0 x0 x1 x2 = true) (gd (g13_c0 x0 x1 x2 = true → g13_c0 x0 x1 x2 = true) (gd ((bif g13_c0 x0 x1 x2 then ieq (thirdX x0 (addC x0 x1 (wr IntKind.i64 (Int.tmod (wr IntKind.u64 x3) (wr IntKind.u64 (sizeF x0))))) (addC x0 x2 (wr IntKind.i64 (Int.tmod (wr IntKind.u64 x3) (wr IntKind.u64 (sizeF x0)))))).2.1 (0 : Int) else false) = true → (bif g13_c0 x0 x1 x2 then ieq (thirdX x0 (addC x0 x1 (wr IntKind.i64 (Int.tmod (wr IntKind.u64 x3) (wr IntKind.u64 (sizeF x0))))) (addC x0 x2 (wr IntKind.i64 (Int.tmod (wr IntKind.u64 x3) (wr IntKind.u64 (sizeF x0)))))).2.1 (0 : Int) else false) = true) (gd ((bif g13_c0 x0 x1 x2 then ieq (thirdX x0 (addC x0 x1 (wr IntKind.i64 (Int.tmod (wr IntKind.u64 x3) (wr IntKind.u64 (sizeF x0))))) (addC x0 x2 (wr IntKind.i64 (Int.tmod (wr IntKind.u64 x3) (wr IntKind.u64 (sizeF x0)))))).2.1 (0 : Int) else false) = true → (bif g13_c0 x0 x1 x2 then ieq (thirdX x0 (addC x0 x1 (wr IntKind.i64 (Int.tmod (wr IntKind.u64 x3) (wr IntKind.u64 (sizeF x0))))) (addC x0 x2 (wr IntKind.i64 (Int.tmod (wr IntKind.u64 x3) (wr IntKind.u64 (sizeF x0)))))).2.1 (0 : Int) else false) = true) (gd (g13_c1 x0 x1 x2 x3 = true → g13_c1 x0 x1 x2 x3 = true) (gd (g13_c1 x0 x1 x2 x3 = true → g13_c1 x0 x1 x2 x3 = true) (gd ((bif g13_c1 x0 x1 x2 x3 then ieq (setsX x0 (List.take (List.length d4.2.2.2.1) (List.drop (0 : Nat) d4.2.2.2.1))).2.1 (0 : Int) else false) = true → (bif g13_c1 x0 x1 x2 x3 then ieq (setsX x0 (List.take (List.length d4.2.2.2.1) (List.drop (0 : Nat) d4.2.2.2.1))).2.1 (0 : Int) else false) = true) (gd ((bif g13_c1 x0 x1 x2 x3 then ieq (setsX x0 (List.take (List.length d4.2.2.2.1) (List.drop (0 : Nat) d4.2.2.2.1))).2.1 (0 : Int) else false) = true → (bif g13_c1 x0 x1 x2 x3 then ieq (setsX x0 (List.take (List.length d4.2.2.2.1) (List.drop (0 : Nat) d4.2.2.2.1))).2.1 (0 : Int) else false) = true) (gd (g13_c2 x0 x1 x2 x3 d4 = true → g13_c2 x0 x1 x2 x3 d4 = true ∧ g13_c2 x0 x1 x2 x3 d4 = true) (gd (g13_c2 x0 x1 x2 x3 d4 = true → g13_c2 x0 x1 x2 x3 d4 = true) (gd ((bif g13_c2 x0 x1 x2 x3 d4 then ieq (thirdX x0 x2 x1).1 (thirdX x0 x1 x2).1 else false) = true → (bif g13_c2 x0 x1 x2 x3 d4 then ieq (thirdX x0 x2 x1).1 (thirdX x0 x1 x2).1 else false) = true ∧ (bif g13_c2 x0 x1 x2 x3 d4 then ieq (thirdX x0 x2 x1).1 (thirdX x0 x1 x2).1 else false) = true) (gd ((bif g13_c2 x0 x1 x2 x3 d4 then ieq (thirdX x0 x2 x1).1 (thirdX x0 x1 x2).1 else false) = true → (bif g13_c2 x0 x1 x2 x3 d4 then ieq (thirdX x0 x2 x1).1 (thirdX x0 x1 x2).1 else false) = true) (gd ((bif bif g13_c2 x0 x1 x2 x3 d4 then ieq (thirdX x0 x2 x1).1 (thirdX x0 x1 x2).1 else false then ieq (thirdX x0 x1 (thirdX x0 x1 x2).1).1 x2 else false) = true → (bif bif g13_c2 x0 x1 x2 x3 d4 then ieq (thirdX x0 x2 x1).1 (thirdX x0 x1 x2).1 else false then ieq (thirdX x0 x1 (thirdX x0 x1 x2).1).1 x2 else false) = true ∧ (bif bif g13_c2 x0 x1 x2 x3 d4 then ieq (thirdX x0 x2 x1).1 (thirdX x0 x1 x2).1 else false then ieq (thirdX x0 x1 (thirdX x0 x1 x2).1).1 x2 else false) = true) (gd ((bif bif g13_c2 x0 x1 x2 x3 d4 then ieq (thirdX x0 x2 x1).1 (thirdX x0 x1 x2).1 else false then ieq (thirdX x0 x1 (thirdX x0 x1 x2).1).1 x2 else false) = true → (bif bif g13_c2 x0 x1 x2 x3 d4 then ieq (thirdX x0 x2 x1).1 (thirdX x0 x1 x2).1 else false then ieq (thirdX x0 x1 (thirdX x0 x1 x2).1).1 x2 else false) = true) (gd ((bif bif bif g13_c2 x0 x1 x2 x3 d4 then ieq (thirdX x0 x2 x1).1 (thirdX x0 x1 x2).1 else false then ieq (thirdX x0 x1 (thirdX x0 x1 x2).1).1 x2 else false then ieq (thirdX x0 (thirdX x0 x1 x2).1 x2).1 x1 else false) = true → (bif bif bif g13_c2 x0 x1 x2 x3 d4 then ieq (thirdX x0 x2 x1).1 (thirdX x0 x1 x2).1 else false then ieq (thirdX x0 x1 (thirdX x0 x1 x2).1).1 x2 else false then ieq (thirdX x0 (thirdX x0 x1 x2).1 x2).1 x1 else false) = true ∧ (bif bif bif g13_c2 x0 x1 x2 x3 d4 then ieq (thirdX x0 x2 x1).1 (thirdX x0 x1 x2).1 else false then ieq (thirdX x0 x1 (thirdX x0 x1 x2).1).1 x2 else false then ieq (thirdX x0 (thirdX x0 x1 x2).1 x2).1 x1 else false) = true ∧ (bif bif bif g13_c2 x0 x1 x2 x3 d4 then ieq (thirdX x0 x2 x1).1 (thirdX x0 x1 x2).1 else false then ieq (thirdX x0 x1 (thirdX x0 x1 x2).1).1 x2 else false then ieq (thirdX x0 (thirdX x0 x1 x2).1 x2).1 x1 else false) = true ∧ isD x0 = true ∧ cardP (thirdX x0 x1 x2).1 ∧ cardP (wr IntKind.i64 (Int.tmod (wr IntKind.u64 x3) (wr IntKind.u64 (sizeF x0))))) (gd ((bif bif bif g13_c2 x0 x1 x2 x3 d4 then ieq (thirdX x0 x2 x1).1 (thirdX x0 x1 x2).1 else false then ieq (thirdX x0 x1 (thirdX x0 x1 x2).1).1 x2 else false then ieq (thirdX x0 (thirdX x0 x1 x2).1 x2).1 x1 else false) = true → (bif bif bif g13_c2 x0 x1 x2 x3 d4 then ieq (thirdX x0 x2 x1).1 (thirdX x0 x1 x2).1 else false then ieq (thirdX x0 x1 (thirdX x0 x1 x2).1).1 x2 else false then ieq (thirdX x0 (thirdX x0 x1 x2).1 x2).1 x1 else false) = true ∧ (bif bif bif g13_c2 x0 x1 x2 x3 d4 then ieq (thirdX x0 x2 x1).1 (thirdX x0 x1 x2).1 else false then ieq (thirdX x0 x1 (thirdX x0 x1 x2).1).1 x2 else false then ieq (thirdX x0 (thirdX x0 x1 x2).1 x2).1 x1 else false) = true) (gd ((bif bif bif g13_c2 x0 x1 x2 x3 d4 then ieq (thirdX x0 x2 x1).1 (thirdX x0 x1 x2).1 else false then ieq (thirdX x0 x1 (thirdX x0 x1 x2).1).1 x2 else false then ieq (thirdX x0 (thirdX x0 x1 x2).1 x2).1 x1 else false) = true → (bif bif bif g13_c2 x0 x1 x2 x3 d4 then ieq (thirdX x0 x2 x1).1 (thirdX x0 x1 x2).1 else false then ieq (thirdX x0 x1 (thirdX x0 x1 x2).1).1 x2 else false then ieq (thirdX x0 (thirdX x0 x1 x2).1 x2).1 x1 else false) = true) (gd (g13_c4 x0 x1 x2 x3 d4 = true → g13_c4 x0 x1 x2 x3 d4 = true) (gd (g13_c4 x0 x1 x2 x3 d4 = true → g13_c4 x0 x1 x2 x3 d4 = true) (gd (g13_c5 x0 x1 x2 x3 d4 = true → g13_c5 x0 x1 x2 x3 d4 = true) (gd (g13_c5 x0 x1 x2 x3 d4 = true → g13_c5 x0 x1 x2 x3 d4 = true) (gd ((bif g13_c5 x0 x1 x2 x3 d4 then !(capX x0 (List.take (Int.toNat d4.1) (List.drop (0 : Nat) d4.2.2.1))).1 else false) = true → (bif g13_c5 x0 x1 x2 x3 d4 then !(capX x0 (List.take (Int.toNat d4.1) (List.drop (0 : Nat) d4.2.2.1))).1 else false) = true) (gd ((bif g13_c5 x0 x1 x2 x3 d4 then !(capX x0 (List.take (Int.toNat d4.1) (List.drop (0 : Nat) d4.2.2.1))).1 else false) = true → (bif g13_c5 x0 x1 x2 x3 d4 then !(capX x0 (List.take (Int.toNat d4.1) (List.drop (0 : Nat) d4.2.2.1))).1 else false) = true ∧ (bif g13_c5 x0 x1 x2 x3 d4 then !(capX x0 (List.take (Int.toNat d4.1) (List.drop (0 : Nat) d4.2.2.1))).1 else false) = true) (gd ((bif g13_c5 x0 x1 x2 x3 d4 then !(capX x0 (List.take (Int.toNat d4.1) (List.drop (0 : Nat) d4.2.2.1))).1 else false) = true → (bif g13_c5 x0 x1 x2 x3 d4 then !(capX x0 (List.take (Int.toNat d4.1) (List.drop (0 : Nat) d4.2.2.1))).1 else false) = true ∧ (6 : Int) ≠ (0 : Int)) (gd ((bif g13_c5 x0 x1 x2 x3 d4 then !(capX x0 (List.take (Int.toNat d4.1) (List.drop (0 : Nat) d4.2.2.1))).1 else false) = true → (bif g13_c5 x0 x1 x2 x3 d4 then !(capX x0 (List.take (Int.toNat d4.1) (List.drop (0 : Nat) d4.2.2.1))).1 else false) = true ∧ (bif g13_c5 x0 x1 x2 x3 d4 then !(capX x0 (List.take (Int.toNat d4.1) (List.drop (0 : Nat) d4.2.2.1))).1 else false) = true) (gd ((bif g13_c5 x0 x1 x2 x3 d4 then !(capX x0 (List.take (Int.toNat d4.1) (List.drop (0 : Nat) d4.2.2.1))).1 else false) = true → (bif g13_c5 x0 x1 x2 x3 d4 then !(capX x0 (List.take (Int.toNat d4.1) (List.drop (0 : Nat) d4.2.2.1))).1 else false) = true) (gd ((bif bif g13_c5 x0 x1 x2 x3 d4 then !(capX x0 (List.take (Int.toNat d4.1) (List.drop (0 : Nat) d4.2.2.1))).1 else false then g13_c6 x0 d4 else false) = true → (bif bif g13_c5 x0 x1 x2 x3 d4 then !(capX x0 (List.take (Int.toNat d4.1) (List.drop (0 : Nat) d4.2.2.1))).1 else false then g13_c6 x0 d4 else false) = true) (some (Lp.out ((bif bif bif g13_c5 x0 x1 x2 x3 d4 then !(capX x0 (List.take (Int.toNat d4.1) (List.drop (0 : Nat) d4.2.2.1))).1 else false then g13_c6 x0 d4 else false then true else false, ()) : Bool × Unit)))))))))))))))))))))))))))))))))))))) (((3 : Int), (0 : Int), sortL (x1 :: x2 :: (thirdX x0 x1 x2).1 :: ([] : List Int)), ([] : List Int), ()) : Int × Int × List Int × List Int × Unit)))))))))))))))))))))
noncomputable def g13_sh : List LSh := LSh.mk (((20, TV.sl (0) (1) (0)) : Nat × TV) :: ((23, TV.slf (1) (1)) : Nat × TV) :: ((115, TV.v (Ty.int IntKind.i64)) : Nat × TV) :: ([] : List (Nat × TV))) (TB.arr (Ty.int IntKind.i64) false :: TB.arr (Ty.int IntKind.i64) true :: ([] : List TB)) :: ([] : List LSh)


end Go.Caps

set_option linter.unusedVariables false
set_option linter.unusedSimpArgs false
namespace Go.Caps
open Go Go.Ab Go.Proofs

def dsum (g : Nat → Int) : Nat → Int
  | 0 => 0
  | n + 1 => dsum g n + g n * p3 n
def dig (x : Int) (i : Nat) : Int := x / p3 i % 3
def tri (x y : Int) : Int := (6 - x - y) % 3
theorem dig_bd (x : Int) (i : Nat) : 0 ≤ dig x i ∧ dig x i ≤ 2 := by unfold dig; omega
theorem tsum_d (a b : Int) : ∀ n, tsum n a b = dsum (fun i => tri (dig a i) (dig b i)) n
  | 0 => rfl
  | n + 1 => by simp only [tsum, dsum, tsum_d a b n]; rfl
theorem addN_d (a b : Int) : ∀ n, addN n a b = dsum (fun i => (dig a i + dig b i) % 3) n
  | 0 => rfl
  | n + 1 => by simp only [addN, dsum, addN_d a b n]; rfl
theorem dsum_congr {g h : Nat → Int} : ∀ {n : Nat}, (∀ i, i < n → g i = h i) → dsum g n = dsum h n
  | 0, _ => rfl
  | n + 1, e => by simp only [dsum, e n (by omega), dsum_congr (n := n) fun i hi => e i (by omega)]
theorem p3_pos : ∀ n, 0 < p3 n
  | 0 => by decide
  | n + 1 => by have := p3_pos n; simp only [p3]; omega
theorem p3_add (m : Nat) : ∀ k, p3 (m + k) = p3 m * p3 k
  | 0 => by simp [p3]
  | k + 1 => by rw [← Nat.add_assoc]; simp only [p3, p3_add m k, Int.mul_assoc]
theorem dsum_rng {g : Nat → Int} (h : ∀ i, 0 ≤ g i ∧ g i ≤ 2) : ∀ n, 0 ≤ dsum g n ∧ dsum g n < p3 n
  | 0 => by simp [dsum, p3]
  | n + 1 => by
    have h1 := dsum_rng h n
    have h2 := h n
    have h3 := p3_pos n
    have h4 : 0 ≤ g n * p3 n := Int.mul_nonneg h2.1 (by omega)
    have h5 : g n * p3 n ≤ 2 * p3 n := Int.mul_le_mul_of_nonneg_right h2.2 (by omega)
    simp only [dsum, p3]
    omega
theorem dsum_dig {g : Nat → Int} (h : ∀ i, 0 ≤ g i ∧ g i ≤ 2) : ∀ (n i : Nat), i < n → dig (dsum g n) i = g i
  | n + 1, i, hi => by
    have h1 := dsum_rng h n
    have h2 := h n
    have h3 := p3_pos n
    unfold dig
    simp only [dsum]
    by_cases e : i = n
    · subst e
      rw [Int.add_mul_ediv_right _ _ (by omega), Int.ediv_eq_zero_of_lt h1.1 h1.2]
      omega
    · have ih := dsum_dig h n i (by omega)
      unfold dig at ih
      obtain ⟨k, rfl⟩ : ∃ k, n = i + (k + 1) := ⟨n - i - 1, by omega⟩
      have hp := p3_pos i
      have e2 : g (i + (k + 1)) * p3 (i + (k + 1)) = (g (i + (k + 1)) * p3 k * 3) * p3 i := by
        rw [p3_add]; simp only [p3, Int.mul_comm, Int.mul_left_comm, Int.mul_assoc]
      rw [e2, Int.add_mul_ediv_right _ _ (by omega), Int.add_mul_emod_self_right]
      exact ih
theorem num_mod {x : Int} (h0 : 0 ≤ x) : ∀ n, dsum (dig x) n = x % p3 n
  | 0 => by simp [dsum, p3, Int.emod_one]
  | n + 1 => by
    have h3 := p3_pos n
    have e1 := Int.emod_add_mul_ediv x (p3 n)
    have r1 := Int.emod_nonneg x (b := p3 n) (by omega)
    have r2 := Int.emod_lt_of_pos x h3
    have e2 := Int.emod_add_mul_ediv (x / p3 n) 3
    have r3 : 0 ≤ x / p3 n % 3 ∧ x / p3 n % 3 ≤ 2 := by omega
    simp only [dsum, num_mod h0 n, p3, dig]
    have h4 : 0 ≤ x / p3 n % 3 * p3 n := Int.mul_nonneg r3.1 (by omega)
    have h5 : x / p3 n % 3 * p3 n ≤ 2 * p3 n := Int.mul_le_mul_of_nonneg_right r3.2 (by omega)
    have e3 : x = (x % p3 n + x / p3 n % 3 * p3 n) + p3 n * 3 * (x / p3 n / 3) := by
      generalize x % p3 n = r at *
      generalize x / p3 n = q at *
      generalize q % 3 = s at *
      generalize q / 3 = t at *
      subst e2
      rw [← e1, Int.mul_add, Int.mul_comm (p3 n) s, Int.mul_assoc]
      omega
    have e4 := congrArg (· % (p3 n * 3)) e3
    simp only [Int.add_mul_emod_self_left] at e4
    rw [e4]
    exact (Int.emod_eq_of_lt (by omega) (by omega)).symm
theorem num_dig {x : Int} {n : Nat} (h0 : 0 ≤ x) (h1 : x < p3 n) : dsum (dig x) n = x := by
  rw [num_mod h0, Int.emod_eq_of_lt h0 h1]
theorem tri_bd (x y : Int) : 0 ≤ tri x y ∧ tri x y ≤ 2 := by unfold tri; omega

theorem size_p3 {d : Int} (h : isD d = true) : sizeF d = p3 d.toNat := by
  rcases isD_cases h with rfl | rfl | rfl | rfl <;> rfl
section
variable {n : Nat} {a b m : Int}
theorem t_comm : tsum n a b = tsum n b a := by
  rw [tsum_d, tsum_d]
  exact dsum_congr fun i _ => by unfold tri; omega
theorem t_rng : 0 ≤ tsum n a b ∧ tsum n a b < p3 n := by rw [tsum_d]; exact dsum_rng (fun i => tri_bd _ _) n
theorem t_inv (hb : 0 ≤ b ∧ b < p3 n) : tsum n a (tsum n a b) = b := by
  rw [tsum_d a (tsum n a b)]
  refine Eq.trans (dsum_congr fun i hi => ?_) (num_dig (n := n) hb.1 hb.2)
  rw [tsum_d, dsum_dig (fun i => tri_bd _ _) n i hi]
  have h1 := dig_bd a i
  have h2 := dig_bd b i
  unfold tri
  omega
theorem t_self (ha : 0 ≤ a ∧ a < p3 n) : tsum n a a = a := by
  rw [tsum_d]
  refine Eq.trans (dsum_congr fun i hi => ?_) (num_dig (n := n) ha.1 ha.2)
  have h1 := dig_bd a i
  unfold tri
  omega
theorem t_ne (ha : 0 ≤ a ∧ a < p3 n) (hb : 0 ≤ b ∧ b < p3 n) (hab : a ≠ b) : tsum n a b ≠ a ∧ tsum n a b ≠ b := by
  constructor
  · intro h
    have := t_inv (n := n) (a := a) hb
    rw [h, t_self ha] at this
    exact hab this
  · intro h
    rw [t_comm] at h
    have := t_inv (n := n) (a := b) ha
    rw [h, t_self hb] at this
    exact hab this.symm
theorem ad_bd (x y : Int) : 0 ≤ (x + y) % 3 ∧ (x + y) % 3 ≤ 2 := by omega
theorem ad_rng : 0 ≤ addN n a b ∧ addN n a b < p3 n := by rw [addN_d]; exact dsum_rng (fun i => ad_bd _ _) n
theorem t_add : tsum n (addN n a m) (addN n b m) = addN n (tsum n a b) m := by
  rw [tsum_d, addN_d (tsum n a b)]
  refine dsum_congr fun i hi => ?_
  rw [addN_d, addN_d, dsum_dig (fun i => ad_bd _ _) n i hi, dsum_dig (fun i => ad_bd _ _) n i hi, tsum_d, dsum_dig (fun i => tri_bd _ _) n i hi]
  have h1 := dig_bd a i
  have h2 := dig_bd b i
  have h3 := dig_bd m i
  unfold tri
  omega
theorem ad_inj (ha : 0 ≤ a ∧ a < p3 n) (hb : 0 ≤ b ∧ b < p3 n) (h : addN n a m = addN n b m) : a = b := by
  rw [← num_dig ha.1 ha.2, ← num_dig hb.1 hb.2]
  refine dsum_congr fun i hi => ?_
  have e : dig (addN n a m) i = dig (addN n b m) i := by rw [h]
  rw [addN_d, addN_d, dsum_dig (fun i => ad_bd _ _) n i hi, dsum_dig (fun i => ad_bd _ _) n i hi] at e
  have h1 := dig_bd a i
  have h2 := dig_bd b i
  have h3 := dig_bd m i
  omega
end

theorem goal51 : con51.goal Try.prog (spOf []) g51_sh [] lm30 := by
  have e : (∀ (d a b : Int), isD d = true → cardP a → cardP b → g51 d a b = some (addC d a b, ())) = con51.goal Try.prog (spOf []) g51_sh [] lm30 := by kernel_rfl
  rw [← e]
  intro d a b hd ha hb
  have h4 := isD_iff.1 hd
  unfold cardP at ha hb
  unfold g51
  rw [show (((0 : Int), (1 : Int), (0 : Int), ()) : Int × Int × Int × Unit) = (addN 0 a b, p3 0, ((0 : Nat) : Int), ()) by simp [p3, addN]]
  refine whileO_nat (st := fun i : Nat => ((addN i a b, p3 i, (i : Int), ()) : Int × Int × Int × Unit)) (lo := 0) (hi := d.toNat) (Nat.zero_le _) ?_ ?_
  · intro i _ hi
    have h1 := p3_le (n := i) (by omega)
    have h2 := ad_rng (n := i) (a := a) (b := b)
    have qa : 0 ≤ a / p3 i ∧ a / p3 i ≤ 81 := ⟨Int.ediv_nonneg ha.1 (by omega), Int.le_trans (Int.ediv_le_self _ ha.1) (by omega)⟩
    have qb : 0 ≤ b / p3 i ∧ b / p3 i ≤ 81 := ⟨Int.ediv_nonneg hb.1 (by omega), Int.le_trans (Int.ediv_le_self _ hb.1) (by omega)⟩
    refine (cond_t (ilt_iff.2 (by simp only; omega))).trans ?_
    simp only [gd_pos (show (3 : Int) ≠ 0 by decide), gd_pos (show p3 i ≠ 0 by omega), addN, p3, cast1 (i := i) (by omega)]
    rw [Int.tdiv_eq_ediv_of_nonneg ha.1, Int.tdiv_eq_ediv_of_nonneg hb.1, wr_id (n := a / p3 i) (by omega), wr_id (n := b / p3 i) (by omega)]
    rw [Int.tmod_eq_emod_of_nonneg qa.1, Int.tmod_eq_emod_of_nonneg qb.1, wr_id (n := a / p3 i % 3 + b / p3 i % 3) (by omega), Int.tmod_eq_emod_of_nonneg (by omega)]
    have h3 := ad_bd (a / p3 i % 3) (b / p3 i % 3)
    generalize (a / p3 i % 3 + b / p3 i % 3) % 3 = g at h3
    have h4 : 0 ≤ g * p3 i := Int.mul_nonneg h3.1 (by omega)
    have h5 : g * p3 i ≤ 2 * p3 i := Int.mul_le_mul_of_nonneg_right (by omega) (by omega)
    rw [wr_id (n := g * p3 i) (by omega), wr_id (by omega), wr_id (by omega)]
  · refine (cond_f (ilt_false.2 (by simp only; omega))).trans rfl
set_option maxRecDepth 100000 in
theorem ok51 : con51.Ok Try.prog := Con.of_goal mixed okN con51 goal51
end Go.Caps

set_option linter.unusedVariables false
set_option linter.unusedSimpArgs false
namespace Go.Caps
open Go Go.Ab Go.Proofs

def rngL (n : Nat) : List Int := (List.range n).map (fun (b : Nat) => (b : Int))
theorem rngL_succ (n : Nat) : rngL (n + 1) = rngL n ++ [(n : Int)] := by
  unfold rngL
  rw [List.range_succ, List.map_append]
  rfl
theorem rngL_len (n : Nat) : (rngL n).length = n := by simp [rngL]
theorem rng_tab : ∀ d ∈ ([1, 2, 3, 4] : List Int), (ieq (setsF d (rngL (sizeF d).toNat)) (sizeF d * (sizeF d - 1) / 6) && okH d (rngL (sizeF d).toNat)) = true := by decide +kernel

/-- three cards each of which is the third of the other two are one set -/
theorem one_set {d x y z : Int} (hxy : x < y) (hyz : y < z) (h1 : thr d x y = z) (h2 : thr d x z = y) (h3 : thr d y z = x) : setsF d [x, y, z] = 1 := by
  have e1 : decide (z < y) = false := decide_eq_false (by omega)
  have e2 : decide (x < z) = true := decide_eq_true (by omega)
  have e3 : decide (y < x) = false := decide_eq_false (by omega)
  have e4 : decide (y < z) = true := decide_eq_true (by omega)
  have e5 : decide (z < x) = false := decide_eq_false (by omega)
  simp [setsF, setsN, List.countP_cons, h1, h2, h3, e1, e2, e3, e4, e5]
theorem sort3 {d a b c : Int} (hab : a ≠ b) (hac : a ≠ c) (hbc : b ≠ c) (h1 : thr d a b = c) (h2 : thr d a c = b) (h3 : thr d b c = a) (g1 : thr d b a = c) (g2 : thr d c a = b) (g3 : thr d c b = a) :
    setsF d (sortL [a, b, c]) = 1 := by
  have hnd : [a, b, c].Nodup := by simp [hab, hac, hbc]
  have hp := sortL_perm (l := [a, b, c])
  have hn : (sortL [a, b, c]).Nodup := hp.nodup_iff.2 hnd
  have hr := ris_pw (sort_ris hnd)
  have hl : (sortL [a, b, c]).length = 3 := by rw [sortL_len]; rfl
  generalize sortL [a, b, c] = l at hp hn hr hl
  match l, hl with
  | [x, y, z], _ =>
    have mx : x ∈ [a, b, c] := hp.mem_iff.1 (by simp)
    have my : y ∈ [a, b, c] := hp.mem_iff.1 (by simp)
    have mz : z ∈ [a, b, c] := hp.mem_iff.1 (by simp)
    simp only [List.pairwise_cons, List.mem_cons, List.not_mem_nil, or_false, forall_eq_or_imp, forall_eq] at hr
    obtain ⟨⟨r1, r2⟩, r3, _⟩ := hr
    simp only [List.mem_cons, List.not_mem_nil, or_false] at mx my mz
    rcases mx with rfl | rfl | rfl <;> rcases my with rfl | rfl | rfl <;> rcases mz with rfl | rfl | rfl <;> first | exact absurd r1 (Int.lt_irrefl _) | exact absurd r2 (Int.lt_irrefl _) | exact absurd r3 (Int.lt_irrefl _) | exact one_set r1 r3 (by assumption) (by assumption) (by assumption)

theorem goal13 : con13.goal Try.prog (spS [sortCon 52 false] [con17, con18, con20, con23, con29, con51]) g13_sh (List.range 120) lm30 := by
  have e : (∀ (d a b m : Int), g13 d a b m = some (true, ())) = con13.goal Try.prog (spS [sortCon 52 false] [con17, con18, con20, con23, con29, con51]) g13_sh (List.range 120) lm30 := by kernel_rfl
  rw [← e]
  intro d a b q
  have i0 : ieq 0 0 = true := rfl
  have i2 : ieq 2 2 = true := rfl
  by_cases h : isD d = true ∧ inC (sizeF d) a = true ∧ inC (sizeF d) b = true ∧ a ≠ b
  · obtain ⟨hd, ha, hb, hab⟩ := h
    have h4 := isD_iff.1 hd
    have hs := size_p3 hd
    have hp := p3_le (n := d.toNat) (by omega)
    have ha' : 0 ≤ a ∧ a < sizeF d := by simpa [inC] using ha
    have hb' : 0 ≤ b ∧ b < sizeF d := by simpa [inC] using hb
    rw [hs] at ha' hb'
    have hX : thirdX d a b = (thr d a b, 0, ()) := by rw [thirdX, if_pos ⟨hd, ha, hb, hab⟩]
    have hc := t_rng (n := d.toNat) (a := a) (b := b)
    have hne := t_ne ha' hb' hab
    generalize hc0 : thr d a b = c at hX
    have hcc : tsum d.toNat a b = c := hc0
    rw [hcc] at hc hne
    have hC : inC (sizeF d) c = true := by rw [hs]; simp [inC, hc.1, hc.2]
    have k1 : thr d b a = c := by unfold thr; rw [t_comm]; exact hcc
    have k2 : thr d a c = b := by unfold thr; rw [← hcc]; exact t_inv hb'
    have k3 : thr d c a = b := by unfold thr; rw [t_comm]; exact k2
    have k4 : thr d b c = a := by unfold thr; rw [← hcc, t_comm (a := a)]; exact t_inv ha'
    have k5 : thr d c b = a := by unfold thr; rw [t_comm]; exact k4
    have hX1 : thirdX d b a = (c, 0, ()) := by rw [thirdX, if_pos ⟨hd, hb, ha, fun e => hab e.symm⟩, k1]
    have hX2 : thirdX d a c = (b, 0, ()) := by rw [thirdX, if_pos ⟨hd, ha, hC, fun e => hne.1 e.symm⟩, k2]
    have hX3 : thirdX d c b = (a, 0, ()) := by rw [thirdX, if_pos ⟨hd, hC, hb, hne.2⟩, k5]
    have hs81 : sizeF d ≤ 81 ∧ 3 ≤ sizeF d := by
      rcases isD_cases hd with rfl | rfl | rfl | rfl <;> decide
    have hu : wr .u64 (sizeF d) = sizeF d := by show IntKind.u64.wrap _ = _; rw [IntKind.wrap_u64]; omega
    have hnz : sizeF d ≠ 0 := by omega
    have hqr : 0 ≤ wr .i64 (Int.tmod (wr .u64 q) (sizeF d)) ∧ wr .i64 (Int.tmod (wr .u64 q) (sizeF d)) < sizeF d := by
      have hw : 0 ≤ wr .u64 q := by
        show 0 ≤ IntKind.u64.wrap q
        rw [IntKind.wrap_u64]; exact Int.emod_nonneg _ (by omega)
      rw [Int.tmod_eq_emod_of_nonneg hw]
      have m1 : 0 ≤ wr .u64 q % sizeF d := Int.emod_nonneg _ hnz
      have m2 : wr .u64 q % sizeF d < sizeF d := Int.emod_lt_of_pos _ (by omega)
      rw [wr_id (by omega)]
      omega
    generalize hq : wr .i64 (Int.tmod (wr .u64 q) (sizeF d)) = m at hqr
    have inA : ∀ x, inC (sizeF d) (addC d x m) = true := fun x => by
      have := ad_rng (n := d.toNat) (a := x) (b := m)
      rw [hs]; simp [inC, addC, this.1, this.2]
    have hX4 : thirdX d (addC d a m) (addC d b m) = (addC d c m, 0, ()) := by
      rw [thirdX, if_pos ⟨hd, inA a, inA b, fun e => hab (ad_inj ha' hb' e)⟩]
      have : thr d (addC d a m) (addC d b m) = addC d c m := by
        unfold thr addC
        rw [t_add, hcc]
      rw [this]
    have cA : cardP a ∧ cardP b ∧ cardP c ∧ cardP m := by unfold cardP; omega
    -- the three cards
    have hnd : [a, b, c].Nodup := by simp [hab, Ne.symm hne.1, Ne.symm hne.2]
    have hok3 : okH d (sortL [a, b, c]) = true := by
      simp only [okH, Bool.and_eq_true, sort_ris hnd, hd, true_and, and_true, List.all_eq_true]
      intro x hx
      have := mem_sort.1 hx
      simp only [List.mem_cons, List.not_mem_nil, or_false] at this
      rcases this with rfl | rfl | rfl
      · exact ha
      · exact hb
      · exact hC
    have hS3 : setsX d (sortL [a, b, c]) = (1, 0, ()) := by
      rw [setsX, if_pos hok3, sort3 hab (Ne.symm hne.1) (Ne.symm hne.2) hc0 k2 k4 k1 k3 k5]
    have hK3 : capX d (sortL [a, b, c]) = (false, 0, ()) := by
      rw [capX, if_pos hok3, sort3 hab (Ne.symm hne.1) (Ne.symm hne.2) hc0 k2 k4 k1 k3 k5]
      rfl
    have hlen3 : (sortL [a, b, c]).length = 3 := by rw [sortL_len]; rfl
    have ht3 : List.take 3 (sortL [a, b, c]) = sortL [a, b, c] := List.take_of_length_le (by omega)
    -- all cards
    have hrt := rng_tab d (by rcases isD_cases hd with rfl | rfl | rfl | rfl <;> simp)
    rw [Bool.and_eq_true] at hrt
    have hSA : setsX d (rngL (sizeF d).toNat) = (sizeF d * (sizeF d - 1) / 6, 0, ()) := by
      rw [setsX, if_pos hrt.2, ieq_iff.1 hrt.1]
    have hM : wr .i64 (Int.tdiv (wr .i64 (sizeF d * wr .i64 (sizeF d - 1))) 6) = sizeF d * (sizeF d - 1) / 6 := by
      rcases isD_cases hd with rfl | rfl | rfl | rfl <;> decide +kernel
    have hsm3 : small (sortL [a, b, c]) := by unfold small; omega
    have ir : ∀ x : Int, ieq x x = true := fun x => ieq_iff.2 rfl
    have c0 : ilt c 0 = false := ilt_false.2 hc.1
    have c1 : ile (sizeF d) c = false := by
      rw [Bool.eq_false_iff]; intro h
      have : sizeF d ≤ c := by simpa [ile] using h
      omega
    have c2 : ieq c a = false := by rw [Bool.eq_false_iff]; intro h; exact hne.1 (ieq_iff.1 h)
    have c3 : ieq c b = false := by rw [Bool.eq_false_iff]; intro h; exact hne.2 (ieq_iff.1 h)
    unfold g13
    simp only [hX, hX1, hX2, hX3, i0, Bool.not_true, cond_false, cond_true, c0, c1, c2, c3, hu, hq]
    simp only [gd_true, hnz, hd, cA, true_implies, implies_true, imp_self, Bool.not_false, Bool.not_true, and_self, ne_eq, not_false_eq_true, hlen3, Nat.le_refl, show (3 : Nat) < 4611686018427387904 from by decide, List.length_cons, List.length_nil]
    rw [List.drop_zero, ht3, gd_pos hsm3]
    have hN : ((sizeF d).toNat : Int) = sizeF d := Int.toNat_of_nonneg (by omega)
    refine whileO_nat (st := fun i : Nat => (((3 : Int), (i : Int), sortL [a, b, c], rngL i, ()) : Int × Int × List Int × List Int × Unit)) (lo := 0) (hi := (sizeF d).toNat) (Nat.zero_le _) ?_ ?_
    · intro i _ hi
      have hl := rngL_len i
      refine (cond_t (ilt_iff.2 (by simp only; omega))).trans ?_
      simp only [hl, List.take_of_length_le (Nat.le_of_eq hl)]
      rw [gd_pos (by omega), gd_pos (by simp [hl]), cast1 (by omega), ← rngL_succ]
      rfl
    · have hl := rngL_len (sizeF d).toNat
      have hsA : small (rngL (sizeF d).toNat) := by unfold small; omega
      refine (cond_f (ilt_false.2 (by simp only; omega))).trans ?_
      have b0 : g13_c0 d a b = true := by unfold g13_c0; simp [hX, hX1, hX2, hX3, i0]
      have b1 : g13_c1 d a b q = true := by unfold g13_c1; simp [b0, hu, hq, hX4, hX, ht3, hS3, i0]
      have b2 : g13_c2 d a b q ((3, ((sizeF d).toNat : Int), sortL [a, b, c], rngL (sizeF d).toNat, ()) : Int × Int × List Int × List Int × Unit) = true := by
        unfold g13_c2
        simp only [hl, List.drop_zero, List.take_of_length_le (Nat.le_of_eq hl), b1, hSA, show Int.toNat 3 = 3 from rfl, ht3, hK3, i0]
        rfl
      have b3 : g13_c3 d a b q = true := by unfold g13_c3; simp only [hu, hq, hX4, hX]; exact ir _
      have b4 : g13_c4 d a b q ((3, ((sizeF d).toNat : Int), sortL [a, b, c], rngL (sizeF d).toNat, ()) : Int × Int × List Int × List Int × Unit) = true := by
        unfold g13_c4
        simp only [b2, b3, hX, hX1, hX2, hX3, ir]
        rfl
      have b5 : g13_c5 d a b q ((3, ((sizeF d).toNat : Int), sortL [a, b, c], rngL (sizeF d).toNat, ()) : Int × Int × List Int × List Int × Unit) = true := by
        unfold g13_c5
        simp only [b4, hX, List.drop_zero, ht3, hS3]
        rfl
      have b6 : g13_c6 d ((3, ((sizeF d).toNat : Int), sortL [a, b, c], rngL (sizeF d).toNat, ()) : Int × Int × List Int × List Int × Unit) = true := by
        unfold g13_c6
        simp only [hl, List.drop_zero, List.take_of_length_le (Nat.le_of_eq hl), hSA, hM]
        exact ir _
      simp only [hl, List.drop_zero, List.take_of_length_le (Nat.le_of_eq hl), b2, b5, b6, show Int.toNat 3 = 3 from rfl, ht3, hK3, hlen3, hsm3, hsA, ir, gd_true, Nat.zero_add, Nat.le_refl, Bool.not_false, cond_true, and_self, true_implies, imp_self, show ¬ ((6 : Int) = 0) from by decide, not_false_eq_true]
  · have hX : thirdX d a b = (0, 2, ()) := by rw [thirdX, if_neg h]
    unfold g13
    rw [hX]
    simp [gd_true, ieq_d]
set_option maxRecDepth 100000 in
theorem ok13 : con13.Ok Try.prog := Con.of_goalS mixed (okC ok17 (okC ok18 (okC ok20 (okC ok23 (okC ok29 (okC ok51 okN)))))) (okS (ok52 false) okS0) con13 goal13
end Go.Caps
