/- Kostka and Rule: contracts of the counting closures. -/
import Derived.Test.YtobghbapmlnmoaaXB
set_option linter.unusedVariables false
set_option linter.unusedSimpArgs false
namespace Go.Schur
open Go Go.Ab Go.Proofs

noncomputable def con72 : Con := mkC 72 [.d LLI] [.bool] (fun (rows : List (List Int)) => []) (fun (rows : List (List Int)) => (true, ()))
noncomputable def g72 (x0 : List (List Int)) : Option (Bool × Unit) := some ((true, ()) : Bool × Unit)
noncomputable def g72_sh : List LSh := ([] : List LSh)
/-! Reading rows from right to left. -/
abbrev P109 (f : Nat) : List TB := [.nest I64, .cells [.fn f .nil], .cells [.v I64]]
noncomputable def con109b : SCon := mkS 109 [.slf 0 1, .ref 1 1 0 0, .ref 2 1 0 0] (P109 72) [.v .bool] (P109 72) (fun (rows : List (List Int)) (out : Int) => [0 ≤ out ∧ out ≤ 500000000]) (fun (rows : List (List Int)) (out : Int) => (true, rows, out + 1, ()))
noncomputable def g109b (x0 : List (List Int)) (x1 : Int) : Option (Bool × List (List Int) × Int × Unit) := gd ((0 : Nat) + List.length x0 ≤ List.length x0) (some ((true, x0, wr IntKind.i64 (x1 + (1 : Int)), ()) : Bool × List (List Int) × Int × Unit))
noncomputable def g109b_sh : List LSh := ([] : List LSh)

abbrev F109 (j : Nat) : TV := .fn 109 (.cons (.ref j 1 0 0) (.cons (.ref (j + 1) 1 0 0) .nil))
abbrev P77b (f : Nat) : List TB := [.cells [.v LI, .v LI, .slf 3 1, .v I64, .slf 4 1], .cells [.fn f .nil], .cells [.v I64], .arr I64 true, .nest I64]
abbrev Q77b (f : Nat) : List TB := [.cells [.v LI, .v LI, .slf 3 1, .v I64, .slf 5 1], .cells [.fn f .nil], .cells [.v I64], .arr I64 true, .dead, .nest I64]
def preB (n : Nat) (inner outer left : List Int) (most : Int) (rows : List (List Int)) (out : Int) : Prop := preM n inner outer left most false rows ∧ 0 ≤ out ∧ out + (fil inner outer most false n left rows).length ≤ 500000000
def filB (inner outer : List Int) (most : Int) (n : Nat) (left : List Int) (rows : List (List Int)) : Int := (fil inner outer most false n left rows).length
noncomputable def con77b (n : Nat) : SCon := mkS 77 [.ref 0 1 0 0, F109 1] (P77b 72) [.v .bool] (Q77b 72) (fun (inner outer : List Int) (most : Int) (out : Int) (left : List Int) (rows : List (List Int)) => [preB n inner outer left most rows out]) (fun (inner outer : List Int) (most : Int) (out : Int) (left : List Int) (rows : List (List Int)) => (true, inner, outer, most, out + filB inner outer most n left rows, left, rows, ()))
noncomputable def g77b_c0 (x0 : List Int) (x5 : List (List Int)) : Int := wr IntKind.i64 (rowF x0 (wr IntKind.i64 ((↑(List.length x5) : Int) - (1 : Int))) + (↑(List.length (List.getD x5 ((0 : Nat) + Int.toNat (wr IntKind.i64 ((↑(List.length x5) : Int) - (1 : Int)))) ([] : List Int))) : Int))
noncomputable def g77b_c1 (x0 x1 : List Int) (x5 : List (List Int)) : Bool := bif ilt (wr IntKind.i64 ((↑(List.length x5) : Int) - (1 : Int))) (0 : Int) then true else ieq (g77b_c0 x0 x5) (rowF x1 (wr IntKind.i64 ((↑(List.length x5) : Int) - (1 : Int))))
noncomputable def g77b_c2 (x0 : List Int) (x5 : List (List Int)) : Int := atF x0 (List.take (List.length x5) (List.drop (0 : Nat) x5)) (wr IntKind.i64 (wr IntKind.i64 ((↑(List.length x5) : Int) - (1 : Int)) - (1 : Int))) (g77b_c0 x0 x5)
noncomputable def g77b_c3 (x5 : List (List Int)) : Bool := ilt (0 : Int) (↑(List.length (List.getD x5 ((0 : Nat) + Int.toNat (wr IntKind.i64 ((↑(List.length x5) : Int) - (1 : Int)))) ([] : List Int))) : Int)
noncomputable def g77b_c4 (x0 : List Int) (x5 : List (List Int)) : Int := atF x0 (List.take (List.length x5) (List.drop (0 : Nat) x5)) (wr IntKind.i64 ((↑(List.length x5) : Int) - (1 : Int))) (wr IntKind.i64 (g77b_c0 x0 x5 - (1 : Int)))
noncomputable def g77b_c5 (d7 : Int × List Int × List Int × Int × Int × List Int × List (List Int) × Unit) : Bool := ieq (List.getD d7.2.2.2.2.2.1 ((0 : Nat) + Int.toNat (wr IntKind.i64 (d7.1 - (1 : Int)))) (0 : Int)) (0 : Int)
noncomputable def g77b_c6 (d7 : Int × List Int × List Int × Int × Int × List Int × List (List Int) × Unit) : Int := wr IntKind.i64 (List.getD d7.2.2.2.2.2.1 ((0 : Nat) + Int.toNat (wr IntKind.i64 (d7.1 - (1 : Int)))) (0 : Int) - (1 : Int))
noncomputable def g77b_c7 (x5 : List (List Int)) (d7 : Int × List Int × List Int × Int × Int × List Int × List (List Int) × Unit) : Int := (↑(List.length (List.getD (List.set d7.2.2.2.2.2.2.1 ((0 : Nat) + Int.toNat (wr IntKind.i64 ((↑(List.length x5) : Int) - (1 : Int)))) (List.take (List.length (List.getD d7.2.2.2.2.2.2.1 ((0 : Nat) + Int.toNat (wr IntKind.i64 ((↑(List.length x5) : Int) - (1 : Int)))) ([] : List Int))) (List.getD d7.2.2.2.2.2.2.1 ((0 : Nat) + Int.toNat (wr IntKind.i64 ((↑(List.length x5) : Int) - (1 : Int)))) ([] : List Int)) ++ d7.1 :: ([] : List Int))) ((0 : Nat) + Int.toNat (wr IntKind.i64 ((↑(List.length x5) : Int) - (1 : Int)))) ([] : List Int))) : Int)
noncomputable def g77b_c8 (d7 : Int × List Int × List Int × Int × Int × List Int × List (List Int) × Unit) : Int := List.getD (List.set d7.2.2.2.2.2.1 ((0 : Nat) + Int.toNat (wr IntKind.i64 (d7.1 - (1 : Int)))) (g77b_c6 d7)) ((0 : Nat) + Int.toNat (wr IntKind.i64 (d7.1 - (1 : Int)))) (0 : Int)
noncomputable def g77b_c9 (d7 : Int × List Int × List Int × Int × Int × List Int × List (List Int) × Unit) : Bool := ieq (List.getD d7.2.2.2.2.2.1 ((0 : Nat) + Int.toNat (wr IntKind.i64 (d7.1 - (1 : Int)))) (0 : Int)) (0 : Int)
noncomputable def g77b_c10 (d7 : Int × List Int × List Int × Int × Int × List Int × List (List Int) × Unit) : Int := wr IntKind.i64 (List.getD d7.2.2.2.2.2.1 ((0 : Nat) + Int.toNat (wr IntKind.i64 (d7.1 - (1 : Int)))) (0 : Int) - (1 : Int))
noncomputable def g77b_c11 (x5 : List (List Int)) (d7 : Int × List Int × List Int × Int × Int × List Int × List (List Int) × Unit) : Int := (↑(List.length (List.getD (List.set d7.2.2.2.2.2.2.1 ((0 : Nat) + Int.toNat (wr IntKind.i64 ((↑(List.length x5) : Int) - (1 : Int)))) (List.take (List.length (List.getD d7.2.2.2.2.2.2.1 ((0 : Nat) + Int.toNat (wr IntKind.i64 ((↑(List.length x5) : Int) - (1 : Int)))) ([] : List Int))) (List.getD d7.2.2.2.2.2.2.1 ((0 : Nat) + Int.toNat (wr IntKind.i64 ((↑(List.length x5) : Int) - (1 : Int)))) ([] : List Int)) ++ d7.1 :: ([] : List Int))) ((0 : Nat) + Int.toNat (wr IntKind.i64 ((↑(List.length x5) : Int) - (1 : Int)))) ([] : List Int))) : Int)
noncomputable def g77b_c12 (d7 : Int × List Int × List Int × Int × Int × List Int × List (List Int) × Unit) : Int := List.getD (List.set d7.2.2.2.2.2.1 ((0 : Nat) + Int.toNat (wr IntKind.i64 (d7.1 - (1 : Int)))) (g77b_c10 d7)) ((0 : Nat) + Int.toNat (wr IntKind.i64 (d7.1 - (1 : Int)))) (0 : Int)
noncomputable def g77b (n : Nat) (x0 x1 : List Int) (x2 x3 : Int) (x4 : List Int) (x5 : List (List Int)) : Option (Bool × List Int × List Int × Int × Int × List Int × List (List Int) × Unit) := gd ((!ilt (wr IntKind.i64 ((↑(List.length x5) : Int) - (1 : Int))) (0 : Int)) = true → (!ilt (wr IntKind.i64 ((↑(List.length x5) : Int) - (1 : Int))) (0 : Int)) = true) (gd ((!ilt (wr IntKind.i64 ((↑(List.length x5) : Int) - (1 : Int))) (0 : Int)) = true → (!ilt (wr IntKind.i64 ((↑(List.length x5) : Int) - (1 : Int))) (0 : Int)) = true) (gd ((!ilt (wr IntKind.i64 ((↑(List.length x5) : Int) - (1 : Int))) (0 : Int)) = true → (!ilt (wr IntKind.i64 ((↑(List.length x5) : Int) - (1 : Int))) (0 : Int)) = true) (gd ((!ilt (wr IntKind.i64 ((↑(List.length x5) : Int) - (1 : Int))) (0 : Int)) = true → (!ilt (wr IntKind.i64 ((↑(List.length x5) : Int) - (1 : Int))) (0 : Int)) = true ∧ (!ilt (wr IntKind.i64 ((↑(List.length x5) : Int) - (1 : Int))) (0 : Int)) = true ∧ (0 : Int) ≤ wr IntKind.i64 ((↑(List.length x5) : Int) - (1 : Int)) ∧ List.length x0 ≤ (1000 : Nat)) (gd ((!ilt (wr IntKind.i64 ((↑(List.length x5) : Int) - (1 : Int))) (0 : Int)) = true → (!ilt (wr IntKind.i64 ((↑(List.length x5) : Int) - (1 : Int))) (0 : Int)) = true) (gd ((!ilt (wr IntKind.i64 ((↑(List.length x5) : Int) - (1 : Int))) (0 : Int)) = true → (!ilt (wr IntKind.i64 ((↑(List.length x5) : Int) - (1 : Int))) (0 : Int)) = true) (gd ((!ilt (wr IntKind.i64 ((↑(List.length x5) : Int) - (1 : Int))) (0 : Int)) = true → (!ilt (wr IntKind.i64 ((↑(List.length x5) : Int) - (1 : Int))) (0 : Int)) = true) (gd ((!ilt (wr IntKind.i64 ((↑(List.length x5) : Int) - (1 : Int))) (0 : Int)) = true → (!ilt (wr IntKind.i64 ((↑(List.length x5) : Int) - (1 : Int))) (0 : Int)) = true ∧ (!ilt (wr IntKind.i64 ((↑(List.length x5) : Int) - (1 : Int))) (0 : Int)) = true ∧ (0 : Int) ≤ wr IntKind.i64 ((↑(List.length x5) : Int) - (1 : Int)) ∧ wr IntKind.i64 ((↑(List.length x5) : Int) - (1 : Int)) < (↑(List.length x5) : Int)) (gd ((!ilt (wr IntKind.i64 ((↑(List.length x5) : Int) - (1 : Int))) (0 : Int)) = true → (!ilt (wr IntKind.i64 ((↑(List.length x5) : Int) - (1 : Int))) (0 : Int)) = true ∧ (0 : Nat) + Int.toNat (wr IntKind.i64 ((↑(List.length x5) : Int) - (1 : Int))) < List.length x5) (gd ((!ilt (wr IntKind.i64 ((↑(List.length x5) : Int) - (1 : Int))) (0 : Int)) = true → (!ilt (wr IntKind.i64 ((↑(List.length x5) : Int) - (1 : Int))) (0 : Int)) = true) (gd ((!ilt (wr IntKind.i64 ((↑(List.length x5) : Int) - (1 : Int))) (0 : Int)) = true → (!ilt (wr IntKind.i64 ((↑(List.length x5) : Int) - (1 : Int))) (0 : Int)) = true ∧ (!ilt (wr IntKind.i64 ((↑(List.length x5) : Int) - (1 : Int))) (0 : Int)) = true) (gd ((!ilt (wr IntKind.i64 ((↑(List.length x5) : Int) - (1 : Int))) (0 : Int)) = true → (!ilt (wr IntKind.i64 ((↑(List.length x5) : Int) - (1 : Int))) (0 : Int)) = true) (gd ((!ilt (wr IntKind.i64 ((↑(List.length x5) : Int) - (1 : Int))) (0 : Int)) = true → (!ilt (wr IntKind.i64 ((↑(List.length x5) : Int) - (1 : Int))) (0 : Int)) = true) (gd ((!ilt (wr IntKind.i64 ((↑(List.length x5) : Int) - (1 : Int))) (0 : Int)) = true → (!ilt (wr IntKind.i64 ((↑(List.length x5) : Int) - (1 : Int))) (0 : Int)) = true) (gd ((!ilt (wr IntKind.i64 ((↑(List.length x5) : Int) - (1 : Int))) (0 : Int)) = true → (!ilt (wr IntKind.i64 ((↑(List.length x5) : Int) - (1 : Int))) (0 : Int)) = true ∧ (!ilt (wr IntKind.i64 ((↑(List.length x5) : Int) - (1 : Int))) (0 : Int)) = true ∧ (0 : Int) ≤ wr IntKind.i64 ((↑(List.length x5) : Int) - (1 : Int)) ∧ List.length x1 ≤ (1000 : Nat)) (gd ((!ilt (wr IntKind.i64 ((↑(List.length x5) : Int) - (1 : Int))) (0 : Int)) = true → (!ilt (wr IntKind.i64 ((↑(List.length x5) : Int) - (1 : Int))) (0 : Int)) = true ∧ (!ilt (wr IntKind.i64 ((↑(List.length x5) : Int) - (1 : Int))) (0 : Int)) = true) (gd (ilt (wr IntKind.i64 ((↑(List.length x5) : Int) - (1 : Int))) (0 : Int) = false → (!ilt (wr IntKind.i64 ((↑(List.length x5) : Int) - (1 : Int))) (0 : Int)) = true) (bif g77b_c1 x0 x1 x5 then bif ieq (wr IntKind.i64 (wr IntKind.i64 ((↑(List.length x5) : Int) - (1 : Int)) + (1 : Int))) (↑(List.length x1) : Int) then gd (List.length x5 = List.length x5) (gd ((0 : Int) ≤ x3 ∧ x3 ≤ (500000000 : Int)) (gd (List.length x4 = List.length x4) (gd (List.length x5 = List.length x5) (some ((true, x0, x1, x2, x3 + (1 : Int), x4, x5, ()) : Bool × List Int × List Int × Int × Int × List Int × List (List Int) × Unit))))) else gd ((0 : Nat) = (0 : Nat)) (gd (List.length x5 ≤ List.length x5) (gd ((List.length x5 + (1 : Nat)) * (24 : Nat) ≤ (1099511627776 : Nat)) (gd (List.length x4 = List.length x4) (gd (List.length x5 + (1 : Nat) = List.length (List.take (List.length x5) x5 ++ ([] : List Int) :: ([] : List (List Int)))) (gd (preB n x0 x1 x4 x2 (List.take (List.length x5) x5 ++ ([] : List Int) :: ([] : List (List Int))) x3) (gd ((0 : Int) ≤ wr IntKind.i64 (wr IntKind.i64 ((↑(List.length x5) : Int) - (1 : Int)) + (1 : Int)) ∧ wr IntKind.i64 (wr IntKind.i64 ((↑(List.length x5) : Int) - (1 : Int)) + (1 : Int)) ≤ (↑(List.length (List.take (List.length x5) x5 ++ ([] : List Int) :: ([] : List (List Int)))) : Int)) (gd (List.length x4 = List.length x4) (gd (Int.toNat (wr IntKind.i64 (wr IntKind.i64 ((↑(List.length x5) : Int) - (1 : Int)) + (1 : Int))) = List.length (List.take (Int.toNat (wr IntKind.i64 (wr IntKind.i64 ((↑(List.length x5) : Int) - (1 : Int)) + (1 : Int)))) (List.take (List.length x5) x5 ++ ([] : List Int) :: ([] : List (List Int))))) (some ((true, x0, x1, x2, x3 + filB x0 x1 x2 n x4 (List.take (List.length x5) x5 ++ ([] : List Int) :: ([] : List (List Int))), x4, List.take (Int.toNat (wr IntKind.i64 (wr IntKind.i64 ((↑(List.length x5) : Int) - (1 : Int)) + (1 : Int)))) (List.take (List.length x5) x5 ++ ([] : List Int) :: ([] : List (List Int))), ()) : Bool × List Int × List Int × Int × Int × List Int × List (List Int) × Unit)))))))))) else gd ((0 : Int) ≤ wr IntKind.i64 ((↑(List.length x5) : Int) - (1 : Int)) ∧ List.length x0 ≤ (1000 : Nat)) (gd ((0 : Int) ≤ wr IntKind.i64 ((↑(List.length x5) : Int) - (1 : Int)) ∧ wr IntKind.i64 ((↑(List.length x5) : Int) - (1 : Int)) < (↑(List.length x5) : Int)) (gd ((0 : Nat) + Int.toNat (wr IntKind.i64 ((↑(List.length x5) : Int) - (1 : Int))) < List.length x5) (gd ((0 : Nat) + List.length x4 ≤ List.length x4) (gd ((0 : Nat) + List.length x5 ≤ List.length x5) (gd (atP x0 (List.take (List.length x5) (List.drop (0 : Nat) x5)) (wr IntKind.i64 (wr IntKind.i64 ((↑(List.length x5) : Int) - (1 : Int)) - (1 : Int))) (g77b_c0 x0 x5)) (gd ((0 : Int) ≤ wr IntKind.i64 ((↑(List.length x5) : Int) - (1 : Int)) ∧ wr IntKind.i64 ((↑(List.length x5) : Int) - (1 : Int)) < (↑(List.length x5) : Int)) (gd ((0 : Nat) + Int.toNat (wr IntKind.i64 ((↑(List.length x5) : Int) - (1 : Int))) < List.length x5) (bif g77b_c3 x5 then gd ((0 : Nat) + List.length x4 ≤ List.length x4) (gd ((0 : Nat) + List.length x5 ≤ List.length x5) (gd (atP x0 (List.take (List.length x5) (List.drop (0 : Nat) x5)) (wr IntKind.i64 ((↑(List.length x5) : Int) - (1 : Int))) (wr IntKind.i64 (g77b_c0 x0 x5 - (1 : Int)))) (gd (List.length x4 = List.length x4) (gd (List.length x5 = List.length x5) (whileO (fun (d7 : Int × List Int × List Int × Int × Int × List Int × List (List Int) × Unit) => bif ile d7.1 d7.2.2.2.1 then gd (¬List.length d7.2.2.2.2.2.1 = (0 : Nat)) (gd ((0 : Int) ≤ wr IntKind.i64 (d7.1 - (1 : Int)) ∧ wr IntKind.i64 (d7.1 - (1 : Int)) < (↑(List.length d7.2.2.2.2.2.1) : Int)) (gd ((0 : Nat) + Int.toNat (wr IntKind.i64 (d7.1 - (1 : Int))) < List.length d7.2.2.2.2.2.1) (bif g77b_c5 d7 then gd (List.length d7.2.2.2.2.2.1 = List.length d7.2.2.2.2.2.1) (gd (List.length d7.2.2.2.2.2.2.1 = List.length d7.2.2.2.2.2.2.1) (some (Lp.go ((wr IntKind.i64 (d7.1 + (1 : Int)), d7.2.1, d7.2.2.1, d7.2.2.2.1, d7.2.2.2.2.1, d7.2.2.2.2.2.1, d7.2.2.2.2.2.2.1, ()) : Int × List Int × List Int × Int × Int × List Int × List (List Int) × Unit)))) else gd ((0 : Int) ≤ wr IntKind.i64 (d7.1 - (1 : Int)) ∧ wr IntKind.i64 (d7.1 - (1 : Int)) < (↑(List.length d7.2.2.2.2.2.1) : Int)) (gd ((0 : Nat) + Int.toNat (wr IntKind.i64 (d7.1 - (1 : Int))) < List.length d7.2.2.2.2.2.1) (gd ((0 : Int) ≤ wr IntKind.i64 (d7.1 - (1 : Int)) ∧ wr IntKind.i64 (d7.1 - (1 : Int)) < (↑(List.length d7.2.2.2.2.2.1) : Int)) (gd ((0 : Nat) + Int.toNat (wr IntKind.i64 (d7.1 - (1 : Int))) < List.length d7.2.2.2.2.2.1) (gd ((0 : Int) ≤ wr IntKind.i64 ((↑(List.length x5) : Int) - (1 : Int)) ∧ wr IntKind.i64 ((↑(List.length x5) : Int) - (1 : Int)) < (↑(List.length d7.2.2.2.2.2.2.1) : Int)) (gd ((0 : Nat) + Int.toNat (wr IntKind.i64 ((↑(List.length x5) : Int) - (1 : Int))) < List.length d7.2.2.2.2.2.2.1) (gd ((0 : Nat) + Int.toNat (wr IntKind.i64 ((↑(List.length x5) : Int) - (1 : Int))) < List.length d7.2.2.2.2.2.2.1) (gd (List.length (List.getD d7.2.2.2.2.2.2.1 ((0 : Nat) + Int.toNat (wr IntKind.i64 ((↑(List.length x5) : Int) - (1 : Int)))) ([] : List Int)) ≤ List.length (List.getD d7.2.2.2.2.2.2.1 ((0 : Nat) + Int.toNat (wr IntKind.i64 ((↑(List.length x5) : Int) - (1 : Int)))) ([] : List Int))) (gd ((List.length (List.getD d7.2.2.2.2.2.2.1 ((0 : Nat) + Int.toNat (wr IntKind.i64 ((↑(List.length x5) : Int) - (1 : Int)))) ([] : List Int)) + (1 : Nat)) * (8 : Nat) ≤ (1099511627776 : Nat)) (gd ((0 : Int) ≤ wr IntKind.i64 ((↑(List.length x5) : Int) - (1 : Int)) ∧ wr IntKind.i64 ((↑(List.length x5) : Int) - (1 : Int)) < (↑(List.length d7.2.2.2.2.2.2.1) : Int)) (gd ((0 : Nat) + Int.toNat (wr IntKind.i64 ((↑(List.length x5) : Int) - (1 : Int))) < List.length (List.set d7.2.2.2.2.2.2.1 ((0 : Nat) + Int.toNat (wr IntKind.i64 ((↑(List.length x5) : Int) - (1 : Int)))) (List.take (List.length (List.getD d7.2.2.2.2.2.2.1 ((0 : Nat) + Int.toNat (wr IntKind.i64 ((↑(List.length x5) : Int) - (1 : Int)))) ([] : List Int))) (List.getD d7.2.2.2.2.2.2.1 ((0 : Nat) + Int.toNat (wr IntKind.i64 ((↑(List.length x5) : Int) - (1 : Int)))) ([] : List Int)) ++ d7.1 :: ([] : List Int)))) (gd ((0 : Nat) + Int.toNat (wr IntKind.i64 ((↑(List.length x5) : Int) - (1 : Int))) = (0 : Nat) + Int.toNat (wr IntKind.i64 ((↑(List.length x5) : Int) - (1 : Int)))) (gd ((0 : Nat) + Int.toNat (wr IntKind.i64 ((↑(List.length x5) : Int) - (1 : Int))) = (0 : Nat) + Int.toNat (wr IntKind.i64 ((↑(List.length x5) : Int) - (1 : Int)))) (gd (List.length (List.getD d7.2.2.2.2.2.2.1 ((0 : Nat) + Int.toNat (wr IntKind.i64 ((↑(List.length x5) : Int) - (1 : Int)))) ([] : List Int)) + (1 : Nat) = List.length (List.getD (List.set d7.2.2.2.2.2.2.1 ((0 : Nat) + Int.toNat (wr IntKind.i64 ((↑(List.length x5) : Int) - (1 : Int)))) (List.take (List.length (List.getD d7.2.2.2.2.2.2.1 ((0 : Nat) + Int.toNat (wr IntKind.i64 ((↑(List.length x5) : Int) - (1 : Int)))) ([] : List Int))) (List.getD d7.2.2.2.2.2.2.1 ((0 : Nat) + Int.toNat (wr IntKind.i64 ((↑(List.length x5) : Int) - (1 : Int)))) ([] : List Int)) ++ d7.1 :: ([] : List Int))) ((0 : Nat) + Int.toNat (wr IntKind.i64 ((↑(List.length x5) : Int) - (1 : Int)))) ([] : List Int))) (gd (List.length d7.2.2.2.2.2.1 = List.length (List.set d7.2.2.2.2.2.1 ((0 : Nat) + Int.toNat (wr IntKind.i64 (d7.1 - (1 : Int)))) (g77b_c6 d7))) (gd (List.length d7.2.2.2.2.2.2.1 = List.length (List.set d7.2.2.2.2.2.2.1 ((0 : Nat) + Int.toNat (wr IntKind.i64 ((↑(List.length x5) : Int) - (1 : Int)))) (List.take (List.length (List.getD d7.2.2.2.2.2.2.1 ((0 : Nat) + Int.toNat (wr IntKind.i64 ((↑(List.length x5) : Int) - (1 : Int)))) ([] : List Int))) (List.getD d7.2.2.2.2.2.2.1 ((0 : Nat) + Int.toNat (wr IntKind.i64 ((↑(List.length x5) : Int) - (1 : Int)))) ([] : List Int)) ++ d7.1 :: ([] : List Int)))) (gd (preB n d7.2.1 d7.2.2.1 (List.set d7.2.2.2.2.2.1 ((0 : Nat) + Int.toNat (wr IntKind.i64 (d7.1 - (1 : Int)))) (g77b_c6 d7)) d7.2.2.2.1 (List.set d7.2.2.2.2.2.2.1 ((0 : Nat) + Int.toNat (wr IntKind.i64 ((↑(List.length x5) : Int) - (1 : Int)))) (List.take (List.length (List.getD d7.2.2.2.2.2.2.1 ((0 : Nat) + Int.toNat (wr IntKind.i64 ((↑(List.length x5) : Int) - (1 : Int)))) ([] : List Int))) (List.getD d7.2.2.2.2.2.2.1 ((0 : Nat) + Int.toNat (wr IntKind.i64 ((↑(List.length x5) : Int) - (1 : Int)))) ([] : List Int)) ++ d7.1 :: ([] : List Int))) d7.2.2.2.2.1) (gd ((0 : Int) ≤ wr IntKind.i64 ((↑(List.length x5) : Int) - (1 : Int)) ∧ wr IntKind.i64 ((↑(List.length x5) : Int) - (1 : Int)) < (↑(List.length (List.set d7.2.2.2.2.2.2.1 ((0 : Nat) + Int.toNat (wr IntKind.i64 ((↑(List.length x5) : Int) - (1 : Int)))) (List.take (List.length (List.getD d7.2.2.2.2.2.2.1 ((0 : Nat) + Int.toNat (wr IntKind.i64 ((↑(List.length x5) : Int) - (1 : Int)))) ([] : List Int))) (List.getD d7.2.2.2.2.2.2.1 ((0 : Nat) + Int.toNat (wr IntKind.i64 ((↑(List.length x5) : Int) - (1 : Int)))) ([] : List Int)) ++ d7.1 :: ([] : List Int)))) : Int)) (gd ((0 : Nat) + Int.toNat (wr IntKind.i64 ((↑(List.length x5) : Int) - (1 : Int))) < List.length (List.set d7.2.2.2.2.2.2.1 ((0 : Nat) + Int.toNat (wr IntKind.i64 ((↑(List.length x5) : Int) - (1 : Int)))) (List.take (List.length (List.getD d7.2.2.2.2.2.2.1 ((0 : Nat) + Int.toNat (wr IntKind.i64 ((↑(List.length x5) : Int) - (1 : Int)))) ([] : List Int))) (List.getD d7.2.2.2.2.2.2.1 ((0 : Nat) + Int.toNat (wr IntKind.i64 ((↑(List.length x5) : Int) - (1 : Int)))) ([] : List Int)) ++ d7.1 :: ([] : List Int)))) (gd ((0 : Int) ≤ wr IntKind.i64 ((↑(List.length x5) : Int) - (1 : Int)) ∧ wr IntKind.i64 ((↑(List.length x5) : Int) - (1 : Int)) < (↑(List.length (List.set d7.2.2.2.2.2.2.1 ((0 : Nat) + Int.toNat (wr IntKind.i64 ((↑(List.length x5) : Int) - (1 : Int)))) (List.take (List.length (List.getD d7.2.2.2.2.2.2.1 ((0 : Nat) + Int.toNat (wr IntKind.i64 ((↑(List.length x5) : Int) - (1 : Int)))) ([] : List Int))) (List.getD d7.2.2.2.2.2.2.1 ((0 : Nat) + Int.toNat (wr IntKind.i64 ((↑(List.length x5) : Int) - (1 : Int)))) ([] : List Int)) ++ d7.1 :: ([] : List Int)))) : Int)) (gd ((0 : Nat) + Int.toNat (wr IntKind.i64 ((↑(List.length x5) : Int) - (1 : Int))) < List.length (List.set d7.2.2.2.2.2.2.1 ((0 : Nat) + Int.toNat (wr IntKind.i64 ((↑(List.length x5) : Int) - (1 : Int)))) (List.take (List.length (List.getD d7.2.2.2.2.2.2.1 ((0 : Nat) + Int.toNat (wr IntKind.i64 ((↑(List.length x5) : Int) - (1 : Int)))) ([] : List Int))) (List.getD d7.2.2.2.2.2.2.1 ((0 : Nat) + Int.toNat (wr IntKind.i64 ((↑(List.length x5) : Int) - (1 : Int)))) ([] : List Int)) ++ d7.1 :: ([] : List Int)))) (gd ((0 : Int) ≤ wr IntKind.i64 (g77b_c7 x5 d7 - (1 : Int)) ∧ wr IntKind.i64 (g77b_c7 x5 d7 - (1 : Int)) ≤ (↑(List.length (List.getD (List.set d7.2.2.2.2.2.2.1 ((0 : Nat) + Int.toNat (wr IntKind.i64 ((↑(List.length x5) : Int) - (1 : Int)))) (List.take (List.length (List.getD d7.2.2.2.2.2.2.1 ((0 : Nat) + Int.toNat (wr IntKind.i64 ((↑(List.length x5) : Int) - (1 : Int)))) ([] : List Int))) (List.getD d7.2.2.2.2.2.2.1 ((0 : Nat) + Int.toNat (wr IntKind.i64 ((↑(List.length x5) : Int) - (1 : Int)))) ([] : List Int)) ++ d7.1 :: ([] : List Int))) ((0 : Nat) + Int.toNat (wr IntKind.i64 ((↑(List.length x5) : Int) - (1 : Int)))) ([] : List Int))) : Int)) (gd ((0 : Int) ≤ wr IntKind.i64 ((↑(List.length x5) : Int) - (1 : Int)) ∧ wr IntKind.i64 ((↑(List.length x5) : Int) - (1 : Int)) < (↑(List.length (List.set d7.2.2.2.2.2.2.1 ((0 : Nat) + Int.toNat (wr IntKind.i64 ((↑(List.length x5) : Int) - (1 : Int)))) (List.take (List.length (List.getD d7.2.2.2.2.2.2.1 ((0 : Nat) + Int.toNat (wr IntKind.i64 ((↑(List.length x5) : Int) - (1 : Int)))) ([] : List Int))) (List.getD d7.2.2.2.2.2.2.1 ((0 : Nat) + Int.toNat (wr IntKind.i64 ((↑(List.length x5) : Int) - (1 : Int)))) ([] : List Int)) ++ d7.1 :: ([] : List Int)))) : Int)) (gd ((0 : Nat) + Int.toNat (wr IntKind.i64 ((↑(List.length x5) : Int) - (1 : Int))) < List.length (List.set d7.2.2.2.2.2.2.1 ((0 : Nat) + Int.toNat (wr IntKind.i64 ((↑(List.length x5) : Int) - (1 : Int)))) (List.take (List.length (List.getD d7.2.2.2.2.2.2.1 ((0 : Nat) + Int.toNat (wr IntKind.i64 ((↑(List.length x5) : Int) - (1 : Int)))) ([] : List Int))) (List.getD d7.2.2.2.2.2.2.1 ((0 : Nat) + Int.toNat (wr IntKind.i64 ((↑(List.length x5) : Int) - (1 : Int)))) ([] : List Int)) ++ d7.1 :: ([] : List Int)))) (gd ((0 : Nat) + Int.toNat (wr IntKind.i64 ((↑(List.length x5) : Int) - (1 : Int))) = (0 : Nat) + Int.toNat (wr IntKind.i64 ((↑(List.length x5) : Int) - (1 : Int)))) (gd (Int.toNat (wr IntKind.i64 (g77b_c7 x5 d7 - (1 : Int))) ≤ List.length (List.getD (List.set d7.2.2.2.2.2.2.1 ((0 : Nat) + Int.toNat (wr IntKind.i64 ((↑(List.length x5) : Int) - (1 : Int)))) (List.take (List.length (List.getD d7.2.2.2.2.2.2.1 ((0 : Nat) + Int.toNat (wr IntKind.i64 ((↑(List.length x5) : Int) - (1 : Int)))) ([] : List Int))) (List.getD d7.2.2.2.2.2.2.1 ((0 : Nat) + Int.toNat (wr IntKind.i64 ((↑(List.length x5) : Int) - (1 : Int)))) ([] : List Int)) ++ d7.1 :: ([] : List Int))) ((0 : Nat) + Int.toNat (wr IntKind.i64 ((↑(List.length x5) : Int) - (1 : Int)))) ([] : List Int))) (gd (¬List.length (List.set d7.2.2.2.2.2.1 ((0 : Nat) + Int.toNat (wr IntKind.i64 (d7.1 - (1 : Int)))) (g77b_c6 d7)) = (0 : Nat)) (gd ((0 : Int) ≤ wr IntKind.i64 (d7.1 - (1 : Int)) ∧ wr IntKind.i64 (d7.1 - (1 : Int)) < (↑(List.length (List.set d7.2.2.2.2.2.1 ((0 : Nat) + Int.toNat (wr IntKind.i64 (d7.1 - (1 : Int)))) (g77b_c6 d7))) : Int)) (gd ((0 : Nat) + Int.toNat (wr IntKind.i64 (d7.1 - (1 : Int))) < List.length (List.set d7.2.2.2.2.2.1 ((0 : Nat) + Int.toNat (wr IntKind.i64 (d7.1 - (1 : Int)))) (g77b_c6 d7))) (gd ((0 : Int) ≤ wr IntKind.i64 (d7.1 - (1 : Int)) ∧ wr IntKind.i64 (d7.1 - (1 : Int)) < (↑(List.length (List.set d7.2.2.2.2.2.1 ((0 : Nat) + Int.toNat (wr IntKind.i64 (d7.1 - (1 : Int)))) (g77b_c6 d7))) : Int)) (gd ((0 : Nat) + Int.toNat (wr IntKind.i64 (d7.1 - (1 : Int))) < List.length (List.set d7.2.2.2.2.2.1 ((0 : Nat) + Int.toNat (wr IntKind.i64 (d7.1 - (1 : Int)))) (g77b_c6 d7))) (gd (List.length (List.set d7.2.2.2.2.2.1 ((0 : Nat) + Int.toNat (wr IntKind.i64 (d7.1 - (1 : Int)))) (g77b_c6 d7)) = List.length (List.set (List.set d7.2.2.2.2.2.1 ((0 : Nat) + Int.toNat (wr IntKind.i64 (d7.1 - (1 : Int)))) (g77b_c6 d7)) ((0 : Nat) + Int.toNat (wr IntKind.i64 (d7.1 - (1 : Int)))) (wr IntKind.i64 (g77b_c8 d7 + (1 : Int))))) (gd (List.length (List.set d7.2.2.2.2.2.2.1 ((0 : Nat) + Int.toNat (wr IntKind.i64 ((↑(List.length x5) : Int) - (1 : Int)))) (List.take (List.length (List.getD d7.2.2.2.2.2.2.1 ((0 : Nat) + Int.toNat (wr IntKind.i64 ((↑(List.length x5) : Int) - (1 : Int)))) ([] : List Int))) (List.getD d7.2.2.2.2.2.2.1 ((0 : Nat) + Int.toNat (wr IntKind.i64 ((↑(List.length x5) : Int) - (1 : Int)))) ([] : List Int)) ++ d7.1 :: ([] : List Int))) = List.length (List.set (List.set d7.2.2.2.2.2.2.1 ((0 : Nat) + Int.toNat (wr IntKind.i64 ((↑(List.length x5) : Int) - (1 : Int)))) (List.take (List.length (List.getD d7.2.2.2.2.2.2.1 ((0 : Nat) + Int.toNat (wr IntKind.i64 ((↑(List.length x5) : Int) - (1 : Int)))) ([] : List Int))) (List.getD d7.2.2.2.2.2.2.1 ((0 : Nat) + Int.toNat (wr IntKind.i64 ((↑(List.length x5) : Int) - (1 : Int)))) ([] : List Int)) ++ d7.1 :: ([] : List Int))) ((0 : Nat) + Int.toNat (wr IntKind.i64 ((↑(List.length x5) : Int) - (1 : Int)))) (List.take (Int.toNat (wr IntKind.i64 (g77b_c7 x5 d7 - (1 : Int)))) (List.getD (List.set d7.2.2.2.2.2.2.1 ((0 : Nat) + Int.toNat (wr IntKind.i64 ((↑(List.length x5) : Int) - (1 : Int)))) (List.take (List.length (List.getD d7.2.2.2.2.2.2.1 ((0 : Nat) + Int.toNat (wr IntKind.i64 ((↑(List.length x5) : Int) - (1 : Int)))) ([] : List Int))) (List.getD d7.2.2.2.2.2.2.1 ((0 : Nat) + Int.toNat (wr IntKind.i64 ((↑(List.length x5) : Int) - (1 : Int)))) ([] : List Int)) ++ d7.1 :: ([] : List Int))) ((0 : Nat) + Int.toNat (wr IntKind.i64 ((↑(List.length x5) : Int) - (1 : Int)))) ([] : List Int))))) (some (Lp.go ((wr IntKind.i64 (d7.1 + (1 : Int)), d7.2.1, d7.2.2.1, d7.2.2.2.1, d7.2.2.2.2.1 + filB d7.2.1 d7.2.2.1 d7.2.2.2.1 n (List.set d7.2.2.2.2.2.1 ((0 : Nat) + Int.toNat (wr IntKind.i64 (d7.1 - (1 : Int)))) (g77b_c6 d7)) (List.set d7.2.2.2.2.2.2.1 ((0 : Nat) + Int.toNat (wr IntKind.i64 ((↑(List.length x5) : Int) - (1 : Int)))) (List.take (List.length (List.getD d7.2.2.2.2.2.2.1 ((0 : Nat) + Int.toNat (wr IntKind.i64 ((↑(List.length x5) : Int) - (1 : Int)))) ([] : List Int))) (List.getD d7.2.2.2.2.2.2.1 ((0 : Nat) + Int.toNat (wr IntKind.i64 ((↑(List.length x5) : Int) - (1 : Int)))) ([] : List Int)) ++ d7.1 :: ([] : List Int))), List.set (List.set d7.2.2.2.2.2.1 ((0 : Nat) + Int.toNat (wr IntKind.i64 (d7.1 - (1 : Int)))) (g77b_c6 d7)) ((0 : Nat) + Int.toNat (wr IntKind.i64 (d7.1 - (1 : Int)))) (wr IntKind.i64 (g77b_c8 d7 + (1 : Int))), List.set (List.set d7.2.2.2.2.2.2.1 ((0 : Nat) + Int.toNat (wr IntKind.i64 ((↑(List.length x5) : Int) - (1 : Int)))) (List.take (List.length (List.getD d7.2.2.2.2.2.2.1 ((0 : Nat) + Int.toNat (wr IntKind.i64 ((↑(List.length x5) : Int) - (1 : Int)))) ([] : List Int))) (List.getD d7.2.2.2.2.2.2.1 ((0 : Nat) + Int.toNat (wr IntKind.i64 ((↑(List.length x5) : Int) - (1 : Int)))) ([] : List Int)) ++ d7.1 :: ([] : List Int))) ((0 : Nat) + Int.toNat (wr IntKind.i64 ((↑(List.length x5) : Int) - (1 : Int)))) (List.take (Int.toNat (wr IntKind.i64 (g77b_c7 x5 d7 - (1 : Int)))) (List.getD (List.set d7.2.2.2.2.2.2.1 ((0 : Nat) + Int.toNat (wr IntKind.i64 ((↑(List.length x5) : Int) - (1 : Int)))) (List.take (List.length (List.getD d7.2.2.2.2.2.2.1 ((0 : Nat) + Int.toNat (wr IntKind.i64 ((↑(List.length x5) : Int) - (1 : Int)))) ([] : List Int))) (List.getD d7.2.2.2.2.2.2.1 ((0 : Nat) + Int.toNat (wr IntKind.i64 ((↑(List.length x5) : Int) - (1 : Int)))) ([] : List Int)) ++ d7.1 :: ([] : List Int))) ((0 : Nat) + Int.toNat (wr IntKind.i64 ((↑(List.length x5) : Int) - (1 : Int)))) ([] : List Int))), ()) : Int × List Int × List Int × Int × Int × List Int × List (List Int) × Unit)))))))))))))))))))))))))))))))))))))) else gd (List.length d7.2.2.2.2.2.1 = List.length d7.2.2.2.2.2.1) (gd (List.length d7.2.2.2.2.2.2.1 = List.length d7.2.2.2.2.2.2.1) (some (Lp.out ((true, d7.2.1, d7.2.2.1, d7.2.2.2.1, d7.2.2.2.2.1, d7.2.2.2.2.2.1, d7.2.2.2.2.2.2.1, ()) : Bool × List Int × List Int × Int × Int × List Int × List (List Int) × Unit))))) ((imax (imax (1 : Int) (wr IntKind.i64 (g77b_c2 x0 x5 + (1 : Int)))) (g77b_c4 x0 x5), x0, x1, x2, x3, x4, x5, ()) : Int × List Int × List Int × Int × Int × List Int × List (List Int) × Unit)))))) else gd (List.length x4 = List.length x4) (gd (List.length x5 = List.length x5) (whileO (fun (d7 : Int × List Int × List Int × Int × Int × List Int × List (List Int) × Unit) => bif ile d7.1 d7.2.2.2.1 then gd (¬List.length d7.2.2.2.2.2.1 = (0 : Nat)) (gd ((0 : Int) ≤ wr IntKind.i64 (d7.1 - (1 : Int)) ∧ wr IntKind.i64 (d7.1 - (1 : Int)) < (↑(List.length d7.2.2.2.2.2.1) : Int)) (gd ((0 : Nat) + Int.toNat (wr IntKind.i64 (d7.1 - (1 : Int))) < List.length d7.2.2.2.2.2.1) (bif g77b_c9 d7 then gd (List.length d7.2.2.2.2.2.1 = List.length d7.2.2.2.2.2.1) (gd (List.length d7.2.2.2.2.2.2.1 = List.length d7.2.2.2.2.2.2.1) (some (Lp.go ((wr IntKind.i64 (d7.1 + (1 : Int)), d7.2.1, d7.2.2.1, d7.2.2.2.1, d7.2.2.2.2.1, d7.2.2.2.2.2.1, d7.2.2.2.2.2.2.1, ()) : Int × List Int × List Int × Int × Int × List Int × List (List Int) × Unit)))) else gd ((0 : Int) ≤ wr IntKind.i64 (d7.1 - (1 : Int)) ∧ wr IntKind.i64 (d7.1 - (1 : Int)) < (↑(List.length d7.2.2.2.2.2.1) : Int)) (gd ((0 : Nat) + Int.toNat (wr IntKind.i64 (d7.1 - (1 : Int))) < List.length d7.2.2.2.2.2.1) (gd ((0 : Int) ≤ wr IntKind.i64 (d7.1 - (1 : Int)) ∧ wr IntKind.i64 (d7.1 - (1 : Int)) < (↑(List.length d7.2.2.2.2.2.1) : Int)) (gd ((0 : Nat) + Int.toNat (wr IntKind.i64 (d7.1 - (1 : Int))) < List.length d7.2.2.2.2.2.1) (gd ((0 : Int) ≤ wr IntKind.i64 ((↑(List.length x5) : Int) - (1 : Int)) ∧ wr IntKind.i64 ((↑(List.length x5) : Int) - (1 : Int)) < (↑(List.length d7.2.2.2.2.2.2.1) : Int)) (gd ((0 : Nat) + Int.toNat (wr IntKind.i64 ((↑(List.length x5) : Int) - (1 : Int))) < List.length d7.2.2.2.2.2.2.1) (gd ((0 : Nat) + Int.toNat (wr IntKind.i64 ((↑(List.length x5) : Int) - (1 : Int))) < List.length d7.2.2.2.2.2.2.1) (gd (List.length (List.getD d7.2.2.2.2.2.2.1 ((0 : Nat) + Int.toNat (wr IntKind.i64 ((↑(List.length x5) : Int) - (1 : Int)))) ([] : List Int)) ≤ List.length (List.getD d7.2.2.2.2.2.2.1 ((0 : Nat) + Int.toNat (wr IntKind.i64 ((↑(List.length x5) : Int) - (1 : Int)))) ([] : List Int))) (gd ((List.length (List.getD d7.2.2.2.2.2.2.1 ((0 : Nat) + Int.toNat (wr IntKind.i64 ((↑(List.length x5) : Int) - (1 : Int)))) ([] : List Int)) + (1 : Nat)) * (8 : Nat) ≤ (1099511627776 : Nat)) (gd ((0 : Int) ≤ wr IntKind.i64 ((↑(List.length x5) : Int) - (1 : Int)) ∧ wr IntKind.i64 ((↑(List.length x5) : Int) - (1 : Int)) < (↑(List.length d7.2.2.2.2.2.2.1) : Int)) (gd ((0 : Nat) + Int.toNat (wr IntKind.i64 ((↑(List.length x5) : Int) - (1 : Int))) < List.length (List.set d7.2.2.2.2.2.2.1 ((0 : Nat) + Int.toNat (wr IntKind.i64 ((↑(List.length x5) : Int) - (1 : Int)))) (List.take (List.length (List.getD d7.2.2.2.2.2.2.1 ((0 : Nat) + Int.toNat (wr IntKind.i64 ((↑(List.length x5) : Int) - (1 : Int)))) ([] : List Int))) (List.getD d7.2.2.2.2.2.2.1 ((0 : Nat) + Int.toNat (wr IntKind.i64 ((↑(List.length x5) : Int) - (1 : Int)))) ([] : List Int)) ++ d7.1 :: ([] : List Int)))) (gd ((0 : Nat) + Int.toNat (wr IntKind.i64 ((↑(List.length x5) : Int) - (1 : Int))) = (0 : Nat) + Int.toNat (wr IntKind.i64 ((↑(List.length x5) : Int) - (1 : Int)))) (gd ((0 : Nat) + Int.toNat (wr IntKind.i64 ((↑(List.length x5) : Int) - (1 : Int))) = (0 : Nat) + Int.toNat (wr IntKind.i64 ((↑(List.length x5) : Int) - (1 : Int)))) (gd (List.length (List.getD d7.2.2.2.2.2.2.1 ((0 : Nat) + Int.toNat (wr IntKind.i64 ((↑(List.length x5) : Int) - (1 : Int)))) ([] : List Int)) + (1 : Nat) = List.length (List.getD (List.set d7.2.2.2.2.2.2.1 ((0 : Nat) + Int.toNat (wr IntKind.i64 ((↑(List.length x5) : Int) - (1 : Int)))) (List.take (List.length (List.getD d7.2.2.2.2.2.2.1 ((0 : Nat) + Int.toNat (wr IntKind.i64 ((↑(List.length x5) : Int) - (1 : Int)))) ([] : List Int))) (List.getD d7.2.2.2.2.2.2.1 ((0 : Nat) + Int.toNat (wr IntKind.i64 ((↑(List.length x5) : Int) - (1 : Int)))) ([] : List Int)) ++ d7.1 :: ([] : List Int))) ((0 : Nat) + Int.toNat (wr IntKind.i64 ((↑(List.length x5) : Int) - (1 : Int)))) ([] : List Int))) (gd (List.length d7.2.2.2.2.2.1 = List.length (List.set d7.2.2.2.2.2.1 ((0 : Nat) + Int.toNat (wr IntKind.i64 (d7.1 - (1 : Int)))) (g77b_c10 d7))) (gd (List.length d7.2.2.2.2.2.2.1 = List.length (List.set d7.2.2.2.2.2.2.1 ((0 : Nat) + Int.toNat (wr IntKind.i64 ((↑(List.length x5) : Int) - (1 : Int)))) (List.take (List.length (List.getD d7.2.2.2.2.2.2.1 ((0 : Nat) + Int.toNat (wr IntKind.i64 ((↑(List.length x5) : Int) - (1 : Int)))) ([] : List Int))) (List.getD d7.2.2.2.2.2.2.1 ((0 : Nat) + Int.toNat (wr IntKind.i64 ((↑(List.length x5) : Int) - (1 : Int)))) ([] : List Int)) ++ d7.1 :: ([] : List Int)))) (gd (preB n d7.2.1 d7.2.2.1 (List.set d7.2.2.2.2.2.1 ((0 : Nat) + Int.toNat (wr IntKind.i64 (d7.1 - (1 : Int)))) (g77b_c10 d7)) d7.2.2.2.1 (List.set d7.2.2.2.2.2.2.1 ((0 : Nat) + Int.toNat (wr IntKind.i64 ((↑(List.length x5) : Int) - (1 : Int)))) (List.take (List.length (List.getD d7.2.2.2.2.2.2.1 ((0 : Nat) + Int.toNat (wr IntKind.i64 ((↑(List.length x5) : Int) - (1 : Int)))) ([] : List Int))) (List.getD d7.2.2.2.2.2.2.1 ((0 : Nat) + Int.toNat (wr IntKind.i64 ((↑(List.length x5) : Int) - (1 : Int)))) ([] : List Int)) ++ d7.1 :: ([] : List Int))) d7.2.2.2.2.1) (gd ((0 : Int) ≤ wr IntKind.i64 ((↑(List.length x5) : Int) - (1 : Int)) ∧ wr IntKind.i64 ((↑(List.length x5) : Int) - (1 : Int)) < (↑(List.length (List.set d7.2.2.2.2.2.2.1 ((0 : Nat) + Int.toNat (wr IntKind.i64 ((↑(List.length x5) : Int) - (1 : Int)))) (List.take (List.length (List.getD d7.2.2.2.2.2.2.1 ((0 : Nat) + Int.toNat (wr IntKind.i64 ((↑(List.length x5) : Int) - (1 : Int)))) ([] : List Int))) (List.getD d7.2.2.2.2.2.2.1 ((0 : Nat) + Int.toNat (wr IntKind.i64 ((↑(List.length x5) : Int) - (1 : Int)))) ([] : List Int)) ++ d7.1 :: ([] : List Int)))) : Int)) (gd ((0 : Nat) + Int.toNat (wr IntKind.i64 ((↑(List.length x5) : Int) - (1 : Int))) < List.length (List.set d7.2.2.2.2.2.2.1 ((0 : Nat) + Int.toNat (wr IntKind.i64 ((↑(List.length x5) : Int) - (1 : Int)))) (List.take (List.length (List.getD d7.2.2.2.2.2.2.1 ((0 : Nat) + Int.toNat (wr IntKind.i64 ((↑(List.length x5) : Int) - (1 : Int)))) ([] : List Int))) (List.getD d7.2.2.2.2.2.2.1 ((0 : Nat) + Int.toNat (wr IntKind.i64 ((↑(List.length x5) : Int) - (1 : Int)))) ([] : List Int)) ++ d7.1 :: ([] : List Int)))) (gd ((0 : Int) ≤ wr IntKind.i64 ((↑(List.length x5) : Int) - (1 : Int)) ∧ wr IntKind.i64 ((↑(List.length x5) : Int) - (1 : Int)) < (↑(List.length (List.set d7.2.2.2.2.2.2.1 ((0 : Nat) + Int.toNat (wr IntKind.i64 ((↑(List.length x5) : Int) - (1 : Int)))) (List.take (List.length (List.getD d7.2.2.2.2.2.2.1 ((0 : Nat) + Int.toNat (wr IntKind.i64 ((↑(List.length x5) : Int) - (1 : Int)))) ([] : List Int))) (List.getD d7.2.2.2.2.2.2.1 ((0 : Nat) + Int.toNat (wr IntKind.i64 ((↑(List.length x5) : Int) - (1 : Int)))) ([] : List Int)) ++ d7.1 :: ([] : List Int)))) : Int)) (gd ((0 : Nat) + Int.toNat (wr IntKind.i64 ((↑(List.length x5) : Int) - (1 : Int))) < List.length (List.set d7.2.2.2.2.2.2.1 ((0 : Nat) + Int.toNat (wr IntKind.i64 ((↑(List.length x5) : Int) - (1 : Int)))) (List.take (List.length (List.getD d7.2.2.2.2.2.2.1 ((0 : Nat) + Int.toNat (wr IntKind.i64 ((↑(List.length x5) : Int) - (1 : Int)))) ([] : List Int))) (List.getD d7.2.2.2.2.2.2.1 ((0 : Nat) + Int.toNat (wr IntKind.i64 ((↑(List.length x5) : Int) - (1 : Int)))) ([] : List Int)) ++ d7.1 :: ([] : List Int)))) (gd ((0 : Int) ≤ wr IntKind.i64 (g77b_c11 x5 d7 - (1 : Int)) ∧ wr IntKind.i64 (g77b_c11 x5 d7 - (1 : Int)) ≤ (↑(List.length (List.getD (List.set d7.2.2.2.2.2.2.1 ((0 : Nat) + Int.toNat (wr IntKind.i64 ((↑(List.length x5) : Int) - (1 : Int)))) (List.take (List.length (List.getD d7.2.2.2.2.2.2.1 ((0 : Nat) + Int.toNat (wr IntKind.i64 ((↑(List.length x5) : Int) - (1 : Int)))) ([] : List Int))) (List.getD d7.2.2.2.2.2.2.1 ((0 : Nat) + Int.toNat (wr IntKind.i64 ((↑(List.length x5) : Int) - (1 : Int)))) ([] : List Int)) ++ d7.1 :: ([] : List Int))) ((0 : Nat) + Int.toNat (wr IntKind.i64 ((↑(List.length x5) : Int) - (1 : Int)))) ([] : List Int))) : Int)) (gd ((0 : Int) ≤ wr IntKind.i64 ((↑(List.length x5) : Int) - (1 : Int)) ∧ wr IntKind.i64 ((↑(List.length x5) : Int) - (1 : Int)) < (↑(List.length (List.set d7.2.2.2.2.2.2.1 ((0 : Nat) + Int.toNat (wr IntKind.i64 ((↑(List.length x5) : Int) - (1 : Int)))) (List.take (List.length (List.getD d7.2.2.2.2.2.2.1 ((0 : Nat) + Int.toNat (wr IntKind.i64 ((↑(List.length x5) : Int) - (1 : Int)))) ([] : List Int))) (List.getD d7.2.2.2.2.2.2.1 ((0 : Nat) + Int.toNat (wr IntKind.i64 ((↑(List.length x5) : Int) - (1 : Int)))) ([] : List Int)) ++ d7.1 :: ([] : List Int)))) : Int)) (gd ((0 : Nat) + Int.toNat (wr IntKind.i64 ((↑(List.length x5) : Int) - (1 : Int))) < List.length (List.set d7.2.2.2.2.2.2.1 ((0 : Nat) + Int.toNat (wr IntKind.i64 ((↑(List.length x5) : Int) - (1 : Int)))) (List.take (List.length (List.getD d7.2.2.2.2.2.2.1 ((0 : Nat) + Int.toNat (wr IntKind.i64 ((↑(List.length x5) : Int) - (1 : Int)))) ([] : List Int))) (List.getD d7.2.2.2.2.2.2.1 ((0 : Nat) + Int.toNat (wr IntKind.i64 ((↑(List.length x5) : Int) - (1 : Int)))) ([] : List Int)) ++ d7.1 :: ([] : List Int)))) (gd ((0 : Nat) + Int.toNat (wr IntKind.i64 ((↑(List.length x5) : Int) - (1 : Int))) = (0 : Nat) + Int.toNat (wr IntKind.i64 ((↑(List.length x5) : Int) - (1 : Int)))) (gd (Int.toNat (wr IntKind.i64 (g77b_c11 x5 d7 - (1 : Int))) ≤ List.length (List.getD (List.set d7.2.2.2.2.2.2.1 ((0 : Nat) + Int.toNat (wr IntKind.i64 ((↑(List.length x5) : Int) - (1 : Int)))) (List.take (List.length (List.getD d7.2.2.2.2.2.2.1 ((0 : Nat) + Int.toNat (wr IntKind.i64 ((↑(List.length x5) : Int) - (1 : Int)))) ([] : List Int))) (List.getD d7.2.2.2.2.2.2.1 ((0 : Nat) + Int.toNat (wr IntKind.i64 ((↑(List.length x5) : Int) - (1 : Int)))) ([] : List Int)) ++ d7.1 :: ([] : List Int))) ((0 : Nat) + Int.toNat (wr IntKind.i64 ((↑(List.length x5) : Int) - (1 : Int)))) ([] : List Int))) (gd (¬List.length (List.set d7.2.2.2.2.2.1 ((0 : Nat) + Int.toNat (wr IntKind.i64 (d7.1 - (1 : Int)))) (g77b_c10 d7)) = (0 : Nat)) (gd ((0 : Int) ≤ wr IntKind.i64 (d7.1 - (1 : Int)) ∧ wr IntKind.i64 (d7.1 - (1 : Int)) < (↑(List.length (List.set d7.2.2.2.2.2.1 ((0 : Nat) + Int.toNat (wr IntKind.i64 (d7.1 - (1 : Int)))) (g77b_c10 d7))) : Int)) (gd ((0 : Nat) + Int.toNat (wr IntKind.i64 (d7.1 - (1 : Int))) < List.length (List.set d7.2.2.2.2.2.1 ((0 : Nat) + Int.toNat (wr IntKind.i64 (d7.1 - (1 : Int)))) (g77b_c10 d7))) (gd ((0 : Int) ≤ wr IntKind.i64 (d7.1 - (1 : Int)) ∧ wr IntKind.i64 (d7.1 - (1 : Int)) < (↑(List.length (List.set d7.2.2.2.2.2.1 ((0 : Nat) + Int.toNat (wr IntKind.i64 (d7.1 - (1 : Int)))) (g77b_c10 d7))) : Int)) (gd ((0 : Nat) + Int.toNat (wr IntKind.i64 (d7.1 - (1 : Int))) < List.length (List.set d7.2.2.2.2.2.1 ((0 : Nat) + Int.toNat (wr IntKind.i64 (d7.1 - (1 : Int)))) (g77b_c10 d7))) (gd (List.length (List.set d7.2.2.2.2.2.1 ((0 : Nat) + Int.toNat (wr IntKind.i64 (d7.1 - (1 : Int)))) (g77b_c10 d7)) = List.length (List.set (List.set d7.2.2.2.2.2.1 ((0 : Nat) + Int.toNat (wr IntKind.i64 (d7.1 - (1 : Int)))) (g77b_c10 d7)) ((0 : Nat) + Int.toNat (wr IntKind.i64 (d7.1 - (1 : Int)))) (wr IntKind.i64 (g77b_c12 d7 + (1 : Int))))) (gd (List.length (List.set d7.2.2.2.2.2.2.1 ((0 : Nat) + Int.toNat (wr IntKind.i64 ((↑(List.length x5) : Int) - (1 : Int)))) (List.take (List.length (List.getD d7.2.2.2.2.2.2.1 ((0 : Nat) + Int.toNat (wr IntKind.i64 ((↑(List.length x5) : Int) - (1 : Int)))) ([] : List Int))) (List.getD d7.2.2.2.2.2.2.1 ((0 : Nat) + Int.toNat (wr IntKind.i64 ((↑(List.length x5) : Int) - (1 : Int)))) ([] : List Int)) ++ d7.1 :: ([] : List Int))) = List.length (List.set (List.set d7.2.2.2.2.2.2.1 ((0 : Nat) + Int.toNat (wr IntKind.i64 ((↑(List.length x5) : Int) - (1 : Int)))) (List.take (List.length (List.getD d7.2.2.2.2.2.2.1 ((0 : Nat) + Int.toNat (wr IntKind.i64 ((↑(List.length x5) : Int) - (1 : Int)))) ([] : List Int))) (List.getD d7.2.2.2.2.2.2.1 ((0 : Nat) + Int.toNat (wr IntKind.i64 ((↑(List.length x5) : Int) - (1 : Int)))) ([] : List Int)) ++ d7.1 :: ([] : List Int))) ((0 : Nat) + Int.toNat (wr IntKind.i64 ((↑(List.length x5) : Int) - (1 : Int)))) (List.take (Int.toNat (wr IntKind.i64 (g77b_c11 x5 d7 - (1 : Int)))) (List.getD (List.set d7.2.2.2.2.2.2.1 ((0 : Nat) + Int.toNat (wr IntKind.i64 ((↑(List.length x5) : Int) - (1 : Int)))) (List.take (List.length (List.getD d7.2.2.2.2.2.2.1 ((0 : Nat) + Int.toNat (wr IntKind.i64 ((↑(List.length x5) : Int) - (1 : Int)))) ([] : List Int))) (List.getD d7.2.2.2.2.2.2.1 ((0 : Nat) + Int.toNat (wr IntKind.i64 ((↑(List.length x5) : Int) - (1 : Int)))) ([] : List Int)) ++ d7.1 :: ([] : List Int))) ((0 : Nat) + Int.toNat (wr IntKind.i64 ((↑(List.length x5) : Int) - (1 : Int)))) ([] : List Int))))) (some (Lp.go ((wr IntKind.i64 (d7.1 + (1 : Int)), d7.2.1, d7.2.2.1, d7.2.2.2.1, d7.2.2.2.2.1 + filB d7.2.1 d7.2.2.1 d7.2.2.2.1 n (List.set d7.2.2.2.2.2.1 ((0 : Nat) + Int.toNat (wr IntKind.i64 (d7.1 - (1 : Int)))) (g77b_c10 d7)) (List.set d7.2.2.2.2.2.2.1 ((0 : Nat) + Int.toNat (wr IntKind.i64 ((↑(List.length x5) : Int) - (1 : Int)))) (List.take (List.length (List.getD d7.2.2.2.2.2.2.1 ((0 : Nat) + Int.toNat (wr IntKind.i64 ((↑(List.length x5) : Int) - (1 : Int)))) ([] : List Int))) (List.getD d7.2.2.2.2.2.2.1 ((0 : Nat) + Int.toNat (wr IntKind.i64 ((↑(List.length x5) : Int) - (1 : Int)))) ([] : List Int)) ++ d7.1 :: ([] : List Int))), List.set (List.set d7.2.2.2.2.2.1 ((0 : Nat) + Int.toNat (wr IntKind.i64 (d7.1 - (1 : Int)))) (g77b_c10 d7)) ((0 : Nat) + Int.toNat (wr IntKind.i64 (d7.1 - (1 : Int)))) (wr IntKind.i64 (g77b_c12 d7 + (1 : Int))), List.set (List.set d7.2.2.2.2.2.2.1 ((0 : Nat) + Int.toNat (wr IntKind.i64 ((↑(List.length x5) : Int) - (1 : Int)))) (List.take (List.length (List.getD d7.2.2.2.2.2.2.1 ((0 : Nat) + Int.toNat (wr IntKind.i64 ((↑(List.length x5) : Int) - (1 : Int)))) ([] : List Int))) (List.getD d7.2.2.2.2.2.2.1 ((0 : Nat) + Int.toNat (wr IntKind.i64 ((↑(List.length x5) : Int) - (1 : Int)))) ([] : List Int)) ++ d7.1 :: ([] : List Int))) ((0 : Nat) + Int.toNat (wr IntKind.i64 ((↑(List.length x5) : Int) - (1 : Int)))) (List.take (Int.toNat (wr IntKind.i64 (g77b_c11 x5 d7 - (1 : Int)))) (List.getD (List.set d7.2.2.2.2.2.2.1 ((0 : Nat) + Int.toNat (wr IntKind.i64 ((↑(List.length x5) : Int) - (1 : Int)))) (List.take (List.length (List.getD d7.2.2.2.2.2.2.1 ((0 : Nat) + Int.toNat (wr IntKind.i64 ((↑(List.length x5) : Int) - (1 : Int)))) ([] : List Int))) (List.getD d7.2.2.2.2.2.2.1 ((0 : Nat) + Int.toNat (wr IntKind.i64 ((↑(List.length x5) : Int) - (1 : Int)))) ([] : List Int)) ++ d7.1 :: ([] : List Int))) ((0 : Nat) + Int.toNat (wr IntKind.i64 ((↑(List.length x5) : Int) - (1 : Int)))) ([] : List Int))), ()) : Int × List Int × List Int × Int × Int × List Int × List (List Int) × Unit)))))))))))))))))))))))))))))))))))))) else gd (List.length d7.2.2.2.2.2.1 = List.length d7.2.2.2.2.2.1) (gd (List.length d7.2.2.2.2.2.2.1 = List.length d7.2.2.2.2.2.2.1) (some (Lp.out ((true, d7.2.1, d7.2.2.1, d7.2.2.2.1, d7.2.2.2.2.1, d7.2.2.2.2.2.1, d7.2.2.2.2.2.2.1, ()) : Bool × List Int × List Int × Int × Int × List Int × List (List Int) × Unit))))) ((imax (1 : Int) (wr IntKind.i64 (g77b_c2 x0 x5 + (1 : Int))), x0, x1, x2, x3, x4, x5, ()) : Int × List Int × List Int × Int × Int × List Int × List (List Int) × Unit))))))))))))))))))))))))))))
noncomputable def g77b_sh : List LSh := LSh.mk3 (((0, TV.ref (0) (1 : Nat) (0 : Nat) (0 : Nat)) : Nat × TV) :: ((1, TV.fn (109) (TV.cons (TV.ref (1) (1 : Nat) (0 : Nat) (0 : Nat)) (TV.cons (TV.ref (2) (1 : Nat) (0 : Nat) (0 : Nat)) TV.nil))) : Nat × TV) :: ((9, TV.v (Ty.int IntKind.i64)) : Nat × TV) :: ([] : List (Nat × TV))) (TB.cells (TV.v (Ty.slice (Ty.int IntKind.i64)) :: TV.v (Ty.slice (Ty.int IntKind.i64)) :: TV.slf (3) (1) :: TV.v (Ty.int IntKind.i64) :: TV.slf (5) (1) :: ([] : List TV)) :: TB.cells (TV.fn (72) TV.nil :: ([] : List TV)) :: TB.cells (TV.v (Ty.int IntKind.i64) :: ([] : List TV)) :: TB.arr (Ty.int IntKind.i64) true :: TB.dead :: TB.nest (Ty.int IntKind.i64) :: ([] : List TB)) (5) :: ([] : List LSh)
abbrev P68b (f : Nat) : List TB := [.cells [.fn f .nil], .cells [.v I64]]
def eachB (inner outer m : List Int) : Int := if wr .i64 (boxW outer - boxW inner) = boxW m then filB inner outer m.length 81 m [] else 0
noncomputable def con68b : SCon := mkS 68 [.v LI, .v LI, .v LI, F109 0] (P68b 72) [] (P68b 72) (fun (inner outer m : List Int) (out : Int) => [okIn inner outer m ∧ contB m = true ∧ 0 ≤ out ∧ out ≤ 1000000]) (fun (inner outer m : List Int) (out : Int) => (out + eachB inner outer m, ()))
noncomputable def g68b (x0 x1 x2 : List Int) (x3 : Int) : Option (Int × Unit) := gd (List.length x1 ≤ (1000 : Nat)) (gd (List.length x0 ≤ (1000 : Nat)) (gd (List.length x2 ≤ (1000 : Nat)) (bif !ieq (wr IntKind.i64 (boxW x1 - boxW x0)) (boxW x2) then some ((x3, ()) : Int × Unit) else gd ((0 : Nat) ≤ (0 : Nat)) (gd (((0 : Nat) + List.length x2) * (8 : Nat) ≤ (1099511627776 : Nat)) (gd ((0 : Nat) + List.length x2 = List.length x2) (gd ((0 : Nat) = (0 : Nat)) (gd (preB (81 : Nat) x0 x1 x2 (↑(List.length x2) : Int) ([] : List (List Int)) x3) (some ((x3 + filB x0 x1 (↑(List.length x2) : Int) (81 : Nat) x2 ([] : List (List Int)), ()) : Int × Unit)))))))))
noncomputable def g68b_sh : List LSh := ([] : List LSh)
noncomputable def con71b : Con := mkC 71 [.d LI, .d LI, .d LI, .fn 72 []] [I64] (fun (inner outer m : List Int) => [okIn inner outer m ∧ contB m = true]) (fun (inner outer m : List Int) => (eachB inner outer m, ()))
noncomputable def g71b (x0 x1 x2 : List Int) : Option (Int × Unit) := gd (okIn x0 x1 x2 ∧ contB x2 = true ∧ (0 : Int) ≤ (0 : Int) ∧ (0 : Int) ≤ (1000000 : Int)) (some (((0 : Int) + eachB x0 x1 x2, ()) : Int × Unit))
noncomputable def g71b_sh : List LSh := ([] : List LSh)
def kosF (l m : List Int) : Int × Int × Unit := if shapeB l = true ∧ contB m = true then (eachB [] l m, 0, ()) else (0, 2, ())
noncomputable def con21 : Con := mkC 21 [.d LI, .d LI] [I64, I64] (fun (l m : List Int) => [l.length ≤ 1000 ∧ m.length ≤ 1000]) (fun (l m : List Int) => kosF l m)
noncomputable def g21 (x0 x1 : List Int) : Option (Int × Int × Unit) := gd (List.length x0 ≤ (1000 : Nat)) (gd ((!!shapeB x0) = true → (!!shapeB x0) = true ∧ List.length x1 ≤ (1000 : Nat)) (gd ((!!shapeB x0) = true → (!!shapeB x0) = true) (gd ((!shapeB x0) = false → (!!shapeB x0) = true) (bif bif !shapeB x0 then true else !contB x1 then some (((0 : Int), (2 : Int), ()) : Int × Int × Unit) else gd (okIn ([] : List Int) x0 x1 ∧ contB x1 = true) (some ((eachB ([] : List Int) x0 x1, (0 : Int), ()) : Int × Int × Unit))))))
noncomputable def g21_sh : List LSh := ([] : List LSh)


end Go.Schur

set_option linter.unusedVariables false
set_option linter.unusedSimpArgs false
namespace Go.Schur
open Go Go.Ab Go.Proofs

theorem goal72 : con72.goal Try.prog (spOf []) g72_sh [] lm30 := by
  have e : (∀ (rows : List (List Int)), g72 rows = some (true, ())) = con72.goal Try.prog (spOf []) g72_sh [] lm30 := by kernel_rfl
  rw [← e]
  intro rows
  rfl
set_option maxRecDepth 100000 in
theorem ok72 : con72.Ok Try.prog := Con.of_goal mixed okN con72 goal72
theorem goal109b : con109b.goal Try.prog (spS [] [con72]) g109b_sh [900000] lm30 := by
  have e : (∀ (rows : List (List Int)) (out : Int), (0 ≤ out ∧ out ≤ 500000000) → g109b rows out = some (true, rows, out + 1, ())) = con109b.goal Try.prog (spS [] [con72]) g109b_sh [900000] lm30 := by kernel_rfl
  rw [← e]
  rintro rows out ⟨h1, h2⟩
  unfold g109b
  rw [gd_pos (by omega), wr_id (by omega)]
set_option maxRecDepth 100000 in
theorem ok109b : con109b.Ok Try.prog := SCon.of_goal mixed (okC ok72 okN) okS0 con109b goal109b

theorem e77b (n : Nat) : (∀ (inner outer : List Int) (most : Int) (out : Int) (left : List Int) (rows : List (List Int)), preB (n + 1) inner outer left most rows out → g77b n inner outer most out left rows = some (true, inner, outer, most, out + filB inner outer most (n + 1) left rows, left, rows, ())) = (con77b (n + 1)).goal Try.prog (spS [con109b, con77b n] [con110, con111]) g77b_sh ms77 lm30 := by kernel_rfl
theorem goal77b (n : Nat) : (con77b (n + 1)).goal Try.prog (spS [con109b, con77b n] [con110, con111]) g77b_sh ms77 lm30 := by
  rw [← e77b]
  rintro inner outer most out left rows ⟨hp, ho, hb⟩
  have hcap := hp.capR
  have hmo := hp.mo
  have hil := hp.il
  have hol := hp.ol
  have hw2 : wr .i64 ((rows.length : Int) - 1 + 1) = (rows.length : Int) := (wr_id (by omega)).trans (by omega)
  have hw1 : wr .i64 ((rows.length : Int) - 1) = (rows.length : Int) - 1 := wr_id (by omega)
  unfold g77b
  simp only [hw1, hw2]
  have hn : (!ilt ((rows.length : Int) - 1) 0) = true → 0 ≤ (rows.length : Int) - 1 := fun h => by
    by_cases h0 : (rows.length : Int) - 1 < 0
    · rw [ilt_iff.2 h0] at h; cases h
    · omega
  have hc1 : g77b_c1 inner outer rows = full inner outer rows := by
    rcases List.eq_nil_or_concat rows with rfl | ⟨R, r, rfl⟩
    · have h0 : ilt (wr .i64 (((([] : List (List Int)).length : Nat) : Int) - 1)) 0 = true := by decide
      unfold g77b_c1; rw [h0]; rfl
    · rw [List.concat_eq_append] at *
      rw [full_app]
      unfold g77b_c1 g77b_c0
      simp only [hw1]
      have h1 : (((R ++ [r]).length : Nat) : Int) - 1 = R.length := by simp
      rw [h1]
      have h2 : ilt (R.length : Int) 0 = false := ilt_false.2 (by omega)
      have h3 := hp.i0 R.length
      have h4 := hp.o8 R.length
      have h5 := hp.ins R.length
      have h6 := hcap.2 r (by simp)
      rw [h2, cond_false, Nat.zero_add, Int.toNat_natCast, getD_app, wr_id (by omega)]
      rfl
  simp only [imp_self, gd_true]
  rw [gd_pos (by intro h; exact ⟨h, h, hn h, by omega⟩), gd_pos (by intro h; exact ⟨h, h, hn h, by omega⟩), gd_pos (by intro h; have := hn h; exact ⟨h, by omega⟩), gd_pos (by intro h; exact ⟨h, h⟩), gd_pos (by intro h; exact ⟨h, h, hn h, by omega⟩), gd_pos (by intro h; exact ⟨h, h⟩), gd_pos (by intro h; simp [h]), hc1]
  cases hf : full inner outer rows with
  | true =>
    rw [cond_true]
    by_cases hl : rows.length = outer.length
    · have h1 : ieq (rows.length : Int) (outer.length : Int) = true := by rw [hl]; exact ieq_iff.2 rfl
      rw [h1, cond_true]
      simp only [filB, fil, hf, if_true, if_pos hl]
      have hb2 : out + 1 ≤ 500000000 := by simpa [fil, hf, hl] using hb
      rw [gd_pos ⟨ho, by omega⟩]
      rfl
    · have h1 : ieq (rows.length : Int) (outer.length : Int) = false := ieq_false.2 (by omega)
      have h2 : preB n inner outer left most (rows ++ [[]]) out := ⟨hp.open_ hf hl, ho, by simpa only [fil, hf, if_true, if_neg hl] using hb⟩
      simp only [h1, cond_false, List.take_length, filB, fil, hf, if_true, if_neg hl]
      rw [gd_pos (Nat.le_refl _), gd_pos (by omega), gd_pos (by simp), gd_pos h2, gd_pos (by simp; omega), gd_pos (by simp)]
      simp
  | false =>
    rw [cond_false]
    rcases List.eq_nil_or_concat rows with rfl | ⟨R, r, rfl⟩
    · simp [full] at hf
    simp only [List.concat_eq_append] at *
    have hlen : (((R ++ [r]).length : Nat) : Int) - 1 = R.length := by simp
    simp only [hlen] at hw1 hn ⊢
    have hR : (R ++ [r]).length = R.length + 1 := by simp
    have hr8 := hcap.2 r (by simp)
    have hlt := hp.lt8 hf
    have hi0 := hp.i0 R.length
    have ho8 := hp.o8 R.length
    have hR8 : R.length + 1 ≤ 8 := by rw [← hR]; exact hcap.1
    have hc0 : g77b_c0 inner (R ++ [r]) = rowF inner R.length + r.length := by
      unfold g77b_c0
      rw [hlen, hw1, Nat.zero_add, Int.toNat_natCast, getD_app, wr_id (by omega)]
    have hw3 : wr .i64 ((R.length : Int) - 1) = (R.length : Int) - 1 := wr_id (by omega)
    have hw4 : wr .i64 (rowF inner R.length + r.length - 1) = rowF inner R.length + r.length - 1 := wr_id (by omega)
    have ha1 : atP inner (R ++ [r]) ((R.length : Int) - 1) (rowF inner R.length + r.length) := by
      refine ⟨by omega, by rw [hR]; omega, by omega, by omega, fun h => ?_⟩
      have h1 := hp.fl (R.length - 1) (by rw [hR]; omega)
      have h2 : (((R.length - 1 : Nat)) : Int) = (R.length : Int) - 1 := by omega
      rw [h2] at h1
      have h3 := hp.i0 (R.length - 1)
      have h4 := hp.o8 (R.length - 1)
      have h5 := hp.od (R.length - 1)
      have h6 : ((R.length - 1 + 1 : Nat) : Int) = R.length := by omega
      rw [h2] at h3 h4 h5
      rw [h6] at h5
      rw [show ((R.length : Int) - 1).toNat = R.length - 1 by omega]
      omega
    have ha2 : r ≠ [] → atP inner (R ++ [r]) R.length (rowF inner R.length + r.length - 1) := by
      intro hne
      have := List.length_pos_iff.2 hne
      refine ⟨by omega, by rw [hR]; omega, by omega, by omega, fun h => ?_⟩
      rw [Int.toNat_natCast, getD_app]
      omega
    have hv2 : r ≠ [] → atF inner (R ++ [r]) R.length (rowF inner R.length + r.length - 1) = r.getLastD 0 := by
      intro hne
      have := List.length_pos_iff.2 hne
      unfold atF
      rw [if_neg (by omega), Int.toNat_natCast, getD_app, show (rowF inner R.length + r.length - 1 - rowF inner R.length).toNat = r.length - 1 by omega]
      rw [List.getLastD_eq_getLast?, List.getLast?_eq_getElem?, List.getD_eq_getElem?_getD]
    have hb1 := atF_bd (inner := inner) (i := (R.length : Int) - 1) (j := rowF inner R.length + r.length) hmo.1 hp.ent
    have hc2 : g77b_c2 inner (R ++ [r]) = atF inner (R ++ [r]) ((R.length : Int) - 1) (rowF inner R.length + r.length) := by
      unfold g77b_c2
      rw [List.drop_zero, List.take_length, hlen, hc0, wr_id (n := (R.length : Int)) (by omega), hw3]
    have hc3 : g77b_c3 (R ++ [r]) = decide (r ≠ []) := by
      unfold g77b_c3
      rw [hlen, wr_id (n := (R.length : Int)) (by omega), Nat.zero_add, Int.toNat_natCast, getD_app]
      cases r <;> simp [ilt]
    have hc4 : r ≠ [] → g77b_c4 inner (R ++ [r]) = r.getLastD 0 := by
      intro hne
      unfold g77b_c4
      rw [List.drop_zero, List.take_length, hlen, hc0, wr_id (n := (R.length : Int)) (by omega), hw4, hv2 hne]
    have hw5 : wr .i64 (atF inner (R ++ [r]) ((R.length : Int) - 1) (rowF inner R.length + r.length) + 1) = atF inner (R ++ [r]) ((R.length : Int) - 1) (rowF inner R.length + r.length) + 1 := wr_id (by omega)
    have hlf := hp.lf rfl
    simp only [filB, fil, hf] at hb ⊢
    have hL : leastF inner (R ++ [r]) = if r = [] then max 1 (atF inner (R ++ [r]) ((R.length : Int) - 1) (rowF inner R.length + r.length) + 1) else max (max 1 (atF inner (R ++ [r]) ((R.length : Int) - 1) (rowF inner R.length + r.length) + 1)) (r.getLastD 0) := by
      unfold leastF
      rw [last_app, show (((R ++ [r]).length : Nat) : Int) - 2 = (R.length : Int) - 1 by omega, hlen]
    have hL1 : 1 ≤ leastF inner (R ++ [r]) := by rw [hL]; split <;> omega
    simp only [Bool.false_eq_true, if_false] at hb ⊢
    simp only [hc0, hc2, hw3, hw4, hw5, hc3, List.drop_zero, List.take_length, Nat.zero_add, Int.toNat_natCast, gd_pos ha1]
    rw [gd_pos ⟨by omega, by omega⟩, gd_pos (by omega)]
    have hmem : ∀ p : Nat, p < left.length → 0 ≤ left.getD p 0 ∧ left.getD p 0 ≤ 8 := fun p hp => by
      rw [List.getD_eq_getElem?_getD, List.getElem?_eq_getElem hp]
      exact hlf.2 _ (List.getElem_mem hp)
    have hpre : ∀ (p : Nat) (s : Int), p < left.length → left.getD p 0 ≠ 0 → 0 ≤ s ∧ s + (useX left false ((p : Int) + 1) fun l => fil inner outer most false n l (addX (R ++ [r]) ((p : Int) + 1))).length ≤ 500000000 → preB n inner outer (left.set p (left.getD p 0 - 1)) most (R ++ [r ++ [(p : Int) + 1]]) s := by
      intro p s hp1 hp2 hs
      have h1 := hmem p hp1
      have e1 : ((p : Int) + 1 - 1).toNat = p := by omega
      simp only [useX, Bool.false_eq_true, if_false, e1, if_neg hp2, addX_app] at hs
      refine ⟨hp.box hf ⟨by omega, by omega⟩ (fun _ => ⟨by simpa using hlf.1, fun y hy => ?_⟩), hs.1, hs.2⟩
      rcases List.mem_or_eq_of_mem_set hy with h2 | h2
      · exact hlf.2 y h2
      · omega
    rcases Decidable.em (r = []) with hr | hr
    · rw [decide_eq_false (by simp [hr]), cond_false]
      rw [if_pos hr] at hL
      rw [imax_eq, ← hL]
      rw [gd_pos (by omega), gd_pos (Nat.le_refl _), gd_pos (Nat.le_refl _), gd_pos ⟨by omega, by omega⟩, gd_pos (by omega)]
      refine whileO_cat (fun (s : Int) b => s + (b.length : Int)) (fun (s : Int) b => 0 ≤ s ∧ s + (b.length : Int) ≤ 500000000) (fun s => by simp) (fun s a b => by simp only [List.length_append]; omega) (fun s a b h => by simp only [List.length_append] at h ⊢; omega)
        (fun x s => (x, inner, outer, most, s, left, R ++ [r], ())) (fun s => (true, inner, outer, most, s, left, R ++ [r], ())) (fun x => useX left false x fun l => fil inner outer most false n l (addX (R ++ [r]) x)) (leastF inner (R ++ [r])) most ?_ ?_ _ _ out (Int.le_refl _) rfl ⟨ho, hb⟩
      · intro x s hx1 hx2 hs
        obtain ⟨p, rfl⟩ : ∃ p : Nat, x = (p : Int) + 1 := ⟨(x - 1).toNat, by omega⟩
        have hpl : p < left.length := by omega
        have hq : ile ((p : Int) + 1) most = true := ile_iff.2 hx2
        have hx : wr .i64 ((p : Int) + 1 - 1) = p := (wr_id (by omega)).trans (by omega)
        have hx' : wr .i64 ((p : Int) + 1 + 1) = (p : Int) + 1 + 1 := wr_id (by omega)
        have e1 : ((p : Int) + 1 - 1).toNat = p := by omega
        have hv := hmem p hpl
        simp only [g77b_c5, g77b_c6, g77b_c7, g77b_c8, g77b_c9, g77b_c10, g77b_c11, g77b_c12, Nat.zero_add, hq, cond_true, hx, hx', Int.toNat_natCast, getD_app, set_app, hR, useX, Bool.false_eq_true, if_false, e1, addX_app]
        rw [gd_pos (by omega), gd_pos ⟨by omega, by omega⟩, gd_pos (by omega)]
        by_cases h0 : left.getD p 0 = 0
        · rw [ieq_iff.2 h0, cond_true, if_pos h0]; simp
        · rw [ieq_false.2 h0, cond_false, if_neg h0]
          have hpr := hpre p s hpl h0 hs
          have h9 : wr .i64 (left.getD p 0 - 1) = left.getD p 0 - 1 := wr_id (by omega)
          have h7 : (left.set p (left.getD p 0 - 1)).getD p 0 = left.getD p 0 - 1 := by simp [List.getD_eq_getElem?_getD, List.getElem?_set, hpl]
          have h8 : wr .i64 (left.getD p 0 - 1 + 1) = left.getD p 0 := (wr_id (by omega)).trans (by omega)
          have h6 : (left.set p (left.getD p 0 - 1)).set p (left.getD p 0) = left := by
            have := set_left hpl
            rwa [h7, Int.sub_add_cancel] at this
          have h5 : wr .i64 (((r.length + 1 : Nat) : Int) - 1) = r.length := (wr_id (by omega)).trans (by omega)
          have h4 : List.take r.length (r ++ [(p : Int) + 1]) = r := by simp
          have h3 : (R ++ [r ++ [(p : Int) + 1]]).length = R.length + 1 := by simp
          have h2 : (r ++ [(p : Int) + 1]).length = r.length + 1 := by simp
          have q1 : (0 ≤ (p : Int) ∧ (p : Int) < (left.length : Int)) = True := eq_true ⟨by omega, by omega⟩
          have q2 : (0 ≤ (R.length : Int) ∧ (R.length : Int) < ((R.length + 1 : Nat) : Int)) = True := eq_true ⟨by omega, by omega⟩
          have q3 : (left.length = 0) = False := eq_false (by omega)
          have q4 : ((r.length + 1) * 8 ≤ 1099511627776) = True := eq_true (by omega)
          have q5 : (0 ≤ (r.length : Int) ∧ (r.length : Int) ≤ ((r.length + 1 : Nat) : Int)) = True := eq_true ⟨by omega, by omega⟩
          have h1 : wr .i64 (((R.length + 1 : Nat) : Int) - 1) = R.length := (wr_id (by omega)).trans (by omega)
          simp only [g77b_c5, g77b_c6, g77b_c7, g77b_c8, g77b_c9, g77b_c10, g77b_c11, g77b_c12, hlen, hw1, hx, h1, List.take_length, h9, h7, h8, h6, h5, h4, h3, h2, hR, q1, q2, q3, q4, q5, Nat.zero_add, Int.toNat_natCast, getD_app, set_app, List.length_set, Nat.lt_succ_self, Nat.le_refl, gd_true, not_false_eq_true, hpl, Nat.le_succ, gd_pos hpr]
      · intro x s hx
        simp only [ile_false.2 hx, cond_false]
    · rw [decide_eq_true hr, cond_true, gd_pos (ha2 hr)]
      rw [if_neg hr] at hL
      rw [hc4 hr, imax_eq, imax_eq, ← hL]
      repeat rw [gd_pos (by omega)]
      repeat rw [gd_pos ⟨by omega, by omega⟩]
      repeat rw [gd_pos (by omega)]
      refine whileO_cat (fun (s : Int) b => s + (b.length : Int)) (fun (s : Int) b => 0 ≤ s ∧ s + (b.length : Int) ≤ 500000000) (fun s => by simp) (fun s a b => by simp only [List.length_append]; omega) (fun s a b h => by simp only [List.length_append] at h ⊢; omega)
        (fun x s => (x, inner, outer, most, s, left, R ++ [r], ())) (fun s => (true, inner, outer, most, s, left, R ++ [r], ())) (fun x => useX left false x fun l => fil inner outer most false n l (addX (R ++ [r]) x)) (leastF inner (R ++ [r])) most ?_ ?_ _ _ out (Int.le_refl _) rfl ⟨ho, hb⟩
      · intro x s hx1 hx2 hs
        obtain ⟨p, rfl⟩ : ∃ p : Nat, x = (p : Int) + 1 := ⟨(x - 1).toNat, by omega⟩
        have hpl : p < left.length := by omega
        have hq : ile ((p : Int) + 1) most = true := ile_iff.2 hx2
        have hx : wr .i64 ((p : Int) + 1 - 1) = p := (wr_id (by omega)).trans (by omega)
        have hx' : wr .i64 ((p : Int) + 1 + 1) = (p : Int) + 1 + 1 := wr_id (by omega)
        have e1 : ((p : Int) + 1 - 1).toNat = p := by omega
        have hv := hmem p hpl
        simp only [g77b_c5, g77b_c6, g77b_c7, g77b_c8, g77b_c9, g77b_c10, g77b_c11, g77b_c12, Nat.zero_add, hq, cond_true, hx, hx', Int.toNat_natCast, getD_app, set_app, hR, useX, Bool.false_eq_true, if_false, e1, addX_app]
        rw [gd_pos (by omega), gd_pos ⟨by omega, by omega⟩, gd_pos (by omega)]
        by_cases h0 : left.getD p 0 = 0
        · rw [ieq_iff.2 h0, cond_true, if_pos h0]; simp
        · rw [ieq_false.2 h0, cond_false, if_neg h0]
          have hpr := hpre p s hpl h0 hs
          have h9 : wr .i64 (left.getD p 0 - 1) = left.getD p 0 - 1 := wr_id (by omega)
          have h7 : (left.set p (left.getD p 0 - 1)).getD p 0 = left.getD p 0 - 1 := by simp [List.getD_eq_getElem?_getD, List.getElem?_set, hpl]
          have h8 : wr .i64 (left.getD p 0 - 1 + 1) = left.getD p 0 := (wr_id (by omega)).trans (by omega)
          have h6 : (left.set p (left.getD p 0 - 1)).set p (left.getD p 0) = left := by
            have := set_left hpl
            rwa [h7, Int.sub_add_cancel] at this
          have h5 : wr .i64 (((r.length + 1 : Nat) : Int) - 1) = r.length := (wr_id (by omega)).trans (by omega)
          have h4 : List.take r.length (r ++ [(p : Int) + 1]) = r := by simp
          have h3 : (R ++ [r ++ [(p : Int) + 1]]).length = R.length + 1 := by simp
          have h2 : (r ++ [(p : Int) + 1]).length = r.length + 1 := by simp
          have q1 : (0 ≤ (p : Int) ∧ (p : Int) < (left.length : Int)) = True := eq_true ⟨by omega, by omega⟩
          have q2 : (0 ≤ (R.length : Int) ∧ (R.length : Int) < ((R.length + 1 : Nat) : Int)) = True := eq_true ⟨by omega, by omega⟩
          have q3 : (left.length = 0) = False := eq_false (by omega)
          have q4 : ((r.length + 1) * 8 ≤ 1099511627776) = True := eq_true (by omega)
          have q5 : (0 ≤ (r.length : Int) ∧ (r.length : Int) ≤ ((r.length + 1 : Nat) : Int)) = True := eq_true ⟨by omega, by omega⟩
          have h1 : wr .i64 (((R.length + 1 : Nat) : Int) - 1) = R.length := (wr_id (by omega)).trans (by omega)
          simp only [g77b_c5, g77b_c6, g77b_c7, g77b_c8, g77b_c9, g77b_c10, g77b_c11, g77b_c12, hlen, hw1, hx, h1, List.take_length, h9, h7, h8, h6, h5, h4, h3, h2, hR, q1, q2, q3, q4, q5, Nat.zero_add, Int.toNat_natCast, getD_app, set_app, List.length_set, Nat.lt_succ_self, Nat.le_refl, gd_true, not_false_eq_true, hpl, Nat.le_succ, gd_pos hpr]
      · intro x s hx
        simp only [ile_false.2 hx, cond_false]
set_option maxRecDepth 100000 in
theorem ok77b_0 : (con77b 0).Ok Try.prog := scon_false _ (by kernel_rfl) (by
  have e : (∀ (inner outer : List Int) (most : Int) (out : Int) (left : List Int) (rows : List (List Int)) (p : List Prop), some [preB 0 inner outer left most rows out] = some p → ¬ allP p) = (allD ((con77b 0).ins.flatMap TV.ts ++ tsB (con77b 0).ibl) fun env => ∀ p, (con77b 0).pre env = some p → ¬ allP p) := by kernel_rfl
  rw [← e]
  intro inner outer most out left rows p hp hq
  cases hp
  exact absurd (Ab.allP_one.1 hq).1.mu (by omega))
set_option maxRecDepth 100000 in
theorem ok77b : ∀ n, (con77b n).Ok Try.prog
  | 0 => ok77b_0
  | n + 1 => SCon.of_goal mixed (okC ok110 (okC ok111 okN)) (okS ok109b (okS (ok77b n) okS0)) (con77b (n + 1)) (goal77b n)
end Go.Schur

set_option linter.unusedVariables false
set_option linter.unusedSimpArgs false
namespace Go.Schur
open Go Go.Ab Go.Proofs

theorem goal68b : con68b.goal Try.prog (spS [con77b 81] [con86]) g68b_sh [18] lm30 := by
  have e : (∀ (inner outer m : List Int) (out : Int), (okIn inner outer m ∧ contB m = true ∧ 0 ≤ out ∧ out ≤ 1000000) → g68b inner outer m out = some (out + eachB inner outer m, ())) = con68b.goal Try.prog (spS [con77b 81] [con86]) g68b_sh [18] lm30 := by kernel_rfl
  rw [← e]
  rintro inner outer m out ⟨h, hm, ho, hb⟩
  have h1 := h.il
  have h2 := h.ol
  have h3 := h.ml
  have h4 := fil_bd (inner := inner) (outer := outer) hm
  unfold g68b
  rw [gd_pos (by omega), gd_pos (by omega), gd_pos (by omega)]
  unfold eachB
  by_cases hs : wr .i64 (boxW outer - boxW inner) = boxW m
  · rw [if_pos hs]
    rw [ieq_iff.2 hs]
    simp only [Bool.not_true, cond_false]
    rw [gd_pos (by omega), gd_pos (by omega), gd_pos (by omega)]
    simp only [gd_true]
    rw [gd_pos ⟨h.pre, ho, by omega⟩]
  · rw [if_neg hs, ieq_false.2 hs]
    simp [gd_true]
set_option maxRecDepth 100000 in
theorem ok68b : con68b.Ok Try.prog := SCon.of_goal mixed (okC ok86 okN) (okS (ok77b 81) okS0) con68b goal68b

theorem goal71b : con71b.goal Try.prog (spS [con68b] []) g71b_sh [] lm30 := by
  have e : (∀ (inner outer m : List Int), (okIn inner outer m ∧ contB m = true) → g71b inner outer m = some (eachB inner outer m, ())) = con71b.goal Try.prog (spS [con68b] []) g71b_sh [] lm30 := by kernel_rfl
  rw [← e]
  rintro inner outer m ⟨h, hm⟩
  unfold g71b
  rw [gd_pos ⟨h, hm, by omega, by omega⟩, Int.zero_add]
set_option maxRecDepth 100000 in
theorem ok71b : con71b.Ok Try.prog := Con.of_goalS mixed okN (okS ok68b okS0) con71b goal71b

theorem goal21 : con21.goal Try.prog (spOf [con66, con67, con71b]) g21_sh [] lm30 := by
  have e : (∀ (l m : List Int), (l.length ≤ 1000 ∧ m.length ≤ 1000) → g21 l m = some (kosF l m)) = con21.goal Try.prog (spOf [con66, con67, con71b]) g21_sh [] lm30 := by kernel_rfl
  rw [← e]
  rintro l m ⟨h1, h2⟩
  unfold g21 kosF
  rw [gd_pos h1]
  cases hs : shapeB l with
  | false => simp [gd_true]
  | true =>
    cases hm : contB m with
    | false => simp [gd_true, h2]
    | true => simp [gd_true, h2, okIn_nil hs hm]
set_option maxRecDepth 100000 in
theorem ok21 : con21.Ok Try.prog := Con.of_goal mixed (okC ok66 (okC ok67 (okC ok71b okN))) con21 goal21
end Go.Schur
