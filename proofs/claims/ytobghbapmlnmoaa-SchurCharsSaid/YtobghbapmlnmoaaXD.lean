/- Fillings: contracts of the reference and of the law. -/
import Derived.Test.YtobghbapmlnmoaaXC
set_option linter.unusedVariables false
set_option linter.unusedSimpArgs false
namespace Go.Schur
open Go Go.Ab Go.Proofs

noncomputable def con37 : Con := mkC 37 [.d LI] [I64] (fun (l : List Int) => [l.length ≤ 1000]) (fun (l : List Int) => (boxW l, ()))
noncomputable def g37 (x0 : List Int) : Option (Int × Unit) := whileO (fun (d1 : Int × Int × Unit) => bif ilt d1.2.1 (↑(List.length x0) : Int) then gd ((0 : Int) ≤ d1.2.1 ∧ d1.2.1 < (↑(List.length x0) : Int)) (some (Lp.go ((wr IntKind.i64 (d1.1 + List.getD x0 (Int.toNat d1.2.1) (0 : Int)), wr IntKind.i64 (d1.2.1 + (1 : Int)), ()) : Int × Int × Unit))) else some (Lp.out ((d1.1, ()) : Int × Unit))) (((0 : Int), (0 : Int), ()) : Int × Int × Unit)
noncomputable def g37_sh : List LSh := LSh.mk (((3, TV.v (Ty.int IntKind.i64)) : Nat × TV) :: ((8, TV.v (Ty.int IntKind.i64)) : Nat × TV) :: ([] : List (Nat × TV))) ([] : List TB) :: ([] : List LSh)
noncomputable def con22 : Con := mkC 22 [.d LI] [.bool] (fun (l : List Int) => [small l]) (fun (l : List Int) => (shapeB l, ()))
noncomputable def g22 (x0 : List Int) : Option (Bool × Unit) := whileO (fun (d1 : Int × Int × Unit) => bif ilt d1.2.1 (↑(List.length x0) : Int) then gd ((0 : Int) ≤ d1.2.1 ∧ d1.2.1 < (↑(List.length x0) : Int)) (gd ((!ilt (List.getD x0 (Int.toNat d1.2.1) (0 : Int)) (1 : Int)) = true → (!ilt (List.getD x0 (Int.toNat d1.2.1) (0 : Int)) (1 : Int)) = true) (gd (ilt (List.getD x0 (Int.toNat d1.2.1) (0 : Int)) (1 : Int) = false → (!ilt (List.getD x0 (Int.toNat d1.2.1) (0 : Int)) (1 : Int)) = true) (gd ((!bif ilt (List.getD x0 (Int.toNat d1.2.1) (0 : Int)) (1 : Int) then true else ilt (8 : Int) (List.getD x0 (Int.toNat d1.2.1) (0 : Int))) = true → (!bif ilt (List.getD x0 (Int.toNat d1.2.1) (0 : Int)) (1 : Int) then true else ilt (8 : Int) (List.getD x0 (Int.toNat d1.2.1) (0 : Int))) = true) (gd (((!bif ilt (List.getD x0 (Int.toNat d1.2.1) (0 : Int)) (1 : Int) then true else ilt (8 : Int) (List.getD x0 (Int.toNat d1.2.1) (0 : Int))) && ((!bif ilt (List.getD x0 (Int.toNat d1.2.1) (0 : Int)) (1 : Int) then true else ilt (8 : Int) (List.getD x0 (Int.toNat d1.2.1) (0 : Int))) && ilt (0 : Int) d1.2.1)) = true → ((!bif ilt (List.getD x0 (Int.toNat d1.2.1) (0 : Int)) (1 : Int) then true else ilt (8 : Int) (List.getD x0 (Int.toNat d1.2.1) (0 : Int))) && ((!bif ilt (List.getD x0 (Int.toNat d1.2.1) (0 : Int)) (1 : Int) then true else ilt (8 : Int) (List.getD x0 (Int.toNat d1.2.1) (0 : Int))) && ilt (0 : Int) d1.2.1)) = true) (gd (((!bif ilt (List.getD x0 (Int.toNat d1.2.1) (0 : Int)) (1 : Int) then true else ilt (8 : Int) (List.getD x0 (Int.toNat d1.2.1) (0 : Int))) && ((!bif ilt (List.getD x0 (Int.toNat d1.2.1) (0 : Int)) (1 : Int) then true else ilt (8 : Int) (List.getD x0 (Int.toNat d1.2.1) (0 : Int))) && ilt (0 : Int) d1.2.1)) = true → ((!bif ilt (List.getD x0 (Int.toNat d1.2.1) (0 : Int)) (1 : Int) then true else ilt (8 : Int) (List.getD x0 (Int.toNat d1.2.1) (0 : Int))) && ((!bif ilt (List.getD x0 (Int.toNat d1.2.1) (0 : Int)) (1 : Int) then true else ilt (8 : Int) (List.getD x0 (Int.toNat d1.2.1) (0 : Int))) && ilt (0 : Int) d1.2.1)) = true ∧ ((!bif ilt (List.getD x0 (Int.toNat d1.2.1) (0 : Int)) (1 : Int) then true else ilt (8 : Int) (List.getD x0 (Int.toNat d1.2.1) (0 : Int))) && ((!bif ilt (List.getD x0 (Int.toNat d1.2.1) (0 : Int)) (1 : Int) then true else ilt (8 : Int) (List.getD x0 (Int.toNat d1.2.1) (0 : Int))) && ilt (0 : Int) d1.2.1)) = true ∧ (0 : Int) ≤ wr IntKind.i64 (d1.2.1 - (1 : Int)) ∧ wr IntKind.i64 (d1.2.1 - (1 : Int)) < (↑(List.length x0) : Int)) (gd (((!bif ilt (List.getD x0 (Int.toNat d1.2.1) (0 : Int)) (1 : Int) then true else ilt (8 : Int) (List.getD x0 (Int.toNat d1.2.1) (0 : Int))) && ((!bif ilt (List.getD x0 (Int.toNat d1.2.1) (0 : Int)) (1 : Int) then true else ilt (8 : Int) (List.getD x0 (Int.toNat d1.2.1) (0 : Int))) && ilt (0 : Int) d1.2.1)) = true → ((!bif ilt (List.getD x0 (Int.toNat d1.2.1) (0 : Int)) (1 : Int) then true else ilt (8 : Int) (List.getD x0 (Int.toNat d1.2.1) (0 : Int))) && ((!bif ilt (List.getD x0 (Int.toNat d1.2.1) (0 : Int)) (1 : Int) then true else ilt (8 : Int) (List.getD x0 (Int.toNat d1.2.1) (0 : Int))) && ilt (0 : Int) d1.2.1)) = true) (gd (((!bif ilt (List.getD x0 (Int.toNat d1.2.1) (0 : Int)) (1 : Int) then true else ilt (8 : Int) (List.getD x0 (Int.toNat d1.2.1) (0 : Int))) && ((!bif ilt (List.getD x0 (Int.toNat d1.2.1) (0 : Int)) (1 : Int) then true else ilt (8 : Int) (List.getD x0 (Int.toNat d1.2.1) (0 : Int))) && ilt (0 : Int) d1.2.1)) = true → ((!bif ilt (List.getD x0 (Int.toNat d1.2.1) (0 : Int)) (1 : Int) then true else ilt (8 : Int) (List.getD x0 (Int.toNat d1.2.1) (0 : Int))) && ((!bif ilt (List.getD x0 (Int.toNat d1.2.1) (0 : Int)) (1 : Int) then true else ilt (8 : Int) (List.getD x0 (Int.toNat d1.2.1) (0 : Int))) && ilt (0 : Int) d1.2.1)) = true ∧ ((!bif ilt (List.getD x0 (Int.toNat d1.2.1) (0 : Int)) (1 : Int) then true else ilt (8 : Int) (List.getD x0 (Int.toNat d1.2.1) (0 : Int))) && ((!bif ilt (List.getD x0 (Int.toNat d1.2.1) (0 : Int)) (1 : Int) then true else ilt (8 : Int) (List.getD x0 (Int.toNat d1.2.1) (0 : Int))) && ilt (0 : Int) d1.2.1)) = true) (gd ((!bif ilt (List.getD x0 (Int.toNat d1.2.1) (0 : Int)) (1 : Int) then true else ilt (8 : Int) (List.getD x0 (Int.toNat d1.2.1) (0 : Int))) = true → (!bif ilt (List.getD x0 (Int.toNat d1.2.1) (0 : Int)) (1 : Int) then true else ilt (8 : Int) (List.getD x0 (Int.toNat d1.2.1) (0 : Int))) = true ∧ (!bif ilt (List.getD x0 (Int.toNat d1.2.1) (0 : Int)) (1 : Int) then true else ilt (8 : Int) (List.getD x0 (Int.toNat d1.2.1) (0 : Int))) = true ∧ (ilt (0 : Int) d1.2.1 = true → ((!bif ilt (List.getD x0 (Int.toNat d1.2.1) (0 : Int)) (1 : Int) then true else ilt (8 : Int) (List.getD x0 (Int.toNat d1.2.1) (0 : Int))) && ((!bif ilt (List.getD x0 (Int.toNat d1.2.1) (0 : Int)) (1 : Int) then true else ilt (8 : Int) (List.getD x0 (Int.toNat d1.2.1) (0 : Int))) && ilt (0 : Int) d1.2.1)) = true)) (gd ((bif ilt (List.getD x0 (Int.toNat d1.2.1) (0 : Int)) (1 : Int) then true else ilt (8 : Int) (List.getD x0 (Int.toNat d1.2.1) (0 : Int))) = false → (!bif ilt (List.getD x0 (Int.toNat d1.2.1) (0 : Int)) (1 : Int) then true else ilt (8 : Int) (List.getD x0 (Int.toNat d1.2.1) (0 : Int))) = true) (bif bif bif ilt (List.getD x0 (Int.toNat d1.2.1) (0 : Int)) (1 : Int) then true else ilt (8 : Int) (List.getD x0 (Int.toNat d1.2.1) (0 : Int)) then true else bif ilt (0 : Int) d1.2.1 then ilt (List.getD x0 (Int.toNat (wr IntKind.i64 (d1.2.1 - (1 : Int)))) (0 : Int)) (List.getD x0 (Int.toNat d1.2.1) (0 : Int)) else false then some (Lp.out ((false, ()) : Bool × Unit)) else bif ilt (8 : Int) (wr IntKind.i64 (d1.1 + List.getD x0 (Int.toNat d1.2.1) (0 : Int))) then some (Lp.out ((false, ()) : Bool × Unit)) else some (Lp.go ((wr IntKind.i64 (d1.1 + List.getD x0 (Int.toNat d1.2.1) (0 : Int)), wr IntKind.i64 (d1.2.1 + (1 : Int)), ()) : Int × Int × Unit)))))))))))) else some (Lp.out ((true, ()) : Bool × Unit))) (((0 : Int), (0 : Int), ()) : Int × Int × Unit)
noncomputable def g22_sh : List LSh := LSh.mk (((3, TV.v (Ty.int IntKind.i64)) : Nat × TV) :: ((8, TV.v (Ty.int IntKind.i64)) : Nat × TV) :: ([] : List (Nat × TV))) ([] : List TB) :: ([] : List LSh)
noncomputable def con83 : SCon := mkS 83 [.v LLI] [] [.slf 0 1] [.nest I64] (fun (rows : List (List Int)) => [rows.length ≤ 1000 ∧ ∀ r ∈ rows, r.length ≤ 1000]) (fun (rows : List (List Int)) => (rows, ()))
noncomputable def g83 (x0 : List (List Int)) : Option (List (List Int) × Unit) := gd ((0 : Nat) = (0 : Nat)) (whileO (fun (d1 : Int × List (List Int) × Unit) => bif ilt d1.1 (↑(List.length x0) : Int) then gd ((0 : Int) ≤ d1.1 ∧ d1.1 < (↑(List.length x0) : Int)) (gd ((0 : Nat) ≤ (0 : Nat)) (gd (((0 : Nat) + List.length (List.getD x0 (Int.toNat d1.1) ([] : List Int))) * (8 : Nat) ≤ (1099511627776 : Nat)) (gd ((0 : Nat) + List.length (List.getD x0 (Int.toNat d1.1) ([] : List Int)) = List.length (List.getD x0 (Int.toNat d1.1) ([] : List Int))) (gd (List.length d1.2.1 ≤ List.length d1.2.1) (gd ((List.length d1.2.1 + (1 : Nat)) * (24 : Nat) ≤ (1099511627776 : Nat)) (gd (List.length d1.2.1 + (1 : Nat) = List.length (List.take (List.length d1.2.1) d1.2.1 ++ List.getD x0 (Int.toNat d1.1) ([] : List Int) :: ([] : List (List Int)))) (some (Lp.go ((wr IntKind.i64 (d1.1 + (1 : Int)), List.take (List.length d1.2.1) d1.2.1 ++ List.getD x0 (Int.toNat d1.1) ([] : List Int) :: ([] : List (List Int)), ()) : Int × List (List Int) × Unit))))))))) else gd (List.length d1.2.1 = List.length d1.2.1) (some (Lp.out ((d1.2.1, ()) : List (List Int) × Unit)))) (((0 : Int), ([] : List (List Int)), ()) : Int × List (List Int) × Unit))
noncomputable def g83_sh : List LSh := LSh.mk (((3, TV.slf (0) (1)) : Nat × TV) :: ((8, TV.v (Ty.int IntKind.i64)) : Nat × TV) :: ([] : List (Nat × TV))) (TB.nest (Ty.int IntKind.i64) :: ([] : List TB)) :: ([] : List LSh)
def eqL1 (a b : List Int) : Bool := decide (a = b)
def eqL2 (a b : List (List Int)) : Bool := decide (a = b)
def eqL3 (a b : List (List (List Int))) : Bool := decide (a = b)
noncomputable def con51 : Con := mkC 51 [.d LI, .d LI] [.bool] (fun (a b : List Int) => [small a]) (fun (a b : List Int) => (eqL1 a b, ()))
noncomputable def g51 (x0 x1 : List Int) : Option (Bool × Unit) := bif !ieq (↑(List.length x0) : Int) (↑(List.length x1) : Int) then some ((false, ()) : Bool × Unit) else whileO (fun (d2 : Int × Unit) => bif ilt d2.1 (↑(List.length x0) : Int) then gd ((0 : Int) ≤ d2.1 ∧ d2.1 < (↑(List.length x0) : Int)) (gd ((0 : Int) ≤ d2.1 ∧ d2.1 < (↑(List.length x1) : Int)) (bif !ieq (List.getD x0 (Int.toNat d2.1) (0 : Int)) (List.getD x1 (Int.toNat d2.1) (0 : Int)) then some (Lp.out ((false, ()) : Bool × Unit)) else some (Lp.go ((wr IntKind.i64 (d2.1 + (1 : Int)), ()) : Int × Unit)))) else some (Lp.out ((true, ()) : Bool × Unit))) (((0 : Int), ()) : Int × Unit)
noncomputable def g51_sh : List LSh := LSh.mk (((13, TV.v (Ty.int IntKind.i64)) : Nat × TV) :: ([] : List (Nat × TV))) ([] : List TB) :: ([] : List LSh)
noncomputable def con74 : Con := mkC 74 [.d LLI, .d LLI, .fn 51 []] [.bool] (fun (a b : List (List Int)) => [small a ∧ ∀ r ∈ a, small r]) (fun (a b : List (List Int)) => (eqL2 a b, ()))
noncomputable def g74 (x0 x1 : List (List Int)) : Option (Bool × Unit) := bif !ieq (↑(List.length x0) : Int) (↑(List.length x1) : Int) then some ((false, ()) : Bool × Unit) else whileO (fun (d2 : Int × Unit) => bif ilt d2.1 (↑(List.length x0) : Int) then gd ((0 : Int) ≤ d2.1 ∧ d2.1 < (↑(List.length x0) : Int)) (gd ((0 : Int) ≤ d2.1 ∧ d2.1 < (↑(List.length x1) : Int)) (gd (small (List.getD x0 (Int.toNat d2.1) ([] : List Int))) (bif !eqL1 (List.getD x0 (Int.toNat d2.1) ([] : List Int)) (List.getD x1 (Int.toNat d2.1) ([] : List Int)) then some (Lp.out ((false, ()) : Bool × Unit)) else some (Lp.go ((wr IntKind.i64 (d2.1 + (1 : Int)), ()) : Int × Unit))))) else some (Lp.out ((true, ()) : Bool × Unit))) (((0 : Int), ()) : Int × Unit)
noncomputable def g74_sh : List LSh := LSh.mk (((2, TV.fn (51) TV.nil) : Nat × TV) :: ((17, TV.v (Ty.int IntKind.i64)) : Nat × TV) :: ([] : List (Nat × TV))) ([] : List TB) :: ([] : List LSh)
noncomputable def con27 : Con := mkC 27 [.d LLI, .d LLI] [.bool] (fun (a b : List (List Int)) => [small a ∧ ∀ r ∈ a, small r]) (fun (a b : List (List Int)) => (eqL2 a b, ()))
noncomputable def g27 (x0 x1 : List (List Int)) : Option (Bool × Unit) := gd (small x0 ∧ ∀ (x2 : List Int), List.Mem x2 x0 → small x2) (some ((eqL2 x0 x1, ()) : Bool × Unit))
noncomputable def g27_sh : List LSh := ([] : List LSh)
def ok3 (a : List (List (List Int))) : Prop := small a ∧ ∀ t ∈ a, small t ∧ ∀ r ∈ t, small r
noncomputable def con24 : Con := mkC 24 [] [.bool] [] (true, ())
noncomputable def g24  : Option (Bool × Unit) := gd ((1 : Nat) ≤ (1000 : Nat) ∧ (2 : Nat) ≤ (1000 : Nat)) (gd (ieq (fillF ((1 : Int) :: ([] : List Int)) ((0 : Int) :: (1 : Int) :: ([] : List Int))).2.1 (0 : Int) = true → ieq (fillF ((1 : Int) :: ([] : List Int)) ((0 : Int) :: (1 : Int) :: ([] : List Int))).2.1 (0 : Int) = true) (gd (ieq (fillF ((1 : Int) :: ([] : List Int)) ((0 : Int) :: (1 : Int) :: ([] : List Int))).2.1 (0 : Int) = true → ieq (fillF ((1 : Int) :: ([] : List Int)) ((0 : Int) :: (1 : Int) :: ([] : List Int))).2.1 (0 : Int) = true) (gd (ieq (fillF ((1 : Int) :: ([] : List Int)) ((0 : Int) :: (1 : Int) :: ([] : List Int))).2.1 (0 : Int) = true → ieq (fillF ((1 : Int) :: ([] : List Int)) ((0 : Int) :: (1 : Int) :: ([] : List Int))).2.1 (0 : Int) = true) (gd ((bif ieq (fillF ((1 : Int) :: ([] : List Int)) ((0 : Int) :: (1 : Int) :: ([] : List Int))).2.1 (0 : Int) then ieq (↑(List.length (fillF ((1 : Int) :: ([] : List Int)) ((0 : Int) :: (1 : Int) :: ([] : List Int))).1) : Int) (1 : Int) else false) = true → (bif ieq (fillF ((1 : Int) :: ([] : List Int)) ((0 : Int) :: (1 : Int) :: ([] : List Int))).2.1 (0 : Int) then ieq (↑(List.length (fillF ((1 : Int) :: ([] : List Int)) ((0 : Int) :: (1 : Int) :: ([] : List Int))).1) : Int) (1 : Int) else false) = true ∧ (0 : Int) ≤ (0 : Int) ∧ (0 : Int) < (↑(List.length (fillF ((1 : Int) :: ([] : List Int)) ((0 : Int) :: (1 : Int) :: ([] : List Int))).1) : Int)) (gd ((bif ieq (fillF ((1 : Int) :: ([] : List Int)) ((0 : Int) :: (1 : Int) :: ([] : List Int))).2.1 (0 : Int) then ieq (↑(List.length (fillF ((1 : Int) :: ([] : List Int)) ((0 : Int) :: (1 : Int) :: ([] : List Int))).1) : Int) (1 : Int) else false) = true → (bif ieq (fillF ((1 : Int) :: ([] : List Int)) ((0 : Int) :: (1 : Int) :: ([] : List Int))).2.1 (0 : Int) then ieq (↑(List.length (fillF ((1 : Int) :: ([] : List Int)) ((0 : Int) :: (1 : Int) :: ([] : List Int))).1) : Int) (1 : Int) else false) = true) (gd ((bif ieq (fillF ((1 : Int) :: ([] : List Int)) ((0 : Int) :: (1 : Int) :: ([] : List Int))).2.1 (0 : Int) then ieq (↑(List.length (fillF ((1 : Int) :: ([] : List Int)) ((0 : Int) :: (1 : Int) :: ([] : List Int))).1) : Int) (1 : Int) else false) = true → (bif ieq (fillF ((1 : Int) :: ([] : List Int)) ((0 : Int) :: (1 : Int) :: ([] : List Int))).2.1 (0 : Int) then ieq (↑(List.length (fillF ((1 : Int) :: ([] : List Int)) ((0 : Int) :: (1 : Int) :: ([] : List Int))).1) : Int) (1 : Int) else false) = true) (gd ((bif ieq (fillF ((1 : Int) :: ([] : List Int)) ((0 : Int) :: (1 : Int) :: ([] : List Int))).2.1 (0 : Int) then ieq (↑(List.length (fillF ((1 : Int) :: ([] : List Int)) ((0 : Int) :: (1 : Int) :: ([] : List Int))).1) : Int) (1 : Int) else false) = true → (bif ieq (fillF ((1 : Int) :: ([] : List Int)) ((0 : Int) :: (1 : Int) :: ([] : List Int))).2.1 (0 : Int) then ieq (↑(List.length (fillF ((1 : Int) :: ([] : List Int)) ((0 : Int) :: (1 : Int) :: ([] : List Int))).1) : Int) (1 : Int) else false) = true ∧ (bif ieq (fillF ((1 : Int) :: ([] : List Int)) ((0 : Int) :: (1 : Int) :: ([] : List Int))).2.1 (0 : Int) then ieq (↑(List.length (fillF ((1 : Int) :: ([] : List Int)) ((0 : Int) :: (1 : Int) :: ([] : List Int))).1) : Int) (1 : Int) else false) = true ∧ small (List.getD (fillF ((1 : Int) :: ([] : List Int)) ((0 : Int) :: (1 : Int) :: ([] : List Int))).1 (0 : Nat) ([] : List (List Int))) ∧ ∀ (x0 : List Int), List.Mem x0 (List.getD (fillF ((1 : Int) :: ([] : List Int)) ((0 : Int) :: (1 : Int) :: ([] : List Int))).1 (0 : Nat) ([] : List (List Int))) → small x0) (gd ((bif ieq (fillF ((1 : Int) :: ([] : List Int)) ((0 : Int) :: (1 : Int) :: ([] : List Int))).2.1 (0 : Int) then ieq (↑(List.length (fillF ((1 : Int) :: ([] : List Int)) ((0 : Int) :: (1 : Int) :: ([] : List Int))).1) : Int) (1 : Int) else false) = true → (bif ieq (fillF ((1 : Int) :: ([] : List Int)) ((0 : Int) :: (1 : Int) :: ([] : List Int))).2.1 (0 : Int) then ieq (↑(List.length (fillF ((1 : Int) :: ([] : List Int)) ((0 : Int) :: (1 : Int) :: ([] : List Int))).1) : Int) (1 : Int) else false) = true) (some ((bif bif ieq (fillF ((1 : Int) :: ([] : List Int)) ((0 : Int) :: (1 : Int) :: ([] : List Int))).2.1 (0 : Int) then ieq (↑(List.length (fillF ((1 : Int) :: ([] : List Int)) ((0 : Int) :: (1 : Int) :: ([] : List Int))).1) : Int) (1 : Int) else false then eqL2 (List.getD (fillF ((1 : Int) :: ([] : List Int)) ((0 : Int) :: (1 : Int) :: ([] : List Int))).1 (0 : Nat) ([] : List (List Int))) (((2 : Int) :: ([] : List Int)) :: ([] : List (List Int))) else false, ()) : Bool × Unit))))))))))
noncomputable def g24_sh : List LSh := ([] : List LSh)

/-! The reference's fillings. -/
def skipX (left : List Int) (rows : List (List Int)) (i : Nat) (x : Int) : Bool :=
  decide (left.getD (x - 1).toNat 0 = 0) || (decide (rows.getD i [] ≠ []) && decide (x < (rows.getD i []).getLastD 0)) || (decide (0 < i) && decide (x ≤ (rows.getD (i - 1) []).getD (rows.getD i []).length 0))
def refF (l : List Int) : Nat → List Int → List (List Int) → Nat → List (List (List Int))
  | 0, _, _, _ => []
  | n + 1, left, rows, i =>
    if i = l.length then [rows] else
    if ((rows.getD i []).length : Int) = l.getD i 0 then refF l n left rows (i + 1) else
    catX (fun x => if skipX left rows i x = true then [] else refF l n (left.set (x - 1).toNat (left.getD (x - 1).toNat 0 - 1)) (rows.set i (rows.getD i [] ++ [x])) i) left.length 1
structure preR (n : Nat) (l left : List Int) (rows : List (List Int)) (i : Int) : Prop where
  ll : l.length ≤ 8
  l8 : ∀ k : Nat, l.getD k 0 ≤ 8
  ld : ∀ k : Nat, l.getD (k + 1) 0 ≤ l.getD k 0
  len : rows.length = l.length
  i0 : 0 ≤ i ∧ i ≤ l.length
  fl : ∀ k : Nat, (k : Int) < i → ((rows.getD k []).length : Int) = l.getD k 0
  la : ∀ k : Nat, ((rows.getD k []).length : Int) ≤ l.getD k 0
  lf : left.length ≤ 8 ∧ ∀ x ∈ left, 0 ≤ x ∧ x ≤ 8
  mu : 9 * (l.length - i.toNat) + (8 - (rows.getD i.toNat []).length) < n
noncomputable def con73 (n : Nat) : SCon := mkS 73 [.v LI, .v LI, .v LLI, .v I64] [] [.v L3I] [] (fun (l left : List Int) (rows : List (List Int)) (i : Int) => [preR n l left rows i ∧ (refF l n left rows i.toNat).length ≤ 500000000]) (fun (l left : List Int) (rows : List (List Int)) (i : Int) => (refF l n left rows i.toNat, ()))
noncomputable def g73_c0 (x1 : List Int) (x2 : List (List Int)) (x3 : Int) (d5 : Int × List (List (List Int)) × Unit) : Bool := !ieq (List.getD x1 (Int.toNat (wr IntKind.i64 (d5.1 - (1 : Int)))) (0 : Int)) (0 : Int) && (!ieq (List.getD x1 (Int.toNat (wr IntKind.i64 (d5.1 - (1 : Int)))) (0 : Int)) (0 : Int) && ilt (0 : Int) (↑(List.length (List.getD x2 (Int.toNat x3) ([] : List Int))) : Int))
noncomputable def g73_c1 (x2 : List (List Int)) (x3 : Int) (d5 : Int × List (List (List Int)) × Unit) : Bool := ilt d5.1 (List.getD (List.getD x2 (Int.toNat x3) ([] : List Int)) (Int.toNat (wr IntKind.i64 ((↑(List.length (List.getD x2 (Int.toNat x3) ([] : List Int))) : Int) - (1 : Int)))) (0 : Int))
noncomputable def g73_c2 (x1 : List Int) (x2 : List (List Int)) (x3 : Int) (d5 : Int × List (List (List Int)) × Unit) : Bool := bif ieq (List.getD x1 (Int.toNat (wr IntKind.i64 (d5.1 - (1 : Int)))) (0 : Int)) (0 : Int) then true else bif ilt (0 : Int) (↑(List.length (List.getD x2 (Int.toNat x3) ([] : List Int))) : Int) then g73_c1 x2 x3 d5 else false
noncomputable def g73_c3 (x2 : List (List Int)) (x3 : Int) (d5 : Int × List (List (List Int)) × Unit) : Bool := bif ilt (0 : Int) x3 then ile d5.1 (List.getD (List.getD x2 (Int.toNat (wr IntKind.i64 (x3 - (1 : Int)))) ([] : List Int)) (List.length (List.getD x2 (Int.toNat x3) ([] : List Int))) (0 : Int)) else false
noncomputable def g73_c4 (x1 : List Int) (d5 : Int × List (List (List Int)) × Unit) : Int := wr IntKind.i64 (List.getD x1 ((0 : Nat) + Int.toNat (wr IntKind.i64 (d5.1 - (1 : Int)))) (0 : Int) - (1 : Int))
noncomputable def g73 (n : Nat) (x0 x1 : List Int) (x2 : List (List Int)) (x3 : Int) : Option (List (List (List Int)) × Unit) := bif ieq x3 (↑(List.length x0) : Int) then gd (List.length x2 ≤ (1000 : Nat) ∧ ∀ (x5 : List Int), List.Mem x5 x2 → List.length x5 ≤ (1000 : Nat)) (gd ((0 : Nat) + List.length x2 ≤ List.length x2) (some ((List.take (List.length x2) (List.drop (0 : Nat) x2) :: ([] : List (List (List Int))), ()) : List (List (List Int)) × Unit))) else gd ((0 : Int) ≤ x3 ∧ x3 < (↑(List.length x2) : Int)) (gd ((0 : Int) ≤ x3 ∧ x3 < (↑(List.length x0) : Int)) (bif ieq (↑(List.length (List.getD x2 (Int.toNat x3) ([] : List Int))) : Int) (List.getD x0 (Int.toNat x3) (0 : Int)) then gd (preR n x0 x1 x2 (wr IntKind.i64 (x3 + (1 : Int))) ∧ List.length (refF x0 n x1 x2 (Int.toNat (wr IntKind.i64 (x3 + (1 : Int))))) ≤ (500000000 : Nat)) (some ((refF x0 n x1 x2 (Int.toNat (wr IntKind.i64 (x3 + (1 : Int)))), ()) : List (List (List Int)) × Unit)) else gd ((0 : Nat) = (0 : Nat)) (whileO (fun (d5 : Int × List (List (List Int)) × Unit) => bif ile d5.1 (↑(List.length x1) : Int) then gd ((0 : Int) ≤ wr IntKind.i64 (d5.1 - (1 : Int)) ∧ wr IntKind.i64 (d5.1 - (1 : Int)) < (↑(List.length x1) : Int)) (gd ((!ieq (List.getD x1 (Int.toNat (wr IntKind.i64 (d5.1 - (1 : Int)))) (0 : Int)) (0 : Int)) = true → (!ieq (List.getD x1 (Int.toNat (wr IntKind.i64 (d5.1 - (1 : Int)))) (0 : Int)) (0 : Int)) = true) (gd ((!ieq (List.getD x1 (Int.toNat (wr IntKind.i64 (d5.1 - (1 : Int)))) (0 : Int)) (0 : Int) && (!ieq (List.getD x1 (Int.toNat (wr IntKind.i64 (d5.1 - (1 : Int)))) (0 : Int)) (0 : Int) && ilt (0 : Int) (↑(List.length (List.getD x2 (Int.toNat x3) ([] : List Int))) : Int))) = true → g73_c0 x1 x2 x3 d5 = true ∧ g73_c0 x1 x2 x3 d5 = true ∧ (0 : Int) ≤ x3 ∧ x3 < (↑(List.length x2) : Int)) (gd ((!ieq (List.getD x1 (Int.toNat (wr IntKind.i64 (d5.1 - (1 : Int)))) (0 : Int)) (0 : Int) && (!ieq (List.getD x1 (Int.toNat (wr IntKind.i64 (d5.1 - (1 : Int)))) (0 : Int)) (0 : Int) && ilt (0 : Int) (↑(List.length (List.getD x2 (Int.toNat x3) ([] : List Int))) : Int))) = true → g73_c0 x1 x2 x3 d5 = true) (gd ((!ieq (List.getD x1 (Int.toNat (wr IntKind.i64 (d5.1 - (1 : Int)))) (0 : Int)) (0 : Int) && (!ieq (List.getD x1 (Int.toNat (wr IntKind.i64 (d5.1 - (1 : Int)))) (0 : Int)) (0 : Int) && ilt (0 : Int) (↑(List.length (List.getD x2 (Int.toNat x3) ([] : List Int))) : Int))) = true → g73_c0 x1 x2 x3 d5 = true) (gd ((!ieq (List.getD x1 (Int.toNat (wr IntKind.i64 (d5.1 - (1 : Int)))) (0 : Int)) (0 : Int) && (!ieq (List.getD x1 (Int.toNat (wr IntKind.i64 (d5.1 - (1 : Int)))) (0 : Int)) (0 : Int) && ilt (0 : Int) (↑(List.length (List.getD x2 (Int.toNat x3) ([] : List Int))) : Int))) = true → g73_c0 x1 x2 x3 d5 = true ∧ g73_c0 x1 x2 x3 d5 = true ∧ (0 : Int) ≤ wr IntKind.i64 ((↑(List.length (List.getD x2 (Int.toNat x3) ([] : List Int))) : Int) - (1 : Int)) ∧ wr IntKind.i64 ((↑(List.length (List.getD x2 (Int.toNat x3) ([] : List Int))) : Int) - (1 : Int)) < (↑(List.length (List.getD x2 (Int.toNat x3) ([] : List Int))) : Int)) (gd ((!ieq (List.getD x1 (Int.toNat (wr IntKind.i64 (d5.1 - (1 : Int)))) (0 : Int)) (0 : Int) && (!ieq (List.getD x1 (Int.toNat (wr IntKind.i64 (d5.1 - (1 : Int)))) (0 : Int)) (0 : Int) && ilt (0 : Int) (↑(List.length (List.getD x2 (Int.toNat x3) ([] : List Int))) : Int))) = true → g73_c0 x1 x2 x3 d5 = true) (gd ((!ieq (List.getD x1 (Int.toNat (wr IntKind.i64 (d5.1 - (1 : Int)))) (0 : Int)) (0 : Int) && (!ieq (List.getD x1 (Int.toNat (wr IntKind.i64 (d5.1 - (1 : Int)))) (0 : Int)) (0 : Int) && ilt (0 : Int) (↑(List.length (List.getD x2 (Int.toNat x3) ([] : List Int))) : Int))) = true → g73_c0 x1 x2 x3 d5 = true ∧ g73_c0 x1 x2 x3 d5 = true) (gd ((!ieq (List.getD x1 (Int.toNat (wr IntKind.i64 (d5.1 - (1 : Int)))) (0 : Int)) (0 : Int)) = true → (!ieq (List.getD x1 (Int.toNat (wr IntKind.i64 (d5.1 - (1 : Int)))) (0 : Int)) (0 : Int)) = true ∧ (!ieq (List.getD x1 (Int.toNat (wr IntKind.i64 (d5.1 - (1 : Int)))) (0 : Int)) (0 : Int)) = true ∧ (ilt (0 : Int) (↑(List.length (List.getD x2 (Int.toNat x3) ([] : List Int))) : Int) = true → g73_c0 x1 x2 x3 d5 = true)) (gd (ieq (List.getD x1 (Int.toNat (wr IntKind.i64 (d5.1 - (1 : Int)))) (0 : Int)) (0 : Int) = false → (!ieq (List.getD x1 (Int.toNat (wr IntKind.i64 (d5.1 - (1 : Int)))) (0 : Int)) (0 : Int)) = true) (gd ((!g73_c2 x1 x2 x3 d5) = true → (!g73_c2 x1 x2 x3 d5) = true) (gd ((!g73_c2 x1 x2 x3 d5 && (!g73_c2 x1 x2 x3 d5 && ilt (0 : Int) x3)) = true → (!g73_c2 x1 x2 x3 d5 && (!g73_c2 x1 x2 x3 d5 && ilt (0 : Int) x3)) = true) (gd ((!g73_c2 x1 x2 x3 d5 && (!g73_c2 x1 x2 x3 d5 && ilt (0 : Int) x3)) = true → (!g73_c2 x1 x2 x3 d5 && (!g73_c2 x1 x2 x3 d5 && ilt (0 : Int) x3)) = true ∧ (!g73_c2 x1 x2 x3 d5 && (!g73_c2 x1 x2 x3 d5 && ilt (0 : Int) x3)) = true ∧ (0 : Int) ≤ wr IntKind.i64 (x3 - (1 : Int)) ∧ wr IntKind.i64 (x3 - (1 : Int)) < (↑(List.length x2) : Int)) (gd ((!g73_c2 x1 x2 x3 d5 && (!g73_c2 x1 x2 x3 d5 && ilt (0 : Int) x3)) = true → (!g73_c2 x1 x2 x3 d5 && (!g73_c2 x1 x2 x3 d5 && ilt (0 : Int) x3)) = true) (gd ((!g73_c2 x1 x2 x3 d5 && (!g73_c2 x1 x2 x3 d5 && ilt (0 : Int) x3)) = true → (!g73_c2 x1 x2 x3 d5 && (!g73_c2 x1 x2 x3 d5 && ilt (0 : Int) x3)) = true ∧ (!g73_c2 x1 x2 x3 d5 && (!g73_c2 x1 x2 x3 d5 && ilt (0 : Int) x3)) = true ∧ (0 : Int) ≤ (↑(List.length (List.getD x2 (Int.toNat x3) ([] : List Int))) : Int) ∧ (↑(List.length (List.getD x2 (Int.toNat x3) ([] : List Int))) : Int) < (↑(List.length (List.getD x2 (Int.toNat (wr IntKind.i64 (x3 - (1 : Int)))) ([] : List Int))) : Int)) (gd ((!g73_c2 x1 x2 x3 d5 && (!g73_c2 x1 x2 x3 d5 && ilt (0 : Int) x3)) = true → (!g73_c2 x1 x2 x3 d5 && (!g73_c2 x1 x2 x3 d5 && ilt (0 : Int) x3)) = true) (gd ((!g73_c2 x1 x2 x3 d5 && (!g73_c2 x1 x2 x3 d5 && ilt (0 : Int) x3)) = true → (!g73_c2 x1 x2 x3 d5 && (!g73_c2 x1 x2 x3 d5 && ilt (0 : Int) x3)) = true ∧ (!g73_c2 x1 x2 x3 d5 && (!g73_c2 x1 x2 x3 d5 && ilt (0 : Int) x3)) = true) (gd ((!g73_c2 x1 x2 x3 d5) = true → (!g73_c2 x1 x2 x3 d5) = true ∧ (!g73_c2 x1 x2 x3 d5) = true ∧ (ilt (0 : Int) x3 = true → (!g73_c2 x1 x2 x3 d5 && (!g73_c2 x1 x2 x3 d5 && ilt (0 : Int) x3)) = true)) (gd (g73_c2 x1 x2 x3 d5 = false → (!g73_c2 x1 x2 x3 d5) = true) (bif bif g73_c2 x1 x2 x3 d5 then true else g73_c3 x2 x3 d5 then gd (List.length d5.2.1 = List.length d5.2.1) (some (Lp.go ((wr IntKind.i64 (d5.1 + (1 : Int)), d5.2.1, ()) : Int × List (List (List Int)) × Unit))) else gd (List.length x2 ≤ (1000 : Nat) ∧ ∀ (x5 : List Int), List.Mem x5 x2 → List.length x5 ≤ (1000 : Nat)) (gd ((0 : Int) ≤ x3 ∧ x3 < (↑(List.length x2) : Int)) (gd ((0 : Nat) + Int.toNat x3 < List.length x2) (gd ((0 : Nat) + Int.toNat x3 < List.length x2) (gd (List.length (List.getD x2 ((0 : Nat) + Int.toNat x3) ([] : List Int)) ≤ List.length (List.getD x2 ((0 : Nat) + Int.toNat x3) ([] : List Int))) (gd ((List.length (List.getD x2 ((0 : Nat) + Int.toNat x3) ([] : List Int)) + (1 : Nat)) * (8 : Nat) ≤ (1099511627776 : Nat)) (gd ((0 : Int) ≤ x3 ∧ x3 < (↑(List.length x2) : Int)) (gd ((0 : Nat) + Int.toNat x3 < List.length (List.set x2 ((0 : Nat) + Int.toNat x3) (List.take (List.length (List.getD x2 ((0 : Nat) + Int.toNat x3) ([] : List Int))) (List.getD x2 ((0 : Nat) + Int.toNat x3) ([] : List Int)) ++ d5.1 :: ([] : List Int)))) (gd ((0 : Nat) + Int.toNat x3 = (0 : Nat) + Int.toNat x3) (gd ((0 : Nat) + Int.toNat x3 = (0 : Nat) + Int.toNat x3) (gd (List.length (List.getD x2 ((0 : Nat) + Int.toNat x3) ([] : List Int)) + (1 : Nat) = List.length (List.getD (List.set x2 ((0 : Nat) + Int.toNat x3) (List.take (List.length (List.getD x2 ((0 : Nat) + Int.toNat x3) ([] : List Int))) (List.getD x2 ((0 : Nat) + Int.toNat x3) ([] : List Int)) ++ d5.1 :: ([] : List Int))) ((0 : Nat) + Int.toNat x3) ([] : List Int))) (gd ((0 : Nat) ≤ (0 : Nat)) (gd (((0 : Nat) + List.length x1) * (8 : Nat) ≤ (1099511627776 : Nat)) (gd ((0 : Int) ≤ wr IntKind.i64 (d5.1 - (1 : Int)) ∧ wr IntKind.i64 (d5.1 - (1 : Int)) < (↑((0 : Nat) + List.length x1) : Int)) (gd ((0 : Nat) + Int.toNat (wr IntKind.i64 (d5.1 - (1 : Int))) < List.length x1) (gd ((0 : Int) ≤ wr IntKind.i64 (d5.1 - (1 : Int)) ∧ wr IntKind.i64 (d5.1 - (1 : Int)) < (↑((0 : Nat) + List.length x1) : Int)) (gd ((0 : Nat) + Int.toNat (wr IntKind.i64 (d5.1 - (1 : Int))) < List.length x1) (gd ((0 : Nat) + ((0 : Nat) + List.length x1) ≤ List.length (List.set x1 ((0 : Nat) + Int.toNat (wr IntKind.i64 (d5.1 - (1 : Int)))) (g73_c4 x1 d5))) (gd ((0 : Nat) + List.length x2 ≤ List.length (List.set x2 ((0 : Nat) + Int.toNat x3) (List.take (List.length (List.getD x2 ((0 : Nat) + Int.toNat x3) ([] : List Int))) (List.getD x2 ((0 : Nat) + Int.toNat x3) ([] : List Int)) ++ d5.1 :: ([] : List Int)))) (gd (preR n x0 (List.take ((0 : Nat) + List.length x1) (List.drop (0 : Nat) (List.set x1 ((0 : Nat) + Int.toNat (wr IntKind.i64 (d5.1 - (1 : Int)))) (g73_c4 x1 d5)))) (List.take (List.length x2) (List.drop (0 : Nat) (List.set x2 ((0 : Nat) + Int.toNat x3) (List.take (List.length (List.getD x2 ((0 : Nat) + Int.toNat x3) ([] : List Int))) (List.getD x2 ((0 : Nat) + Int.toNat x3) ([] : List Int)) ++ d5.1 :: ([] : List Int))))) x3 ∧ List.length (refF x0 n (List.take ((0 : Nat) + List.length x1) (List.drop (0 : Nat) (List.set x1 ((0 : Nat) + Int.toNat (wr IntKind.i64 (d5.1 - (1 : Int)))) (g73_c4 x1 d5)))) (List.take (List.length x2) (List.drop (0 : Nat) (List.set x2 ((0 : Nat) + Int.toNat x3) (List.take (List.length (List.getD x2 ((0 : Nat) + Int.toNat x3) ([] : List Int))) (List.getD x2 ((0 : Nat) + Int.toNat x3) ([] : List Int)) ++ d5.1 :: ([] : List Int))))) (Int.toNat x3)) ≤ (500000000 : Nat)) (gd (List.length d5.2.1 ≤ List.length d5.2.1) (gd ((List.length d5.2.1 + List.length (refF x0 n (List.take ((0 : Nat) + List.length x1) (List.drop (0 : Nat) (List.set x1 ((0 : Nat) + Int.toNat (wr IntKind.i64 (d5.1 - (1 : Int)))) (g73_c4 x1 d5)))) (List.take (List.length x2) (List.drop (0 : Nat) (List.set x2 ((0 : Nat) + Int.toNat x3) (List.take (List.length (List.getD x2 ((0 : Nat) + Int.toNat x3) ([] : List Int))) (List.getD x2 ((0 : Nat) + Int.toNat x3) ([] : List Int)) ++ d5.1 :: ([] : List Int))))) (Int.toNat x3))) * (24 : Nat) ≤ (1099511627776 : Nat)) (gd (List.length d5.2.1 + List.length (refF x0 n (List.take ((0 : Nat) + List.length x1) (List.drop (0 : Nat) (List.set x1 ((0 : Nat) + Int.toNat (wr IntKind.i64 (d5.1 - (1 : Int)))) (g73_c4 x1 d5)))) (List.take (List.length x2) (List.drop (0 : Nat) (List.set x2 ((0 : Nat) + Int.toNat x3) (List.take (List.length (List.getD x2 ((0 : Nat) + Int.toNat x3) ([] : List Int))) (List.getD x2 ((0 : Nat) + Int.toNat x3) ([] : List Int)) ++ d5.1 :: ([] : List Int))))) (Int.toNat x3)) = List.length (List.take (List.length d5.2.1) d5.2.1 ++ refF x0 n (List.take ((0 : Nat) + List.length x1) (List.drop (0 : Nat) (List.set x1 ((0 : Nat) + Int.toNat (wr IntKind.i64 (d5.1 - (1 : Int)))) (g73_c4 x1 d5)))) (List.take (List.length x2) (List.drop (0 : Nat) (List.set x2 ((0 : Nat) + Int.toNat x3) (List.take (List.length (List.getD x2 ((0 : Nat) + Int.toNat x3) ([] : List Int))) (List.getD x2 ((0 : Nat) + Int.toNat x3) ([] : List Int)) ++ d5.1 :: ([] : List Int))))) (Int.toNat x3))) (some (Lp.go ((wr IntKind.i64 (d5.1 + (1 : Int)), List.take (List.length d5.2.1) d5.2.1 ++ refF x0 n (List.take ((0 : Nat) + List.length x1) (List.drop (0 : Nat) (List.set x1 ((0 : Nat) + Int.toNat (wr IntKind.i64 (d5.1 - (1 : Int)))) (g73_c4 x1 d5)))) (List.take (List.length x2) (List.drop (0 : Nat) (List.set x2 ((0 : Nat) + Int.toNat x3) (List.take (List.length (List.getD x2 ((0 : Nat) + Int.toNat x3) ([] : List Int))) (List.getD x2 ((0 : Nat) + Int.toNat x3) ([] : List Int)) ++ d5.1 :: ([] : List Int))))) (Int.toNat x3), ()) : Int × List (List (List Int)) × Unit)))))))))))))))))))))))))))))))))))))))))))) else gd ((0 : Nat) + List.length d5.2.1 ≤ List.length d5.2.1) (some (Lp.out ((List.take (List.length d5.2.1) (List.drop (0 : Nat) d5.2.1), ()) : List (List (List Int)) × Unit)))) (((1 : Int), ([] : List (List (List Int))), ()) : Int × List (List (List Int)) × Unit))))
noncomputable def g73_sh : List LSh := LSh.mk (((9, TV.slf (0) (1)) : Nat × TV) :: ((11, TV.v (Ty.int IntKind.i64)) : Nat × TV) :: ([] : List (Nat × TV))) (TB.arr (Ty.slice (Ty.slice (Ty.int IntKind.i64))) true :: ([] : List TB)) :: ([] : List LSh)
def refFil (l m : List Int) : List (List (List Int)) := if boxW l = boxW m then refF l 81 m (List.replicate l.length []) 0 else []
noncomputable def con25 : Con := mkC 25 [.d LI, .d LI] [L3I] (fun (l m : List Int) => [shapeB l = true ∧ contB m = true]) (fun (l m : List Int) => (refFil l m, ()))
noncomputable def g25 (x0 x1 : List Int) : Option (List (List (List Int)) × Unit) := gd (List.length x0 ≤ (1000 : Nat)) (gd (List.length x1 ≤ (1000 : Nat)) (bif !ieq (boxW x0) (boxW x1) then some ((([] : List (List (List Int))), ()) : List (List (List Int)) × Unit) else gd ((0 : Int) ≤ (↑(List.length x0) : Int) ∧ (↑(List.length x0) : Int) ≤ (↑(List.length x0) : Int) ∧ (↑(List.length x0) : Int) * (24 : Int) ≤ (1099511627776 : Int)) (gd ((0 : Nat) ≤ (0 : Nat)) (gd (((0 : Nat) + List.length x1) * (8 : Nat) ≤ (1099511627776 : Nat)) (gd ((0 : Nat) + ((0 : Nat) + List.length x1) ≤ List.length x1) (gd ((0 : Nat) + List.length x0 ≤ List.length (List.replicate (List.length x0) ([] : List Int))) (gd (preR (81 : Nat) x0 (List.take ((0 : Nat) + List.length x1) (List.drop (0 : Nat) x1)) (List.take (List.length x0) (List.drop (0 : Nat) (List.replicate (List.length x0) ([] : List Int)))) (0 : Int) ∧ List.length (refF x0 (81 : Nat) (List.take ((0 : Nat) + List.length x1) (List.drop (0 : Nat) x1)) (List.take (List.length x0) (List.drop (0 : Nat) (List.replicate (List.length x0) ([] : List Int)))) (0 : Nat)) ≤ (500000000 : Nat)) (some ((refF x0 (81 : Nat) (List.take ((0 : Nat) + List.length x1) (List.drop (0 : Nat) x1)) (List.take (List.length x0) (List.drop (0 : Nat) (List.replicate (List.length x0) ([] : List Int)))) (0 : Nat), ()) : List (List (List Int)) × Unit)))))))))
noncomputable def g25_sh : List LSh := ([] : List LSh)
noncomputable def g3 (x0 x1 : List Int) : Option (Bool × Unit) := gd (List.length (List.take (12 : Nat) x0) ≤ (1000 : Nat) ∧ List.length (List.take (12 : Nat) x1) ≤ (1000 : Nat)) (gd (List.length (List.take (12 : Nat) x0) ≤ (1000 : Nat) ∧ List.length (List.take (12 : Nat) x1) ≤ (1000 : Nat)) (gd (small x0) (gd ((!!shapeB x0) = true → (!!shapeB x0) = true ∧ small x1) (gd ((!!shapeB x0) = true → (!!shapeB x0) = true) (gd ((!shapeB x0) = false → (!!shapeB x0) = true) (bif bif !shapeB x0 then true else !contB x1 then gd (ieq (↑(List.length (fillF (List.take (12 : Nat) x0) (List.take (12 : Nat) x1)).1) : Int) (0 : Int) = true → ieq (↑(List.length (fillF (List.take (12 : Nat) x0) (List.take (12 : Nat) x1)).1) : Int) (0 : Int) = true) (gd (ieq (↑(List.length (fillF (List.take (12 : Nat) x0) (List.take (12 : Nat) x1)).1) : Int) (0 : Int) = true → ieq (↑(List.length (fillF (List.take (12 : Nat) x0) (List.take (12 : Nat) x1)).1) : Int) (0 : Int) = true) (gd ((bif ieq (↑(List.length (fillF (List.take (12 : Nat) x0) (List.take (12 : Nat) x1)).1) : Int) (0 : Int) then ieq (kosF (List.take (12 : Nat) x0) (List.take (12 : Nat) x1)).1 (0 : Int) else false) = true → (bif ieq (↑(List.length (fillF (List.take (12 : Nat) x0) (List.take (12 : Nat) x1)).1) : Int) (0 : Int) then ieq (kosF (List.take (12 : Nat) x0) (List.take (12 : Nat) x1)).1 (0 : Int) else false) = true) (gd ((bif ieq (↑(List.length (fillF (List.take (12 : Nat) x0) (List.take (12 : Nat) x1)).1) : Int) (0 : Int) then ieq (kosF (List.take (12 : Nat) x0) (List.take (12 : Nat) x1)).1 (0 : Int) else false) = true → (bif ieq (↑(List.length (fillF (List.take (12 : Nat) x0) (List.take (12 : Nat) x1)).1) : Int) (0 : Int) then ieq (kosF (List.take (12 : Nat) x0) (List.take (12 : Nat) x1)).1 (0 : Int) else false) = true) (gd ((bif bif ieq (↑(List.length (fillF (List.take (12 : Nat) x0) (List.take (12 : Nat) x1)).1) : Int) (0 : Int) then ieq (kosF (List.take (12 : Nat) x0) (List.take (12 : Nat) x1)).1 (0 : Int) else false then ieq (fillF (List.take (12 : Nat) x0) (List.take (12 : Nat) x1)).2.1 (2 : Int) else false) = true → (bif bif ieq (↑(List.length (fillF (List.take (12 : Nat) x0) (List.take (12 : Nat) x1)).1) : Int) (0 : Int) then ieq (kosF (List.take (12 : Nat) x0) (List.take (12 : Nat) x1)).1 (0 : Int) else false then ieq (fillF (List.take (12 : Nat) x0) (List.take (12 : Nat) x1)).2.1 (2 : Int) else false) = true) (gd ((bif bif ieq (↑(List.length (fillF (List.take (12 : Nat) x0) (List.take (12 : Nat) x1)).1) : Int) (0 : Int) then ieq (kosF (List.take (12 : Nat) x0) (List.take (12 : Nat) x1)).1 (0 : Int) else false then ieq (fillF (List.take (12 : Nat) x0) (List.take (12 : Nat) x1)).2.1 (2 : Int) else false) = true → (bif bif ieq (↑(List.length (fillF (List.take (12 : Nat) x0) (List.take (12 : Nat) x1)).1) : Int) (0 : Int) then ieq (kosF (List.take (12 : Nat) x0) (List.take (12 : Nat) x1)).1 (0 : Int) else false then ieq (fillF (List.take (12 : Nat) x0) (List.take (12 : Nat) x1)).2.1 (2 : Int) else false) = true) (gd ((bif bif bif ieq (↑(List.length (fillF (List.take (12 : Nat) x0) (List.take (12 : Nat) x1)).1) : Int) (0 : Int) then ieq (kosF (List.take (12 : Nat) x0) (List.take (12 : Nat) x1)).1 (0 : Int) else false then ieq (fillF (List.take (12 : Nat) x0) (List.take (12 : Nat) x1)).2.1 (2 : Int) else false then ieq (kosF (List.take (12 : Nat) x0) (List.take (12 : Nat) x1)).2.1 (2 : Int) else false) = true → (bif bif bif ieq (↑(List.length (fillF (List.take (12 : Nat) x0) (List.take (12 : Nat) x1)).1) : Int) (0 : Int) then ieq (kosF (List.take (12 : Nat) x0) (List.take (12 : Nat) x1)).1 (0 : Int) else false then ieq (fillF (List.take (12 : Nat) x0) (List.take (12 : Nat) x1)).2.1 (2 : Int) else false then ieq (kosF (List.take (12 : Nat) x0) (List.take (12 : Nat) x1)).2.1 (2 : Int) else false) = true) (some ((bif bif bif bif ieq (↑(List.length (fillF (List.take (12 : Nat) x0) (List.take (12 : Nat) x1)).1) : Int) (0 : Int) then ieq (kosF (List.take (12 : Nat) x0) (List.take (12 : Nat) x1)).1 (0 : Int) else false then ieq (fillF (List.take (12 : Nat) x0) (List.take (12 : Nat) x1)).2.1 (2 : Int) else false then ieq (kosF (List.take (12 : Nat) x0) (List.take (12 : Nat) x1)).2.1 (2 : Int) else false then true else false, ()) : Bool × Unit)))))))) else gd (shapeB x0 = true ∧ contB x1 = true) (gd (ok3 (fillF (List.take (12 : Nat) x0) (List.take (12 : Nat) x1)).1) (gd (eqL3 (fillF (List.take (12 : Nat) x0) (List.take (12 : Nat) x1)).1 (refFil x0 x1) = true → eqL3 (fillF (List.take (12 : Nat) x0) (List.take (12 : Nat) x1)).1 (refFil x0 x1) = true) (gd (eqL3 (fillF (List.take (12 : Nat) x0) (List.take (12 : Nat) x1)).1 (refFil x0 x1) = true → eqL3 (fillF (List.take (12 : Nat) x0) (List.take (12 : Nat) x1)).1 (refFil x0 x1) = true) (gd ((bif eqL3 (fillF (List.take (12 : Nat) x0) (List.take (12 : Nat) x1)).1 (refFil x0 x1) then ieq (fillF (List.take (12 : Nat) x0) (List.take (12 : Nat) x1)).2.1 (0 : Int) else false) = true → (bif eqL3 (fillF (List.take (12 : Nat) x0) (List.take (12 : Nat) x1)).1 (refFil x0 x1) then ieq (fillF (List.take (12 : Nat) x0) (List.take (12 : Nat) x1)).2.1 (0 : Int) else false) = true) (gd ((bif eqL3 (fillF (List.take (12 : Nat) x0) (List.take (12 : Nat) x1)).1 (refFil x0 x1) then ieq (fillF (List.take (12 : Nat) x0) (List.take (12 : Nat) x1)).2.1 (0 : Int) else false) = true → (bif eqL3 (fillF (List.take (12 : Nat) x0) (List.take (12 : Nat) x1)).1 (refFil x0 x1) then ieq (fillF (List.take (12 : Nat) x0) (List.take (12 : Nat) x1)).2.1 (0 : Int) else false) = true ∧ (bif eqL3 (fillF (List.take (12 : Nat) x0) (List.take (12 : Nat) x1)).1 (refFil x0 x1) then ieq (fillF (List.take (12 : Nat) x0) (List.take (12 : Nat) x1)).2.1 (0 : Int) else false) = true) (gd ((bif eqL3 (fillF (List.take (12 : Nat) x0) (List.take (12 : Nat) x1)).1 (refFil x0 x1) then ieq (fillF (List.take (12 : Nat) x0) (List.take (12 : Nat) x1)).2.1 (0 : Int) else false) = true → (bif eqL3 (fillF (List.take (12 : Nat) x0) (List.take (12 : Nat) x1)).1 (refFil x0 x1) then ieq (fillF (List.take (12 : Nat) x0) (List.take (12 : Nat) x1)).2.1 (0 : Int) else false) = true) (gd ((bif bif eqL3 (fillF (List.take (12 : Nat) x0) (List.take (12 : Nat) x1)).1 (refFil x0 x1) then ieq (fillF (List.take (12 : Nat) x0) (List.take (12 : Nat) x1)).2.1 (0 : Int) else false then ieq (kosF (List.take (12 : Nat) x0) (List.take (12 : Nat) x1)).1 (↑(List.length (refFil x0 x1)) : Int) else false) = true → (bif bif eqL3 (fillF (List.take (12 : Nat) x0) (List.take (12 : Nat) x1)).1 (refFil x0 x1) then ieq (fillF (List.take (12 : Nat) x0) (List.take (12 : Nat) x1)).2.1 (0 : Int) else false then ieq (kosF (List.take (12 : Nat) x0) (List.take (12 : Nat) x1)).1 (↑(List.length (refFil x0 x1)) : Int) else false) = true) (gd ((bif bif eqL3 (fillF (List.take (12 : Nat) x0) (List.take (12 : Nat) x1)).1 (refFil x0 x1) then ieq (fillF (List.take (12 : Nat) x0) (List.take (12 : Nat) x1)).2.1 (0 : Int) else false then ieq (kosF (List.take (12 : Nat) x0) (List.take (12 : Nat) x1)).1 (↑(List.length (refFil x0 x1)) : Int) else false) = true → (bif bif eqL3 (fillF (List.take (12 : Nat) x0) (List.take (12 : Nat) x1)).1 (refFil x0 x1) then ieq (fillF (List.take (12 : Nat) x0) (List.take (12 : Nat) x1)).2.1 (0 : Int) else false then ieq (kosF (List.take (12 : Nat) x0) (List.take (12 : Nat) x1)).1 (↑(List.length (refFil x0 x1)) : Int) else false) = true) (gd ((bif bif bif eqL3 (fillF (List.take (12 : Nat) x0) (List.take (12 : Nat) x1)).1 (refFil x0 x1) then ieq (fillF (List.take (12 : Nat) x0) (List.take (12 : Nat) x1)).2.1 (0 : Int) else false then ieq (kosF (List.take (12 : Nat) x0) (List.take (12 : Nat) x1)).1 (↑(List.length (refFil x0 x1)) : Int) else false then ieq (kosF (List.take (12 : Nat) x0) (List.take (12 : Nat) x1)).2.1 (0 : Int) else false) = true → (bif bif bif eqL3 (fillF (List.take (12 : Nat) x0) (List.take (12 : Nat) x1)).1 (refFil x0 x1) then ieq (fillF (List.take (12 : Nat) x0) (List.take (12 : Nat) x1)).2.1 (0 : Int) else false then ieq (kosF (List.take (12 : Nat) x0) (List.take (12 : Nat) x1)).1 (↑(List.length (refFil x0 x1)) : Int) else false then ieq (kosF (List.take (12 : Nat) x0) (List.take (12 : Nat) x1)).2.1 (0 : Int) else false) = true) (some ((bif bif bif bif eqL3 (fillF (List.take (12 : Nat) x0) (List.take (12 : Nat) x1)).1 (refFil x0 x1) then ieq (fillF (List.take (12 : Nat) x0) (List.take (12 : Nat) x1)).2.1 (0 : Int) else false then ieq (kosF (List.take (12 : Nat) x0) (List.take (12 : Nat) x1)).1 (↑(List.length (refFil x0 x1)) : Int) else false then ieq (kosF (List.take (12 : Nat) x0) (List.take (12 : Nat) x1)).2.1 (0 : Int) else false then true else false, ()) : Bool × Unit)))))))))))))))))
end Go.Schur

set_option linter.unusedVariables false
set_option linter.unusedSimpArgs false
namespace Go.Schur
open Go Go.Ab Go.Proofs

theorem boxW_succ {l : List Int} {i : Nat} (hi : i < l.length) : boxW (l.take (i + 1)) = wr .i64 (boxW (l.take i) + l.getD i 0) := by
  unfold boxW
  rw [List.take_succ_eq_append_getElem hi, List.foldl_append, List.getD_eq_getElem?_getD, List.getElem?_eq_getElem hi]
  rfl
theorem goal37 : con37.goal Try.prog (spOf []) g37_sh [] lm30 := by
  have e : (∀ (l : List Int), l.length ≤ 1000 → g37 l = some (boxW l, ())) = con37.goal Try.prog (spOf []) g37_sh [] lm30 := by kernel_rfl
  rw [← e]
  intro l hl
  unfold g37
  refine whileO_ind (fun i => (boxW (l.take i), (i : Int), ())) l.length _ (fun i hi => ?_) ?_
  · have h4 : wr .i64 ((i : Int) + 1) = ((i + 1 : Nat) : Int) := (wr_id (by omega)).trans (by omega)
    simp only [ilt_iff.2 (show (i : Int) < l.length by omega), cond_true, Int.toNat_natCast, h4]
    rw [gd_pos ⟨by omega, by omega⟩, boxW_succ hi]
  · simp [ilt]
set_option maxRecDepth 100000 in
theorem ok37 : con37.Ok Try.prog := Con.of_goal mixed okN con37 goal37

theorem take_all {l : List Int} (h : (List.range l.length).all (fun i => rowOk l i && !ilt 8 (boxW (l.take (i + 1)))) = true) : ∀ i, i ≤ l.length → boxW (l.take i) = (l.take i).sum ∧ (i : Int) ≤ (l.take i).sum ∧ (l.take i).sum ≤ 8
  | 0, _ => by simp [boxW]
  | i + 1, hi => by
    have ih := take_all h i (by omega)
    have hok := List.all_eq_true.1 h i (List.mem_range.2 (by omega))
    simp only [Bool.and_eq_true, Bool.not_eq_true'] at hok
    have h1 := (rowOk_iff.1 hok.1).1
    have h2 := ilt_false.1 hok.2
    have h3 : (l.take (i + 1)).sum = (l.take i).sum + l.getD i 0 := by
      rw [List.take_succ_eq_append_getElem (by omega), List.sum_append, List.getD_eq_getElem?_getD, List.getElem?_eq_getElem (by omega)]
      simp
    rw [boxW_succ (by omega), wr_id (by omega)] at h2
    rw [boxW_succ (by omega), wr_id (by omega), h3]
    omega
theorem take_sum_le {l : List Int} (h : ∀ x ∈ l, 0 ≤ x) (i : Nat) : (l.take i).sum ≤ l.sum := by
  have h1 : l.sum = (l.take i).sum + (l.drop i).sum := by rw [← List.sum_append, List.take_append_drop]
  have h2 : ∀ (l : List Int), (∀ x ∈ l, 0 ≤ x) → 0 ≤ l.sum := by
    intro l
    induction l with
    | nil => intro _; simp
    | cons a l ih => intro h; have := ih (fun x hx => h x (by simp [hx])); have := h a (by simp); simp only [List.sum_cons]; omega
  have := h2 (l.drop i) (fun x hx => h x (List.mem_of_mem_drop hx))
  omega
theorem shape_all {l : List Int} : (List.range l.length).all (fun i => rowOk l i && !ilt 8 (boxW (l.take (i + 1)))) = shapeB l := by
  rw [Bool.eq_iff_iff]
  constructor
  · intro h
    have h1 := take_all h l.length (Nat.le_refl _)
    rw [List.take_length] at h1
    refine shapeB_iff.2 ⟨by omega, fun i hi => ?_, h1.2.2⟩
    have := List.all_eq_true.1 h i (List.mem_range.2 hi)
    simp only [Bool.and_eq_true] at this
    exact this.1
  · intro h
    have h8 := shape_mem h
    obtain ⟨h1, h2, h3⟩ := shapeB_iff.1 h
    refine List.all_eq_true.2 fun i hi => ?_
    have hi := List.mem_range.1 hi
    have h4 := take_sum_le (fun x hx => by have := h8 x hx; omega) (i + 1)
    have h5 : boxW (l.take (i + 1)) = (l.take (i + 1)).sum := boxW_sum (fun x hx => by have := h8 x (List.mem_of_mem_take hx); omega) (by simp; omega)
    simp only [h2 i hi, Bool.true_and, h5, Bool.not_eq_true']
    exact ilt_false.2 (by omega)

theorem goal22 : con22.goal Try.prog (spOf []) g22_sh [] lm30 := by
  have e : (∀ (l : List Int), small l → g22 l = some (shapeB l, ())) = con22.goal Try.prog (spOf []) g22_sh [] lm30 := by kernel_rfl
  rw [← e]
  intro l hl
  unfold small at hl
  unfold g22
  refine whileO_all2 (fun i => (boxW (l.take i), (i : Int), ())) (fun i => rowOk l i && !ilt 8 (boxW (l.take (i + 1)))) l.length (false, ()) (true, ()) _ ?_ ?_ ?_
  rotate_left
  · simp [ilt]
  · rw [shape_all]; cases shapeB l <;> rfl
  intro i hi
  have h4 : wr .i64 ((i : Int) + 1) = ((i + 1 : Nat) : Int) := (wr_id (by omega)).trans (by omega)
  simp only [ilt_iff.2 (show (i : Int) < l.length by omega), cond_true, Int.toNat_natCast, h4, ← boxW_succ hi]
  rw [gd_pos ⟨by omega, by omega⟩]
  simp only [imp_self, gd_true]
  by_cases h1 : l.getD i 0 < 1
  · have : rowOk l i = false := by simp only [rowOk, decide_eq_false (show ¬ 1 ≤ l.getD i 0 by omega), Bool.false_and]
    rw [this]
    generalize l.getD i 0 = v at h1
    simp [ilt_iff.2 h1, gd_true]
  by_cases h2 : 8 < l.getD i 0
  · have : rowOk l i = false := by simp only [rowOk, decide_eq_false (show ¬ l.getD i 0 ≤ 8 by omega), Bool.false_and, Bool.and_false]
    rw [this]
    generalize l.getD i 0 = v at h1 h2
    simp [ilt_false.2 (show (1 : Int) ≤ v by omega), ilt_iff.2 h2, gd_true]
  cases i with
  | zero =>
    have : rowOk l 0 = true := rowOk_iff.2 ⟨by omega, Or.inl rfl⟩
    rw [this]
    have h3 : ilt (0 : Int) ((0 : Nat) : Int) = false := by decide
    generalize l.getD 0 0 = v at h1 h2
    simp only [ilt_false.2 (show (1 : Int) ≤ v by omega), ilt_false.2 (show v ≤ 8 by omega), h3]
    generalize ilt 8 (boxW (l.take (0 + 1))) = q
    cases q <;> simp [gd_true]
  | succ i =>
    have h3 : ilt (0 : Int) ((i + 1 : Nat) : Int) = true := ilt_iff.2 (by omega)
    have h5 : wr .i64 (((i + 1 : Nat) : Int) - 1) = (i : Int) := (wr_id (by omega)).trans (by omega)
    simp only [ilt_false.2 (show (1 : Int) ≤ l.getD (i + 1) 0 by omega), ilt_false.2 (show l.getD (i + 1) 0 ≤ 8 by omega), h3, h5, Int.toNat_natCast, gd_true, cond_true, cond_false, Bool.not_false, Bool.and_self, imp_self, true_and, true_implies]
    rw [gd_pos ⟨by omega, by omega⟩]
    by_cases h6 : l.getD i 0 < l.getD (i + 1) 0
    · have : rowOk l (i + 1) = false := Bool.eq_false_iff.2 (fun h => by have := (rowOk_iff.1 h).2; simp only [Nat.add_sub_cancel] at this; omega)
      rw [cond_t (ilt_iff.2 h6), this]; rfl
    · have : rowOk l (i + 1) = true := rowOk_iff.2 ⟨by omega, Or.inr (by simp only [Nat.add_sub_cancel]; omega)⟩
      rw [cond_f (ilt_false.2 (by omega)), this]
      generalize ilt 8 (boxW (l.take (i + 1 + 1))) = q
      cases q <;> rfl
set_option maxRecDepth 100000 in
theorem ok22 : con22.Ok Try.prog := Con.of_goal mixed okN con22 goal22

theorem goal83 : con83.goal Try.prog (spS [] []) g83_sh [900000, 13, 16, 17] lm30 := by
  have e : (∀ (rows : List (List Int)), (rows.length ≤ 1000 ∧ ∀ r ∈ rows, r.length ≤ 1000) → g83 rows = some (rows, ())) = con83.goal Try.prog (spS [] []) g83_sh [900000, 13, 16, 17] lm30 := by kernel_rfl
  rw [← e]
  rintro rows ⟨h1, h2⟩
  unfold g83
  rw [gd_pos rfl]
  refine whileO_ind (fun i => ((i : Int), rows.take i, ())) rows.length _ (fun i hlt => ?_) ?_
  · have hr := h2 _ (List.getElem_mem hlt)
    have h3 : ilt (i : Int) (rows.length : Int) = true := ilt_iff.2 (by omega)
    have h4 : wr .i64 ((i : Int) + 1) = ((i + 1 : Nat) : Int) := (wr_id (by omega)).trans (by omega)
    have h5 : min i rows.length = i := by omega
    simp only [h3, cond_true, Nat.zero_add, Int.toNat_natCast, h4, List.length_take, h5, Nat.le_refl, List.getD_eq_getElem?_getD, List.getElem?_eq_getElem hlt, Option.getD_some, gd_true, List.take_take, Nat.min_self, List.length_append, List.length_cons, List.length_nil]
    rw [gd_pos ⟨by omega, by omega⟩, gd_pos (by omega), gd_pos (by omega)]
    rw [List.take_succ_eq_append_getElem hlt]
  · simp [gd_true, ilt]
set_option maxRecDepth 100000 in
theorem ok83 : con83.Ok Try.prog := SCon.of_goal mixed okN okS0 con83 goal83

theorem all_eq {A : Type} [DecidableEq A] {a b : List A} {d : A} (h : a.length = b.length) : (List.range a.length).all (fun i => decide (a.getD i d = b.getD i d)) = decide (a = b) := by
  rw [Bool.eq_iff_iff, List.all_eq_true, decide_eq_true_iff]
  constructor
  · intro hh
    refine List.ext_getElem h fun i h1 h2 => ?_
    have := of_decide_eq_true (hh i (List.mem_range.2 h1))
    simpa [List.getD_eq_getElem?_getD, List.getElem?_eq_getElem h1, List.getElem?_eq_getElem h2] using this
  · rintro rfl i _
    simp
theorem goal51 : con51.goal Try.prog (spOf []) g51_sh [] lm30 := by
  have e : (∀ (a b : List Int), small a → g51 a b = some (eqL1 a b, ())) = con51.goal Try.prog (spOf []) g51_sh [] lm30 := by kernel_rfl
  rw [← e]
  intro a b hs
  unfold small at hs
  unfold g51 eqL1
  by_cases hl : a.length = b.length
  · rw [ieq_iff.2 (by omega), Bool.not_true, cond_false]
    refine whileO_all2 (fun i => ((i : Int), ())) (fun i => decide (a.getD i 0 = b.getD i 0)) a.length (false, ()) (true, ()) _ ?_ ?_ ?_
    rotate_left
    · simp [ilt]
    · rw [all_eq hl]; cases decide (a = b) <;> rfl
    intro i hi
    have h4 : wr .i64 ((i : Int) + 1) = ((i + 1 : Nat) : Int) := (wr_id (by omega)).trans (by omega)
    simp only [ilt_iff.2 (show (i : Int) < a.length by omega), cond_true, Int.toNat_natCast, h4]
    rw [gd_pos ⟨by omega, by omega⟩, gd_pos ⟨by omega, by omega⟩]
    by_cases h : a.getD i 0 = b.getD i 0
    · rw [ieq_iff.2 h, decide_eq_true h]; rfl
    · rw [ieq_false.2 h, decide_eq_false h]; rfl
  · rw [ieq_false.2 (by omega), decide_eq_false (fun h => hl (by rw [h]))]; rfl
set_option maxRecDepth 100000 in
theorem ok51 : con51.Ok Try.prog := Con.of_goal mixed okN con51 goal51
theorem mem_getD {A : Type} {a : List A} {d : A} {i : Nat} (h : i < a.length) : a.getD i d ∈ a := by
  rw [List.getD_eq_getElem?_getD, List.getElem?_eq_getElem h]; exact List.getElem_mem h
theorem goal74 : con74.goal Try.prog (spOf [con51]) g74_sh [] lm30 := by
  have e : (∀ (a b : List (List Int)), (small a ∧ ∀ r ∈ a, small r) → g74 a b = some (eqL2 a b, ())) = con74.goal Try.prog (spOf [con51]) g74_sh [] lm30 := by kernel_rfl
  rw [← e]
  rintro a b ⟨hs, hm⟩
  unfold small at hs
  unfold g74 eqL2
  by_cases hl : a.length = b.length
  · rw [ieq_iff.2 (by omega), Bool.not_true, cond_false]
    refine whileO_all2 (fun i => ((i : Int), ())) (fun i => decide (a.getD i [] = b.getD i [])) a.length (false, ()) (true, ()) _ ?_ ?_ ?_
    rotate_left
    · simp [ilt]
    · rw [all_eq hl]; cases decide (a = b) <;> rfl
    intro i hi
    have h4 : wr .i64 ((i : Int) + 1) = ((i + 1 : Nat) : Int) := (wr_id (by omega)).trans (by omega)
    simp only [ilt_iff.2 (show (i : Int) < a.length by omega), cond_true, Int.toNat_natCast, h4]
    rw [gd_pos ⟨by omega, by omega⟩, gd_pos ⟨by omega, by omega⟩, gd_pos (hm _ (mem_getD hi))]
    unfold eqL1
    cases decide (a.getD i [] = b.getD i []) <;> rfl
  · rw [ieq_false.2 (by omega), decide_eq_false (fun h => hl (by rw [h]))]; rfl
set_option maxRecDepth 100000 in
theorem ok74 : con74.Ok Try.prog := Con.of_goal mixed (okC ok51 okN) con74 goal74
theorem goal27 : con27.goal Try.prog (spOf [con74]) g27_sh [] lm30 := by
  have e : (∀ (a b : List (List Int)), (small a ∧ ∀ r ∈ a, small r) → g27 a b = some (eqL2 a b, ())) = con27.goal Try.prog (spOf [con74]) g27_sh [] lm30 := by kernel_rfl
  rw [← e]
  intro a b h
  exact gd_pos h
set_option maxRecDepth 100000 in
theorem ok27 : con27.Ok Try.prog := Con.of_goal mixed (okC ok74 okN) con27 goal27
theorem goal24 : con24.goal Try.prog (spOf [con19, con27]) g24_sh [] lm30 := by
  have e : (g24 = some (true, ())) = con24.goal Try.prog (spOf [con19, con27]) g24_sh [] lm30 := by kernel_rfl
  rw [← e]
  have h : fillF [1] [0, 1] = ([[[2]]], 0, ()) := by decide +kernel
  unfold g24
  rw [h]
  simp [gd_true, ieq, small, eqL2]
  refine gd_pos fun x hx => ?_
  have hx : x ∈ [[2]] := hx
  rw [List.mem_singleton.1 hx]; simp
set_option maxRecDepth 100000 in
theorem ok24 : con24.Ok Try.prog := Con.of_goal mixed (okC ok19 (okC ok27 okN)) con24 goal24
end Go.Schur

set_option linter.unusedVariables false
set_option linter.unusedSimpArgs false
namespace Go.Schur
open Go Go.Ab Go.Proofs

theorem refF_len {l : List Int} : ∀ (n : Nat) (left : List Int) (rows : List (List Int)) (i : Nat), left.length ≤ 8 → (∀ x ∈ left, 0 ≤ x) → (refF l n left rows i).length ≤ 8 ^ sumN left
  | 0, left, rows, i, hl, h => by simp [refF]
  | n + 1, left, rows, i, hl, h => by
    have h1 : 1 ≤ 8 ^ sumN left := Nat.one_le_pow _ _ (by omega)
    rw [refF]
    split
    · simpa using h1
    split
    · exact refF_len n left _ _ hl h
    · have hz0 : ∀ q, left.length ≤ q → left.getD q 0 = 0 := fun q hq => by simp [List.getD_eq_getElem?_getD, List.getElem?_eq_none hq]
      have hge : ∀ q (hq : q < left.length), 0 ≤ left.getD q 0 := fun q hq => by
        rw [List.getD_eq_getElem?_getD, List.getElem?_eq_getElem hq]; exact h _ (List.getElem_mem hq)
      by_cases hs : sumN left = 0
      · rw [catX_nil]
        · simp
        intro y h2 h3
        generalize hq : (y - 1).toNat = q
        have hz : left.getD q 0 = 0 := by
          by_cases hlt : q < left.length
          · have := hge q hlt
            by_cases h0 : 0 < left.getD q 0
            · have := sumN_set hlt h0; omega
            · omega
          · exact hz0 q (by omega)
        refine if_pos ?_
        simp only [skipX, hq, decide_eq_true hz, Bool.true_or]
      · obtain ⟨k, hk⟩ : ∃ k, sumN left = k + 1 := ⟨sumN left - 1, by omega⟩
        refine Nat.le_trans (catX_len (B := 8 ^ k) _ _ fun y h2 h3 => ?_) ?_
        · split
          · simp
          · rename_i hne
            generalize hq : (y - 1).toNat = q
            have hne : left.getD q 0 ≠ 0 := fun h0 => hne (by simp only [skipX, hq, decide_eq_true h0, Bool.true_or])
            by_cases hlt : q < left.length
            · have hnn := hge q hlt
              have h0 : 0 < left.getD q 0 := by omega
              have h4 := sumN_set hlt h0
              have e2 : sumN (left.set q (left.getD q 0 - 1)) = k := by omega
              rw [← e2]
              refine refF_len n _ _ _ (by simpa using hl) fun z hz => ?_
              rcases List.mem_or_eq_of_mem_set hz with h5 | h5
              · exact h z h5
              · omega
            · exact absurd (hz0 q (by omega)) hne
        · rw [hk, Nat.pow_succ, Nat.mul_comm]
          exact Nat.mul_le_mul_left _ (by omega)

theorem getD_set {A : Type} {a : List A} {i k : Nat} {x d : A} (h : i < a.length) : (a.set i x).getD k d = if k = i then x else a.getD k d := by
  simp only [List.getD_eq_getElem?_getD, List.getElem?_set]
  by_cases hk : i = k
  · subst hk; simp [h]
  · rw [if_neg hk, if_neg (fun e => hk e.symm)]

theorem last_getD {r : List Int} : r.getLastD 0 = r.getD (r.length - 1) 0 := by
  rw [List.getLastD_eq_getLast?, List.getLast?_eq_getElem?, List.getD_eq_getElem?_getD]

theorem e73 (n : Nat) : (∀ (l left : List Int) (rows : List (List Int)) (i : Int), (preR (n + 1) l left rows i ∧ (refF l (n + 1) left rows i.toNat).length ≤ 500000000) → g73 n l left rows i = some (refF l (n + 1) left rows i.toNat, ())) = (con73 (n + 1)).goal Try.prog (spS [con83, con73 n] []) g73_sh [900000, 94] lm30 := by kernel_rfl

theorem goal73 (n : Nat) : (con73 (n + 1)).goal Try.prog (spS [con83, con73 n] []) g73_sh [900000, 94] lm30 := by
  rw [← e73]
  rintro l left rows i ⟨hp, hb⟩
  obtain ⟨hll, hl8, hld, hlen, ⟨h0, hi⟩, hfl, hla, ⟨hlf, hlf8⟩, hmu⟩ := hp
  obtain ⟨k, rfl⟩ : ∃ k : Nat, i = (k : Int) := ⟨i.toNat, by omega⟩
  simp only [Int.toNat_natCast] at hb hmu ⊢
  have hr8 : ∀ r ∈ rows, r.length ≤ 1000 := fun r hr => by
    obtain ⟨q, hq, rfl⟩ := List.getElem_of_mem hr
    have h1 := hla q
    have h2 := hl8 q
    rw [List.getD_eq_getElem?_getD, List.getElem?_eq_getElem hq] at h1
    simp only [Option.getD_some] at h1
    omega
  have hr8' : rows.length ≤ 1000 ∧ ∀ (x5 : List Int), List.Mem x5 rows → x5.length ≤ 1000 := ⟨by omega, hr8⟩
  unfold g73
  rw [refF] at hb ⊢
  by_cases hk : k = l.length
  · rw [ieq_iff.2 (show (k : Int) = (l.length : Int) by omega), cond_true, if_pos hk, gd_pos hr8', gd_pos (by omega)]
    simp
  rw [ieq_false.2 (show (k : Int) ≠ (l.length : Int) by omega), cond_false, if_neg hk]
  rw [if_neg hk] at hb
  rw [gd_pos ⟨by omega, by omega⟩, gd_pos ⟨by omega, by omega⟩, Int.toNat_natCast]
  have hw : wr .i64 ((k : Int) + 1) = ((k + 1 : Nat) : Int) := (wr_id (by omega)).trans (by omega)
  by_cases hf : ((rows.getD k []).length : Int) = l.getD k 0
  · rw [ieq_iff.2 hf, cond_true, if_pos hf, hw, Int.toNat_natCast]
    rw [if_pos hf] at hb
    have hpp : preR n l left rows ((k + 1 : Nat) : Int) := by
      refine ⟨hll, hl8, hld, hlen, ⟨by omega, by omega⟩, fun q hq => ?_, hla, ⟨hlf, hlf8⟩, ?_⟩
      · by_cases hq2 : q = k
        · subst hq2; exact hf
        · exact hfl q (by omega)
      · rw [Int.toNat_natCast]
        omega
    rw [gd_pos ⟨hpp, hb⟩]
  rw [ieq_false.2 hf, cond_false, if_neg hf]
  rw [if_neg hf] at hb
  rw [gd_pos rfl]
  have hlt : ((rows.getD k []).length : Int) < l.getD k 0 := by have := hla k; omega
  have hlk := hl8 k
  refine whileO_cat (fun s b => s ++ b) (fun s b => s.length + b.length ≤ 500000000) (fun s => List.append_nil s) (fun s a b => List.append_assoc s a b) (fun s a b h => by simp only [List.length_append] at h ⊢; omega)
    (fun x s => (x, s, ())) (fun s => (s, ())) (fun x => if skipX left rows k x = true then [] else refF l n (left.set (x - 1).toNat (left.getD (x - 1).toNat 0 - 1)) (rows.set k (rows.getD k [] ++ [x])) k) 1 left.length ?_ ?_ left.length 1 [] (Int.le_refl _) (by omega) (by rw [List.length_nil, Nat.zero_add]; exact hb)
  · intro x s hx1 hx2 hs
    obtain ⟨p, rfl⟩ : ∃ p : Nat, x = (p : Int) + 1 := ⟨(x - 1).toNat, by omega⟩
    have hpl : p < left.length := by omega
    have hq : ile ((p : Int) + 1) left.length = true := ile_iff.2 hx2
    have hx : wr .i64 ((p : Int) + 1 - 1) = p := (wr_id (by omega)).trans (by omega)
    have hx' : wr .i64 ((p : Int) + 1 + 1) = (p : Int) + 1 + 1 := wr_id (by omega)
    have e1 : ((p : Int) + 1 - 1).toNat = p := by omega
    have hv : 0 ≤ left.getD p 0 ∧ left.getD p 0 ≤ 8 := hlf8 _ (mem_getD hpl)
    have hwk : 0 < k → wr .i64 ((k : Int) - 1) = ((k - 1 : Nat) : Int) := fun h => (wr_id (by omega)).trans (by omega)
    have hwr : 0 < (rows.getD k []).length → wr .i64 (((rows.getD k []).length : Int) - 1) = (((rows.getD k []).length - 1 : Nat) : Int) := fun h => (wr_id (by omega)).trans (by omega)
    have hlast : (rows.getD k []).getLastD 0 = (rows.getD k []).getD ((rows.getD k []).length - 1) 0 := last_getD
    have hc2 : g73_c2 left rows k ((p : Int) + 1, s, ()) = (decide (left.getD p 0 = 0) || (decide (rows.getD k [] ≠ []) && decide ((p : Int) + 1 < (rows.getD k []).getLastD 0))) := by
      unfold g73_c2 g73_c1
      simp only [hx, Int.toNat_natCast]
      by_cases h0 : left.getD p 0 = 0
      · rw [ieq_iff.2 h0, decide_eq_true h0]; rfl
      rw [ieq_false.2 h0, decide_eq_false h0, cond_false, Bool.false_or]
      by_cases h1 : rows.getD k [] = []
      · rw [h1]; rfl
      have h2 := List.length_pos_iff.2 h1
      rw [ilt_iff.2 (show (0 : Int) < ((rows.getD k []).length : Int) by omega), cond_true, hwr h2, Int.toNat_natCast, hlast, decide_eq_true h1, Bool.true_and]
      rfl
    have hc3 : g73_c3 rows k ((p : Int) + 1, s, ()) = (decide (0 < k) && decide ((p : Int) + 1 ≤ (rows.getD (k - 1) []).getD (rows.getD k []).length 0)) := by
      unfold g73_c3
      simp only [Int.toNat_natCast]
      by_cases h0 : 0 < k
      · rw [ilt_iff.2 (show (0 : Int) < (k : Int) by omega), cond_true, hwk h0, Int.toNat_natCast, decide_eq_true h0, Bool.true_and]
        rfl
      · rw [ilt_false.2 (show (k : Int) ≤ 0 by omega), decide_eq_false h0]; rfl
    have hsk : (bif g73_c2 left rows k ((p : Int) + 1, s, ()) then true else g73_c3 rows k ((p : Int) + 1, s, ())) = skipX left rows k ((p : Int) + 1) := by
      rw [hc2, hc3]; unfold skipX; rw [e1]
      cases (decide (left.getD p 0 = 0) || (decide (rows.getD k [] ≠ []) && decide ((p : Int) + 1 < (rows.getD k []).getLastD 0))) <;> rfl
    simp only [hq, cond_true, hx, hx', Int.toNat_natCast, g73_c0, imp_self, gd_true, Nat.zero_add, hsk, e1]
    rw [gd_pos ⟨by omega, by omega⟩, gd_pos (by intro h; exact ⟨h, h, by omega, by omega⟩),
      gd_pos (by
        intro h
        have h2 := h
        simp only [Bool.and_eq_true] at h2
        have h3 := ilt_iff.1 h2.2.2
        rw [hwr (by omega)]
        exact ⟨h, h, by omega, by omega⟩),
      gd_pos (by intro h; exact ⟨h, h⟩), gd_pos (by intro h; exact ⟨h, h, fun h2 => by rw [h, h2]; rfl⟩), gd_pos (by intro h; rw [h]; rfl)]
    generalize hC : g73_c2 left rows k ((p : Int) + 1, s, ()) = C
    rw [gd_pos (by
        intro h
        have h2 := h
        simp only [Bool.and_eq_true] at h2
        have h3 := ilt_iff.1 h2.2.2
        rw [hwk (by omega)]
        exact ⟨h, h, by omega, by omega⟩),
      gd_pos (by
        intro h
        have h2 := h
        simp only [Bool.and_eq_true] at h2
        have h3 := ilt_iff.1 h2.2.2
        rw [hwk (by omega), Int.toNat_natCast]
        have h4 := hfl (k - 1) (by omega)
        have h5 := hld (k - 1)
        rw [show k - 1 + 1 = k by omega] at h5
        exact ⟨h, h, by omega, by omega⟩),
      gd_pos (by intro h; exact ⟨h, h⟩), gd_pos (by intro h; exact ⟨h, h, fun h2 => by rw [h, h2]; rfl⟩), gd_pos (by intro h; rw [h]; rfl)]
    cases hS : skipX left rows k ((p : Int) + 1) with
    | true => simp
    | false =>
      rw [cond_false, if_neg (by simp)]
      have hne : left.getD p 0 ≠ 0 := fun h0 => by unfold skipX at hS; rw [e1, decide_eq_true h0] at hS; cases hS
      have hs2 : s.length + (refF l n (left.set p (left.getD p 0 - 1)) (rows.set k (rows.getD k [] ++ [(p : Int) + 1])) k).length ≤ 500000000 := by
        have := hs
        rw [hS, if_neg (by simp), e1] at this
        exact this
      have hc4 : g73_c4 left ((p : Int) + 1, s, ()) = left.getD p 0 - 1 := by
        unfold g73_c4
        simp only [hx, Int.toNat_natCast, Nat.zero_add]
        exact wr_id (by omega)
      have t1 : List.take left.length (left.set p (left.getD p 0 - 1)) = left.set p (left.getD p 0 - 1) := List.take_of_length_le (by simp)
      have t2 : List.take rows.length (rows.set k (rows.getD k [] ++ [(p : Int) + 1])) = rows.set k (rows.getD k [] ++ [(p : Int) + 1]) := List.take_of_length_le (by simp)
      have t3 : (rows.set k (rows.getD k [] ++ [(p : Int) + 1])).getD k [] = rows.getD k [] ++ [(p : Int) + 1] := by rw [getD_set (by omega), if_pos rfl]
      have t4 : (rows.getD k [] ++ [(p : Int) + 1]).length = (rows.getD k []).length + 1 := by simp
      have hpr : preR n l (left.set p (left.getD p 0 - 1)) (rows.set k (rows.getD k [] ++ [(p : Int) + 1])) k := by
        refine ⟨hll, hl8, hld, by simpa using hlen, ⟨h0, hi⟩, fun q hq => ?_, fun q => ?_, ⟨by simpa using hlf, fun y hy => ?_⟩, ?_⟩
        · rw [getD_set (by omega), if_neg (by omega)]; exact hfl q hq
        · rw [getD_set (by omega)]
          split
          · rename_i h; subst h; rw [t4]; omega
          · exact hla q
        · rcases List.mem_or_eq_of_mem_set hy with h2 | h2
          · exact hlf8 y h2
          · omega
        · rw [Int.toNat_natCast, t3, t4]; omega
      have hpr2 : preR n l (left.set p (left.getD p 0 - 1)) (rows.set k (rows.getD k [] ++ [(p : Int) + 1])) k ∧ (refF l n (left.set p (left.getD p 0 - 1)) (rows.set k (rows.getD k [] ++ [(p : Int) + 1])) k).length ≤ 500000000 := ⟨hpr, by omega⟩
      have q1 : (0 ≤ (p : Int) ∧ (p : Int) < (left.length : Int)) = True := eq_true ⟨by omega, by omega⟩
      have q2 : (0 ≤ (k : Int) ∧ (k : Int) < (rows.length : Int)) = True := eq_true ⟨by omega, by omega⟩
      have q3 : (k < rows.length) = True := eq_true (by omega)
      have q4 : (((rows.getD k []).length + 1) * 8 ≤ 1099511627776) = True := eq_true (by omega)
      have q5 : (left.length * 8 ≤ 1099511627776) = True := eq_true (by omega)
      have q6 : ((s.length + (refF l n (left.set p (left.getD p 0 - 1)) (rows.set k (rows.getD k [] ++ [(p : Int) + 1])) k).length) * 24 ≤ 1099511627776) = True := eq_true (by omega)
      simp only [gd_pos hr8', List.take_length, List.drop_zero, List.length_set, hc4, t1, t2, t3, t4, q1, q2, q3, q4, q5, q6, hpl, Nat.le_refl, gd_true, gd_pos hpr2, List.length_append, e1, hS]
      trace_state
  · intro x s hx
    simp only [ile_false.2 hx, cond_false]
    rw [gd_pos (by omega)]
    simp
set_option maxRecDepth 100000 in
theorem ok73_0 : (con73 0).Ok Try.prog := scon_false _ (by kernel_rfl) (by
  have e : (∀ (l left : List Int) (rows : List (List Int)) (i : Int) (p : List Prop), some [preR 0 l left rows i ∧ (refF l 0 left rows i.toNat).length ≤ 500000000] = some p → ¬ allP p) = (allD ((con73 0).ins.flatMap TV.ts ++ tsB (con73 0).ibl) fun env => ∀ p, (con73 0).pre env = some p → ¬ allP p) := by kernel_rfl
  rw [← e]
  intro l left rows i p hp hq
  cases hp
  exact absurd (Ab.allP_one.1 hq).1.mu (by omega))
set_option maxRecDepth 100000 in
theorem ok73 : ∀ n, (con73 n).Ok Try.prog
  | 0 => ok73_0
  | n + 1 => SCon.of_goal mixed okN (okS ok83 (okS (ok73 n) okS0)) (con73 (n + 1)) (goal73 n)

theorem goal25 : con25.goal Try.prog (spS [con73 81] [con37]) g25_sh [15] lm30 := by
  have e : (∀ (l m : List Int), (shapeB l = true ∧ contB m = true) → g25 l m = some (refFil l m, ())) = con25.goal Try.prog (spS [con73 81] [con37]) g25_sh [15] lm30 := by kernel_rfl
  rw [← e]
  rintro l m ⟨hl, hm⟩
  have h1 := (shapeB_iff.1 hl).1
  obtain ⟨h2, h3, h4⟩ := contB_iff.1 hm
  unfold g25 refFil
  rw [gd_pos (by omega), gd_pos (by omega)]
  by_cases hs : boxW l = boxW m
  · have hb : (refF l 81 m (List.replicate l.length []) 0).length ≤ 500000000 := by
      refine Nat.le_trans (refF_len 81 m _ 0 h2 (fun x hx => (h3 x hx).1)) ?_
      have := sumN_eq (fun x hx => (h3 x hx).1)
      exact Nat.le_trans (Nat.pow_le_pow_right (by omega) (show sumN m ≤ 8 by omega)) (by decide)
    have hrep : ∀ k : Nat, (List.replicate l.length ([] : List Int)).getD k [] = [] := fun k => by
      simp only [List.getD_eq_getElem?_getD, List.getElem?_replicate]
      split <;> rfl
    have hrow := shape_row hl
    have hp : preR 81 l m (List.replicate l.length []) 0 := by
      refine ⟨h1, fun k => ?_, fun k => ?_, by simp, by omega, fun k hk => by omega, fun k => ?_, ⟨h2, h3⟩, ?_⟩
      · have := (hrow k).2.1; rwa [rowF_nat] at this
      · have := (hrow k).2.2; rwa [rowF_nat, rowF_nat] at this
      · rw [hrep]; have := (hrow k).1; rw [rowF_nat] at this; simpa using this
      · rw [hrep]; simp; omega
    rw [if_pos hs, ieq_iff.2 hs, Bool.not_true, cond_false]
    rw [gd_pos (by omega)]
    simp [gd_true, hp]
    rw [gd_pos (by omega), gd_pos hb]
  · rw [if_neg hs, ieq_false.2 hs]; rfl
set_option maxRecDepth 100000 in
theorem ok25 : con25.Ok Try.prog := Con.of_goalS mixed (okC ok37 okN) (okS (ok73 81) okS0) con25 goal25
end Go.Schur

set_option linter.unusedVariables false
set_option linter.unusedSimpArgs false
namespace Go.Schur
open Go Go.Ab Go.Proofs

theorem catX_skip {A : Type} {g : Int → List A} {x0 : Int} : ∀ (c : Nat) (x : Int), x ≤ x0 → (∀ y, x ≤ y → y < x0 → g y = []) → catX g c x = catX g (x + c - x0).toNat x0
  | 0, x, h, hg => by rw [show (x + (0 : Nat) - x0).toNat = 0 by omega]; rfl
  | c + 1, x, h, hg => by
    by_cases hx : x = x0
    · subst hx; rw [show (x + (c + 1 : Nat) - x).toNat = c + 1 by omega]
    · rw [catX, hg x (by omega) (by omega), catX_skip c (x + 1) (by omega) (fun y h1 h2 => hg y (by omega) h2), List.nil_append]
      congr 1; omega
theorem catX_congr {A : Type} {g g' : Int → List A} : ∀ (c : Nat) (x : Int), (∀ y, x ≤ y → y < x + c → g y = g' y) → catX g c x = catX g' c x
  | 0, x, h => rfl
  | c + 1, x, h => by rw [catX, catX, h x (by omega) (by omega), catX_congr c (x + 1) (fun y h1 h2 => h y (by omega) (by omega))]

def pad (L : Nat) (rows : List (List Int)) : List (List Int) := rows ++ List.replicate (L - rows.length) []
theorem pad_get {L : Nat} {R : List (List Int)} {r : List Int} {k : Nat} (hk : k ≤ R.length) : (pad L (R ++ [r])).getD k [] = (R ++ [r]).getD k [] := by
  unfold pad
  simp only [List.getD_eq_getElem?_getD]
  rw [List.getElem?_append_left (by simp; omega)]
theorem pad_set {L : Nat} {R : List (List Int)} {r r' : List Int} : (pad L (R ++ [r])).set R.length r' = pad L (R ++ [r']) := by
  unfold pad
  rw [List.set_append_left _ _ (by simp), set_app]
  simp
theorem pad_open {L : Nat} {rows : List (List Int)} (h : rows.length < L) : pad L (rows ++ [[]]) = pad L rows := by
  unfold pad
  obtain ⟨k, hk⟩ : ∃ k, L - rows.length = k + 1 := ⟨L - rows.length - 1, by omega⟩
  rw [hk, List.replicate_succ, List.length_append, List.length_singleton, show L - (rows.length + 1) = k by omega, List.append_assoc]
  rfl

theorem fil_ref {l : List Int} (hL : l.length ≤ 8) (h0 : ∀ k, 0 ≤ l.getD k 0) (h8 : ∀ k, l.getD k 0 ≤ 8) : ∀ (n m : Nat) (left : List Int) (R : List (List Int)) (r : List Int), R.length + 1 ≤ l.length → (r.length : Int) ≤ l.getD R.length 0 →
    9 * (l.length - (R.length + 1)) + (8 - r.length) < n → 9 * (l.length - R.length) + (8 - r.length) < m →
    fil [] l left.length false n left (R ++ [r]) = refF l m left (pad l.length (R ++ [r])) R.length
  | 0, m, left, R, r, h1, h2, h3, h4 => by omega
  | n + 1, 0, left, R, r, h1, h2, h3, h4 => by omega
  | n + 1, m + 1, left, R, r, h1, h2, h3, h4 => by
    have hk8 := h8 R.length
    have hr8 : r.length ≤ 8 := by omega
    rw [fil, refF, full_app, rowF_nil, rowF_nat, Int.zero_add, pad_get (Nat.le_refl _), getD_app, if_neg (show ¬ R.length = l.length by omega)]
    by_cases hf : (r.length : Int) = l.getD R.length 0
    · rw [if_pos (decide_eq_true hf), if_pos hf]
      by_cases hl : (R ++ [r]).length = l.length
      · rw [if_pos hl]
        obtain ⟨m', rfl⟩ : ∃ m', m = m' + 1 := ⟨m - 1, by omega⟩
        rw [refF, if_pos (by simpa using hl)]
        simp [pad, hl]
      · rw [if_neg hl, fil_ref hL h0 h8 n m left (R ++ [r]) [] (by simp only [List.length_append, List.length_cons, List.length_nil] at hl ⊢; omega) (by simpa using h0 _) (by simp only [List.length_append, List.length_cons, List.length_nil] at hl ⊢; omega) (by simp only [List.length_append, List.length_cons, List.length_nil] at hl ⊢; omega), pad_open (by simp only [List.length_append, List.length_cons, List.length_nil] at hl ⊢; omega)]
        simp
    · rw [if_neg (by simpa using hf), if_neg hf]
      have hlt : (r.length : Int) < l.getD R.length 0 := by omega
      have hab : 0 < R.length → atF [] (R ++ [r]) ((R.length : Int) - 1) (r.length) = ((R ++ [r]).getD (R.length - 1) []).getD r.length 0 := fun hp => by
        unfold atF
        rw [rowF_nil, if_neg (by omega), show ((R.length : Int) - 1).toNat = R.length - 1 by omega, Int.sub_zero, Int.toNat_natCast]
      have hab0 : R.length = 0 → atF [] (R ++ [r]) ((R.length : Int) - 1) (r.length) = 0 := fun hp => by
        unfold atF
        rw [if_pos (Or.inl (by omega))]
      have hlf : leastF [] (R ++ [r]) = if r = [] then max 1 (atF [] (R ++ [r]) ((R.length : Int) - 1) r.length + 1) else max (max 1 (atF [] (R ++ [r]) ((R.length : Int) - 1) r.length + 1)) (r.getLastD 0) := by
        unfold leastF
        rw [last_app, rowF_nil, Int.zero_add, show (((R ++ [r]).length : Nat) : Int) - 2 = (R.length : Int) - 1 by simp; omega]
      have hpos := leastF_pos (inner := []) (rows := R ++ [r])
      have hskip : ∀ x : Int, 1 ≤ x → (skipX left (pad l.length (R ++ [r])) R.length x = (decide (left.getD (x - 1).toNat 0 = 0) || decide (x < leastF [] (R ++ [r])))) := by
        intro x hx
        unfold skipX
        rw [pad_get (Nat.le_refl _), getD_app, pad_get (by omega), Bool.or_assoc]
        congr 1
        rw [Bool.eq_iff_iff, hlf]
        simp only [Bool.or_eq_true, Bool.and_eq_true, decide_eq_true_eq]
        by_cases hr : r = []
        · rw [if_pos hr]
          by_cases hR : 0 < R.length
          · rw [hab hR]; constructor
            · rintro (h | h)
              · exact absurd hr h.1
              · omega
            · intro h; exact Or.inr ⟨hR, by omega⟩
          · rw [hab0 (by omega)]; constructor
            · rintro (h | h)
              · exact absurd hr h.1
              · exact absurd h.1 hR
            · intro h; omega
        · rw [if_neg hr]
          by_cases hR : 0 < R.length
          · rw [hab hR]; constructor
            · rintro (h | h) <;> omega
            · intro h
              by_cases h5 : x < r.getLastD 0
              · exact Or.inl ⟨hr, h5⟩
              · exact Or.inr ⟨hR, by omega⟩
          · rw [hab0 (by omega)]; constructor
            · rintro (h | h) <;> omega
            · intro h; exact Or.inl ⟨hr, by omega⟩
      rw [catX_skip (x0 := leastF [] (R ++ [r])) left.length 1 hpos (fun y h5 h6 => by rw [hskip y h5, decide_eq_true h6]; simp)]
      rw [show (1 + (left.length : Int) - leastF [] (R ++ [r])).toNat = ((left.length : Int) + 1 - leastF [] (R ++ [r])).toNat by omega]
      refine catX_congr _ _ fun y h5 h6 => ?_
      rw [hskip y (by omega), decide_eq_false (show ¬ y < leastF [] (R ++ [r]) by omega), Bool.or_false]
      unfold useX
      rw [if_neg (by simp)]
      by_cases hz : left.getD (y - 1).toNat 0 = 0
      · rw [if_pos hz, if_pos (decide_eq_true hz)]
      · rw [if_neg hz, if_neg (by simpa using hz), addX_app]
        have := fil_ref hL h0 h8 n m (left.set (y - 1).toNat (left.getD (y - 1).toNat 0 - 1)) R (r ++ [y]) h1 (by simp only [List.length_append, List.length_cons, List.length_nil]; omega) (by simp only [List.length_append, List.length_cons, List.length_nil]; omega) (by simp only [List.length_append, List.length_cons, List.length_nil]; omega)
        rw [List.length_set] at this
        refine Eq.trans this ?_
        rw [pad_set]

theorem eachF_ref {l m : List Int} (hl : shapeB l = true) (hm : contB m = true) : eachF [] l m = refFil l m := by
  have h8 := shape_mem hl
  have hlen := (shapeB_iff.1 hl).1
  have hw : wr .i64 (boxW l - boxW []) = boxW l := by
    have h1 : boxW l = l.sum := boxW_sum (fun x hx => by have := h8 x hx; omega) (by omega)
    have h2 := (shapeB_iff.1 hl).2.2
    have h3 := take_sum_le (l := l) (fun x hx => by have := h8 x hx; omega) 0
    simp at h3
    rw [show boxW [] = 0 from rfl, wr_id (by omega)]; omega
  unfold eachF refFil
  rw [hw]
  by_cases hs : boxW l = boxW m
  · rw [if_pos hs, if_pos hs]
    have hrow := shape_row hl
    by_cases hz : l.length = 0
    · have : l = [] := List.length_eq_zero_iff.1 hz
      subst this
      rfl
    · rw [fil, if_pos (by rfl), if_neg (by simp; omega)]
      have := fil_ref hlen (fun k => by have := (hrow k).1; rwa [rowF_nat] at this) (fun k => by have := (hrow k).2.1; rwa [rowF_nat] at this) 80 81 m [] [] (by simp; omega) (by have := (hrow 0).1; rw [rowF_nat] at this; simpa using this) (by simp; omega) (by simp; omega)
      rw [List.nil_append] at this
      rw [List.nil_append, this]
      congr 1
      unfold pad
      obtain ⟨k, hk⟩ : ∃ k, l.length = k + 1 := ⟨l.length - 1, by omega⟩
      rw [hk, List.replicate_succ]
      rfl
  · rw [if_neg hs, if_neg hs]
theorem eachB_len {l m : List Int} : eachB [] l m = ((eachF [] l m).length : Int) := by
  unfold eachB eachF filB
  split <;> rfl
end Go.Schur
