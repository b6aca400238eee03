/- Colourings: contracts. -/
import Derived.Test.YtiiiojjaphckbaaXK
import Derived.Test.YtiiiojjaphckbaaAT
set_option linter.unusedVariables false
set_option linter.unusedSimpArgs false
namespace Go.Caps
open Go Go.Ab Go.Proofs

/-- Whether the last number is a sum of two of its colour. -/
def sumB (l : List Int) : Bool := (List.range' 1 (l.length / 2)).any fun x => ieq (l.getD (x - 1) 0) (l.getD (l.length - 1) 0) && ieq (l.getD (l.length - x - 1) 0) (l.getD (l.length - 1) 0)
/-- Whether the last number ends a progression of k of its colour. -/
def stepB (k : Nat) (l : List Int) : Bool := (List.range' 1 ((l.length - 1) / (k - 1))).any fun b => (List.range k).all fun i => ieq (l.getD (l.length - 1 - i * b) 0) (l.getD (l.length - 1) 0)
def badK (k : Int) (l : List Int) : Bool := if k = 0 then sumB l else stepB k.toNat l
noncomputable def con63 : Con := mkC 63 [.d LI] [.bool] (fun (l : List Int) => [l.length ≤ 100]) (fun (l : List Int) => (badK 0 l, ()))
noncomputable def g63 (x0 : List Int) : Option (Bool × Unit) := whileO (fun (d1 : Int × Unit) => bif ile (wr IntKind.i64 ((2 : Int) * d1.1)) (↑(List.length x0) : Int) then gd (ile (1 : Int) (wr IntKind.i64 ((↑(List.length x0) : Int) - d1.1)) = true → ile (1 : Int) (wr IntKind.i64 ((↑(List.length x0) : Int) - d1.1)) = true ∧ ile (1 : Int) (wr IntKind.i64 ((↑(List.length x0) : Int) - d1.1)) = true) (gd (ile (1 : Int) (wr IntKind.i64 ((↑(List.length x0) : Int) - d1.1)) = true → ile (1 : Int) (wr IntKind.i64 ((↑(List.length x0) : Int) - d1.1)) = true) (gd ((bif ile (1 : Int) (wr IntKind.i64 ((↑(List.length x0) : Int) - d1.1)) then ilt (wr IntKind.i64 ((↑(List.length x0) : Int) - d1.1)) (↑(List.length x0) : Int) else false) = true → (bif ile (1 : Int) (wr IntKind.i64 ((↑(List.length x0) : Int) - d1.1)) then ilt (wr IntKind.i64 ((↑(List.length x0) : Int) - d1.1)) (↑(List.length x0) : Int) else false) = true) (gd ((bif ile (1 : Int) (wr IntKind.i64 ((↑(List.length x0) : Int) - d1.1)) then ilt (wr IntKind.i64 ((↑(List.length x0) : Int) - d1.1)) (↑(List.length x0) : Int) else false) = true → (bif ile (1 : Int) (wr IntKind.i64 ((↑(List.length x0) : Int) - d1.1)) then ilt (wr IntKind.i64 ((↑(List.length x0) : Int) - d1.1)) (↑(List.length x0) : Int) else false) = true ∧ (bif ile (1 : Int) (wr IntKind.i64 ((↑(List.length x0) : Int) - d1.1)) then ilt (wr IntKind.i64 ((↑(List.length x0) : Int) - d1.1)) (↑(List.length x0) : Int) else false) = true ∧ (0 : Int) ≤ wr IntKind.i64 (d1.1 - (1 : Int)) ∧ wr IntKind.i64 (d1.1 - (1 : Int)) < (↑(List.length x0) : Int)) (gd ((bif ile (1 : Int) (wr IntKind.i64 ((↑(List.length x0) : Int) - d1.1)) then ilt (wr IntKind.i64 ((↑(List.length x0) : Int) - d1.1)) (↑(List.length x0) : Int) else false) = true → (bif ile (1 : Int) (wr IntKind.i64 ((↑(List.length x0) : Int) - d1.1)) then ilt (wr IntKind.i64 ((↑(List.length x0) : Int) - d1.1)) (↑(List.length x0) : Int) else false) = true) (gd ((bif ile (1 : Int) (wr IntKind.i64 ((↑(List.length x0) : Int) - d1.1)) then ilt (wr IntKind.i64 ((↑(List.length x0) : Int) - d1.1)) (↑(List.length x0) : Int) else false) = true → (bif ile (1 : Int) (wr IntKind.i64 ((↑(List.length x0) : Int) - d1.1)) then ilt (wr IntKind.i64 ((↑(List.length x0) : Int) - d1.1)) (↑(List.length x0) : Int) else false) = true) (gd ((bif ile (1 : Int) (wr IntKind.i64 ((↑(List.length x0) : Int) - d1.1)) then ilt (wr IntKind.i64 ((↑(List.length x0) : Int) - d1.1)) (↑(List.length x0) : Int) else false) = true → (bif ile (1 : Int) (wr IntKind.i64 ((↑(List.length x0) : Int) - d1.1)) then ilt (wr IntKind.i64 ((↑(List.length x0) : Int) - d1.1)) (↑(List.length x0) : Int) else false) = true ∧ (bif ile (1 : Int) (wr IntKind.i64 ((↑(List.length x0) : Int) - d1.1)) then ilt (wr IntKind.i64 ((↑(List.length x0) : Int) - d1.1)) (↑(List.length x0) : Int) else false) = true ∧ (0 : Int) ≤ wr IntKind.i64 ((↑(List.length x0) : Int) - (1 : Int)) ∧ wr IntKind.i64 ((↑(List.length x0) : Int) - (1 : Int)) < (↑(List.length x0) : Int)) (gd ((bif ile (1 : Int) (wr IntKind.i64 ((↑(List.length x0) : Int) - d1.1)) then ilt (wr IntKind.i64 ((↑(List.length x0) : Int) - d1.1)) (↑(List.length x0) : Int) else false) = true → (bif ile (1 : Int) (wr IntKind.i64 ((↑(List.length x0) : Int) - d1.1)) then ilt (wr IntKind.i64 ((↑(List.length x0) : Int) - d1.1)) (↑(List.length x0) : Int) else false) = true) (gd ((bif ile (1 : Int) (wr IntKind.i64 ((↑(List.length x0) : Int) - d1.1)) then ilt (wr IntKind.i64 ((↑(List.length x0) : Int) - d1.1)) (↑(List.length x0) : Int) else false) = true → (bif ile (1 : Int) (wr IntKind.i64 ((↑(List.length x0) : Int) - d1.1)) then ilt (wr IntKind.i64 ((↑(List.length x0) : Int) - d1.1)) (↑(List.length x0) : Int) else false) = true ∧ (bif ile (1 : Int) (wr IntKind.i64 ((↑(List.length x0) : Int) - d1.1)) then ilt (wr IntKind.i64 ((↑(List.length x0) : Int) - d1.1)) (↑(List.length x0) : Int) else false) = true) (gd ((bif ile (1 : Int) (wr IntKind.i64 ((↑(List.length x0) : Int) - d1.1)) then ilt (wr IntKind.i64 ((↑(List.length x0) : Int) - d1.1)) (↑(List.length x0) : Int) else false) = true → (bif ile (1 : Int) (wr IntKind.i64 ((↑(List.length x0) : Int) - d1.1)) then ilt (wr IntKind.i64 ((↑(List.length x0) : Int) - d1.1)) (↑(List.length x0) : Int) else false) = true) (gd ((bif bif ile (1 : Int) (wr IntKind.i64 ((↑(List.length x0) : Int) - d1.1)) then ilt (wr IntKind.i64 ((↑(List.length x0) : Int) - d1.1)) (↑(List.length x0) : Int) else false then ieq (List.getD x0 (Int.toNat (wr IntKind.i64 (d1.1 - (1 : Int)))) (0 : Int)) (List.getD x0 (Int.toNat (wr IntKind.i64 ((↑(List.length x0) : Int) - (1 : Int)))) (0 : Int)) else false) = true → (bif bif ile (1 : Int) (wr IntKind.i64 ((↑(List.length x0) : Int) - d1.1)) then ilt (wr IntKind.i64 ((↑(List.length x0) : Int) - d1.1)) (↑(List.length x0) : Int) else false then ieq (List.getD x0 (Int.toNat (wr IntKind.i64 (d1.1 - (1 : Int)))) (0 : Int)) (List.getD x0 (Int.toNat (wr IntKind.i64 ((↑(List.length x0) : Int) - (1 : Int)))) (0 : Int)) else false) = true) (gd ((bif bif ile (1 : Int) (wr IntKind.i64 ((↑(List.length x0) : Int) - d1.1)) then ilt (wr IntKind.i64 ((↑(List.length x0) : Int) - d1.1)) (↑(List.length x0) : Int) else false then ieq (List.getD x0 (Int.toNat (wr IntKind.i64 (d1.1 - (1 : Int)))) (0 : Int)) (List.getD x0 (Int.toNat (wr IntKind.i64 ((↑(List.length x0) : Int) - (1 : Int)))) (0 : Int)) else false) = true → (bif bif ile (1 : Int) (wr IntKind.i64 ((↑(List.length x0) : Int) - d1.1)) then ilt (wr IntKind.i64 ((↑(List.length x0) : Int) - d1.1)) (↑(List.length x0) : Int) else false then ieq (List.getD x0 (Int.toNat (wr IntKind.i64 (d1.1 - (1 : Int)))) (0 : Int)) (List.getD x0 (Int.toNat (wr IntKind.i64 ((↑(List.length x0) : Int) - (1 : Int)))) (0 : Int)) else false) = true ∧ (bif bif ile (1 : Int) (wr IntKind.i64 ((↑(List.length x0) : Int) - d1.1)) then ilt (wr IntKind.i64 ((↑(List.length x0) : Int) - d1.1)) (↑(List.length x0) : Int) else false then ieq (List.getD x0 (Int.toNat (wr IntKind.i64 (d1.1 - (1 : Int)))) (0 : Int)) (List.getD x0 (Int.toNat (wr IntKind.i64 ((↑(List.length x0) : Int) - (1 : Int)))) (0 : Int)) else false) = true ∧ (0 : Int) ≤ wr IntKind.i64 (wr IntKind.i64 ((↑(List.length x0) : Int) - d1.1) - (1 : Int)) ∧ wr IntKind.i64 (wr IntKind.i64 ((↑(List.length x0) : Int) - d1.1) - (1 : Int)) < (↑(List.length x0) : Int)) (gd ((bif bif ile (1 : Int) (wr IntKind.i64 ((↑(List.length x0) : Int) - d1.1)) then ilt (wr IntKind.i64 ((↑(List.length x0) : Int) - d1.1)) (↑(List.length x0) : Int) else false then ieq (List.getD x0 (Int.toNat (wr IntKind.i64 (d1.1 - (1 : Int)))) (0 : Int)) (List.getD x0 (Int.toNat (wr IntKind.i64 ((↑(List.length x0) : Int) - (1 : Int)))) (0 : Int)) else false) = true → (bif bif ile (1 : Int) (wr IntKind.i64 ((↑(List.length x0) : Int) - d1.1)) then ilt (wr IntKind.i64 ((↑(List.length x0) : Int) - d1.1)) (↑(List.length x0) : Int) else false then ieq (List.getD x0 (Int.toNat (wr IntKind.i64 (d1.1 - (1 : Int)))) (0 : Int)) (List.getD x0 (Int.toNat (wr IntKind.i64 ((↑(List.length x0) : Int) - (1 : Int)))) (0 : Int)) else false) = true) (gd ((bif bif ile (1 : Int) (wr IntKind.i64 ((↑(List.length x0) : Int) - d1.1)) then ilt (wr IntKind.i64 ((↑(List.length x0) : Int) - d1.1)) (↑(List.length x0) : Int) else false then ieq (List.getD x0 (Int.toNat (wr IntKind.i64 (d1.1 - (1 : Int)))) (0 : Int)) (List.getD x0 (Int.toNat (wr IntKind.i64 ((↑(List.length x0) : Int) - (1 : Int)))) (0 : Int)) else false) = true → (bif bif ile (1 : Int) (wr IntKind.i64 ((↑(List.length x0) : Int) - d1.1)) then ilt (wr IntKind.i64 ((↑(List.length x0) : Int) - d1.1)) (↑(List.length x0) : Int) else false then ieq (List.getD x0 (Int.toNat (wr IntKind.i64 (d1.1 - (1 : Int)))) (0 : Int)) (List.getD x0 (Int.toNat (wr IntKind.i64 ((↑(List.length x0) : Int) - (1 : Int)))) (0 : Int)) else false) = true) (gd ((bif bif ile (1 : Int) (wr IntKind.i64 ((↑(List.length x0) : Int) - d1.1)) then ilt (wr IntKind.i64 ((↑(List.length x0) : Int) - d1.1)) (↑(List.length x0) : Int) else false then ieq (List.getD x0 (Int.toNat (wr IntKind.i64 (d1.1 - (1 : Int)))) (0 : Int)) (List.getD x0 (Int.toNat (wr IntKind.i64 ((↑(List.length x0) : Int) - (1 : Int)))) (0 : Int)) else false) = true → (bif bif ile (1 : Int) (wr IntKind.i64 ((↑(List.length x0) : Int) - d1.1)) then ilt (wr IntKind.i64 ((↑(List.length x0) : Int) - d1.1)) (↑(List.length x0) : Int) else false then ieq (List.getD x0 (Int.toNat (wr IntKind.i64 (d1.1 - (1 : Int)))) (0 : Int)) (List.getD x0 (Int.toNat (wr IntKind.i64 ((↑(List.length x0) : Int) - (1 : Int)))) (0 : Int)) else false) = true ∧ (bif bif ile (1 : Int) (wr IntKind.i64 ((↑(List.length x0) : Int) - d1.1)) then ilt (wr IntKind.i64 ((↑(List.length x0) : Int) - d1.1)) (↑(List.length x0) : Int) else false then ieq (List.getD x0 (Int.toNat (wr IntKind.i64 (d1.1 - (1 : Int)))) (0 : Int)) (List.getD x0 (Int.toNat (wr IntKind.i64 ((↑(List.length x0) : Int) - (1 : Int)))) (0 : Int)) else false) = true ∧ (0 : Int) ≤ wr IntKind.i64 ((↑(List.length x0) : Int) - (1 : Int)) ∧ wr IntKind.i64 ((↑(List.length x0) : Int) - (1 : Int)) < (↑(List.length x0) : Int)) (gd ((bif bif ile (1 : Int) (wr IntKind.i64 ((↑(List.length x0) : Int) - d1.1)) then ilt (wr IntKind.i64 ((↑(List.length x0) : Int) - d1.1)) (↑(List.length x0) : Int) else false then ieq (List.getD x0 (Int.toNat (wr IntKind.i64 (d1.1 - (1 : Int)))) (0 : Int)) (List.getD x0 (Int.toNat (wr IntKind.i64 ((↑(List.length x0) : Int) - (1 : Int)))) (0 : Int)) else false) = true → (bif bif ile (1 : Int) (wr IntKind.i64 ((↑(List.length x0) : Int) - d1.1)) then ilt (wr IntKind.i64 ((↑(List.length x0) : Int) - d1.1)) (↑(List.length x0) : Int) else false then ieq (List.getD x0 (Int.toNat (wr IntKind.i64 (d1.1 - (1 : Int)))) (0 : Int)) (List.getD x0 (Int.toNat (wr IntKind.i64 ((↑(List.length x0) : Int) - (1 : Int)))) (0 : Int)) else false) = true) (gd ((bif bif ile (1 : Int) (wr IntKind.i64 ((↑(List.length x0) : Int) - d1.1)) then ilt (wr IntKind.i64 ((↑(List.length x0) : Int) - d1.1)) (↑(List.length x0) : Int) else false then ieq (List.getD x0 (Int.toNat (wr IntKind.i64 (d1.1 - (1 : Int)))) (0 : Int)) (List.getD x0 (Int.toNat (wr IntKind.i64 ((↑(List.length x0) : Int) - (1 : Int)))) (0 : Int)) else false) = true → (bif bif ile (1 : Int) (wr IntKind.i64 ((↑(List.length x0) : Int) - d1.1)) then ilt (wr IntKind.i64 ((↑(List.length x0) : Int) - d1.1)) (↑(List.length x0) : Int) else false then ieq (List.getD x0 (Int.toNat (wr IntKind.i64 (d1.1 - (1 : Int)))) (0 : Int)) (List.getD x0 (Int.toNat (wr IntKind.i64 ((↑(List.length x0) : Int) - (1 : Int)))) (0 : Int)) else false) = true ∧ (bif bif ile (1 : Int) (wr IntKind.i64 ((↑(List.length x0) : Int) - d1.1)) then ilt (wr IntKind.i64 ((↑(List.length x0) : Int) - d1.1)) (↑(List.length x0) : Int) else false then ieq (List.getD x0 (Int.toNat (wr IntKind.i64 (d1.1 - (1 : Int)))) (0 : Int)) (List.getD x0 (Int.toNat (wr IntKind.i64 ((↑(List.length x0) : Int) - (1 : Int)))) (0 : Int)) else false) = true) (gd ((bif bif ile (1 : Int) (wr IntKind.i64 ((↑(List.length x0) : Int) - d1.1)) then ilt (wr IntKind.i64 ((↑(List.length x0) : Int) - d1.1)) (↑(List.length x0) : Int) else false then ieq (List.getD x0 (Int.toNat (wr IntKind.i64 (d1.1 - (1 : Int)))) (0 : Int)) (List.getD x0 (Int.toNat (wr IntKind.i64 ((↑(List.length x0) : Int) - (1 : Int)))) (0 : Int)) else false) = true → (bif bif ile (1 : Int) (wr IntKind.i64 ((↑(List.length x0) : Int) - d1.1)) then ilt (wr IntKind.i64 ((↑(List.length x0) : Int) - d1.1)) (↑(List.length x0) : Int) else false then ieq (List.getD x0 (Int.toNat (wr IntKind.i64 (d1.1 - (1 : Int)))) (0 : Int)) (List.getD x0 (Int.toNat (wr IntKind.i64 ((↑(List.length x0) : Int) - (1 : Int)))) (0 : Int)) else false) = true) (bif bif bif bif ile (1 : Int) (wr IntKind.i64 ((↑(List.length x0) : Int) - d1.1)) then ilt (wr IntKind.i64 ((↑(List.length x0) : Int) - d1.1)) (↑(List.length x0) : Int) else false then ieq (List.getD x0 (Int.toNat (wr IntKind.i64 (d1.1 - (1 : Int)))) (0 : Int)) (List.getD x0 (Int.toNat (wr IntKind.i64 ((↑(List.length x0) : Int) - (1 : Int)))) (0 : Int)) else false then ieq (List.getD x0 (Int.toNat (wr IntKind.i64 (wr IntKind.i64 ((↑(List.length x0) : Int) - d1.1) - (1 : Int)))) (0 : Int)) (List.getD x0 (Int.toNat (wr IntKind.i64 ((↑(List.length x0) : Int) - (1 : Int)))) (0 : Int)) else false then some (Lp.out ((true, ()) : Bool × Unit)) else some (Lp.go ((wr IntKind.i64 (d1.1 + (1 : Int)), ()) : Int × Unit)))))))))))))))))))) else some (Lp.out ((false, ()) : Bool × Unit))) (((1 : Int), ()) : Int × Unit)
noncomputable def g63_sh : List LSh := LSh.mk (((4, TV.v (Ty.int IntKind.i64)) : Nat × TV) :: ([] : List (Nat × TV))) ([] : List TB) :: ([] : List LSh)
def kOk (k : Int) (l : List Int) : Prop := (k = 3 ∨ k = 4) ∧ 1 ≤ l.length ∧ l.length ≤ 100
noncomputable def con66 : Con := mkC 66 [.d LI, .d I64] [.bool] (fun (l : List Int) (k : Int) => [kOk k l]) (fun (l : List Int) (k : Int) => (badK k l, ()))
noncomputable def g66_l0 (x0 : List Int) (x1 : Int) (d2 : Int × Unit) (d3 : Bool × Int × Unit) : Option (Lp (Bool × Int × Unit) (Lp (Int × Unit) (Bool × Unit))) := bif ilt d3.2.1 x1 then gd (d3.1 = true → d3.1 = true ∧ d3.1 = true) (gd (d3.1 = true → d3.1 = true ∧ d3.1 = true) (gd (d3.1 = true → d3.1 = true ∧ d3.1 = true ∧ (0 : Int) ≤ wr IntKind.i64 (wr IntKind.i64 ((↑(List.length x0) : Int) - (1 : Int)) - wr IntKind.i64 (d3.2.1 * d2.1)) ∧ wr IntKind.i64 (wr IntKind.i64 ((↑(List.length x0) : Int) - (1 : Int)) - wr IntKind.i64 (d3.2.1 * d2.1)) < (↑(List.length x0) : Int)) (gd (d3.1 = true → d3.1 = true) (gd (d3.1 = true → d3.1 = true ∧ d3.1 = true ∧ (0 : Int) ≤ wr IntKind.i64 ((↑(List.length x0) : Int) - (1 : Int)) ∧ wr IntKind.i64 ((↑(List.length x0) : Int) - (1 : Int)) < (↑(List.length x0) : Int)) (gd (d3.1 = true → d3.1 = true) (gd (d3.1 = true → d3.1 = true ∧ d3.1 = true) (gd (d3.1 = true → d3.1 = true) (some (Lp.go ((bif d3.1 then ieq (List.getD x0 (Int.toNat (wr IntKind.i64 (wr IntKind.i64 ((↑(List.length x0) : Int) - (1 : Int)) - wr IntKind.i64 (d3.2.1 * d2.1)))) (0 : Int)) (List.getD x0 (Int.toNat (wr IntKind.i64 ((↑(List.length x0) : Int) - (1 : Int)))) (0 : Int)) else false, wr IntKind.i64 (d3.2.1 + (1 : Int)), ()) : Bool × Int × Unit)))))))))) else bif d3.1 then some (Lp.out (Lp.out ((true, ()) : Bool × Unit))) else some (Lp.out (Lp.go ((wr IntKind.i64 (d2.1 + (1 : Int)), ()) : Int × Unit)))
noncomputable def g66 (x0 : List Int) (x1 : Int) : Option (Bool × Unit) := whileO (fun (d2 : Int × Unit) => bif ile (wr IntKind.i64 (d2.1 * wr IntKind.i64 (x1 - (1 : Int)))) (wr IntKind.i64 ((↑(List.length x0) : Int) - (1 : Int))) then whileO (g66_l0 x0 x1 d2) ((true, (0 : Int), ()) : Bool × Int × Unit) else some (Lp.out ((false, ()) : Bool × Unit))) (((1 : Int), ()) : Int × Unit)
noncomputable def g66_sh : List LSh := LSh.mk (((6, TV.v (Ty.int IntKind.i64)) : Nat × TV) :: ([] : List (Nat × TV))) ([] : List TB) :: LSh.mk (((7, TV.v Ty.bool) : Nat × TV) :: ((21, TV.v (Ty.int IntKind.i64)) : Nat × TV) :: ([] : List (Nat × TV))) ([] : List TB) :: ([] : List LSh)
noncomputable def con65 : Con := mkC 65 [.d LI, .d (.ptr I64)] [.bool] (fun (l : List Int) (k : Int) => [kOk k l]) (fun (l : List Int) (k : Int) => (badK k l, ()))
noncomputable def g65 (x0 : List Int) (x1 : Int) : Option (Bool × Unit) := gd (kOk x1 x0) (some ((badK x1 x0, ()) : Bool × Unit))
noncomputable def g65_sh : List LSh := ([] : List LSh)
def foundX (b : Bool) (l : List Int) : List Int × Int × Unit := if b = true then ([], 4, ()) else (l, 0, ())
noncomputable def con61 : SCon := mkS 61 [.opt (.v LI)] [] [.v LI, .v I64] [] (fun (b : Bool) (l : List Int) => []) (fun (b : Bool) (l : List Int) => foundX b l)
noncomputable def g61 (x0 : Bool) (x1 : List Int) : Option (List Int × Int × Unit) := bif x0 then some ((([] : List Int), (4 : Int), ()) : List Int × Int × Unit) else some ((bif x0 then ([] : List Int) else x1, (0 : Int), ()) : List Int × Int × Unit)
noncomputable def g61_sh : List LSh := ([] : List LSh)

abbrev Gr : TV := .fn 94 (.cons (.ref 0 1 0 0) (.cons (.ref 1 1 0 0) (.cons (.ref 2 1 0 0) (.cons (.ref 3 1 0 0) (.cons (.ref 4 1 0 0) .nil)))))
abbrev I94 : List TB := [.cells [.sl 5 1 0], .cells [.v I64], .cells [.v I64], .cells [.fn 63 .nil], .cells [Gr], .arr I64 true]
abbrev O94 : List TB := [.cells [.sl 6 1 0], .cells [.v I64], .cells [.v I64], .cells [.fn 63 .nil], .cells [Gr], .dead, .arr I64 true]
abbrev I94b : List TB := [.cells [.sl 6 1 0], .cells [.v I64], .cells [.v I64], .cells [.fn 65 (.cons (.ref 5 1 0 0) .nil)], .cells [Gr], .cells [.v I64], .arr I64 true]
abbrev O94b : List TB := [.cells [.sl 7 1 0], .cells [.v I64], .cells [.v I64], .cells [.fn 65 (.cons (.ref 5 1 0 0) .nil)], .cells [Gr], .cells [.v I64], .dead, .arr I64 true]
abbrev A94 : List TV := [.ref 0 1 0 0, .ref 1 1 0 0, .ref 2 1 0 0, .ref 3 1 0 0, .ref 4 1 0 0]
abbrev Srch := Bool × Int × List Int × Unit
def tryG (g : Int → List Int → Srch) (bad : List Int → Bool) (len : Int) : Nat → Int → List Int → Srch
  | 0, _, a => (false, len, a, ())
  | c + 1, x, a => if bad (a.take len.toNat ++ [x]) = true then tryG g bad len c (x + 1) (a.take len.toNat ++ [x])
    else if (g (len + 1) (a.take len.toNat ++ [x])).1 = true then g (len + 1) (a.take len.toNat ++ [x])
    else tryG g bad len c (x + 1) (g (len + 1) (a.take len.toNat ++ [x])).2.2.1
def growS (kk n col : Int) : Nat → Int → List Int → Srch
  | 0, len, a => (false, len, a, ())
  | f + 1, len, a => if len = n then (true, len, a, ()) else tryG (growS kk n col f) (badK kk) len col.toNat 0 a
def pre94 (f : Nat) (len n col : Int) (a : List Int) : Prop := 0 ≤ len ∧ len ≤ n ∧ n ≤ 40 ∧ 1 ≤ col ∧ col ≤ 3 ∧ n - len < f ∧ len ≤ a.length
noncomputable def con94 (f : Nat) : SCon := mkS 94 A94 I94 [.v .bool] O94 (fun (len n col : Int) (a : List Int) => [pre94 f len n col a]) (fun (len n col : Int) (a : List Int) => ((growS 0 n col f len a).1, (growS 0 n col f len a).2.1, n, col, (growS 0 n col f len a).2.2.1, ()))
noncomputable def g94 (k : Nat) (x0 x1 x2 : Int) (x3 : List Int) : Option (Bool × Int × Int × Int × List Int × Unit) := bif ieq (↑(Int.toNat x0) : Int) x1 then some ((true, (↑(Int.toNat x0) : Int), x1, x2, x3, ()) : Bool × Int × Int × Int × List Int × Unit) else whileO (fun (d5 : Int × Int × Int × Int × List Int × Unit) => bif ilt d5.1 x2 then gd (Int.toNat d5.2.1 ≤ List.length d5.2.2.2.2.1) (gd ((Int.toNat d5.2.1 + (1 : Nat)) * (8 : Nat) ≤ (1099511627776 : Nat)) (gd ((0 : Nat) + (Int.toNat d5.2.1 + (1 : Nat)) ≤ List.length (List.take (Int.toNat d5.2.1) d5.2.2.2.2.1 ++ d5.1 :: ([] : List Int))) (gd (List.length (List.take (Int.toNat d5.2.1 + (1 : Nat)) (List.drop (0 : Nat) (List.take (Int.toNat d5.2.1) d5.2.2.2.2.1 ++ d5.1 :: ([] : List Int)))) ≤ (100 : Nat)) (gd ((!badK (0 : Int) (List.take (Int.toNat d5.2.1 + (1 : Nat)) (List.drop (0 : Nat) (List.take (Int.toNat d5.2.1) d5.2.2.2.2.1 ++ d5.1 :: ([] : List Int))))) = true → (!badK (0 : Int) (List.take (Int.toNat d5.2.1 + (1 : Nat)) (List.drop (0 : Nat) (List.take (Int.toNat d5.2.1) d5.2.2.2.2.1 ++ d5.1 :: ([] : List Int))))) = true) (gd ((!badK (0 : Int) (List.take (Int.toNat d5.2.1 + (1 : Nat)) (List.drop (0 : Nat) (List.take (Int.toNat d5.2.1) d5.2.2.2.2.1 ++ d5.1 :: ([] : List Int))))) = true → pre94 k (↑(Int.toNat d5.2.1 + (1 : Nat)) : Int) d5.2.2.1 d5.2.2.2.1 (List.take (Int.toNat d5.2.1) d5.2.2.2.2.1 ++ d5.1 :: ([] : List Int))) (gd ((!badK (0 : Int) (List.take (Int.toNat d5.2.1 + (1 : Nat)) (List.drop (0 : Nat) (List.take (Int.toNat d5.2.1) d5.2.2.2.2.1 ++ d5.1 :: ([] : List Int))))) = true → (!badK (0 : Int) (List.take (Int.toNat d5.2.1 + (1 : Nat)) (List.drop (0 : Nat) (List.take (Int.toNat d5.2.1) d5.2.2.2.2.1 ++ d5.1 :: ([] : List Int))))) = true) (bif bif !badK (0 : Int) (List.take (Int.toNat d5.2.1 + (1 : Nat)) (List.drop (0 : Nat) (List.take (Int.toNat d5.2.1) d5.2.2.2.2.1 ++ d5.1 :: ([] : List Int)))) then bif !badK (0 : Int) (List.take (Int.toNat d5.2.1 + (1 : Nat)) (List.drop (0 : Nat) (List.take (Int.toNat d5.2.1) d5.2.2.2.2.1 ++ d5.1 :: ([] : List Int)))) then (growS (0 : Int) d5.2.2.1 d5.2.2.2.1 k (↑(Int.toNat d5.2.1 + (1 : Nat)) : Int) (List.take (Int.toNat d5.2.1) d5.2.2.2.2.1 ++ d5.1 :: ([] : List Int))).1 else false else false then some (Lp.out ((true, (↑(Int.toNat (bif !badK (0 : Int) (List.take (Int.toNat d5.2.1 + (1 : Nat)) (List.drop (0 : Nat) (List.take (Int.toNat d5.2.1) d5.2.2.2.2.1 ++ d5.1 :: ([] : List Int)))) then (growS (0 : Int) d5.2.2.1 d5.2.2.2.1 k (↑(Int.toNat d5.2.1 + (1 : Nat)) : Int) (List.take (Int.toNat d5.2.1) d5.2.2.2.2.1 ++ d5.1 :: ([] : List Int))).2.1 else (↑(Int.toNat d5.2.1 + (1 : Nat)) : Int))) : Int), bif !badK (0 : Int) (List.take (Int.toNat d5.2.1 + (1 : Nat)) (List.drop (0 : Nat) (List.take (Int.toNat d5.2.1) d5.2.2.2.2.1 ++ d5.1 :: ([] : List Int)))) then d5.2.2.1 else d5.2.2.1, bif !badK (0 : Int) (List.take (Int.toNat d5.2.1 + (1 : Nat)) (List.drop (0 : Nat) (List.take (Int.toNat d5.2.1) d5.2.2.2.2.1 ++ d5.1 :: ([] : List Int)))) then d5.2.2.2.1 else d5.2.2.2.1, bif !badK (0 : Int) (List.take (Int.toNat d5.2.1 + (1 : Nat)) (List.drop (0 : Nat) (List.take (Int.toNat d5.2.1) d5.2.2.2.2.1 ++ d5.1 :: ([] : List Int)))) then (growS (0 : Int) d5.2.2.1 d5.2.2.2.1 k (↑(Int.toNat d5.2.1 + (1 : Nat)) : Int) (List.take (Int.toNat d5.2.1) d5.2.2.2.2.1 ++ d5.1 :: ([] : List Int))).2.2.1 else List.take (Int.toNat d5.2.1) d5.2.2.2.2.1 ++ d5.1 :: ([] : List Int), ()) : Bool × Int × Int × Int × List Int × Unit)) else gd ((0 : Int) ≤ wr IntKind.i64 ((↑(Int.toNat (bif !badK (0 : Int) (List.take (Int.toNat d5.2.1 + (1 : Nat)) (List.drop (0 : Nat) (List.take (Int.toNat d5.2.1) d5.2.2.2.2.1 ++ d5.1 :: ([] : List Int)))) then (growS (0 : Int) d5.2.2.1 d5.2.2.2.1 k (↑(Int.toNat d5.2.1 + (1 : Nat)) : Int) (List.take (Int.toNat d5.2.1) d5.2.2.2.2.1 ++ d5.1 :: ([] : List Int))).2.1 else (↑(Int.toNat d5.2.1 + (1 : Nat)) : Int))) : Int) - (1 : Int)) ∧ wr IntKind.i64 ((↑(Int.toNat (bif !badK (0 : Int) (List.take (Int.toNat d5.2.1 + (1 : Nat)) (List.drop (0 : Nat) (List.take (Int.toNat d5.2.1) d5.2.2.2.2.1 ++ d5.1 :: ([] : List Int)))) then (growS (0 : Int) d5.2.2.1 d5.2.2.2.1 k (↑(Int.toNat d5.2.1 + (1 : Nat)) : Int) (List.take (Int.toNat d5.2.1) d5.2.2.2.2.1 ++ d5.1 :: ([] : List Int))).2.1 else (↑(Int.toNat d5.2.1 + (1 : Nat)) : Int))) : Int) - (1 : Int)) ≤ (↑(Int.toNat (bif !badK (0 : Int) (List.take (Int.toNat d5.2.1 + (1 : Nat)) (List.drop (0 : Nat) (List.take (Int.toNat d5.2.1) d5.2.2.2.2.1 ++ d5.1 :: ([] : List Int)))) then (growS (0 : Int) d5.2.2.1 d5.2.2.2.1 k (↑(Int.toNat d5.2.1 + (1 : Nat)) : Int) (List.take (Int.toNat d5.2.1) d5.2.2.2.2.1 ++ d5.1 :: ([] : List Int))).2.1 else (↑(Int.toNat d5.2.1 + (1 : Nat)) : Int))) : Int)) (some (Lp.go ((wr IntKind.i64 (d5.1 + (1 : Int)), (↑(Int.toNat (wr IntKind.i64 ((↑(Int.toNat (bif !badK (0 : Int) (List.take (Int.toNat d5.2.1 + (1 : Nat)) (List.drop (0 : Nat) (List.take (Int.toNat d5.2.1) d5.2.2.2.2.1 ++ d5.1 :: ([] : List Int)))) then (growS (0 : Int) d5.2.2.1 d5.2.2.2.1 k (↑(Int.toNat d5.2.1 + (1 : Nat)) : Int) (List.take (Int.toNat d5.2.1) d5.2.2.2.2.1 ++ d5.1 :: ([] : List Int))).2.1 else (↑(Int.toNat d5.2.1 + (1 : Nat)) : Int))) : Int) - (1 : Int)))) : Int), bif !badK (0 : Int) (List.take (Int.toNat d5.2.1 + (1 : Nat)) (List.drop (0 : Nat) (List.take (Int.toNat d5.2.1) d5.2.2.2.2.1 ++ d5.1 :: ([] : List Int)))) then d5.2.2.1 else d5.2.2.1, bif !badK (0 : Int) (List.take (Int.toNat d5.2.1 + (1 : Nat)) (List.drop (0 : Nat) (List.take (Int.toNat d5.2.1) d5.2.2.2.2.1 ++ d5.1 :: ([] : List Int)))) then d5.2.2.2.1 else d5.2.2.2.1, bif !badK (0 : Int) (List.take (Int.toNat d5.2.1 + (1 : Nat)) (List.drop (0 : Nat) (List.take (Int.toNat d5.2.1) d5.2.2.2.2.1 ++ d5.1 :: ([] : List Int)))) then (growS (0 : Int) d5.2.2.1 d5.2.2.2.1 k (↑(Int.toNat d5.2.1 + (1 : Nat)) : Int) (List.take (Int.toNat d5.2.1) d5.2.2.2.2.1 ++ d5.1 :: ([] : List Int))).2.2.1 else List.take (Int.toNat d5.2.1) d5.2.2.2.2.1 ++ d5.1 :: ([] : List Int), ()) : Int × Int × Int × Int × List Int × Unit)))))))))) else some (Lp.out ((false, (↑(Int.toNat d5.2.1) : Int), d5.2.2.1, d5.2.2.2.1, d5.2.2.2.2.1, ()) : Bool × Int × Int × Int × List Int × Unit))) (((0 : Int), (↑(Int.toNat x0) : Int), x1, x2, x3, ()) : Int × Int × Int × Int × List Int × Unit)
noncomputable def g94_sh : List LSh := LSh.mk3 (((0, TV.ref (0) (1 : Nat) (0 : Nat) (0 : Nat)) : Nat × TV) :: ((3, TV.ref (3) (1 : Nat) (0 : Nat) (0 : Nat)) : Nat × TV) :: ((4, TV.ref (4) (1 : Nat) (0 : Nat) (0 : Nat)) : Nat × TV) :: ((12, TV.v (Ty.int IntKind.i64)) : Nat × TV) :: ([] : List (Nat × TV))) (TB.cells (TV.sl (6) (1) (0) :: ([] : List TV)) :: TB.cells (TV.v (Ty.int IntKind.i64) :: ([] : List TV)) :: TB.cells (TV.v (Ty.int IntKind.i64) :: ([] : List TV)) :: TB.cells (TV.fn (63) TV.nil :: ([] : List TV)) :: TB.cells (TV.fn (94) (TV.cons (TV.ref (0) (1 : Nat) (0 : Nat) (0 : Nat)) (TV.cons (TV.ref (1) (1 : Nat) (0 : Nat) (0 : Nat)) (TV.cons (TV.ref (2) (1 : Nat) (0 : Nat) (0 : Nat)) (TV.cons (TV.ref (3) (1 : Nat) (0 : Nat) (0 : Nat)) (TV.cons (TV.ref (4) (1 : Nat) (0 : Nat) (0 : Nat)) TV.nil))))) :: ([] : List TV)) :: TB.dead :: TB.arr (Ty.int IntKind.i64) true :: ([] : List TB)) (6) :: ([] : List LSh)
def colL (kk n col : Int) : List Int := (growS kk n col 42 0 []).2.2.1.take (growS kk n col 42 0 []).2.1.toNat
noncomputable def con62 : SCon := mkS 62 [.v I64, .v I64, .fn 63 .nil] [] [.opt (.v LI)] [] (fun (n col : Int) => [pre94 42 0 n col [], 1 ≤ n]) (fun (n col : Int) => (!(growS 0 n col 42 0 []).1, bif (growS 0 n col 42 0 []).1 then colL 0 n col else [], ()))
noncomputable def g62 (x0 x1 : Int) : Option (Bool × List Int × Unit) := gd (pre94 (42 : Nat) (0 : Int) x0 x1 ([] : List Int)) (bif !(growS (0 : Int) x0 x1 (42 : Nat) (0 : Int) ([] : List Int)).1 then gd (true = true) (some ((true, ([] : List Int), ()) : Bool × List Int × Unit)) else gd ((0 : Nat) + Int.toNat (growS (0 : Int) x0 x1 (42 : Nat) (0 : Int) ([] : List Int)).2.1 ≤ List.length (growS (0 : Int) x0 x1 (42 : Nat) (0 : Int) ([] : List Int)).2.2.1) (gd (List.length (List.take (Int.toNat (growS (0 : Int) x0 x1 (42 : Nat) (0 : Int) ([] : List Int)).2.1) (List.drop (0 : Nat) (growS (0 : Int) x0 x1 (42 : Nat) (0 : Int) ([] : List Int)).2.2.1)) ≠ (0 : Nat)) (some ((false, List.take (Int.toNat (growS (0 : Int) x0 x1 (42 : Nat) (0 : Int) ([] : List Int)).2.1) (List.drop (0 : Nat) (growS (0 : Int) x0 x1 (42 : Nat) (0 : Int) ([] : List Int)).2.2.1), ()) : Bool × List Int × Unit))))
noncomputable def g62_sh : List LSh := ([] : List LSh)
noncomputable def con94b (f : Nat) : SCon := mkS 94 A94 I94b [.v .bool] O94b (fun (len n col kk : Int) (a : List Int) => [pre94 f len n col a, kk = 3 ∨ kk = 4]) (fun (len n col kk : Int) (a : List Int) => ((growS kk n col f len a).1, (growS kk n col f len a).2.1, n, col, kk, (growS kk n col f len a).2.2.1, ()))
noncomputable def g94b (k : Nat) (x0 x1 x2 x3 : Int) (x4 : List Int) : Option (Bool × Int × Int × Int × Int × List Int × Unit) := bif ieq (↑(Int.toNat x0) : Int) x1 then some ((true, (↑(Int.toNat x0) : Int), x1, x2, x3, x4, ()) : Bool × Int × Int × Int × Int × List Int × Unit) else whileO (fun (d6 : Int × Int × Int × Int × Int × List Int × Unit) => bif ilt d6.1 x2 then gd (Int.toNat d6.2.1 ≤ List.length d6.2.2.2.2.2.1) (gd ((Int.toNat d6.2.1 + (1 : Nat)) * (8 : Nat) ≤ (1099511627776 : Nat)) (gd ((0 : Nat) + (Int.toNat d6.2.1 + (1 : Nat)) ≤ List.length (List.take (Int.toNat d6.2.1) d6.2.2.2.2.2.1 ++ d6.1 :: ([] : List Int))) (gd (kOk d6.2.2.2.2.1 (List.take (Int.toNat d6.2.1 + (1 : Nat)) (List.drop (0 : Nat) (List.take (Int.toNat d6.2.1) d6.2.2.2.2.2.1 ++ d6.1 :: ([] : List Int))))) (gd ((!badK d6.2.2.2.2.1 (List.take (Int.toNat d6.2.1 + (1 : Nat)) (List.drop (0 : Nat) (List.take (Int.toNat d6.2.1) d6.2.2.2.2.2.1 ++ d6.1 :: ([] : List Int))))) = true → (!badK d6.2.2.2.2.1 (List.take (Int.toNat d6.2.1 + (1 : Nat)) (List.drop (0 : Nat) (List.take (Int.toNat d6.2.1) d6.2.2.2.2.2.1 ++ d6.1 :: ([] : List Int))))) = true) (gd ((!badK d6.2.2.2.2.1 (List.take (Int.toNat d6.2.1 + (1 : Nat)) (List.drop (0 : Nat) (List.take (Int.toNat d6.2.1) d6.2.2.2.2.2.1 ++ d6.1 :: ([] : List Int))))) = true → pre94 k (↑(Int.toNat d6.2.1 + (1 : Nat)) : Int) d6.2.2.1 d6.2.2.2.1 (List.take (Int.toNat d6.2.1) d6.2.2.2.2.2.1 ++ d6.1 :: ([] : List Int)) ∧ (d6.2.2.2.2.1 = (3 : Int) ∨ d6.2.2.2.2.1 = (4 : Int))) (gd ((!badK d6.2.2.2.2.1 (List.take (Int.toNat d6.2.1 + (1 : Nat)) (List.drop (0 : Nat) (List.take (Int.toNat d6.2.1) d6.2.2.2.2.2.1 ++ d6.1 :: ([] : List Int))))) = true → (!badK d6.2.2.2.2.1 (List.take (Int.toNat d6.2.1 + (1 : Nat)) (List.drop (0 : Nat) (List.take (Int.toNat d6.2.1) d6.2.2.2.2.2.1 ++ d6.1 :: ([] : List Int))))) = true) (bif bif !badK d6.2.2.2.2.1 (List.take (Int.toNat d6.2.1 + (1 : Nat)) (List.drop (0 : Nat) (List.take (Int.toNat d6.2.1) d6.2.2.2.2.2.1 ++ d6.1 :: ([] : List Int)))) then bif !badK d6.2.2.2.2.1 (List.take (Int.toNat d6.2.1 + (1 : Nat)) (List.drop (0 : Nat) (List.take (Int.toNat d6.2.1) d6.2.2.2.2.2.1 ++ d6.1 :: ([] : List Int)))) then (growS d6.2.2.2.2.1 d6.2.2.1 d6.2.2.2.1 k (↑(Int.toNat d6.2.1 + (1 : Nat)) : Int) (List.take (Int.toNat d6.2.1) d6.2.2.2.2.2.1 ++ d6.1 :: ([] : List Int))).1 else false else false then some (Lp.out ((true, (↑(Int.toNat (bif !badK d6.2.2.2.2.1 (List.take (Int.toNat d6.2.1 + (1 : Nat)) (List.drop (0 : Nat) (List.take (Int.toNat d6.2.1) d6.2.2.2.2.2.1 ++ d6.1 :: ([] : List Int)))) then (growS d6.2.2.2.2.1 d6.2.2.1 d6.2.2.2.1 k (↑(Int.toNat d6.2.1 + (1 : Nat)) : Int) (List.take (Int.toNat d6.2.1) d6.2.2.2.2.2.1 ++ d6.1 :: ([] : List Int))).2.1 else (↑(Int.toNat d6.2.1 + (1 : Nat)) : Int))) : Int), bif !badK d6.2.2.2.2.1 (List.take (Int.toNat d6.2.1 + (1 : Nat)) (List.drop (0 : Nat) (List.take (Int.toNat d6.2.1) d6.2.2.2.2.2.1 ++ d6.1 :: ([] : List Int)))) then d6.2.2.1 else d6.2.2.1, bif !badK d6.2.2.2.2.1 (List.take (Int.toNat d6.2.1 + (1 : Nat)) (List.drop (0 : Nat) (List.take (Int.toNat d6.2.1) d6.2.2.2.2.2.1 ++ d6.1 :: ([] : List Int)))) then d6.2.2.2.1 else d6.2.2.2.1, bif !badK d6.2.2.2.2.1 (List.take (Int.toNat d6.2.1 + (1 : Nat)) (List.drop (0 : Nat) (List.take (Int.toNat d6.2.1) d6.2.2.2.2.2.1 ++ d6.1 :: ([] : List Int)))) then d6.2.2.2.2.1 else d6.2.2.2.2.1, bif !badK d6.2.2.2.2.1 (List.take (Int.toNat d6.2.1 + (1 : Nat)) (List.drop (0 : Nat) (List.take (Int.toNat d6.2.1) d6.2.2.2.2.2.1 ++ d6.1 :: ([] : List Int)))) then (growS d6.2.2.2.2.1 d6.2.2.1 d6.2.2.2.1 k (↑(Int.toNat d6.2.1 + (1 : Nat)) : Int) (List.take (Int.toNat d6.2.1) d6.2.2.2.2.2.1 ++ d6.1 :: ([] : List Int))).2.2.1 else List.take (Int.toNat d6.2.1) d6.2.2.2.2.2.1 ++ d6.1 :: ([] : List Int), ()) : Bool × Int × Int × Int × Int × List Int × Unit)) else gd ((0 : Int) ≤ wr IntKind.i64 ((↑(Int.toNat (bif !badK d6.2.2.2.2.1 (List.take (Int.toNat d6.2.1 + (1 : Nat)) (List.drop (0 : Nat) (List.take (Int.toNat d6.2.1) d6.2.2.2.2.2.1 ++ d6.1 :: ([] : List Int)))) then (growS d6.2.2.2.2.1 d6.2.2.1 d6.2.2.2.1 k (↑(Int.toNat d6.2.1 + (1 : Nat)) : Int) (List.take (Int.toNat d6.2.1) d6.2.2.2.2.2.1 ++ d6.1 :: ([] : List Int))).2.1 else (↑(Int.toNat d6.2.1 + (1 : Nat)) : Int))) : Int) - (1 : Int)) ∧ wr IntKind.i64 ((↑(Int.toNat (bif !badK d6.2.2.2.2.1 (List.take (Int.toNat d6.2.1 + (1 : Nat)) (List.drop (0 : Nat) (List.take (Int.toNat d6.2.1) d6.2.2.2.2.2.1 ++ d6.1 :: ([] : List Int)))) then (growS d6.2.2.2.2.1 d6.2.2.1 d6.2.2.2.1 k (↑(Int.toNat d6.2.1 + (1 : Nat)) : Int) (List.take (Int.toNat d6.2.1) d6.2.2.2.2.2.1 ++ d6.1 :: ([] : List Int))).2.1 else (↑(Int.toNat d6.2.1 + (1 : Nat)) : Int))) : Int) - (1 : Int)) ≤ (↑(Int.toNat (bif !badK d6.2.2.2.2.1 (List.take (Int.toNat d6.2.1 + (1 : Nat)) (List.drop (0 : Nat) (List.take (Int.toNat d6.2.1) d6.2.2.2.2.2.1 ++ d6.1 :: ([] : List Int)))) then (growS d6.2.2.2.2.1 d6.2.2.1 d6.2.2.2.1 k (↑(Int.toNat d6.2.1 + (1 : Nat)) : Int) (List.take (Int.toNat d6.2.1) d6.2.2.2.2.2.1 ++ d6.1 :: ([] : List Int))).2.1 else (↑(Int.toNat d6.2.1 + (1 : Nat)) : Int))) : Int)) (some (Lp.go ((wr IntKind.i64 (d6.1 + (1 : Int)), (↑(Int.toNat (wr IntKind.i64 ((↑(Int.toNat (bif !badK d6.2.2.2.2.1 (List.take (Int.toNat d6.2.1 + (1 : Nat)) (List.drop (0 : Nat) (List.take (Int.toNat d6.2.1) d6.2.2.2.2.2.1 ++ d6.1 :: ([] : List Int)))) then (growS d6.2.2.2.2.1 d6.2.2.1 d6.2.2.2.1 k (↑(Int.toNat d6.2.1 + (1 : Nat)) : Int) (List.take (Int.toNat d6.2.1) d6.2.2.2.2.2.1 ++ d6.1 :: ([] : List Int))).2.1 else (↑(Int.toNat d6.2.1 + (1 : Nat)) : Int))) : Int) - (1 : Int)))) : Int), bif !badK d6.2.2.2.2.1 (List.take (Int.toNat d6.2.1 + (1 : Nat)) (List.drop (0 : Nat) (List.take (Int.toNat d6.2.1) d6.2.2.2.2.2.1 ++ d6.1 :: ([] : List Int)))) then d6.2.2.1 else d6.2.2.1, bif !badK d6.2.2.2.2.1 (List.take (Int.toNat d6.2.1 + (1 : Nat)) (List.drop (0 : Nat) (List.take (Int.toNat d6.2.1) d6.2.2.2.2.2.1 ++ d6.1 :: ([] : List Int)))) then d6.2.2.2.1 else d6.2.2.2.1, bif !badK d6.2.2.2.2.1 (List.take (Int.toNat d6.2.1 + (1 : Nat)) (List.drop (0 : Nat) (List.take (Int.toNat d6.2.1) d6.2.2.2.2.2.1 ++ d6.1 :: ([] : List Int)))) then d6.2.2.2.2.1 else d6.2.2.2.2.1, bif !badK d6.2.2.2.2.1 (List.take (Int.toNat d6.2.1 + (1 : Nat)) (List.drop (0 : Nat) (List.take (Int.toNat d6.2.1) d6.2.2.2.2.2.1 ++ d6.1 :: ([] : List Int)))) then (growS d6.2.2.2.2.1 d6.2.2.1 d6.2.2.2.1 k (↑(Int.toNat d6.2.1 + (1 : Nat)) : Int) (List.take (Int.toNat d6.2.1) d6.2.2.2.2.2.1 ++ d6.1 :: ([] : List Int))).2.2.1 else List.take (Int.toNat d6.2.1) d6.2.2.2.2.2.1 ++ d6.1 :: ([] : List Int), ()) : Int × Int × Int × Int × Int × List Int × Unit)))))))))) else some (Lp.out ((false, (↑(Int.toNat d6.2.1) : Int), d6.2.2.1, d6.2.2.2.1, d6.2.2.2.2.1, d6.2.2.2.2.2.1, ()) : Bool × Int × Int × Int × Int × List Int × Unit))) (((0 : Int), (↑(Int.toNat x0) : Int), x1, x2, x3, x4, ()) : Int × Int × Int × Int × Int × List Int × Unit)
noncomputable def g94b_sh : List LSh := LSh.mk3 (((0, TV.ref (0) (1 : Nat) (0 : Nat) (0 : Nat)) : Nat × TV) :: ((3, TV.ref (3) (1 : Nat) (0 : Nat) (0 : Nat)) : Nat × TV) :: ((4, TV.ref (4) (1 : Nat) (0 : Nat) (0 : Nat)) : Nat × TV) :: ((12, TV.v (Ty.int IntKind.i64)) : Nat × TV) :: ([] : List (Nat × TV))) (TB.cells (TV.sl (7) (1) (0) :: ([] : List TV)) :: TB.cells (TV.v (Ty.int IntKind.i64) :: ([] : List TV)) :: TB.cells (TV.v (Ty.int IntKind.i64) :: ([] : List TV)) :: TB.cells (TV.fn (65) (TV.cons (TV.ref (5) (1 : Nat) (0 : Nat) (0 : Nat)) TV.nil) :: ([] : List TV)) :: TB.cells (TV.fn (94) (TV.cons (TV.ref (0) (1 : Nat) (0 : Nat) (0 : Nat)) (TV.cons (TV.ref (1) (1 : Nat) (0 : Nat) (0 : Nat)) (TV.cons (TV.ref (2) (1 : Nat) (0 : Nat) (0 : Nat)) (TV.cons (TV.ref (3) (1 : Nat) (0 : Nat) (0 : Nat)) (TV.cons (TV.ref (4) (1 : Nat) (0 : Nat) (0 : Nat)) TV.nil))))) :: ([] : List TV)) :: TB.cells (TV.v (Ty.int IntKind.i64) :: ([] : List TV)) :: TB.dead :: TB.arr (Ty.int IntKind.i64) true :: ([] : List TB)) (7) :: ([] : List LSh)
noncomputable def con62b : SCon := mkS 62 [.v I64, .v I64, .fn 65 (.cons (.ref 0 1 0 0) .nil)] [.cells [.v I64]] [.opt (.v LI)] [.cells [.v I64]] (fun (n col kk : Int) => [pre94 42 0 n col [], 1 ≤ n, kk = 3 ∨ kk = 4]) (fun (n col kk : Int) => (!(growS kk n col 42 0 []).1, bif (growS kk n col 42 0 []).1 then colL kk n col else [], kk, ()))
noncomputable def g62b (x0 x1 x2 : Int) : Option (Bool × List Int × Int × Unit) := gd (pre94 (42 : Nat) (0 : Int) x0 x1 ([] : List Int)) (gd (x2 = (3 : Int) ∨ x2 = (4 : Int)) (bif !(growS x2 x0 x1 (42 : Nat) (0 : Int) ([] : List Int)).1 then gd (true = true) (some ((true, ([] : List Int), x2, ()) : Bool × List Int × Int × Unit)) else gd ((0 : Nat) + Int.toNat (growS x2 x0 x1 (42 : Nat) (0 : Int) ([] : List Int)).2.1 ≤ List.length (growS x2 x0 x1 (42 : Nat) (0 : Int) ([] : List Int)).2.2.1) (gd (List.length (List.take (Int.toNat (growS x2 x0 x1 (42 : Nat) (0 : Int) ([] : List Int)).2.1) (List.drop (0 : Nat) (growS x2 x0 x1 (42 : Nat) (0 : Int) ([] : List Int)).2.2.1)) ≠ (0 : Nat)) (some ((false, List.take (Int.toNat (growS x2 x0 x1 (42 : Nat) (0 : Int) ([] : List Int)).2.1) (List.drop (0 : Nat) (growS x2 x0 x1 (42 : Nat) (0 : Int) ([] : List Int)).2.2.1), x2, ()) : Bool × List Int × Int × Unit)))))
noncomputable def g62b_sh : List LSh := ([] : List LSh)
/-- The first colour from x on with which the search goes on. -/
def tryC (g : List Int → Option (List Int)) (bad : List Int → Bool) (l : List Int) : Nat → Int → Option (List Int)
  | 0, _ => none
  | c + 1, x => match bif bad (l ++ [x]) then none else g (l ++ [x]) with
    | some r => some r
    | none => tryC g bad l c (x + 1)
def colS (kk n col : Int) : Nat → List Int → Option (List Int)
  | 0, _ => none
  | k + 1, l => if (l.length : Int) = n then some l else tryC (colS kk n col k) (badK kk) l col.toNat 0
def argsOk (n col : Int) : Bool := decide (1 ≤ n) && decide (n ≤ 40) && decide (1 ≤ col) && decide (col ≤ 3)
def colX (kk n col : Int) : List Int × Int × Unit := match colS kk n col 42 [] with | some l => (l, 0, ()) | none => ([], 4, ())
def schurX (n col : Int) : List Int × Int × Unit := if argsOk n col = true then colX 0 n col else ([], 2, ())
noncomputable def con25 : Con := mkC 25 [.d I64, .d I64] [LI, I64] (fun (n col : Int) => []) (fun (n col : Int) => schurX n col)
noncomputable def g25 (x0 x1 : Int) : Option (List Int × Int × Unit) := gd ((!ilt x0 (1 : Int)) = true → (!ilt x0 (1 : Int)) = true) (gd (ilt x0 (1 : Int) = false → (!ilt x0 (1 : Int)) = true) (gd ((!bif ilt x0 (1 : Int) then true else ilt (40 : Int) x0) = true → (!bif ilt x0 (1 : Int) then true else ilt (40 : Int) x0) = true) (gd ((bif ilt x0 (1 : Int) then true else ilt (40 : Int) x0) = false → (!bif ilt x0 (1 : Int) then true else ilt (40 : Int) x0) = true) (gd ((!bif bif ilt x0 (1 : Int) then true else ilt (40 : Int) x0 then true else ilt x1 (1 : Int)) = true → (!bif bif ilt x0 (1 : Int) then true else ilt (40 : Int) x0 then true else ilt x1 (1 : Int)) = true) (gd ((bif bif ilt x0 (1 : Int) then true else ilt (40 : Int) x0 then true else ilt x1 (1 : Int)) = false → (!bif bif ilt x0 (1 : Int) then true else ilt (40 : Int) x0 then true else ilt x1 (1 : Int)) = true) (bif bif bif bif ilt x0 (1 : Int) then true else ilt (40 : Int) x0 then true else ilt x1 (1 : Int) then true else ilt (3 : Int) x1 then some ((([] : List Int), (2 : Int), ()) : List Int × Int × Unit) else gd (pre94 (42 : Nat) (0 : Int) x0 x1 ([] : List Int)) (gd ((1 : Int) ≤ x0) (gd ((!(growS (0 : Int) x0 x1 (42 : Nat) (0 : Int) ([] : List Int)).1) = false → ∀ (x2 : Prop), List.Mem x2 ([] : List Prop) → x2) (some (((foundX (!(growS (0 : Int) x0 x1 (42 : Nat) (0 : Int) ([] : List Int)).1) (bif (growS (0 : Int) x0 x1 (42 : Nat) (0 : Int) ([] : List Int)).1 then colL (0 : Int) x0 x1 else ([] : List Int))).1, (foundX (!(growS (0 : Int) x0 x1 (42 : Nat) (0 : Int) ([] : List Int)).1) (bif (growS (0 : Int) x0 x1 (42 : Nat) (0 : Int) ([] : List Int)).1 then colL (0 : Int) x0 x1 else ([] : List Int))).2.1, ()) : List Int × Int × Unit))))))))))
noncomputable def g25_sh : List LSh := ([] : List LSh)
def knownF (col k : Int) : Int := if k = 3 then (if col = 1 then 2 else if col = 2 then 8 else 26) else (if col = 1 then 3 else if col = 2 then 34 else 40)
def argsW (n col k : Int) : Bool := argsOk n col && !(decide (col = 3) && decide (27 < n)) && (decide (k = 3) || decide (k = 4))
def waerX (n col k : Int) : List Int × Int × Unit := if argsW n col k = true then (if knownF col k < n then ([], 4, ()) else colX k n col) else ([], 2, ())
noncomputable def con28 : Con := mkC 28 [.d I64, .d I64, .d I64] [LI, I64] (fun (n col k : Int) => []) (fun (n col k : Int) => waerX n col k)

/-! the reference -/
def tryP (g : Int → List Int → Srch) (bad : List Int → Bool) (len : Int) : Nat → Int → List Int → Srch
  | 0, _, a => (true, 0, a, ())
  | c + 1, x, a => if bad ((a.set len.toNat x).take (len.toNat + 1)) = true then tryP g bad len c (x + 1) (a.set len.toNat x)
    else if (g (len + 1) (a.set len.toNat x)).1 = true then tryP g bad len c (x + 1) (g (len + 1) (a.set len.toNat x)).2.2.1
    else g (len + 1) (a.set len.toNat x)
def paintS (kk n col : Int) : Nat → Int → List Int → Srch
  | 0, _, a => (true, 0, a, ())
  | f + 1, len, a => if len = n then (false, len, a, ()) else tryP (paintS kk n col f) (badK kk) len col.toNat 0 a
def paintX (kk n col : Int) : List Int × Int × Unit := if (paintS kk n col 42 0 (List.replicate 40 0)).1 = true then ([], 4, ()) else ((paintS kk n col 42 0 (List.replicate 40 0)).2.2.1.take (paintS kk n col 42 0 (List.replicate 40 0)).2.1.toNat, 0, ())
noncomputable def g4 (x0 x1 : Int) : Option (Bool × Unit) := gd ((!ilt x0 (1 : Int)) = true → (!ilt x0 (1 : Int)) = true) (gd (ilt x0 (1 : Int) = false → (!ilt x0 (1 : Int)) = true) (gd ((!bif ilt x0 (1 : Int) then true else ilt (40 : Int) x0) = true → (!bif ilt x0 (1 : Int) then true else ilt (40 : Int) x0) = true) (gd ((bif ilt x0 (1 : Int) then true else ilt (40 : Int) x0) = false → (!bif ilt x0 (1 : Int) then true else ilt (40 : Int) x0) = true) (gd ((!bif bif ilt x0 (1 : Int) then true else ilt (40 : Int) x0 then true else ilt x1 (1 : Int)) = true → (!bif bif ilt x0 (1 : Int) then true else ilt (40 : Int) x0 then true else ilt x1 (1 : Int)) = true) (gd ((bif bif ilt x0 (1 : Int) then true else ilt (40 : Int) x0 then true else ilt x1 (1 : Int)) = false → (!bif bif ilt x0 (1 : Int) then true else ilt (40 : Int) x0 then true else ilt x1 (1 : Int)) = true) (bif bif bif bif ilt x0 (1 : Int) then true else ilt (40 : Int) x0 then true else ilt x1 (1 : Int) then true else ilt (3 : Int) x1 then gd (ieq (↑(List.length (schurX x0 x1).1) : Int) (0 : Int) = true → ieq (↑(List.length (schurX x0 x1).1) : Int) (0 : Int) = true) (gd (ieq (↑(List.length (schurX x0 x1).1) : Int) (0 : Int) = true → ieq (↑(List.length (schurX x0 x1).1) : Int) (0 : Int) = true) (gd ((bif ieq (↑(List.length (schurX x0 x1).1) : Int) (0 : Int) then ieq (schurX x0 x1).2.1 (2 : Int) else false) = true → (bif ieq (↑(List.length (schurX x0 x1).1) : Int) (0 : Int) then ieq (schurX x0 x1).2.1 (2 : Int) else false) = true) (some ((bif bif ieq (↑(List.length (schurX x0 x1).1) : Int) (0 : Int) then ieq (schurX x0 x1).2.1 (2 : Int) else false then true else false, ()) : Bool × Unit)))) else gd ((1 : Int) ≤ x0 ∧ x0 ≤ (40 : Int) ∧ (1 : Int) ≤ x1 ∧ x1 ≤ (3 : Int) ∧ ((0 : Int) = (0 : Int) ∨ (0 : Int) = (3 : Int) ∨ (0 : Int) = (4 : Int))) (gd (small (schurX x0 x1).1) (gd (small (paintX (0 : Int) x0 x1).1) (gd (eqLf ieq (schurX x0 x1).1 (paintX (0 : Int) x0 x1).1 = true → eqLf ieq (schurX x0 x1).1 (paintX (0 : Int) x0 x1).1 = true ∧ eqLf ieq (schurX x0 x1).1 (paintX (0 : Int) x0 x1).1 = true) (gd (eqLf ieq (schurX x0 x1).1 (paintX (0 : Int) x0 x1).1 = true → eqLf ieq (schurX x0 x1).1 (paintX (0 : Int) x0 x1).1 = true) (gd ((bif eqLf ieq (schurX x0 x1).1 (paintX (0 : Int) x0 x1).1 then ieq (schurX x0 x1).2.1 (paintX (0 : Int) x0 x1).2.1 else false) = true → (bif eqLf ieq (schurX x0 x1).1 (paintX (0 : Int) x0 x1).1 then ieq (schurX x0 x1).2.1 (paintX (0 : Int) x0 x1).2.1 else false) = true) (some ((bif bif eqLf ieq (schurX x0 x1).1 (paintX (0 : Int) x0 x1).1 then ieq (schurX x0 x1).2.1 (paintX (0 : Int) x0 x1).2.1 else false then true else false, ()) : Bool × Unit)))))))))))))
end Go.Caps

set_option linter.unusedVariables false
set_option linter.unusedSimpArgs false
namespace Go.Caps
open Go Go.Ab Go.Proofs

theorem any_while {S X : Type} {step : S → Option (Lp S X)} (st : Nat → S) (p : Nat → Bool) (r1 r0 : X) : ∀ (n a : Nat), (∀ x, a ≤ x → x < a + n → step (st x) = if p x = true then some (.out r1) else some (.go (st (x + 1)))) → step (st (a + n)) = some (.out r0) →
    whileO step (st a) = some (if (List.range' a n).any p = true then r1 else r0)
  | 0, a, _, h0 => by simpa using whileO_out h0
  | n + 1, a, h, h0 => by
    have ha := h a (Nat.le_refl _) (by omega)
    rw [List.range'_succ, List.any_cons]
    cases hp : p a with
    | true =>
      rw [hp, if_pos rfl] at ha
      rw [whileO_out ha]; simp
    | false =>
      rw [hp, if_neg (by simp)] at ha
      rw [whileO_go ha, any_while st p r1 r0 n (a + 1) (fun x h1 h2 => h x (by omega) (by omega)) (by rw [← h0]; congr 2; omega)]
      rfl

/-- A loop that keeps whether all were right. -/
theorem all_while {S X : Type} {step : S → Option (Lp S X)} (st : Bool → Nat → S) (p : Nat → Bool) (f : Bool → X) : ∀ (n a : Nat) (b : Bool), (∀ b x, a ≤ x → x < a + n → step (st b x) = some (.go (st (b && p x) (x + 1)))) → (∀ b, step (st b (a + n)) = some (.out (f b))) →
    whileO step (st b a) = some (f (b && (List.range' a n).all p))
  | 0, a, b, _, h0 => by simpa using whileO_out (h0 b)
  | n + 1, a, b, h, h0 => by
    rw [whileO_go (h b a (Nat.le_refl _) (by omega)), all_while st p f n (a + 1) (b && p a) (fun b x h1 h2 => h b x (by omega) (by omega)) (fun b => by rw [← h0 b]; congr 2; omega)]
    rw [List.range'_succ, List.all_cons, Bool.and_assoc]

def sumU (l : List Int) (x : Nat) : Bool := ieq (l.getD (x - 1) 0) (l.getD (l.length - 1) 0) && ieq (l.getD (l.length - x - 1) 0) (l.getD (l.length - 1) 0)

theorem sum_wr {N x : Nat} (hN : N ≤ 100) (h1 : 1 ≤ x) (h2 : 2 * x ≤ N) : wr .i64 (2 * (x : Int)) = ((2 * x : Nat) : Int) ∧ wr .i64 ((x : Int) - 1) = ((x - 1 : Nat) : Int) ∧ wr .i64 ((N : Int) - 1) = ((N - 1 : Nat) : Int) ∧ wr .i64 ((N : Int) - x) = ((N - x : Nat) : Int) ∧ wr .i64 (((N - x : Nat) : Int) - 1) = ((N - x - 1 : Nat) : Int) ∧ wr .i64 ((x : Int) + 1) = ((x + 1 : Nat) : Int) := by
  refine ⟨?_, ?_, ?_, ?_, ?_, ?_⟩ <;> (rw [wr_id (by omega)]; omega)

theorem goal63 : con63.goal Try.prog (spOf []) g63_sh [] lm30 := by
  have e : (∀ (l : List Int), l.length ≤ 100 → g63 l = some (badK 0 l, ())) = con63.goal Try.prog (spOf []) g63_sh [] lm30 := by kernel_rfl
  rw [← e]
  intro l hl
  unfold g63
  refine (any_while (fun x : Nat => (((x : Int), ()) : Int × Unit)) (sumU l) (true, ()) (false, ()) (l.length / 2) 1 (fun x h1 h2 => ?_) ?_).trans ?_
  · obtain ⟨w1, w2, w3, w4, w5, w6⟩ := sum_wr hl h1 (show 2 * x ≤ l.length by omega)
    have c1 : ile (((2 * x : Nat) : Int)) (l.length : Int) = true := by rw [ile_d]; simp; omega
    have c2 : ile 1 (((l.length - x : Nat) : Int)) = true := by rw [ile_d]; simp; omega
    have c3 : ilt (((l.length - x : Nat) : Int)) (l.length : Int) = true := by rw [ilt_d]; simp; omega
    have c4 : ((0 : Int) ≤ ((x - 1 : Nat) : Int) ∧ ((x - 1 : Nat) : Int) < (l.length : Int)) = True := by simp; omega
    have c5 : ((0 : Int) ≤ ((l.length - 1 : Nat) : Int) ∧ ((l.length - 1 : Nat) : Int) < (l.length : Int)) = True := by simp; omega
    have c6 : ((0 : Int) ≤ ((l.length - x - 1 : Nat) : Int) ∧ ((l.length - x - 1 : Nat) : Int) < (l.length : Int)) = True := by simp; omega
    simp only [w1, w2, w3, w4, w5, w6, c1, c2, c3, cond_true, c4, c5, c6, Int.toNat_natCast, and_self, and_true, true_and, imp_self, implies_true, gd_true, sumU]
    by_cases hA : ieq (l.getD (x - 1) 0) (l.getD (l.length - 1) 0) = true <;> by_cases hB : ieq (l.getD (l.length - x - 1) 0) (l.getD (l.length - 1) 0) = true <;> simp [gd_true, hA, hB]
  · have w1 : wr .i64 (2 * ((1 + l.length / 2 : Nat) : Int)) = ((2 * (1 + l.length / 2) : Nat) : Int) := by rw [wr_id (by omega)]; omega
    have c1 : ile (((2 * (1 + l.length / 2) : Nat) : Int)) (l.length : Int) = false := by rw [ile_d]; simp; omega
    simp only [w1, c1, cond_false]
  · have : badK 0 l = (List.range' 1 (l.length / 2)).any (sumU l) := rfl
    rw [this]
    cases (List.range' 1 (l.length / 2)).any (sumU l) <;> rfl
set_option maxRecDepth 100000 in
theorem ok63 : con63.Ok Try.prog := Con.of_goal mixed okN con63 goal63

def stepP (k : Nat) (l : List Int) (b : Nat) : Bool := (List.range k).all fun i => ieq (l.getD (l.length - 1 - i * b) 0) (l.getD (l.length - 1) 0)
theorem range_0 (n : Nat) : List.range' 0 n = List.range n := (List.range_eq_range' ..).symm

theorem step_bd {k b i N : Nat} (hb : b ≤ (N - 1) / (k - 1)) (hi : i < k) (hk : 2 ≤ k) : i * b ≤ N - 1 := by
  have h1 : b * (k - 1) ≤ N - 1 := (Nat.le_div_iff_mul_le (by omega)).1 hb
  have h2 : i * b ≤ (k - 1) * b := Nat.mul_le_mul_right _ (by omega)
  rw [Nat.mul_comm (k - 1)] at h2
  omega

theorem in66 {l : List Int} {k : Nat} (hk : k = 3 ∨ k = 4) (h1 : 1 ≤ l.length) (h2 : l.length ≤ 100) {b : Nat} (hb1 : 1 ≤ b) (hb : b ≤ (l.length - 1) / (k - 1)) :
    whileO (g66_l0 l (k : Int) ((b : Int), ())) ((true, (0 : Int), ()) : Bool × Int × Unit) = some (if stepP k l b = true then .out (true, ()) else .go (((b + 1 : Nat) : Int), ())) := by
  refine (all_while (fun (q : Bool) (i : Nat) => ((q, (i : Int), ()) : Bool × Int × Unit)) (fun i => ieq (l.getD (l.length - 1 - i * b) 0) (l.getD (l.length - 1) 0)) (fun q => if q = true then Lp.out ((true, ()) : Bool × Unit) else Lp.go ((((b + 1 : Nat) : Int), ()) : Int × Unit)) k 0 true (fun q i hi0 hi => ?_) (fun q => ?_)).trans ?_
  · have hm := step_bd hb (show i < k by omega) (by omega)
    have w1 : wr .i64 ((l.length : Int) - 1) = ((l.length - 1 : Nat) : Int) := by rw [wr_id (by omega)]; omega
    have w2 : wr .i64 ((i : Int) * (b : Int)) = ((i * b : Nat) : Int) := by rw [← Int.natCast_mul, wr_id (by omega)]
    have w3 : wr .i64 (((l.length - 1 : Nat) : Int) - ((i * b : Nat) : Int)) = ((l.length - 1 - i * b : Nat) : Int) := by rw [wr_id (by omega)]; omega
    have w4 : wr .i64 ((i : Int) + 1) = ((i + 1 : Nat) : Int) := cast1 (by omega)
    have c1 : ilt (i : Int) (k : Int) = true := by rw [ilt_d]; simp; omega
    have c5 : ((0 : Int) ≤ ((l.length - 1 : Nat) : Int) ∧ ((l.length - 1 : Nat) : Int) < (l.length : Int)) = True := by simp; omega
    have c6 : ((0 : Int) ≤ ((l.length - 1 - i * b : Nat) : Int) ∧ ((l.length - 1 - i * b : Nat) : Int) < (l.length : Int)) = True := by simp; omega
    unfold g66_l0
    simp only [w1, w2, w3, w4, c1, cond_true, c5, c6, Int.toNat_natCast, and_self, and_true, imp_self, gd_true]
    cases q <;> rfl
  · have c1 : ilt ((0 + k : Nat) : Int) (k : Int) = false := by rw [ilt_d]; simp
    have w4 : wr .i64 ((b : Int) + 1) = ((b + 1 : Nat) : Int) := cast1 (by
      have : (l.length - 1) / (k - 1) ≤ l.length - 1 := Nat.div_le_self _ _
      omega)
    unfold g66_l0
    simp only [c1, cond_false, w4]
    cases q <;> rfl
  · rw [range_0]; rfl

theorem goal66 : con66.goal Try.prog (spOf []) g66_sh [] lm30 := by
  have e : (∀ (l : List Int) (k : Int), kOk k l → g66 l k = some (badK k l, ())) = con66.goal Try.prog (spOf []) g66_sh [] lm30 := by kernel_rfl
  rw [← e]
  rintro l k ⟨hk, h1, h2⟩
  obtain ⟨K, hK, rfl⟩ : ∃ K : Nat, (K = 3 ∨ K = 4) ∧ k = K := by rcases hk with rfl | rfl; exact ⟨3, .inl rfl, rfl⟩; exact ⟨4, .inr rfl, rfl⟩
  have w1 : wr .i64 ((l.length : Int) - 1) = ((l.length - 1 : Nat) : Int) := by rw [wr_id (by omega)]; omega
  have wk : wr .i64 ((K : Int) - 1) = ((K - 1 : Nat) : Int) := by rw [wr_id (by omega)]; omega
  have hdl : (l.length - 1) / (K - 1) ≤ l.length - 1 := Nat.div_le_self _ _
  have wx : ∀ x : Nat, x ≤ 100 → wr .i64 ((x : Int) * ((K - 1 : Nat) : Int)) = ((x * (K - 1) : Nat) : Int) := fun x hx => by
    rw [← Int.natCast_mul, wr_id]
    have : x * (K - 1) ≤ 100 * 3 := Nat.mul_le_mul hx (by omega)
    omega
  unfold g66
  refine (any_while (fun x : Nat => (((x : Int), ()) : Int × Unit)) (stepP K l) (true, ()) (false, ()) ((l.length - 1) / (K - 1)) 1 (fun x hx1 hx2 => ?_) ?_).trans ?_
  · have hb : x ≤ (l.length - 1) / (K - 1) := by omega
    have hm : x * (K - 1) ≤ l.length - 1 := (Nat.le_div_iff_mul_le (by omega)).1 hb
    have c1 : ile ((x * (K - 1) : Nat) : Int) ((l.length - 1 : Nat) : Int) = true := by rw [ile_d]; simp only [decide_eq_true_eq]; omega
    simp only [wk, w1, wx x (by omega), c1, cond_true]
    rw [in66 hK h1 h2 hx1 hb]
    split <;> rfl
  · have hm : ¬ ((1 + (l.length - 1) / (K - 1)) * (K - 1) ≤ l.length - 1) := fun h => by
      have := (Nat.le_div_iff_mul_le (by omega)).2 h
      omega
    have c1 : ile (((1 + (l.length - 1) / (K - 1)) * (K - 1) : Nat) : Int) ((l.length - 1 : Nat) : Int) = false := by rw [ile_d]; simp only [decide_eq_false_iff_not]; omega
    simp only [wk, w1, wx (1 + (l.length - 1) / (K - 1)) (by omega), c1, cond_false]
  · have : badK (K : Int) l = (List.range' 1 ((l.length - 1) / (K - 1))).any (stepP K l) := by rcases hK with rfl | rfl <;> rfl
    rw [this]
    cases (List.range' 1 ((l.length - 1) / (K - 1))).any (stepP K l) <;> rfl
set_option maxRecDepth 100000 in
theorem ok66 : con66.Ok Try.prog := Con.of_goal mixed okN con66 goal66

theorem goal65 : con65.goal Try.prog (spOf [con66]) g65_sh [] lm30 := by
  have e : (∀ (l : List Int) (k : Int), kOk k l → g65 l k = some (badK k l, ())) = con65.goal Try.prog (spOf [con66]) g65_sh [] lm30 := by kernel_rfl
  rw [← e]
  intro l k h
  unfold g65
  rw [gd_pos h]
set_option maxRecDepth 100000 in
theorem ok65 : con65.Ok Try.prog := Con.of_goal mixed (okC ok66 okN) con65 goal65

end Go.Caps

set_option linter.unusedVariables false
set_option linter.unusedSimpArgs false
namespace Go.Caps
open Go Go.Ab Go.Proofs

theorem scon_false {P : Program} (c : SCon) (hcall : callable P c.f = true) (h : allD (c.ins.flatMap TV.ts ++ tsB c.ibl) fun env => ∀ p, c.pre env = some p → ¬ allP p) : c.Ok P :=
  ⟨hcall, fun Γ w env p r vs em henv hpre hF hp hargs => absurd hp (allD_elim (K := fun env => ∀ p, c.pre env = some p → ¬ allP p) h henv p hpre)⟩

/-- What a search that grows a slice returns. -/
def SOk (s : Srch) (r : Option (List Int)) (l : List Int) : Prop := s.1 = r.isSome ∧ s.2.1 = ((r.getD l).length : Int) ∧ s.2.2.1.take (r.getD l).length = r.getD l

theorem SOk.le {s : Srch} {r : Option (List Int)} {l : List Int} (h : SOk s r l) : (r.getD l).length ≤ s.2.2.1.length := by
  have := congrArg List.length h.2.2
  rw [List.length_take] at this
  omega

theorem tryG_ok {g : Int → List Int → Srch} {G : List Int → Option (List Int)} {bad : List Int → Bool} {len : Int} (h0 : 0 ≤ len) (hg : ∀ a, len.toNat + 1 ≤ a.length → SOk (g (len + 1) a) (G (a.take (len.toNat + 1))) (a.take (len.toNat + 1))) :
    ∀ (c : Nat) (x : Int) (a : List Int), len.toNat ≤ a.length → SOk (tryG g bad len c x a) (tryC G bad (a.take len.toNat) c x) (a.take len.toNat)
  | 0, x, a, ha => by
    simp only [tryG, tryC, SOk, Option.isSome_none, Option.getD_none, List.length_take, Nat.min_eq_left ha, and_true, true_and]
    omega
  | c + 1, x, a, ha => by
    have hl : (a.take len.toNat).length = len.toNat := by rw [List.length_take]; omega
    have h1 : (a.take len.toNat ++ [x]).take len.toNat = a.take len.toNat := by rw [List.take_append_of_le_length (by omega), List.take_take, Nat.min_self]
    have h2 : (a.take len.toNat ++ [x]).length = len.toNat + 1 := by simp [hl]
    have h3 : (a.take len.toNat ++ [x]).take (len.toNat + 1) = a.take len.toNat ++ [x] := List.take_of_length_le (by omega)
    simp only [tryG, tryC]
    cases hb : bad (a.take len.toNat ++ [x]) with
    | true =>
      have := tryG_ok (bad := bad) h0 hg c (x + 1) (a.take len.toNat ++ [x]) (by omega)
      rw [h1] at this
      simpa using this
    | false =>
      have hs := hg (a.take len.toNat ++ [x]) (by omega)
      rw [h3] at hs
      simp only [Bool.false_eq_true, if_false, cond_false]
      cases hr : G (a.take len.toNat ++ [x]) with
      | some r =>
        rw [hr] at hs
        have e1 : (g (len + 1) (a.take len.toNat ++ [x])).1 = true := hs.1
        rw [if_pos e1]
        exact hs
      | none =>
        rw [hr] at hs
        have e1 : (g (len + 1) (a.take len.toNat ++ [x])).1 = false := hs.1
        have e3 := hs.2.2
        simp only [Option.getD_none, h2] at e3
        have hle := hs.le
        simp only [Option.getD_none, h2] at hle
        rw [if_neg (by rw [e1]; simp)]
        have := tryG_ok (bad := bad) h0 hg c (x + 1) (g (len + 1) (a.take len.toNat ++ [x])).2.2.1 (by omega)
        have e4 : (g (len + 1) (a.take len.toNat ++ [x])).2.2.1.take len.toNat = a.take len.toNat := by
          have := congrArg (List.take len.toNat) e3
          rw [List.take_take, h1, Nat.min_eq_left (by omega)] at this
          exact this
        rw [e4] at this
        exact this

theorem growS_ok {kk n col : Int} : ∀ (f : Nat) (len : Int) (a : List Int), 0 ≤ len → len.toNat ≤ a.length → SOk (growS kk n col f len a) (colS kk n col f (a.take len.toNat)) (a.take len.toNat)
  | 0, len, a, h0, ha => by
    simp only [growS, colS, SOk, Option.isSome_none, Option.getD_none, List.length_take, Nat.min_eq_left ha, and_true, true_and]
    omega
  | f + 1, len, a, h0, ha => by
    have hl : (a.take len.toNat).length = len.toNat := by rw [List.length_take]; omega
    simp only [growS, colS]
    by_cases hn : len = n
    · rw [if_pos hn, if_pos (by omega)]
      simp only [SOk, Option.isSome_some, Option.getD_some, hl, true_and]
      exact ⟨by omega, trivial⟩
    · rw [if_neg hn, if_neg (by omega)]
      refine tryG_ok h0 (fun b hb => ?_) _ _ _ ha
      have := growS_ok (kk := kk) (n := n) (col := col) f (len + 1) b (by omega) (by omega)
      rwa [show (len + 1).toNat = len.toNat + 1 by omega] at this

/-- The loop over the colours. -/
theorem tryG_loop {S X : Type} {step : S → Option (Lp S X)} (st : Nat → List Int → S) (out : Srch → X) {g : Int → List Int → Srch} {bad : List Int → Bool} {len : Int} {l : List Int} (C : Nat) (hl : l.length = len.toNat)
    (hbad : ∀ (x : Nat) (a : List Int), x < C → a.take len.toNat = l → bad (l ++ [(x : Int)]) = true → step (st x a) = some (.go (st (x + 1) (l ++ [(x : Int)]))))
    (hok : ∀ (x : Nat) (a : List Int), x < C → a.take len.toNat = l → bad (l ++ [(x : Int)]) = false → (g (len + 1) (l ++ [(x : Int)])).1 = true → step (st x a) = some (.out (out (g (len + 1) (l ++ [(x : Int)])))))
    (hno : ∀ (x : Nat) (a : List Int), x < C → a.take len.toNat = l → bad (l ++ [(x : Int)]) = false → (g (len + 1) (l ++ [(x : Int)])).1 = false → step (st x a) = some (.go (st (x + 1) (g (len + 1) (l ++ [(x : Int)])).2.2.1)))
    (hend : ∀ a, a.take len.toNat = l → step (st C a) = some (.out (out (false, len, a, ()))))
    (hg : ∀ (x : Nat), x < C → (g (len + 1) (l ++ [(x : Int)])).1 = false → (g (len + 1) (l ++ [(x : Int)])).2.2.1.take len.toNat = l) :
    ∀ (c x : Nat) (a : List Int), x + c = C → a.take len.toNat = l → whileO step (st x a) = some (out (tryG g bad len c (x : Int) a))
  | 0, x, a, hx, ha => by
    rw [Nat.add_zero] at hx
    subst hx
    exact whileO_out (hend a ha)
  | c + 1, x, a, hx, ha => by
    simp only [tryG, ha]
    have h1 : (l ++ [(x : Int)]).take len.toNat = l := by rw [List.take_append_of_le_length (by omega), List.take_of_length_le (by omega)]
    cases hb : bad (l ++ [(x : Int)]) with
    | true =>
      rw [whileO_go (hbad x a (by omega) ha hb), if_pos rfl]
      exact tryG_loop st out C hl hbad hok hno hend hg c (x + 1) _ (by omega) h1
    | false =>
      rw [if_neg (by simp)]
      cases hr : (g (len + 1) (l ++ [(x : Int)])).1 with
      | true => rw [if_pos rfl]; exact whileO_out (hok x a (by omega) ha hb hr)
      | false =>
        rw [if_neg (by simp), whileO_go (hno x a (by omega) ha hb hr)]
        exact tryG_loop st out C hl hbad hok hno hend hg c (x + 1) _ (by omega) (hg x (by omega) hr)

theorem ok94_0 : (con94 0).Ok Try.prog := scon_false _ (by kernel_rfl) (by
  have e : (∀ (len n col : Int) (a : List Int) (p : List Prop), some [pre94 0 len n col a] = some p → ¬ allP p) = (allD ((con94 0).ins.flatMap TV.ts ++ tsB (con94 0).ibl) fun env => ∀ p, (con94 0).pre env = some p → ¬ allP p) := by kernel_rfl
  rw [← e]
  intro len n col a p hp hq
  cases hp
  have := (Ab.allP_one.1 hq)
  unfold pre94 at this
  omega)

theorem goal94 (k : Nat) : (con94 (k + 1)).goal Try.prog (spS [con94 k] [con63]) g94_sh [] lm30 := by
  have e : (∀ (len n col : Int) (a : List Int), pre94 (k + 1) len n col a → g94 k len n col a = some ((growS 0 n col (k + 1) len a).1, (growS 0 n col (k + 1) len a).2.1, n, col, (growS 0 n col (k + 1) len a).2.2.1, ())) = (con94 (k + 1)).goal Try.prog (spS [con94 k] [con63]) g94_sh [] lm30 := by kernel_rfl
  rw [← e]
  rintro len n col a ⟨h0, hn, h40, hc1, hc3, hf, ha⟩
  have hlen : ((len.toNat : Nat) : Int) = len := by omega
  unfold g94
  rw [hlen]
  by_cases hk : len = n
  · rw [cond_t (by rw [ieq_d]; simpa using hk)]
    simp only [growS, if_pos hk]
  · rw [cond_f (by rw [ieq_d]; simpa using hk)]
    simp only [growS, if_neg hk]
    have hl : (a.take len.toNat).length = len.toNat := by rw [List.length_take]; omega
    have hX : ∀ x : Nat, (a.take len.toNat ++ [(x : Int)]).length = len.toNat + 1 := fun x => by simp only [List.length_append, hl, List.length_singleton]
    have hG := fun x : Nat => growS_ok (kk := 0) (n := n) (col := col) k (len + 1) (a.take len.toNat ++ [(x : Int)]) (by omega) (by rw [hX x]; omega)
    have ht : ∀ x : Nat, (a.take len.toNat ++ [(x : Int)]).take (len + 1).toNat = a.take len.toNat ++ [(x : Int)] := fun x => List.take_of_length_le (by rw [hX x]; omega)
    simp only [ht] at hG
    have hcol : ((col.toNat : Nat) : Int) = col := by omega
    have hp : ∀ x : Nat, pre94 k (len + 1) n col (a.take len.toNat ++ [(x : Int)]) := fun x => ⟨by omega, by omega, by omega, by omega, by omega, by omega, by rw [hX x]; omega⟩
    have hw1 : ((len.toNat + 1 : Nat) : Int) = len + 1 := by omega
    have hw2 : wr .i64 (len + 1 - 1) = len := by rw [wr_id (by omega)]; omega
    have c7 : ((0 : Int) ≤ len ∧ len ≤ len + 1) = True := by simp; omega
    have hY : ∀ x : Nat, List.take (len.toNat + 1) (a.take len.toNat ++ [(x : Int)]) = a.take len.toNat ++ [(x : Int)] := fun x => List.take_of_length_le (by rw [hX x]; omega)
    have c2 : (((len.toNat + 1) * 8 ≤ 1099511627776) = True) := by simp; omega
    refine tryG_loop (st := fun x a => (((x : Nat) : Int), len, n, col, a, ())) (out := fun s => (s.1, s.2.1, n, col, s.2.2.1, ())) col.toNat hl ?_ ?_ ?_ ?_ ?_ col.toNat 0 a (by omega) rfl
    · intro x b hx hb hbad
      have c1 : ilt (x : Int) col = true := by rw [ilt_d]; simp only [decide_eq_true_eq]; omega
      have cb : len.toNat ≤ b.length := by rw [← hl, ← hb, List.length_take]; omega
      have hw : wr .i64 ((x : Int) + 1) = ((x + 1 : Nat) : Int) := cast1 (by omega)
      simp only [c1, cond_true, gd_pos cb, c2, gd_true, hb, hX, Nat.zero_add, Nat.le_refl, List.drop_zero, hY, hbad, Bool.not_true, Bool.false_eq_true, false_imp_iff, cond_false, hw1, hw2, c7, hw]
      rw [gd_pos (show len.toNat + 1 ≤ 100 by omega)]
      rw [show (len + 1).toNat = len.toNat + 1 by omega, hw1, hw2, gd_pos (by omega), hlen]
    · intro x b hx hb hbad hr
      have c1 : ilt (x : Int) col = true := by rw [ilt_d]; simp only [decide_eq_true_eq]; omega
      have cb : len.toNat ≤ b.length := by rw [← hl, ← hb, List.length_take]; omega
      have hs := hG x
      have hpos : ((((growS 0 n col k (len + 1) (a.take len.toNat ++ [(x : Int)])).2.1).toNat : Nat) : Int) = (growS 0 n col k (len + 1) (a.take len.toNat ++ [(x : Int)])).2.1 := by rw [hs.2.1]; simp
      simp only [c1, cond_true, gd_pos cb, c2, gd_true, hb, hX, Nat.zero_add, Nat.le_refl, List.drop_zero, hY, hbad, Bool.not_false, imp_self, cond_true, hw1, gd_pos (show len.toNat + 1 ≤ 100 by omega), forall_const, gd_pos (hp x), hr, hpos]
    · intro x b hx hb hbad hr
      have c1 : ilt (x : Int) col = true := by rw [ilt_d]; simp only [decide_eq_true_eq]; omega
      have cb : len.toNat ≤ b.length := by rw [← hl, ← hb, List.length_take]; omega
      have hw : wr .i64 ((x : Int) + 1) = ((x + 1 : Nat) : Int) := cast1 (by omega)
      have hs := hG x
      have hn : colS 0 n col k (a.take len.toNat ++ [(x : Int)]) = none := by
        have := hs.1
        rw [hr] at this
        simpa using this.symm
      have h21 : (growS 0 n col k (len + 1) (a.take len.toNat ++ [(x : Int)])).2.1 = len + 1 := by
        have := hs.2.1
        rw [hn, Option.getD_none, hX] at this
        rw [this]; omega
      simp only [c1, cond_true, gd_pos cb, c2, gd_true, hb, hX, Nat.zero_add, Nat.le_refl, List.drop_zero, hY, hbad, Bool.not_false, imp_self, cond_true, hw1, gd_pos (show len.toNat + 1 ≤ 100 by omega), forall_const, gd_pos (hp x), hr, h21, cond_false, hw]
      rw [show (len + 1).toNat = len.toNat + 1 by omega, hw1, hw2, gd_pos (by omega), hlen]
    · intro b hb
      have c1 : ilt ((col.toNat : Nat) : Int) col = false := by rw [hcol, ilt_d]; simp
      simp only [c1, cond_false, hlen]
    · intro x hx hr
      have hs := hG x
      have hn : colS 0 n col k (a.take len.toNat ++ [(x : Int)]) = none := by
        have := hs.1
        rw [hr] at this
        simpa using this.symm
      have h3 := hs.2.2
      rw [hn, Option.getD_none, hX] at h3
      have := congrArg (List.take len.toNat) h3
      rw [List.take_take, Nat.min_eq_left (by omega), List.take_append_of_le_length (by omega), List.take_take, Nat.min_self] at this
      exact this
set_option maxRecDepth 100000 in
theorem ok94 : ∀ k, (con94 k).Ok Try.prog
  | 0 => ok94_0
  | k + 1 => SCon.of_goal mixed (okC ok63 okN) (okS (ok94 k) okS0) (con94 (k + 1)) (goal94 k)
end Go.Caps

set_option linter.unusedVariables false
set_option linter.unusedSimpArgs false
namespace Go.Caps
open Go Go.Ab Go.Proofs

theorem tryC_prop {G : List Int → Option (List Int)} {bad : List Int → Bool} {l : List Int} {Q : List Int → Prop} (h : ∀ l' r, G l' = some r → Q r) : ∀ (c : Nat) (x : Int) (r : List Int), tryC G bad l c x = some r → Q r
  | 0, x, r, hr => by simp [tryC] at hr
  | c + 1, x, r, hr => by
    simp only [tryC] at hr
    split at hr
    · rename_i q hq
      cases hr
      cases hb : bad (l ++ [x]) with
      | true => rw [hb] at hq; simp at hq
      | false => rw [hb] at hq; exact h _ _ hq
    · exact tryC_prop h c _ r hr
theorem colS_len {kk n col : Int} : ∀ (f : Nat) (l r : List Int), colS kk n col f l = some r → (r.length : Int) = n
  | 0, l, r, h => by simp [colS] at h
  | f + 1, l, r, h => by
    simp only [colS] at h
    split at h
    · rename_i hn; cases h; exact hn
    · exact tryC_prop (colS_len f) _ _ _ h

theorem grow0 {kk n col : Int} : SOk (growS kk n col 42 0 []) (colS kk n col 42 []) [] := by
  have := growS_ok (kk := kk) (n := n) (col := col) 42 0 [] (by omega) (by simp)
  simpa using this
theorem grow0_some {kk n col : Int} {r : List Int} (h : colS kk n col 42 [] = some r) : (growS kk n col 42 0 []).1 = true ∧ colL kk n col = r := by
  have := grow0 (kk := kk) (n := n) (col := col)
  rw [h] at this
  obtain ⟨h1, h2, h3⟩ := this
  refine ⟨h1, ?_⟩
  unfold colL
  rw [h2]
  simpa using h3
theorem grow0_none {kk n col : Int} (h : colS kk n col 42 [] = none) : (growS kk n col 42 0 []).1 = false := by
  have := (grow0 (kk := kk) (n := n) (col := col)).1
  rw [h] at this
  exact this

theorem goal62 : con62.goal Try.prog (spS [con94 42] [con63]) g62_sh [9] lm30 := by
  have e : (∀ (n col : Int), pre94 42 0 n col [] → 1 ≤ n → g62 n col = some (!(growS 0 n col 42 0 []).1, bif (growS 0 n col 42 0 []).1 then colL 0 n col else [], ())) = con62.goal Try.prog (spS [con94 42] [con63]) g62_sh [9] lm30 := by kernel_rfl
  rw [← e]
  intro n col hp hn
  unfold g62
  rw [gd_pos hp]
  cases hc : colS 0 n col 42 [] with
  | none => simp [grow0_none hc, gd_true]
  | some r =>
    obtain ⟨h1, h2⟩ := grow0_some hc
    have hlen := colS_len _ _ _ hc
    have hs := grow0 (kk := 0) (n := n) (col := col)
    have hle := hs.le
    rw [hc] at hs hle
    simp only [Option.getD_some] at hle
    have e1 : (growS 0 n col 42 0 []).2.1.toNat = r.length := by rw [hs.2.1]; simp
    simp only [h1, Bool.not_true, cond_false, cond_true, List.drop_zero, Nat.zero_add]
    rw [gd_pos (by omega), gd_pos (by rw [List.length_take]; omega)]
    rfl
set_option maxRecDepth 100000 in
theorem ok62 : con62.Ok Try.prog := SCon.of_goal mixed (okC ok63 okN) (okS (ok94 42) okS0) con62 goal62

theorem goal61 : con61.goal Try.prog (spS [] []) g61_sh [] lm30 := by
  have e : (∀ (b : Bool) (l : List Int), g61 b l = some (foundX b l)) = con61.goal Try.prog (spS [] []) g61_sh [] lm30 := by kernel_rfl
  rw [← e]
  intro b l
  unfold g61 foundX
  cases b <;> rfl
set_option maxRecDepth 100000 in
theorem ok61 : con61.Ok Try.prog := SCon.of_goal mixed okN okS0 con61 goal61

theorem argsOk_iff {n col : Int} : argsOk n col = true ↔ 1 ≤ n ∧ n ≤ 40 ∧ 1 ≤ col ∧ col ≤ 3 := by
  simp only [argsOk, Bool.and_eq_true, decide_eq_true_eq, and_assoc]
theorem args_cond {n col : Int} : (bif (bif (bif ilt n 1 then true else ilt 40 n) then true else ilt col 1) then true else ilt 3 col) = !argsOk n col := by
  rw [ilt_d, ilt_d, ilt_d, ilt_d, Bool.eq_iff_iff]
  simp only [argsOk]
  by_cases h1 : n < 1 <;> by_cases h2 : 40 < n <;> by_cases h3 : col < 1 <;> by_cases h4 : 3 < col <;> simp [h1, h2, h3, h4] <;> omega
theorem pre_of {n col : Int} (h : argsOk n col = true) : pre94 42 0 n col [] ∧ 1 ≤ n := by
  obtain ⟨h1, h2, h3, h4⟩ := argsOk_iff.1 h
  exact ⟨⟨by omega, by omega, h2, h3, h4, by omega, by simp⟩, h1⟩

theorem found_col {kk n col : Int} : foundX (!(growS kk n col 42 0 []).1) (bif (growS kk n col 42 0 []).1 then colL kk n col else []) = colX kk n col := by
  unfold colX
  cases hc : colS kk n col 42 [] with
  | none => rw [grow0_none hc]; rfl
  | some r =>
    obtain ⟨h1, h2⟩ := grow0_some hc
    rw [h1, h2]; rfl

theorem goal25 : con25.goal Try.prog (spS [con62, con61] []) g25_sh [] lm30 := by
  have e : (∀ (n col : Int), g25 n col = some (schurX n col)) = con25.goal Try.prog (spS [con62, con61] []) g25_sh [] lm30 := by kernel_rfl
  rw [← e]
  intro n col
  unfold g25
  simp only [args_cond]
  unfold schurX
  cases h : argsOk n col with
  | false => simp only [Bool.not_eq_true', imp_self, gd_true, Bool.not_false, cond_true, Bool.false_eq_true, if_false]
  | true =>
    obtain ⟨p1, p2⟩ := pre_of h
    simp only [Bool.not_eq_true', imp_self, gd_true, Bool.not_true, cond_false, if_true, gd_pos p1, gd_pos p2]
    rw [gd_pos (fun _ x hx => nomatch hx), found_col]
set_option maxRecDepth 100000 in
theorem ok25 : con25.Ok Try.prog := Con.of_goalS mixed okN (okS ok62 (okS ok61 okS0)) con25 goal25
end Go.Caps

set_option linter.unusedVariables false
set_option linter.unusedSimpArgs false
namespace Go.Caps
open Go Go.Ab Go.Proofs

theorem tryC_some {G : List Int → Option (List Int)} {bad : List Int → Bool} {l r : List Int} : ∀ (c : Nat) (x : Int), tryC G bad l c x = some r → ∃ y, x ≤ y ∧ y < x + c ∧ bad (l ++ [y]) = false ∧ G (l ++ [y]) = some r
  | 0, x, h => by simp [tryC] at h
  | c + 1, x, h => by
    simp only [tryC] at h
    split at h
    · rename_i q hq
      cases h
      cases hb : bad (l ++ [x]) with
      | true => rw [hb] at hq; simp at hq
      | false => rw [hb] at hq; exact ⟨x, by omega, by omega, hb, hq⟩
    · obtain ⟨y, h1, h2, h3⟩ := tryC_some c (x + 1) h
      exact ⟨y, by omega, by omega, h3⟩
theorem tryC_none {G : List Int → Option (List Int)} {bad : List Int → Bool} {l : List Int} : ∀ (c : Nat) (x : Int), tryC G bad l c x = none → ∀ y, x ≤ y → y < x + c → bad (l ++ [y]) = false → G (l ++ [y]) = none
  | 0, x, h, y, h1, h2, h3 => by omega
  | c + 1, x, h, y, h1, h2, h3 => by
    simp only [tryC] at h
    split at h
    · cases h
    · rename_i hq
      by_cases hy : y = x
      · subst hy
        rw [h3] at hq; simpa using hq
      · exact tryC_none c (x + 1) h y (by omega) (by omega) h3
end Go.Caps
