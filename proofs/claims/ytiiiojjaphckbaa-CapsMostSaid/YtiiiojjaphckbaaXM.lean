/- Sums, Apart, Steps: contracts. -/
import Derived.Test.YtiiiojjaphckbaaXK
set_option linter.unusedVariables false
set_option linter.unusedSimpArgs false
namespace Go.Caps
open Go Go.Ab Go.Proofs

def okR (n : Int) (l : List Int) : Bool := decide (2 ≤ n) && decide (n ≤ 40) && ris l && l.all (inC n)
/-- No number comes twice. -/
def nodK : List Int → Bool
  | [] => true
  | x :: l => !l.contains x && nodK l
def diffs (n : Int) (l : List Int) : List Int := l.flatMap fun a => (l.filter fun b => !ieq a b).map fun b => (a - b + n) % n
noncomputable def con81 : Con := mkC 81 [.d I64, .d LI] [.bool] (fun (n : Int) (l : List Int) => [okR n l = true]) (fun (n : Int) (l : List Int) => (nodK (diffs n l), ()))
noncomputable def g81_l0 (x0 : Int) (x1 : List Int) (d2 d3 : Int × List Bool × Unit) : Option (Lp (Int × List Bool × Unit) (Lp (Int × List Bool × Unit) (Bool × Unit))) := bif ilt d3.1 (↑(List.length x1) : Int) then gd ((0 : Int) ≤ d3.1 ∧ d3.1 < (↑(List.length x1) : Int)) (bif ieq (List.getD x1 (Int.toNat d2.1) (0 : Int)) (List.getD x1 (Int.toNat d3.1) (0 : Int)) then gd (List.length d3.2.1 = List.length d3.2.1) (some (Lp.go ((wr IntKind.i64 (d3.1 + (1 : Int)), d3.2.1, ()) : Int × List Bool × Unit))) else gd (x0 ≠ (0 : Int)) (gd ((0 : Int) ≤ Int.tmod (wr IntKind.i64 (wr IntKind.i64 (List.getD x1 (Int.toNat d2.1) (0 : Int) - List.getD x1 (Int.toNat d3.1) (0 : Int)) + x0)) x0 ∧ Int.tmod (wr IntKind.i64 (wr IntKind.i64 (List.getD x1 (Int.toNat d2.1) (0 : Int) - List.getD x1 (Int.toNat d3.1) (0 : Int)) + x0)) x0 < (↑(List.length d3.2.1) : Int)) (gd ((0 : Nat) + Int.toNat (Int.tmod (wr IntKind.i64 (wr IntKind.i64 (List.getD x1 (Int.toNat d2.1) (0 : Int) - List.getD x1 (Int.toNat d3.1) (0 : Int)) + x0)) x0) < List.length d3.2.1) (bif List.getD d3.2.1 ((0 : Nat) + Int.toNat (Int.tmod (wr IntKind.i64 (wr IntKind.i64 (List.getD x1 (Int.toNat d2.1) (0 : Int) - List.getD x1 (Int.toNat d3.1) (0 : Int)) + x0)) x0)) false then some (Lp.out (Lp.out ((false, ()) : Bool × Unit))) else gd ((0 : Int) ≤ Int.tmod (wr IntKind.i64 (wr IntKind.i64 (List.getD x1 (Int.toNat d2.1) (0 : Int) - List.getD x1 (Int.toNat d3.1) (0 : Int)) + x0)) x0 ∧ Int.tmod (wr IntKind.i64 (wr IntKind.i64 (List.getD x1 (Int.toNat d2.1) (0 : Int) - List.getD x1 (Int.toNat d3.1) (0 : Int)) + x0)) x0 < (↑(List.length d3.2.1) : Int)) (gd ((0 : Nat) + Int.toNat (Int.tmod (wr IntKind.i64 (wr IntKind.i64 (List.getD x1 (Int.toNat d2.1) (0 : Int) - List.getD x1 (Int.toNat d3.1) (0 : Int)) + x0)) x0) < List.length d3.2.1) (gd (List.length d3.2.1 = List.length (List.set d3.2.1 ((0 : Nat) + Int.toNat (Int.tmod (wr IntKind.i64 (wr IntKind.i64 (List.getD x1 (Int.toNat d2.1) (0 : Int) - List.getD x1 (Int.toNat d3.1) (0 : Int)) + x0)) x0)) true)) (some (Lp.go ((wr IntKind.i64 (d3.1 + (1 : Int)), List.set d3.2.1 ((0 : Nat) + Int.toNat (Int.tmod (wr IntKind.i64 (wr IntKind.i64 (List.getD x1 (Int.toNat d2.1) (0 : Int) - List.getD x1 (Int.toNat d3.1) (0 : Int)) + x0)) x0)) true, ()) : Int × List Bool × Unit))))))))) else gd (List.length d3.2.1 = List.length d3.2.1) (some (Lp.out (Lp.go ((wr IntKind.i64 (d2.1 + (1 : Int)), d3.2.1, ()) : Int × List Bool × Unit))))
noncomputable def g81 (x0 : Int) (x1 : List Int) : Option (Bool × Unit) := gd ((0 : Int) ≤ x0 ∧ x0 ≤ x0 ∧ x0 * (1 : Int) ≤ (1099511627776 : Int)) (gd (Int.toNat x0 = List.length (List.replicate (Int.toNat x0) false)) (whileO (fun (d2 : Int × List Bool × Unit) => bif ilt d2.1 (↑(List.length x1) : Int) then gd ((0 : Int) ≤ d2.1 ∧ d2.1 < (↑(List.length x1) : Int)) (gd (List.length d2.2.1 = List.length d2.2.1) (whileO (g81_l0 x0 x1 d2) (((0 : Int), d2.2.1, ()) : Int × List Bool × Unit))) else some (Lp.out ((true, ()) : Bool × Unit))) (((0 : Int), List.replicate (Int.toNat x0) false, ()) : Int × List Bool × Unit)))
noncomputable def g81_sh : List LSh := LSh.mk (((5, TV.slf (0) (1)) : Nat × TV) :: ((15, TV.v (Ty.int IntKind.i64)) : Nat × TV) :: ([] : List (Nat × TV))) (TB.arr Ty.bool true :: ([] : List TB)) :: LSh.mk (((5, TV.slf (0) (1)) : Nat × TV) :: ((21, TV.v (Ty.int IntKind.i64)) : Nat × TV) :: ([] : List (Nat × TV))) (TB.arr Ty.bool true :: ([] : List TB)) :: ([] : List LSh)
def freeS (n : Int) (l : List Int) : Bool := l.all fun a => l.all fun b => !l.contains ((a + b) % n)
noncomputable def con82 : Con := mkC 82 [.d I64, .d LI] [.bool] (fun (n : Int) (l : List Int) => [okR n l = true]) (fun (n : Int) (l : List Int) => (freeS n l, ()))
noncomputable def g82_l0 (x0 : Int) (x1 : List Int) (d3 d4 : Int × List Bool × Unit) : Option (Lp (Int × List Bool × Unit) (Lp (Int × List Bool × Unit) (Lp (Int × List Bool × Unit) (Bool × Unit)))) := bif ilt d4.1 (↑(List.length x1) : Int) then gd ((0 : Int) ≤ d4.1 ∧ d4.1 < (↑(List.length x1) : Int)) (gd (x0 ≠ (0 : Int)) (gd ((0 : Int) ≤ Int.tmod (wr IntKind.i64 (List.getD x1 (Int.toNat d3.1) (0 : Int) + List.getD x1 (Int.toNat d4.1) (0 : Int))) x0 ∧ Int.tmod (wr IntKind.i64 (List.getD x1 (Int.toNat d3.1) (0 : Int) + List.getD x1 (Int.toNat d4.1) (0 : Int))) x0 < (↑(List.length d4.2.1) : Int)) (gd ((0 : Nat) + Int.toNat (Int.tmod (wr IntKind.i64 (List.getD x1 (Int.toNat d3.1) (0 : Int) + List.getD x1 (Int.toNat d4.1) (0 : Int))) x0) < List.length d4.2.1) (bif List.getD d4.2.1 ((0 : Nat) + Int.toNat (Int.tmod (wr IntKind.i64 (List.getD x1 (Int.toNat d3.1) (0 : Int) + List.getD x1 (Int.toNat d4.1) (0 : Int))) x0)) false then some (Lp.out (Lp.out (Lp.out ((false, ()) : Bool × Unit)))) else gd (List.length d4.2.1 = List.length d4.2.1) (some (Lp.go ((wr IntKind.i64 (d4.1 + (1 : Int)), d4.2.1, ()) : Int × List Bool × Unit))))))) else gd (List.length d4.2.1 = List.length d4.2.1) (some (Lp.out (Lp.go ((wr IntKind.i64 (d3.1 + (1 : Int)), d4.2.1, ()) : Int × List Bool × Unit))))
noncomputable def g82 (x0 : Int) (x1 : List Int) : Option (Bool × Unit) := gd ((0 : Int) ≤ x0 ∧ x0 ≤ x0 ∧ x0 * (1 : Int) ≤ (1099511627776 : Int)) (gd (Int.toNat x0 = List.length (List.replicate (Int.toNat x0) false)) (whileO (fun (d2 : Int × List Bool × Unit) => bif ilt d2.1 (↑(List.length x1) : Int) then gd ((0 : Int) ≤ d2.1 ∧ d2.1 < (↑(List.length x1) : Int)) (gd ((0 : Int) ≤ List.getD x1 (Int.toNat d2.1) (0 : Int) ∧ List.getD x1 (Int.toNat d2.1) (0 : Int) < (↑(List.length d2.2.1) : Int)) (gd ((0 : Nat) + Int.toNat (List.getD x1 (Int.toNat d2.1) (0 : Int)) < List.length d2.2.1) (gd (List.length d2.2.1 = List.length (List.set d2.2.1 ((0 : Nat) + Int.toNat (List.getD x1 (Int.toNat d2.1) (0 : Int))) true)) (some (Lp.go ((wr IntKind.i64 (d2.1 + (1 : Int)), List.set d2.2.1 ((0 : Nat) + Int.toNat (List.getD x1 (Int.toNat d2.1) (0 : Int))) true, ()) : Int × List Bool × Unit)))))) else gd (List.length d2.2.1 = List.length d2.2.1) (whileO (fun (d3 : Int × List Bool × Unit) => bif ilt d3.1 (↑(List.length x1) : Int) then gd ((0 : Int) ≤ d3.1 ∧ d3.1 < (↑(List.length x1) : Int)) (gd (List.length d3.2.1 = List.length d3.2.1) (whileO (g82_l0 x0 x1 d3) (((0 : Int), d3.2.1, ()) : Int × List Bool × Unit))) else some (Lp.out (Lp.out ((true, ()) : Bool × Unit)))) (((0 : Int), d2.2.1, ()) : Int × List Bool × Unit))) (((0 : Int), List.replicate (Int.toNat x0) false, ()) : Int × List Bool × Unit)))
noncomputable def g82_sh : List LSh := LSh.mk (((5, TV.slf (0) (1)) : Nat × TV) :: ((16, TV.v (Ty.int IntKind.i64)) : Nat × TV) :: ([] : List (Nat × TV))) (TB.arr Ty.bool true :: ([] : List TB)) :: LSh.mk (((5, TV.slf (0) (1)) : Nat × TV) :: ((26, TV.v (Ty.int IntKind.i64)) : Nat × TV) :: ([] : List (Nat × TV))) (TB.arr Ty.bool true :: ([] : List TB)) :: LSh.mk (((5, TV.slf (0) (1)) : Nat × TV) :: ((32, TV.v (Ty.int IntKind.i64)) : Nat × TV) :: ([] : List (Nat × TV))) (TB.arr Ty.bool true :: ([] : List TB)) :: ([] : List LSh)
noncomputable def con114 : Con := mkC 114 [.d I64] [.bool] (fun (x : Int) => []) (fun (x : Int) => (false, ()))
noncomputable def g114 (x0 : Int) : Option (Bool × Unit) := some ((!ieq x0 x0, ()) : Bool × Unit)
noncomputable def g114_sh : List LSh := ([] : List LSh)
noncomputable def con115 : Con := mkC 115 [.d I64] [.bool] (fun (x : Int) => []) (fun (x : Int) => (false, ()))
noncomputable def g115 (x0 : Int) : Option (Bool × Unit) := some ((!ieq x0 x0, ()) : Bool × Unit)
noncomputable def g115_sh : List LSh := ([] : List LSh)
noncomputable def con109 : Con := mkC 109 [.d I64, .d I64] [.bool] (fun (x y : Int) => []) (fun (x y : Int) => (ilt x y, ()))
noncomputable def g109 (x0 x1 : Int) : Option (Bool × Unit) := gd (false = true → false = true) (gd (false = true → false = true) (gd (false = true → false = true) (gd (true = true → true = true ∧ true = true) (gd (false = false → true = true) (some ((ilt x0 x1, ()) : Bool × Unit))))))
noncomputable def g109_sh : List LSh := ([] : List LSh)
def below (l : List Int) (v : Int) : Int := (l.countP fun x => decide (x < v) : Nat)
noncomputable def con97 : Con := mkC 97 [.d LI, .d I64] [I64, .bool] (fun (l : List Int) (v : Int) => [l.length ≤ 1000, ris l = true]) (fun (l : List Int) (v : Int) => (below l v, l.contains v, ()))
noncomputable def g97 (x0 : List Int) (x1 : Int) : Option (Int × Bool × Unit) := whileO (fun (d2 : Int × Int × Unit) => bif ilt d2.1 d2.2.1 then gd ((0 : Int) ≤ (1 : Int)) (gd ((0 : Int) ≤ wr IntKind.i64 (ishr IntKind.u64 (wr IntKind.u64 (wr IntKind.i64 (d2.1 + d2.2.1))) (1 : Int)) ∧ wr IntKind.i64 (ishr IntKind.u64 (wr IntKind.u64 (wr IntKind.i64 (d2.1 + d2.2.1))) (1 : Int)) < (↑(List.length x0) : Int)) (bif ilt (List.getD x0 (Int.toNat (wr IntKind.i64 (ishr IntKind.u64 (wr IntKind.u64 (wr IntKind.i64 (d2.1 + d2.2.1))) (1 : Int)))) (0 : Int)) x1 then some (Lp.go ((wr IntKind.i64 (wr IntKind.i64 (ishr IntKind.u64 (wr IntKind.u64 (wr IntKind.i64 (d2.1 + d2.2.1))) (1 : Int)) + (1 : Int)), d2.2.1, ()) : Int × Int × Unit)) else some (Lp.go ((d2.1, wr IntKind.i64 (ishr IntKind.u64 (wr IntKind.u64 (wr IntKind.i64 (d2.1 + d2.2.1))) (1 : Int)), ()) : Int × Int × Unit)))) else gd (ilt d2.1 (↑(List.length x0) : Int) = true → ilt d2.1 (↑(List.length x0) : Int) = true ∧ ilt d2.1 (↑(List.length x0) : Int) = true ∧ (0 : Int) ≤ d2.1 ∧ d2.1 < (↑(List.length x0) : Int)) (gd (ilt d2.1 (↑(List.length x0) : Int) = true → ilt d2.1 (↑(List.length x0) : Int) = true) (gd (ilt d2.1 (↑(List.length x0) : Int) = true → ilt d2.1 (↑(List.length x0) : Int) = true ∧ ilt d2.1 (↑(List.length x0) : Int) = true) (gd ((ilt d2.1 (↑(List.length x0) : Int) && (ilt d2.1 (↑(List.length x0) : Int) && !ieq (List.getD x0 (Int.toNat d2.1) (0 : Int)) x1)) = true → (ilt d2.1 (↑(List.length x0) : Int) && (ilt d2.1 (↑(List.length x0) : Int) && !ieq (List.getD x0 (Int.toNat d2.1) (0 : Int)) x1)) = true ∧ (ilt d2.1 (↑(List.length x0) : Int) && (ilt d2.1 (↑(List.length x0) : Int) && !ieq (List.getD x0 (Int.toNat d2.1) (0 : Int)) x1)) = true ∧ (0 : Int) ≤ d2.1 ∧ d2.1 < (↑(List.length x0) : Int)) (gd ((ilt d2.1 (↑(List.length x0) : Int) && (ilt d2.1 (↑(List.length x0) : Int) && !ieq (List.getD x0 (Int.toNat d2.1) (0 : Int)) x1)) = true → (ilt d2.1 (↑(List.length x0) : Int) && (ilt d2.1 (↑(List.length x0) : Int) && !ieq (List.getD x0 (Int.toNat d2.1) (0 : Int)) x1)) = true) (gd ((ilt d2.1 (↑(List.length x0) : Int) && (ilt d2.1 (↑(List.length x0) : Int) && !ieq (List.getD x0 (Int.toNat d2.1) (0 : Int)) x1)) = true → (ilt d2.1 (↑(List.length x0) : Int) && (ilt d2.1 (↑(List.length x0) : Int) && !ieq (List.getD x0 (Int.toNat d2.1) (0 : Int)) x1)) = true) (gd ((ilt d2.1 (↑(List.length x0) : Int) && (ilt d2.1 (↑(List.length x0) : Int) && !ieq (List.getD x0 (Int.toNat d2.1) (0 : Int)) x1) && (ilt d2.1 (↑(List.length x0) : Int) && (ilt d2.1 (↑(List.length x0) : Int) && !ieq (List.getD x0 (Int.toNat d2.1) (0 : Int)) x1) && false)) = true → (ilt d2.1 (↑(List.length x0) : Int) && (ilt d2.1 (↑(List.length x0) : Int) && !ieq (List.getD x0 (Int.toNat d2.1) (0 : Int)) x1) && (ilt d2.1 (↑(List.length x0) : Int) && (ilt d2.1 (↑(List.length x0) : Int) && !ieq (List.getD x0 (Int.toNat d2.1) (0 : Int)) x1) && false)) = true) (gd ((ilt d2.1 (↑(List.length x0) : Int) && (ilt d2.1 (↑(List.length x0) : Int) && !ieq (List.getD x0 (Int.toNat d2.1) (0 : Int)) x1)) = true → (ilt d2.1 (↑(List.length x0) : Int) && (ilt d2.1 (↑(List.length x0) : Int) && !ieq (List.getD x0 (Int.toNat d2.1) (0 : Int)) x1)) = true ∧ (ilt d2.1 (↑(List.length x0) : Int) && (ilt d2.1 (↑(List.length x0) : Int) && !ieq (List.getD x0 (Int.toNat d2.1) (0 : Int)) x1)) = true ∧ (false = true → (ilt d2.1 (↑(List.length x0) : Int) && (ilt d2.1 (↑(List.length x0) : Int) && !ieq (List.getD x0 (Int.toNat d2.1) (0 : Int)) x1) && (ilt d2.1 (↑(List.length x0) : Int) && (ilt d2.1 (↑(List.length x0) : Int) && !ieq (List.getD x0 (Int.toNat d2.1) (0 : Int)) x1) && false)) = true)) (gd (ilt d2.1 (↑(List.length x0) : Int) = true → ilt d2.1 (↑(List.length x0) : Int) = true ∧ ilt d2.1 (↑(List.length x0) : Int) = true ∧ (ieq (List.getD x0 (Int.toNat d2.1) (0 : Int)) x1 = false → (ilt d2.1 (↑(List.length x0) : Int) && (ilt d2.1 (↑(List.length x0) : Int) && !ieq (List.getD x0 (Int.toNat d2.1) (0 : Int)) x1)) = true)) (gd (ilt d2.1 (↑(List.length x0) : Int) = true → ilt d2.1 (↑(List.length x0) : Int) = true) (some (Lp.out ((d2.1, bif ilt d2.1 (↑(List.length x0) : Int) then bif ieq (List.getD x0 (Int.toNat d2.1) (0 : Int)) x1 then true else false else false, ()) : Int × Bool × Unit))))))))))))) (((0 : Int), (↑(List.length x0) : Int), ()) : Int × Int × Unit)
noncomputable def g97_sh : List LSh := LSh.mk (((7, TV.v (Ty.int IntKind.i64)) : Nat × TV) :: ((8, TV.v (Ty.int IntKind.i64)) : Nat × TV) :: ([] : List (Nat × TV))) ([] : List TB) :: ([] : List LSh)
/-- No three in steps. -/
def stepsF (l : List Int) : Bool := (List.range l.length).all fun j => (List.range j).all fun i => !l.contains (2 * l.getD j 0 - l.getD i 0)
noncomputable def con70 : Con := mkC 70 [.d LI] [.bool] (fun (l : List Int) => [l.length ≤ 1000, ris l = true, ∀ x ∈ l, 0 ≤ x ∧ x ≤ 1000]) (fun (l : List Int) => (stepsF l, ()))
noncomputable def g70_l0 (x0 : List Int) (d1 d2 : Int × Unit) : Option (Lp (Int × Unit) (Lp (Int × Unit) (Bool × Unit))) := bif ilt d2.1 (↑(List.length (List.drop (Int.toNat (wr IntKind.i64 (d1.1 + (1 : Int)))) x0)) : Int) then gd ((0 : Int) ≤ d2.1 ∧ d2.1 < (↑(List.length (List.drop (Int.toNat (wr IntKind.i64 (d1.1 + (1 : Int)))) x0)) : Int)) (gd (List.length x0 ≤ (1000 : Nat)) (gd (ris x0 = true) (bif List.contains x0 (wr IntKind.i64 (wr IntKind.i64 ((2 : Int) * List.getD (List.drop (Int.toNat (wr IntKind.i64 (d1.1 + (1 : Int)))) x0) (Int.toNat d2.1) (0 : Int)) - List.getD x0 (Int.toNat d1.1) (0 : Int))) then some (Lp.out (Lp.out ((false, ()) : Bool × Unit))) else some (Lp.go ((wr IntKind.i64 (d2.1 + (1 : Int)), ()) : Int × Unit))))) else some (Lp.out (Lp.go ((wr IntKind.i64 (d1.1 + (1 : Int)), ()) : Int × Unit)))
noncomputable def g70 (x0 : List Int) : Option (Bool × Unit) := whileO (fun (d1 : Int × Unit) => bif ilt d1.1 (↑(List.length x0) : Int) then gd ((0 : Int) ≤ d1.1 ∧ d1.1 < (↑(List.length x0) : Int)) (gd ((0 : Int) ≤ wr IntKind.i64 (d1.1 + (1 : Int)) ∧ wr IntKind.i64 (d1.1 + (1 : Int)) ≤ (↑(List.length x0) : Int)) (whileO (g70_l0 x0 d1) (((0 : Int), ()) : Int × Unit))) else some (Lp.out ((true, ()) : Bool × Unit))) (((0 : Int), ()) : Int × Unit)
noncomputable def g70_sh : List LSh := LSh.mk (((11, TV.v (Ty.int IntKind.i64)) : Nat × TV) :: ([] : List (Nat × TV))) ([] : List TB) :: LSh.mk (((21, TV.v (Ty.int IntKind.i64)) : Nat × TV) :: ([] : List (Nat × TV))) ([] : List TB) :: ([] : List LSh)
noncomputable def con41 : Con := mkC 41 [.d LI] [.bool] (fun (l : List Int) => [l.length ≤ 1000, ∀ x ∈ l, 0 ≤ x ∧ x ≤ 1000]) (fun (l : List Int) => (stepsF l, ()))
noncomputable def g41_l0 (x0 : List Int) (d1 d2 : Int × Unit) : Option (Lp (Int × Unit) (Lp (Int × Unit) (Bool × Unit))) := bif ilt d2.1 (↑(List.length (List.take (Int.toNat d1.1) x0)) : Int) then gd ((0 : Int) ≤ d2.1 ∧ d2.1 < (↑(List.length (List.take (Int.toNat d1.1) x0)) : Int)) (gd (small x0) (bif List.contains x0 (wr IntKind.i64 (wr IntKind.i64 ((2 : Int) * List.getD x0 (Int.toNat d1.1) (0 : Int)) - List.getD (List.take (Int.toNat d1.1) x0) (Int.toNat d2.1) (0 : Int))) then some (Lp.out (Lp.out ((false, ()) : Bool × Unit))) else some (Lp.go ((wr IntKind.i64 (d2.1 + (1 : Int)), ()) : Int × Unit)))) else some (Lp.out (Lp.go ((wr IntKind.i64 (d1.1 + (1 : Int)), ()) : Int × Unit)))
noncomputable def g41 (x0 : List Int) : Option (Bool × Unit) := whileO (fun (d1 : Int × Unit) => bif ilt d1.1 (↑(List.length x0) : Int) then gd ((0 : Int) ≤ d1.1 ∧ d1.1 < (↑(List.length x0) : Int)) (gd ((0 : Int) ≤ d1.1 ∧ d1.1 ≤ (↑(List.length x0) : Int)) (whileO (g41_l0 x0 d1) (((0 : Int), ()) : Int × Unit))) else some (Lp.out ((true, ()) : Bool × Unit))) (((0 : Int), ()) : Int × Unit)
noncomputable def g41_sh : List LSh := LSh.mk (((9, TV.v (Ty.int IntKind.i64)) : Nat × TV) :: ([] : List (Nat × TV))) ([] : List TB) :: LSh.mk (((18, TV.v (Ty.int IntKind.i64)) : Nat × TV) :: ([] : List (Nat × TV))) ([] : List TB) :: ([] : List LSh)
def sumsK (n : Int) (l : List Int) : List Int := (List.range l.length).flatMap fun i => (l.take (i + 1)).map fun b => (l.getD i 0 + b) % n
noncomputable def con43 : Con := mkC 43 [.d I64, .d LI] [.bool] (fun (n : Int) (l : List Int) => [okR n l = true]) (fun (n : Int) (l : List Int) => (nodK (sumsK n l), ()))
noncomputable def g43_l0 (x0 : Int) (x1 : List Int) (d2 d3 : Int × List Bool × Unit) : Option (Lp (Int × List Bool × Unit) (Lp (Int × List Bool × Unit) (Bool × Unit))) := bif ilt d3.1 (↑(List.length (List.take (Int.toNat (wr IntKind.i64 (d2.1 + (1 : Int)))) x1)) : Int) then gd ((0 : Int) ≤ d3.1 ∧ d3.1 < (↑(List.length (List.take (Int.toNat (wr IntKind.i64 (d2.1 + (1 : Int)))) x1)) : Int)) (gd (x0 ≠ (0 : Int)) (gd ((0 : Int) ≤ Int.tmod (wr IntKind.i64 (List.getD x1 (Int.toNat d2.1) (0 : Int) + List.getD (List.take (Int.toNat (wr IntKind.i64 (d2.1 + (1 : Int)))) x1) (Int.toNat d3.1) (0 : Int))) x0 ∧ Int.tmod (wr IntKind.i64 (List.getD x1 (Int.toNat d2.1) (0 : Int) + List.getD (List.take (Int.toNat (wr IntKind.i64 (d2.1 + (1 : Int)))) x1) (Int.toNat d3.1) (0 : Int))) x0 < (40 : Int)) (gd ((0 : Nat) + Int.toNat (Int.tmod (wr IntKind.i64 (List.getD x1 (Int.toNat d2.1) (0 : Int) + List.getD (List.take (Int.toNat (wr IntKind.i64 (d2.1 + (1 : Int)))) x1) (Int.toNat d3.1) (0 : Int))) x0) * (1 : Nat) < List.length d3.2.1) (bif List.getD d3.2.1 ((0 : Nat) + Int.toNat (Int.tmod (wr IntKind.i64 (List.getD x1 (Int.toNat d2.1) (0 : Int) + List.getD (List.take (Int.toNat (wr IntKind.i64 (d2.1 + (1 : Int)))) x1) (Int.toNat d3.1) (0 : Int))) x0) * (1 : Nat)) false then some (Lp.out (Lp.out ((false, ()) : Bool × Unit))) else gd (x0 ≠ (0 : Int)) (gd ((0 : Int) ≤ Int.tmod (wr IntKind.i64 (List.getD x1 (Int.toNat d2.1) (0 : Int) + List.getD (List.take (Int.toNat (wr IntKind.i64 (d2.1 + (1 : Int)))) x1) (Int.toNat d3.1) (0 : Int))) x0 ∧ Int.tmod (wr IntKind.i64 (List.getD x1 (Int.toNat d2.1) (0 : Int) + List.getD (List.take (Int.toNat (wr IntKind.i64 (d2.1 + (1 : Int)))) x1) (Int.toNat d3.1) (0 : Int))) x0 < (40 : Int)) (gd ((0 : Nat) + Int.toNat (Int.tmod (wr IntKind.i64 (List.getD x1 (Int.toNat d2.1) (0 : Int) + List.getD (List.take (Int.toNat (wr IntKind.i64 (d2.1 + (1 : Int)))) x1) (Int.toNat d3.1) (0 : Int))) x0) * (1 : Nat) < List.length d3.2.1) (some (Lp.go ((wr IntKind.i64 (d3.1 + (1 : Int)), List.set d3.2.1 ((0 : Nat) + Int.toNat (Int.tmod (wr IntKind.i64 (List.getD x1 (Int.toNat d2.1) (0 : Int) + List.getD (List.take (Int.toNat (wr IntKind.i64 (d2.1 + (1 : Int)))) x1) (Int.toNat d3.1) (0 : Int))) x0) * (1 : Nat)) true, ()) : Int × List Bool × Unit))))))))) else some (Lp.out (Lp.go ((wr IntKind.i64 (d2.1 + (1 : Int)), d3.2.1, ()) : Int × List Bool × Unit)))
noncomputable def g43 (x0 : Int) (x1 : List Int) : Option (Bool × Unit) := whileO (fun (d2 : Int × List Bool × Unit) => bif ilt d2.1 (↑(List.length x1) : Int) then gd ((0 : Int) ≤ d2.1 ∧ d2.1 < (↑(List.length x1) : Int)) (gd ((0 : Int) ≤ wr IntKind.i64 (d2.1 + (1 : Int)) ∧ wr IntKind.i64 (d2.1 + (1 : Int)) ≤ (↑(List.length x1) : Int)) (whileO (g43_l0 x0 x1 d2) (((0 : Int), d2.2.1, ()) : Int × List Bool × Unit))) else some (Lp.out ((true, ()) : Bool × Unit))) (((0 : Int), false :: false :: false :: false :: false :: false :: false :: false :: false :: false :: false :: false :: false :: false :: false :: false :: false :: false :: false :: false :: false :: false :: false :: false :: false :: false :: false :: false :: false :: false :: false :: false :: false :: false :: false :: false :: false :: false :: false :: false :: ([] : List Bool), ()) : Int × List Bool × Unit)
noncomputable def g43_sh : List LSh := LSh.mk (((5, TV.ref (0) (1 : Nat) (0 : Nat) (0 : Nat)) : Nat × TV) :: ((12, TV.v (Ty.int IntKind.i64)) : Nat × TV) :: ([] : List (Nat × TV))) (TB.arr Ty.bool false :: ([] : List TB)) :: LSh.mk (((5, TV.ref (0) (1 : Nat) (0 : Nat) (0 : Nat)) : Nat × TV) :: ((22, TV.v (Ty.int IntKind.i64)) : Nat × TV) :: ([] : List (Nat × TV))) (TB.arr Ty.bool false :: ([] : List TB)) :: ([] : List LSh)
noncomputable def con44 : Con := mkC 44 [.d I64, .d LI] [.bool] (fun (n : Int) (l : List Int) => [okR n l = true]) (fun (n : Int) (l : List Int) => (freeS n l, ()))
noncomputable def g44_l0 (x0 : Int) (x1 : List Int) (d2 d3 : Int × Unit) : Option (Lp (Int × Unit) (Lp (Int × Unit) (Bool × Unit))) := bif ilt d3.1 (↑(List.length x1) : Int) then gd ((0 : Int) ≤ d3.1 ∧ d3.1 < (↑(List.length x1) : Int)) (gd (x0 ≠ (0 : Int)) (gd (small x1) (bif List.contains x1 (Int.tmod (wr IntKind.i64 (List.getD x1 (Int.toNat d2.1) (0 : Int) + List.getD x1 (Int.toNat d3.1) (0 : Int))) x0) then some (Lp.out (Lp.out ((false, ()) : Bool × Unit))) else some (Lp.go ((wr IntKind.i64 (d3.1 + (1 : Int)), ()) : Int × Unit))))) else some (Lp.out (Lp.go ((wr IntKind.i64 (d2.1 + (1 : Int)), ()) : Int × Unit)))
noncomputable def g44 (x0 : Int) (x1 : List Int) : Option (Bool × Unit) := whileO (fun (d2 : Int × Unit) => bif ilt d2.1 (↑(List.length x1) : Int) then gd ((0 : Int) ≤ d2.1 ∧ d2.1 < (↑(List.length x1) : Int)) (whileO (g44_l0 x0 x1 d2) (((0 : Int), ()) : Int × Unit)) else some (Lp.out ((true, ()) : Bool × Unit))) (((0 : Int), ()) : Int × Unit)
noncomputable def g44_sh : List LSh := LSh.mk (((11, TV.v (Ty.int IntKind.i64)) : Nat × TV) :: ([] : List (Nat × TV))) ([] : List TB) :: LSh.mk (((17, TV.v (Ty.int IntKind.i64)) : Nat × TV) :: ([] : List (Nat × TV))) ([] : List TB) :: ([] : List LSh)
end Go.Caps

set_option linter.unusedVariables false
set_option linter.unusedSimpArgs false
namespace Go.Caps
open Go Go.Ab Go.Proofs

/-! ### What was met before -/
def seenL (N : Nat) (ks : List Int) : List Bool := (List.range N).map fun (d : Nat) => ks.contains (d : Int)
theorem seen_len {N : Nat} {ks : List Int} : (seenL N ks).length = N := by simp [seenL]
theorem seen_at {N : Nat} {ks : List Int} {d : Nat} (h : d < N) : (seenL N ks).getD d false = ks.contains (d : Int) := by
  rw [gd_at (by rw [seen_len]; exact h)]
  simp [seenL]
theorem seen_set {N : Nat} {ks : List Int} {d : Nat} (h : d < N) : (seenL N ks).set d true = seenL N (ks ++ [(d : Int)]) := by
  refine List.ext_getElem (by simp [seenL]) fun r h1 h2 => ?_
  rw [List.getElem_set]
  simp only [seenL, List.getElem_map, List.getElem_range]
  by_cases e : d = r
  · subst e; simp
  · rw [if_neg e]
    rw [Bool.eq_iff_iff]
    simp only [List.contains_iff_mem, List.mem_append, List.mem_singleton]
    constructor
    · exact .inl
    · rintro (h3 | h3)
      · exact h3
      · omega
theorem seen_nil {N : Nat} : seenL N [] = List.replicate N false := by
  refine List.ext_getElem (by simp [seenL]) fun r h1 h2 => by simp [seenL]

theorem nodK_iff : ∀ {l : List Int}, nodK l = true ↔ l.Nodup
  | [] => by simp [nodK]
  | x :: l => by
    rw [nodK, Bool.and_eq_true, nodK_iff, List.nodup_cons]
    simp [List.contains_iff_mem]
theorem nod_pre {xs ys : List Int} (h : nodK xs = false) : nodK (xs ++ ys) = false := by
  rw [Bool.eq_false_iff] at h ⊢
  intro hc
  exact h (nodK_iff.2 (List.nodup_append.1 (nodK_iff.1 hc)).1)
theorem nod_snoc {xs : List Int} {k : Int} (h : nodK xs = true) : nodK (xs ++ [k]) = !xs.contains k := by
  rw [Bool.eq_iff_iff, nodK_iff, List.nodup_append]
  have h' := nodK_iff.1 h
  simp only [Bool.not_eq_true', Bool.eq_false_iff, ne_eq, List.contains_iff_mem, List.mem_singleton, forall_eq]
  constructor
  · rintro ⟨_, _, h3⟩ hk
    exact h3 k hk rfl
  · intro hk
    exact ⟨h', by simp, fun a ha e => hk (e ▸ ha)⟩

/-- One loop that looks whether its keys were met before. -/
theorem seen_loop {S X : Type} {step : S → Option (Lp S X)} {N m : Nat} {st : Nat → List Bool → S} {key : Nat → Option Int} {part : Nat → List Int} {x : X} {fin : List Bool → X} {pre : List Int} (h0 : part 0 = []) (hp : ∀ j, j < m → part (j + 1) = part j ++ (key j).toList)
    (h : ∀ j ks, j < m → step (st j (seenL N ks)) = some (match key j with
      | none => .go (st (j + 1) (seenL N ks))
      | some k => cond (ks.contains k) (.out x) (.go (st (j + 1) (seenL N (ks ++ [k]))))))
    (hf : ∀ ks, step (st m (seenL N ks)) = some (.out (fin (seenL N ks)))) (hpre : nodK pre = true) :
    whileO step (st 0 (seenL N pre)) = some (cond (nodK (pre ++ part m)) (fin (seenL N (pre ++ part m))) x) := by
  have ext : ∀ d j, j + d = m → ∃ r, part m = part j ++ r := by
    intro d
    induction d with
    | zero => intro j hj; have : j = m := by omega
              subst this; exact ⟨[], by simp⟩
    | succ d ih =>
      intro j hj
      obtain ⟨r, hr⟩ := ih (j + 1) (by omega)
      exact ⟨(key j).toList ++ r, by rw [hr, hp j (by omega), List.append_assoc]⟩
  have main : ∀ d j, j + d = m → nodK (pre ++ part j) = true → whileO step (st j (seenL N (pre ++ part j))) = some (cond (nodK (pre ++ part m)) (fin (seenL N (pre ++ part m))) x) := by
    intro d
    induction d with
    | zero =>
      intro j hj hn
      have : j = m := by omega
      subst this
      rw [whileO_out (hf _), hn]; rfl
    | succ d ih =>
      intro j hj hn
      have hs := h j (pre ++ part j) (by omega)
      have hpj := hp j (by omega)
      cases hk : key j with
      | none =>
        rw [hk] at hs hpj
        have e : part (j + 1) = part j := by rw [hpj]; simp
        have := ih (j + 1) (by omega) (by rw [e]; exact hn)
        rw [e] at this
        exact (whileO_go hs).trans this
      | some k =>
        rw [hk] at hs hpj
        have e : pre ++ part (j + 1) = pre ++ part j ++ [k] := by rw [hpj]; simp
        cases hc : (pre ++ part j).contains k with
        | true =>
          simp only [hc, cond_true] at hs
          have hf : nodK (pre ++ part m) = false := by
            obtain ⟨r, hr⟩ := ext d (j + 1) (by omega)
            rw [hr, ← List.append_assoc, e]
            exact nod_pre (by rw [nod_snoc hn, hc]; rfl)
          rw [hf]
          exact whileO_out hs
        | false =>
          simp only [hc, cond_false] at hs
          have := ih (j + 1) (by omega) (by rw [e, nod_snoc hn, hc]; rfl)
          rw [e] at this
          exact (whileO_go hs).trans this
  have := main m 0 (by omega) (by rw [h0, List.append_nil]; exact hpre)
  rwa [h0, List.append_nil] at this
/-- .. and one around it. -/
theorem seen_rows {S X : Type} {step : S → Option (Lp S X)} {N m : Nat} {st : Nat → List Bool → S} {row : Nat → List Int} {pre : Nat → List Int} {x y : X} (h0 : pre 0 = []) (hp : ∀ i, i < m → pre (i + 1) = pre i ++ row i)
    (h : ∀ i, i < m → nodK (pre i) = true → step (st i (seenL N (pre i))) = some (cond (nodK (pre i ++ row i)) (.go (st (i + 1) (seenL N (pre i ++ row i)))) (.out x)))
    (hf : ∀ ks, step (st m (seenL N ks)) = some (.out y)) : whileO step (st 0 (seenL N [])) = some (cond (nodK (pre m)) y x) := by
  have ext : ∀ d i, i + d = m → ∃ r, pre m = pre i ++ r := by
    intro d
    induction d with
    | zero => intro i hi; have : i = m := by omega
              subst this; exact ⟨[], by simp⟩
    | succ d ih =>
      intro i hi
      obtain ⟨r, hr⟩ := ih (i + 1) (by omega)
      exact ⟨row i ++ r, by rw [hr, hp i (by omega), List.append_assoc]⟩
  have main : ∀ d i, i + d = m → nodK (pre i) = true → whileO step (st i (seenL N (pre i))) = some (cond (nodK (pre m)) y x) := by
    intro d
    induction d with
    | zero =>
      intro i hi hn
      have : i = m := by omega
      subst this
      rw [whileO_out (hf _), hn]; rfl
    | succ d ih =>
      intro i hi hn
      have hs := h i (by omega) hn
      have hpi := hp i (by omega)
      cases hc : nodK (pre i ++ row i) with
      | true =>
        rw [hc] at hs
        have := ih (i + 1) (by omega) (by rw [hpi]; exact hc)
        rw [hpi] at this
        exact (whileO_go hs).trans this
      | false =>
        rw [hc] at hs
        have hf : nodK (pre m) = false := by
          obtain ⟨r, hr⟩ := ext d (i + 1) (by omega)
          rw [hr, hpi]
          exact nod_pre hc
        rw [hf]
        exact whileO_out hs
  have := main m 0 (by omega) (by rw [h0]; rfl)
  rwa [h0] at this

theorem okR_spec {n : Int} {l : List Int} (h : okR n l = true) : 2 ≤ n ∧ n ≤ 40 ∧ ris l = true ∧ ∀ x ∈ l, 0 ≤ x ∧ x < n := by
  unfold okR inC at h
  simp only [Bool.and_eq_true, decide_eq_true_eq, List.all_eq_true] at h
  exact ⟨h.1.1.1, h.1.1.2, h.1.2, h.2⟩
theorem ris_short {n : Int} {l : List Int} (hn : 0 ≤ n + 1) (hr : ris l = true) (hb : ∀ x ∈ l, 0 ≤ x ∧ x ≤ n) : (l.length : Int) ≤ n + 1 := by
  rcases Nat.eq_zero_or_pos l.length with h0 | h0
  · have : l = [] := List.eq_nil_of_length_eq_zero h0
    subst this
    simpa using hn
  · have h1 := hb (l.getD 0 0) (by rw [gd_at h0]; exact List.getElem_mem h0)
    have h2 := hb (l.getD (l.length - 1) 0) (by rw [gd_at (by omega)]; exact List.getElem_mem _)
    have h3 := ris_ge hr (l.length - 1) (by omega)
    omega
theorem mem_at {l : List Int} {i : Nat} (h : i < l.length) : l.getD i 0 ∈ l := by rw [gd_at h]; exact List.getElem_mem h

abbrev StB := Int × List Bool × Unit
def difK (n : Int) (l : List Int) (a : Int) (j : Nat) : Option Int := if ieq a (l.getD j 0) = true then none else some ((a - l.getD j 0 + n) % n)
def difP (n : Int) (l : List Int) (a : Int) (j : Nat) : List Int := ((l.take j).filter fun b => !ieq a b).map fun b => (a - b + n) % n
theorem difP_succ {n : Int} {l : List Int} {a : Int} {j : Nat} (h : j < l.length) : difP n l a (j + 1) = difP n l a j ++ (difK n l a j).toList := by
  unfold difP difK
  rw [List.take_succ_eq_append_getElem h, List.filter_append, List.map_append, gd_at h]
  cases hq : ieq a l[j] <;> simp [hq]
theorem dif_mod {n a b : Int} (hn : 2 ≤ n ∧ n ≤ 40) (ha : 0 ≤ a ∧ a < n) (hb : 0 ≤ b ∧ b < n) : Int.tmod (wr .i64 (wr .i64 (a - b) + n)) n = (a - b + n) % n ∧ 0 ≤ (a - b + n) % n ∧ (a - b + n) % n < n := by
  rw [wr_id (n := a - b) (by omega), wr_id (by omega), Int.tmod_eq_emod_of_nonneg (by omega)]
  exact ⟨rfl, Int.emod_nonneg _ (by omega), Int.emod_lt_of_pos _ (by omega)⟩

theorem in81 {n : Int} {l : List Int} (h : okR n l = true) {i : Nat} (hi : i < l.length) {pre : List Int} (hpre : nodK pre = true) {D : List Bool} :
    whileO (g81_l0 n l (((i : Int), D, ()) : StB)) (((0 : Int), seenL n.toNat pre, ()) : StB) = some (cond (nodK (pre ++ difP n l (l.getD i 0) l.length)) (.go ((((i + 1 : Nat) : Int), seenL n.toNat (pre ++ difP n l (l.getD i 0) l.length), ()) : StB)) (.out ((false, ()) : Bool × Unit))) := by
  obtain ⟨h1, h2, h3, h4⟩ := okR_spec h
  have hlen := ris_short (n := n - 1) (by omega) h3 (fun x hx => by have := h4 x hx; omega)
  refine seen_loop (st := fun j L => (((j : Nat) : Int), L, ())) (key := difK n l (l.getD i 0)) (part := difP n l (l.getD i 0)) (x := Lp.out ((false, ()) : Bool × Unit)) (fin := fun L => Lp.go ((((i + 1 : Nat) : Int), L, ()) : StB)) rfl (fun j hj => difP_succ hj) (fun j ks hj => ?_) (fun ks => ?_) hpre
  · unfold g81_l0
    dsimp only
    obtain ⟨e1, e2, e3⟩ := dif_mod ⟨h1, h2⟩ (h4 _ (mem_at hi)) (h4 _ (mem_at hj))
    rw [Int.toNat_natCast, Int.toNat_natCast, e1, cond_t (ilt_iff.2 (by omega)), gd_pos (by omega), cast1 (by omega)]
    unfold difK
    cases hq : ieq (l.getD i 0) (l.getD j 0) with
    | true =>
      rw [cond_t rfl, gd_pos rfl]; rfl
    | false =>
      obtain ⟨d, hd⟩ : ∃ d : Nat, (l.getD i 0 - l.getD j 0 + n) % n = d := ⟨_, (Int.toNat_of_nonneg e2).symm⟩
      rw [hd] at e2 e3 ⊢
      rw [cond_f rfl, gd_pos (by omega), seen_len, Int.toNat_natCast, Nat.zero_add]
      rw [gd_pos (by omega), gd_pos (by omega), seen_at (by omega)]
      simp only [Bool.false_eq_true, if_false]
      cases hc : ks.contains (d : Int) with
      | true => rfl
      | false =>
        rw [cond_f rfl, gd_pos (by omega), gd_pos (by omega), gd_pos (by rw [List.length_set, seen_len]), seen_set (by omega)]
        rfl
  · unfold g81_l0
    dsimp only
    rw [cond_f (ilt_false.2 (by omega)), gd_pos rfl, cast1 (by omega)]

theorem cond_eta {b : Bool} : (cond b ((true, ()) : Bool × Unit) (false, ())) = (b, ()) := by cases b <;> rfl
theorem goal81 : con81.goal Try.prog (spOf []) g81_sh [] lm30 := by
  have e : (∀ (n : Int) (l : List Int), okR n l = true → g81 n l = some (nodK (diffs n l), ())) = con81.goal Try.prog (spOf []) g81_sh [] lm30 := by kernel_rfl
  rw [← e]
  intro n l h
  obtain ⟨h1, h2, h3, h4⟩ := okR_spec h
  unfold g81
  rw [gd_pos (by omega), gd_pos (by simp), ← seen_nil]
  have hp : ∀ i, i < l.length → (l.take (i + 1)).flatMap (fun a => difP n l a l.length) = (l.take i).flatMap (fun a => difP n l a l.length) ++ difP n l (l.getD i 0) l.length := fun i hi => by
    rw [List.take_succ_eq_append_getElem hi, List.flatMap_append, gd_at hi]
    simp
  have hall : diffs n l = (l.take l.length).flatMap (fun a => difP n l a l.length) := by
    unfold diffs difP
    rw [List.take_length]
  rw [hall]
  refine (seen_rows (st := fun i L => (((i : Nat) : Int), L, ())) (row := fun i => difP n l (l.getD i 0) l.length) (pre := fun i => (l.take i).flatMap (fun a => difP n l a l.length)) (x := ((false, ()) : Bool × Unit)) (y := ((true, ()) : Bool × Unit)) rfl hp (fun i hi hn => ?_) (fun ks => ?_)).trans (by rw [cond_eta])
  · dsimp only
    rw [cond_t (ilt_iff.2 (by omega)), gd_pos (by omega), gd_pos rfl, in81 h hi hn]
  · dsimp only
    rw [cond_f (ilt_false.2 (by omega))]
set_option maxRecDepth 100000 in
theorem ok81 : con81.Ok Try.prog := Con.of_goal mixed okN con81 goal81

end Go.Caps

set_option linter.unusedVariables false
set_option linter.unusedSimpArgs false
namespace Go.Caps
open Go Go.Ab Go.Proofs

theorem all_chk {n : Nat} {Q : Nat → Bool} : (List.range n).all Q = true ↔ ∀ i, 0 ≤ i → i < n → Q i = true := by
  rw [List.all_eq_true]
  exact ⟨fun h i _ hi => h i (List.mem_range.2 hi), fun h i hi => h i (Nat.zero_le _) (List.mem_range.1 hi)⟩
theorem allL_at {l : List Int} {Q : Int → Bool} : l.all Q = true ↔ ∀ i, 0 ≤ i → i < l.length → Q (l.getD i 0) = true := by
  rw [List.all_eq_true]
  constructor
  · intro h i _ hi
    exact h _ (mem_at hi)
  · intro h x hx
    obtain ⟨i, hi, rfl⟩ := List.getElem_of_mem hx
    have := h i (Nat.zero_le _) hi
    rwa [gd_at hi] at this
theorem sum_mod {n a b : Int} (hn : 2 ≤ n ∧ n ≤ 40) (ha : 0 ≤ a ∧ a < n) (hb : 0 ≤ b ∧ b < n) : Int.tmod (wr .i64 (a + b)) n = (a + b) % n ∧ 0 ≤ (a + b) % n ∧ (a + b) % n < n := by
  rw [wr_id (by omega), Int.tmod_eq_emod_of_nonneg (by omega)]
  exact ⟨rfl, Int.emod_nonneg _ (by omega), Int.emod_lt_of_pos _ (by omega)⟩

/-! ### Apart -/
theorem in82 {n : Int} {l : List Int} (h : okR n l = true) {i : Nat} (hi : i < l.length) :
    whileO (g82_l0 n l (((i : Int), seenL n.toNat l, ()) : StB)) (((0 : Int), seenL n.toNat l, ()) : StB) = some (cond (l.all fun b => !l.contains ((l.getD i 0 + b) % n)) (.go ((((i + 1 : Nat) : Int), seenL n.toNat l, ()) : StB)) (.out (Lp.out ((false, ()) : Bool × Unit)))) := by
  obtain ⟨h1, h2, h3, h4⟩ := okR_spec h
  have hlen := ris_short (n := n - 1) (by omega) h3 (fun x hx => by have := h4 x hx; omega)
  refine whileO_chk (st := fun j => ((((j : Nat) : Int), seenL n.toNat l, ()) : StB)) (lo := 0) (hi := l.length) (Q := fun j => !l.contains ((l.getD i 0 + l.getD j 0) % n)) (x := Lp.out (Lp.out ((false, ()) : Bool × Unit))) (y := Lp.go ((((i + 1 : Nat) : Int), seenL n.toNat l, ()) : StB)) (by omega) allL_at (fun j _ hj => ?_) ?_
  · unfold g82_l0
    dsimp only
    obtain ⟨e1, e2, e3⟩ := sum_mod ⟨h1, h2⟩ (h4 _ (mem_at hi)) (h4 _ (mem_at hj))
    obtain ⟨d, hd⟩ : ∃ d : Nat, (l.getD i 0 + l.getD j 0) % n = d := ⟨_, (Int.toNat_of_nonneg e2).symm⟩
    rw [Int.toNat_natCast, Int.toNat_natCast, e1, hd, cond_t (ilt_iff.2 (by omega)), gd_pos (by omega), gd_pos (by omega), seen_len, Int.toNat_natCast, Nat.zero_add]
    rw [hd] at e3
    rw [gd_pos (by omega), gd_pos (by omega), seen_at (by omega), cast1 (by omega)]
    cases l.contains (d : Int) with
    | true => rfl
    | false => rw [cond_f rfl, gd_pos rfl]; rfl
  · unfold g82_l0
    dsimp only
    rw [cond_f (ilt_false.2 (by omega)), gd_pos rfl, cast1 (by omega)]

theorem goal82 : con82.goal Try.prog (spOf []) g82_sh [] lm30 := by
  have e : (∀ (n : Int) (l : List Int), okR n l = true → g82 n l = some (freeS n l, ())) = con82.goal Try.prog (spOf []) g82_sh [] lm30 := by kernel_rfl
  rw [← e]
  intro n l h
  obtain ⟨h1, h2, h3, h4⟩ := okR_spec h
  have hlen := ris_short (n := n - 1) (by omega) h3 (fun x hx => by have := h4 x hx; omega)
  unfold g82
  rw [gd_pos (by omega), gd_pos (by simp), ← seen_nil]
  have e0 : seenL n.toNat [] = seenL n.toNat (l.take 0) := rfl
  rw [e0]
  refine whileO_nat (st := fun i => ((((i : Nat) : Int), seenL n.toNat (l.take i), ()) : StB)) (lo := 0) (hi := l.length) (by omega) (fun i _ hi => ?_) ?_
  · dsimp only
    have hb := h4 _ (mem_at hi)
    obtain ⟨d, hd⟩ : ∃ d : Nat, l.getD i 0 = d := ⟨_, (Int.toNat_of_nonneg hb.1).symm⟩
    rw [Int.toNat_natCast, hd]
    rw [hd] at hb
    rw [cond_t (ilt_iff.2 (by omega)), gd_pos (by omega), seen_len, Int.toNat_natCast, Nat.zero_add, gd_pos (by omega), gd_pos (by omega), gd_pos (by rw [List.length_set, seen_len]), seen_set (by omega), cast1 (by omega)]
    have : l.take (i + 1) = l.take i ++ [(d : Int)] := by rw [List.take_succ_eq_append_getElem hi, ← hd, gd_at hi]
    rw [this]
  · dsimp only
    rw [cond_f (ilt_false.2 (by omega)), gd_pos rfl, List.take_length]
    refine (whileO_chk (st := fun i => ((((i : Nat) : Int), seenL n.toNat l, ()) : StB)) (lo := 0) (hi := l.length) (b := freeS n l) (Q := fun i => l.all fun b => !l.contains ((l.getD i 0 + b) % n)) (x := Lp.out ((false, ()) : Bool × Unit)) (y := Lp.out ((true, ()) : Bool × Unit)) (by omega) ?_ (fun i _ hi => ?_) ?_).trans ?_
    · exact allL_at (Q := fun a => l.all fun b => !l.contains ((a + b) % n))
    · dsimp only
      rw [cond_t (ilt_iff.2 (by omega)), gd_pos (by omega), gd_pos rfl, in82 h hi]
    · dsimp only
      rw [cond_f (ilt_false.2 (by omega))]
    · cases freeS n l <;> rfl
set_option maxRecDepth 100000 in
theorem ok82 : con82.Ok Try.prog := Con.of_goal mixed okN con82 goal82

theorem in44 {n : Int} {l : List Int} (h : okR n l = true) {i : Nat} (hi : i < l.length) :
    whileO (g44_l0 n l (((i : Int), ()) : Int × Unit)) (((0 : Int), ()) : Int × Unit) = some (cond (l.all fun b => !l.contains ((l.getD i 0 + b) % n)) (.go ((((i + 1 : Nat) : Int), ()) : Int × Unit)) (.out ((false, ()) : Bool × Unit))) := by
  obtain ⟨h1, h2, h3, h4⟩ := okR_spec h
  have hlen := ris_short (n := n - 1) (by omega) h3 (fun x hx => by have := h4 x hx; omega)
  have hs : small l := by unfold small; omega
  refine whileO_chk (st := fun j => ((((j : Nat) : Int), ()) : Int × Unit)) (lo := 0) (hi := l.length) (Q := fun j => !l.contains ((l.getD i 0 + l.getD j 0) % n)) (x := Lp.out ((false, ()) : Bool × Unit)) (y := Lp.go ((((i + 1 : Nat) : Int), ()) : Int × Unit)) (by omega) allL_at (fun j _ hj => ?_) ?_
  · unfold g44_l0
    dsimp only
    obtain ⟨e1, e2, e3⟩ := sum_mod ⟨h1, h2⟩ (h4 _ (mem_at hi)) (h4 _ (mem_at hj))
    rw [Int.toNat_natCast, Int.toNat_natCast, e1, cond_t (ilt_iff.2 (by omega)), gd_pos (by omega), gd_pos (by omega), gd_pos hs, cast1 (by omega)]
    cases l.contains ((l.getD i 0 + l.getD j 0) % n) <;> rfl
  · unfold g44_l0
    dsimp only
    rw [cond_f (ilt_false.2 (by omega)), cast1 (by omega)]
theorem goal44 : con44.goal Try.prog (spOf [con60]) g44_sh [] lm30 := by
  have e : (∀ (n : Int) (l : List Int), okR n l = true → g44 n l = some (freeS n l, ())) = con44.goal Try.prog (spOf [con60]) g44_sh [] lm30 := by kernel_rfl
  rw [← e]
  intro n l h
  unfold g44
  refine (whileO_chk (st := fun i => ((((i : Nat) : Int), ()) : Int × Unit)) (lo := 0) (hi := l.length) (b := freeS n l) (Q := fun i => l.all fun b => !l.contains ((l.getD i 0 + b) % n)) (x := ((false, ()) : Bool × Unit)) (y := ((true, ()) : Bool × Unit)) (by omega) ?_ (fun i _ hi => ?_) ?_).trans (by rw [cond_eta])
  · exact allL_at (Q := fun a => l.all fun b => !l.contains ((a + b) % n))
  · dsimp only
    rw [cond_t (ilt_iff.2 (by omega)), gd_pos (by omega), in44 h hi]
  · dsimp only
    rw [cond_f (ilt_false.2 (by omega))]
set_option maxRecDepth 100000 in
theorem ok44 : con44.Ok Try.prog := Con.of_goal mixed (okC ok60 okN) con44 goal44

/-! ### Sums in the reference -/
def sumP (n : Int) (l : List Int) (i j : Nat) : List Int := (l.take j).map fun b => (l.getD i 0 + b) % n
theorem in43 {n : Int} {l : List Int} (h : okR n l = true) {i : Nat} (hi : i < l.length) {pre : List Int} (hpre : nodK pre = true) {D : List Bool} :
    whileO (g43_l0 n l (((i : Int), D, ()) : StB)) (((0 : Int), seenL 40 pre, ()) : StB) = some (cond (nodK (pre ++ sumP n l i (i + 1))) (.go ((((i + 1 : Nat) : Int), seenL 40 (pre ++ sumP n l i (i + 1)), ()) : StB)) (.out ((false, ()) : Bool × Unit))) := by
  obtain ⟨h1, h2, h3, h4⟩ := okR_spec h
  have hlen := ris_short (n := n - 1) (by omega) h3 (fun x hx => by have := h4 x hx; omega)
  have hw : wr .i64 ((i : Int) + 1) = ((i + 1 : Nat) : Int) := cast1 (by omega)
  have htl : (List.take (((i + 1 : Nat) : Int)).toNat l).length = i + 1 := by rw [List.length_take, Int.toNat_natCast]; omega
  refine seen_loop (m := i + 1) (st := fun j L => (((j : Nat) : Int), L, ())) (key := fun j => some ((l.getD i 0 + l.getD j 0) % n)) (part := sumP n l i) (x := Lp.out ((false, ()) : Bool × Unit)) (fin := fun L => Lp.go ((((i + 1 : Nat) : Int), L, ()) : StB)) rfl (fun j hj => ?_) (fun j ks hj => ?_) (fun ks => ?_) hpre
  · unfold sumP
    rw [List.take_succ_eq_append_getElem (by omega), List.map_append, gd_at (l := l) (i := j) (by omega)]
    rfl
  · unfold g43_l0
    dsimp only
    have hg : (List.take (((i + 1 : Nat) : Int)).toNat l).getD j 0 = l.getD j 0 := by
      rw [gd_at (by rw [htl]; exact hj), gd_at (by omega), List.getElem_take]
    rw [hw, htl, Int.toNat_natCast (n := i), Int.toNat_natCast (n := j), hg]
    obtain ⟨e1, e2, e3⟩ := sum_mod ⟨h1, h2⟩ (h4 _ (mem_at hi)) (h4 (l.getD j 0) (mem_at (by omega)))
    obtain ⟨d, hd⟩ : ∃ d : Nat, (l.getD i 0 + l.getD j 0) % n = d := ⟨_, (Int.toNat_of_nonneg e2).symm⟩
    rw [e1, hd]
    rw [hd] at e3
    rw [cond_t (ilt_iff.2 (by omega)), gd_pos (by omega), gd_pos (by omega), gd_pos (by omega), seen_len, Int.toNat_natCast, Nat.zero_add, Nat.mul_one, gd_pos (by omega), seen_at (by omega), cast1 (by omega)]
    cases ks.contains (d : Int) with
    | true => rfl
    | false =>
      rw [cond_f rfl, gd_pos (by omega), gd_pos (by omega), gd_pos (by omega), seen_set (by omega)]
      rfl
  · unfold g43_l0
    dsimp only
    rw [hw, htl, cond_f (ilt_false.2 (by omega))]

theorem goal43 : con43.goal Try.prog (spOf []) g43_sh [] lm30 := by
  have e : (∀ (n : Int) (l : List Int), okR n l = true → g43 n l = some (nodK (sumsK n l), ())) = con43.goal Try.prog (spOf []) g43_sh [] lm30 := by kernel_rfl
  rw [← e]
  intro n l h
  obtain ⟨h1, h2, h3, h4⟩ := okR_spec h
  have hlen := ris_short (n := n - 1) (by omega) h3 (fun x hx => by have := h4 x hx; omega)
  unfold g43
  have hp : ∀ i, i < l.length → (List.range (i + 1)).flatMap (fun i => sumP n l i (i + 1)) = (List.range i).flatMap (fun i => sumP n l i (i + 1)) ++ sumP n l i (i + 1) := fun i hi => by
    rw [List.range_succ, List.flatMap_append]
    simp
  have hall : sumsK n l = (List.range l.length).flatMap (fun i => sumP n l i (i + 1)) := rfl
  rw [hall]
  refine (seen_rows (N := 40) (st := fun i L => (((i : Nat) : Int), L, ())) (row := fun i => sumP n l i (i + 1)) (pre := fun i => (List.range i).flatMap (fun i => sumP n l i (i + 1))) (x := ((false, ()) : Bool × Unit)) (y := ((true, ()) : Bool × Unit)) rfl hp (fun i hi hn => ?_) (fun ks => ?_)).trans (by rw [cond_eta])
  · dsimp only
    have hw : wr .i64 ((i : Int) + 1) = ((i + 1 : Nat) : Int) := cast1 (by omega)
    rw [cond_t (ilt_iff.2 (by omega)), gd_pos (by omega), hw, gd_pos (by omega), in43 h hi hn]
  · dsimp only
    rw [cond_f (ilt_false.2 (by omega))]
set_option maxRecDepth 100000 in
theorem ok43 : con43.Ok Try.prog := Con.of_goal mixed okN con43 goal43

/-! ### Differences and sums -/
theorem mod_eq {n x y : Int} : x % n = y % n ↔ ∃ q, x - y = n * q := by
  constructor
  · intro h
    refine ⟨x / n - y / n, ?_⟩
    have h1 := Int.mul_ediv_add_emod x n
    have h2 := Int.mul_ediv_add_emod y n
    rw [Int.mul_sub]; omega
  · rintro ⟨q, h⟩
    have : x = y + n * q := by omega
    rw [this, Int.add_mul_emod_self_left]
theorem mod_inj {n a b : Int} (ha : 0 ≤ a ∧ a < n) (hb : 0 ≤ b ∧ b < n) (h : ∃ q, a - b = n * q) : a = b := by
  have := mod_eq.2 h
  rwa [Int.emod_eq_of_lt ha.1 ha.2, Int.emod_eq_of_lt hb.1 hb.2] at this
theorem ris_pw : ∀ {l : List Int}, ris l = true → l.Pairwise (· < ·)
  | [], _ => List.Pairwise.nil
  | x :: l, h => by
    obtain ⟨h1, h2⟩ := ris_cons h
    exact List.Pairwise.cons h2 (ris_pw h1)

def difOk (n : Int) (l : List Int) : Prop := ∀ a1 ∈ l, ∀ a2 ∈ l, ∀ b1 ∈ l, ∀ b2 ∈ l, a1 ≠ a2 → b1 ≠ a1 → b2 ≠ a2 → ¬ ∃ q, (a1 - b1) - (a2 - b2) = n * q
def sumOk (n : Int) (l : List Int) : Prop := ∀ a1 ∈ l, ∀ a2 ∈ l, ∀ b1 ∈ l, ∀ b2 ∈ l, a1 < a2 → b1 ≤ a1 → b2 ≤ a2 → ¬ ∃ q, (a1 + b1) - (a2 + b2) = n * q

theorem dif_iff {n : Int} {l : List Int} (h : okR n l = true) : nodK (diffs n l) = true ↔ difOk n l := by
  obtain ⟨h1, h2, h3, h4⟩ := okR_spec h
  have hpw := ris_pw h3
  rw [nodK_iff]
  unfold diffs List.Nodup
  rw [List.pairwise_flatMap]
  constructor
  · rintro ⟨_, hp⟩ a1 ha1 a2 ha2 b1 hb1 b2 hb2 hne hn1 hn2 ⟨q, hq⟩
    have key : ∀ a1 a2 b1 b2, a1 ∈ l → a2 ∈ l → b1 ∈ l → b2 ∈ l → a1 < a2 → b1 ≠ a1 → b2 ≠ a2 → (∃ q, (a1 - b1) - (a2 - b2) = n * q) → False := by
      intro a1 a2 b1 b2 ha1 ha2 hb1 hb2 hlt hn1 hn2 ⟨q, hq⟩
      obtain ⟨i, hi, rfl⟩ := List.getElem_of_mem ha1
      obtain ⟨j, hj, rfl⟩ := List.getElem_of_mem ha2
      have hij : i < j := by
        rcases Nat.lt_or_ge i j with h | h
        · exact h
        · exfalso
          rcases Nat.eq_or_lt_of_le h with e | e
          · subst e; omega
          · have := List.pairwise_iff_getElem.1 hpw j i hj hi e; omega
      have := List.pairwise_iff_getElem.1 hp i j hi hj hij
      refine this ((l[i] - b1 + n) % n) ?_ ((l[j] - b2 + n) % n) ?_ (mod_eq.2 ⟨q, by omega⟩)
      · exact List.mem_map.2 ⟨b1, List.mem_filter.2 ⟨hb1, by rw [ieq_false.2 (fun e => hn1 e.symm)]; rfl⟩, rfl⟩
      · exact List.mem_map.2 ⟨b2, List.mem_filter.2 ⟨hb2, by rw [ieq_false.2 (fun e => hn2 e.symm)]; rfl⟩, rfl⟩
    rcases Int.lt_or_gt_of_ne hne with hlt | hgt
    · exact key a1 a2 b1 b2 ha1 ha2 hb1 hb2 hlt hn1 hn2 ⟨q, hq⟩
    · exact key a2 a1 b2 b1 ha2 ha1 hb2 hb1 hgt hn2 hn1 ⟨-q, by rw [Int.mul_neg]; omega⟩
  · intro hd
    constructor
    · intro a ha
      rw [List.pairwise_map]
      refine List.Pairwise.imp_of_mem (fun {b b'} hb hb' hlt he => ?_) (List.Pairwise.filter _ hpw)
      obtain ⟨q, hq⟩ := mod_eq.1 he
      have hb := h4 b (List.mem_filter.1 hb).1
      have hb' := h4 b' (List.mem_filter.1 hb').1
      have := mod_inj hb' hb ⟨q, by omega⟩
      omega
    · refine List.Pairwise.imp_of_mem (fun {a1 a2} ha1 ha2 hlt x hx y hy he => ?_) hpw
      obtain ⟨b1, hb1, rfl⟩ := List.mem_map.1 hx
      obtain ⟨b2, hb2, rfl⟩ := List.mem_map.1 hy
      obtain ⟨q, hq⟩ := mod_eq.1 he
      have n1 : b1 ≠ a1 := fun e => by
        have := (List.mem_filter.1 hb1).2
        rw [e, ieq_iff.2 rfl] at this; cases this
      have n2 : b2 ≠ a2 := fun e => by
        have := (List.mem_filter.1 hb2).2
        rw [e, ieq_iff.2 rfl] at this; cases this
      exact hd a1 ha1 a2 ha2 b1 (List.mem_filter.1 hb1).1 b2 (List.mem_filter.1 hb2).1 (by omega) n1 n2 ⟨q, by omega⟩

theorem take_mem {l : List Int} (hr : ris l = true) {i : Nat} (hi : i < l.length) {b : Int} : b ∈ l.take (i + 1) ↔ b ∈ l ∧ b ≤ l.getD i 0 := by
  have hpw := ris_pw hr
  rw [List.mem_take_iff_getElem]
  constructor
  · rintro ⟨j, hj, rfl⟩
    refine ⟨List.getElem_mem _, ?_⟩
    rw [gd_at hi]
    rcases Nat.eq_or_lt_of_le (show j ≤ i by omega) with e | e
    · subst e; exact Int.le_refl _
    · have := List.pairwise_iff_getElem.1 hpw j i (by omega) hi e; omega
  · rintro ⟨hb, hle⟩
    obtain ⟨j, hj, rfl⟩ := List.getElem_of_mem hb
    refine ⟨j, ?_, rfl⟩
    rw [gd_at hi] at hle
    rcases Nat.lt_or_ge i j with h | h
    · have := List.pairwise_iff_getElem.1 hpw i j hi hj h; omega
    · omega

theorem sum_iff {n : Int} {l : List Int} (h : okR n l = true) : nodK (sumsK n l) = true ↔ sumOk n l := by
  obtain ⟨h1, h2, h3, h4⟩ := okR_spec h
  have hpw := ris_pw h3
  rw [nodK_iff]
  unfold sumsK List.Nodup
  rw [List.pairwise_flatMap]
  constructor
  · rintro ⟨_, hp⟩ a1 ha1 a2 ha2 b1 hb1 b2 hb2 hlt hle1 hle2 ⟨q, hq⟩
    obtain ⟨i, hi, rfl⟩ := List.getElem_of_mem ha1
    obtain ⟨j, hj, rfl⟩ := List.getElem_of_mem ha2
    have hij : i < j := by
      rcases Nat.lt_or_ge i j with h | h
      · exact h
      · exfalso
        rcases Nat.eq_or_lt_of_le h with e | e
        · subst e; omega
        · have := List.pairwise_iff_getElem.1 hpw j i hj hi e; omega
    have := List.pairwise_iff_getElem.1 hp i j (by simpa using hi) (by simpa using hj) hij
    simp only [List.getElem_range] at this
    refine this ((l.getD i 0 + b1) % n) ?_ ((l.getD j 0 + b2) % n) ?_ (mod_eq.2 ⟨q, by rw [gd_at hi, gd_at hj]; omega⟩)
    · exact List.mem_map.2 ⟨b1, (take_mem h3 hi).2 ⟨hb1, by rw [gd_at hi]; exact hle1⟩, rfl⟩
    · exact List.mem_map.2 ⟨b2, (take_mem h3 hj).2 ⟨hb2, by rw [gd_at hj]; exact hle2⟩, rfl⟩
  · intro hd
    constructor
    · intro i hi
      have hi := List.mem_range.1 hi
      rw [List.pairwise_map]
      refine List.Pairwise.imp_of_mem (fun {b b'} hb hb' hlt he => ?_) (List.Pairwise.sublist (List.take_sublist _ _) hpw)
      obtain ⟨q, hq⟩ := mod_eq.1 he
      have hb := h4 b (List.mem_of_mem_take hb)
      have hb' := h4 b' (List.mem_of_mem_take hb')
      have := mod_inj hb hb' ⟨q, by omega⟩
      omega
    · refine List.Pairwise.imp_of_mem (fun {i j} hi hj hlt x hx y hy he => ?_) List.pairwise_lt_range
      have hi := List.mem_range.1 hi
      have hj := List.mem_range.1 hj
      obtain ⟨b1, hb1, rfl⟩ := List.mem_map.1 hx
      obtain ⟨b2, hb2, rfl⟩ := List.mem_map.1 hy
      obtain ⟨q, hq⟩ := mod_eq.1 he
      obtain ⟨m1, l1⟩ := (take_mem h3 hi).1 hb1
      obtain ⟨m2, l2⟩ := (take_mem h3 hj).1 hb2
      have hlt' : l.getD i 0 < l.getD j 0 := by
        rw [gd_at hi, gd_at hj]
        exact List.pairwise_iff_getElem.1 hpw i j hi hj hlt
      exact hd _ (mem_at hi) _ (mem_at hj) b1 m1 b2 m2 hlt' l1 l2 ⟨q, hq⟩

/-- Numbers have different sums exactly if they have different differences. -/
theorem dif_sum {n : Int} {l : List Int} (h : okR n l = true) : nodK (diffs n l) = nodK (sumsK n l) := by
  obtain ⟨h1, h2, h3, h4⟩ := okR_spec h
  rw [Bool.eq_iff_iff, dif_iff h, sum_iff h]
  constructor
  · intro hd a1 ha1 a2 ha2 b1 hb1 b2 hb2 hlt hle1 hle2 ⟨q, hq⟩
    have k1 := h4 _ ha1
    have k2 := h4 _ ha2
    have k3 := h4 _ hb1
    have k4 := h4 _ hb2
    by_cases e1 : a1 = b2
    · have := mod_inj k3 k2 ⟨q, by omega⟩
      omega
    · by_cases e2 : b1 = b2
      · have := mod_inj k1 k2 ⟨q, by omega⟩
        omega
      · exact hd a1 ha1 b2 hb2 a2 ha2 b1 hb1 e1 (by omega) e2 ⟨q, by omega⟩
  · intro hs a1 ha1 a2 ha2 b1 hb1 b2 hb2 hne hn1 hn2 ⟨q, hq⟩
    have k1 := h4 _ ha1
    have k2 := h4 _ ha2
    have k3 := h4 _ hb1
    have k4 := h4 _ hb2
    -- a1 + b2 and a2 + b1 are the same
    have key : ∀ x y u v, x ∈ l → y ∈ l → u ∈ l → v ∈ l → y ≤ x → v ≤ u → x ≠ u → (∃ q, (x + y) - (u + v) = n * q) → False := by
      intro x y u v hx hy hu hv h5 h6 h7 ⟨q, hq⟩
      rcases Int.lt_or_gt_of_ne h7 with h8 | h8
      · exact hs x hx u hu y hy v hv h8 h5 h6 ⟨q, hq⟩
      · exact hs u hu x hx v hv y hy h8 h6 h5 ⟨-q, by rw [Int.mul_neg]; omega⟩
    rcases Int.le_total b2 a1 with h5 | h5 <;> rcases Int.le_total b1 a2 with h6 | h6
    · exact key a1 b2 a2 b1 ha1 hb2 ha2 hb1 h5 h6 hne ⟨q, by omega⟩
    · exact key a1 b2 b1 a2 ha1 hb2 hb1 ha2 h5 h6 (fun e => hn1 e.symm) ⟨q, by omega⟩
    · exact key b2 a1 a2 b1 hb2 ha1 ha2 hb1 h5 h6 hn2 ⟨q, by omega⟩
    · by_cases e : b2 = b1
      · subst e
        have := mod_inj k1 k2 ⟨q, by omega⟩
        exact hne this
      · exact key b2 a1 b1 a2 hb2 ha1 hb1 ha2 h5 h6 e ⟨q, by omega⟩

end Go.Caps

set_option linter.unusedVariables false
set_option linter.unusedSimpArgs false
namespace Go.Caps
open Go Go.Ab Go.Proofs

theorem goal114 : con114.goal Try.prog (spOf []) g114_sh [] lm30 := by
  have e : (∀ (x : Int), g114 x = some (false, ())) = con114.goal Try.prog (spOf []) g114_sh [] lm30 := by kernel_rfl
  rw [← e]
  intro x
  unfold g114
  rw [ieq_iff.2 rfl]; rfl
set_option maxRecDepth 100000 in
theorem ok114 : con114.Ok Try.prog := Con.of_goal mixed okN con114 goal114
theorem goal115 : con115.goal Try.prog (spOf []) g115_sh [] lm30 := by
  have e : (∀ (x : Int), g115 x = some (false, ())) = con115.goal Try.prog (spOf []) g115_sh [] lm30 := by kernel_rfl
  rw [← e]
  intro x
  unfold g115
  rw [ieq_iff.2 rfl]; rfl
set_option maxRecDepth 100000 in
theorem ok115 : con115.Ok Try.prog := Con.of_goal mixed okN con115 goal115
theorem goal109 : con109.goal Try.prog (spOf [con114, con115]) g109_sh [] lm30 := by
  have e : (∀ (x y : Int), g109 x y = some (ilt x y, ())) = con109.goal Try.prog (spOf [con114, con115]) g109_sh [] lm30 := by kernel_rfl
  rw [← e]
  intro x y
  unfold g109
  simp [gd_true]
set_option maxRecDepth 100000 in
theorem ok109 : con109.Ok Try.prog := Con.of_goal mixed (okC ok114 (okC ok115 okN)) con109 goal109

theorem mid_eq {i j : Nat} (h : i ≤ 2000 ∧ j ≤ 2000) : wr .i64 (ishr .u64 (wr .u64 (wr .i64 ((i : Int) + (j : Int)))) 1) = (((i + j) / 2 : Nat) : Int) := by
  rw [wr_id (n := (i : Int) + j) (by omega)]
  have e1 : wr .u64 ((i : Int) + j) = ((i + j : Nat) : Int) := by
    show IntKind.u64.wrap _ = _
    rw [IntKind.wrap_u64]; omega
  have e2 : ishr .u64 ((i + j : Nat) : Int) 1 = (((i + j) / 2 : Nat) : Int) := by
    show Int.fdiv ((i + j : Nat) : Int) (2 ^ (min (1 : Int).toNat 64)) = _
    have : (2 : Int) ^ (min (1 : Int).toNat 64) = ((2 : Nat) : Int) := by decide
    rw [this, ← Int.ofNat_fdiv]
  rw [e1, e2, wr_id (by omega)]

theorem below_eq {l : List Int} {v : Int} {i : Nat} (hi : i ≤ l.length) (h1 : ∀ k, k < i → l.getD k 0 < v) (h2 : ∀ k, i ≤ k → k < l.length → v ≤ l.getD k 0) : below l v = i := by
  have e : l = l.take i ++ l.drop i := (List.take_append_drop i l).symm
  have c1 : (l.take i).countP (fun x => decide (x < v)) = i := by
    have : (l.take i).countP (fun x => decide (x < v)) = (l.take i).length := List.countP_eq_length.2 fun x hx => by
      obtain ⟨k, hk, rfl⟩ := List.mem_take_iff_getElem.1 hx
      have := h1 k (by omega)
      rw [gd_at (by omega)] at this
      simpa using this
    rw [this, List.length_take]; omega
  have c2 : (l.drop i).countP (fun x => decide (x < v)) = 0 := List.countP_eq_zero.2 fun x hx => by
    obtain ⟨k, hk, rfl⟩ := List.mem_drop_iff_getElem.1 hx
    have := h2 (k + i) (by omega) (by omega)
    rw [gd_at (by omega)] at this
    simp only [decide_eq_true_eq]
    have e2 : l[i + k] = l[k + i] := by congr 1; omega
    omega
  unfold below
  have : l.countP (fun x => decide (x < v)) = i := by
    rw [e, List.countP_append, c1, c2]; rfl
  rw [this]
theorem has_eq {l : List Int} {v : Int} {i : Nat} (h1 : ∀ k, k < i → l.getD k 0 < v) (h2 : ∀ k, i ≤ k → k < l.length → v ≤ l.getD k 0) (hr : ris l = true) : l.contains v = (decide (i < l.length) && decide (l.getD i 0 = v)) := by
  have hpw := ris_pw hr
  rw [Bool.eq_iff_iff, List.contains_iff_mem, Bool.and_eq_true, decide_eq_true_eq, decide_eq_true_eq]
  constructor
  · intro hm
    obtain ⟨k, hk, rfl⟩ := List.getElem_of_mem hm
    have hki : i ≤ k := by
      rcases Nat.lt_or_ge k i with h | h
      · have := h1 k h
        rw [gd_at hk] at this; omega
      · exact h
    refine ⟨by omega, ?_⟩
    have h3 := h2 i (Nat.le_refl _) (by omega)
    rw [gd_at (by omega)] at h3 ⊢
    rcases Nat.eq_or_lt_of_le hki with e | e
    · subst e; rfl
    · have := List.pairwise_iff_getElem.1 hpw i k (by omega) hk e; omega
  · rintro ⟨hi, rfl⟩
    exact mem_at hi

abbrev Two := Int × Int × Unit
theorem goal97 : con97.goal Try.prog (spOf [con109, con114, con115]) g97_sh [] lm30 := by
  have e : (∀ (l : List Int) (v : Int), l.length ≤ 1000 → ris l = true → g97 l v = some (below l v, l.contains v, ())) = con97.goal Try.prog (spOf [con109, con114, con115]) g97_sh [] lm30 := by kernel_rfl
  rw [← e]
  intro l v hl hr
  have hpw := ris_pw hr
  have mono : ∀ a b, a ≤ b → b < l.length → l.getD a 0 ≤ l.getD b 0 := fun a b hab hb => by
    rw [gd_at (by omega), gd_at hb]
    rcases Nat.eq_or_lt_of_le hab with e | e
    · subst e; exact Int.le_refl _
    · have := List.pairwise_iff_getElem.1 hpw a b (by omega) hb e; omega
  unfold g97
  refine whileO_rec (fun (d : Two) => ∃ i j : Nat, d = (((i : Int), (j : Int), ()) : Two) ∧ i ≤ j ∧ j ≤ l.length ∧ (∀ k, k < i → l.getD k 0 < v) ∧ (∀ k, j ≤ k → k < l.length → v ≤ l.getD k 0)) (fun (d : Two) => (d.2.1 - d.1).toNat) (fun (_ : Two) => (below l v, l.contains v, ())) ?_ (((0 : Int), (l.length : Int), ()) : Two) ⟨0, l.length, rfl, by omega, by omega, fun k hk => by omega, fun k h1 h2 => by omega⟩
  rintro _ ⟨i, j, rfl, hij, hj, h1, h2⟩
  simp only
  by_cases hlt : i < j
  · right
    have hm : (i + j) / 2 < l.length := by omega
    rw [cond_t (ilt_iff.2 (by omega)), mid_eq ⟨by omega, by omega⟩, gd_pos (by omega), gd_pos (by omega), Int.toNat_natCast]
    by_cases hv : l.getD ((i + j) / 2) 0 < v
    · refine ⟨(((((i + j) / 2 + 1 : Nat) : Int), (j : Int), ()) : Two), ?_, ⟨(i + j) / 2 + 1, j, rfl, by omega, hj, fun k hk => ?_, h2⟩, by dsimp only; omega, trivial⟩
      · rw [cond_t (ilt_iff.2 hv), cast1 (by omega)]
      · have := mono k ((i + j) / 2) (by omega) hm; omega
    · refine ⟨((((i : Nat) : Int), (((i + j) / 2 : Nat) : Int), ()) : Two), ?_, ⟨i, (i + j) / 2, rfl, by omega, by omega, h1, fun k h3 h4 => ?_⟩, by dsimp only; omega, trivial⟩
      · rw [cond_f (ilt_false.2 (by omega))]
      · have := mono ((i + j) / 2) k h3 h4; omega
  · left
    have : i = j := by omega
    subst this
    rw [cond_f (ilt_false.2 (by omega)), Int.toNat_natCast, below_eq hj h1 h2, has_eq h1 h2 hr]
    by_cases h3 : i < l.length
    · by_cases h4 : l.getD i 0 = v
      · simp only [ilt_iff.2 (show (i : Int) < l.length by omega), ieq_iff.2 h4, h3, h4, gd_true, decide_true, Bool.and_self, cond_true, imp_self, and_self, forall_const, Bool.not_true, Bool.not_false, Bool.false_eq_true, Bool.true_eq_false, false_implies, and_true, true_and]
        try simp [gd_true, h3, show ieq v v = true from ieq_iff.2 rfl]
      · simp only [ilt_iff.2 (show (i : Int) < l.length by omega), ieq_false.2 h4, h3, h4, gd_true, decide_true, decide_false, Bool.and_self, Bool.and_false, cond_true, cond_false, imp_self, and_self, forall_const, Bool.not_true, Bool.not_false, Bool.false_eq_true, Bool.true_eq_false, false_implies, and_true, true_and]
        try simp [gd_true, h3, show ieq v v = true from ieq_iff.2 rfl]
    · simp [ilt_false.2 (show (l.length : Int) ≤ i by omega), h3, gd_true]
set_option maxRecDepth 100000 in
theorem ok97 : con97.Ok Try.prog := Con.of_goal mixed (okC ok109 (okC ok114 (okC ok115 okN))) con97 goal97

/-! ### Steps -/
def stepQ (l : List Int) (i j : Nat) : Bool := !l.contains (2 * l.getD j 0 - l.getD i 0)
def afterQ (l : List Int) (i : Nat) : Bool := (List.range (l.length - (i + 1))).all fun d => stepQ l i (i + 1 + d)
theorem steps_after {l : List Int} : stepsF l = (List.range l.length).all (afterQ l) := by
  rw [Bool.eq_iff_iff]
  unfold stepsF afterQ stepQ
  simp only [List.all_eq_true, List.mem_range]
  constructor
  · intro h i hi d hd
    exact h (i + 1 + d) (by omega) i (by omega)
  · intro h j hj i hi
    have := h i (by omega) (j - (i + 1)) (by omega)
    rwa [show i + 1 + (j - (i + 1)) = j by omega] at this
theorem step_wr {l : List Int} (hb : ∀ x ∈ l, 0 ≤ x ∧ x ≤ 1000) {i j : Nat} (hi : i < l.length) (hj : j < l.length) : wr .i64 (wr .i64 (2 * l.getD j 0) - l.getD i 0) = 2 * l.getD j 0 - l.getD i 0 := by
  have h1 := hb _ (mem_at hi)
  have h2 := hb _ (mem_at hj)
  rw [wr_id (n := 2 * _) (by omega), wr_id (by omega)]

theorem goal70 : con70.goal Try.prog (spOf [con97]) g70_sh [] lm30 := by
  have e : (∀ (l : List Int), l.length ≤ 1000 → ris l = true → (∀ x ∈ l, 0 ≤ x ∧ x ≤ 1000) → g70 l = some (stepsF l, ())) = con70.goal Try.prog (spOf [con97]) g70_sh [] lm30 := by kernel_rfl
  rw [← e]
  intro l hl hr hb
  rw [steps_after]
  unfold g70
  refine (whileO_chk (st := fun i => ((((i : Nat) : Int), ()) : Int × Unit)) (lo := 0) (hi := l.length) (Q := afterQ l) (x := ((false, ()) : Bool × Unit)) (y := ((true, ()) : Bool × Unit)) (by omega) all_chk (fun i _ hi => ?_) ?_).trans (by rw [cond_eta])
  · dsimp only
    have hw : wr .i64 ((i : Int) + 1) = ((i + 1 : Nat) : Int) := cast1 (by omega)
    rw [cond_t (ilt_iff.2 (by omega)), hw, gd_pos (by omega), gd_pos (by omega)]
    refine whileO_chk (st := fun d => ((((d : Nat) : Int), ()) : Int × Unit)) (lo := 0) (hi := l.length - (i + 1)) (Q := fun d => stepQ l i (i + 1 + d)) (x := Lp.out ((false, ()) : Bool × Unit)) (y := Lp.go ((((i + 1 : Nat) : Int), ()) : Int × Unit)) (by omega) all_chk (fun d _ hd => ?_) ?_
    · unfold g70_l0
      dsimp only
      have hdl : (List.drop (((i + 1 : Nat) : Int)).toNat l).length = l.length - (i + 1) := by rw [List.length_drop, Int.toNat_natCast]
      have hg : (List.drop (((i + 1 : Nat) : Int)).toNat l).getD d 0 = l.getD (i + 1 + d) 0 := by
        rw [gd_at (by rw [hdl]; exact hd), gd_at (by omega), List.getElem_drop]
        congr 1
      rw [hw, hdl, Int.toNat_natCast (n := d), Int.toNat_natCast (n := i), hg, step_wr hb hi (by omega), cond_t (ilt_iff.2 (by omega)), gd_pos (by omega), gd_pos hl, gd_pos hr, cast1 (by omega)]
      unfold stepQ
      cases l.contains (2 * l.getD (i + 1 + d) 0 - l.getD i 0) <;> rfl
    · unfold g70_l0
      dsimp only
      have hdl : (List.drop (((i + 1 : Nat) : Int)).toNat l).length = l.length - (i + 1) := by rw [List.length_drop, Int.toNat_natCast]
      rw [hw, hdl, cond_f (ilt_false.2 (by omega))]
  · dsimp only
    rw [cond_f (ilt_false.2 (by omega))]
set_option maxRecDepth 100000 in
theorem ok70 : con70.Ok Try.prog := Con.of_goal mixed (okC ok97 okN) con70 goal70

theorem goal41 : con41.goal Try.prog (spOf [con60]) g41_sh [] lm30 := by
  have e : (∀ (l : List Int), l.length ≤ 1000 → (∀ x ∈ l, 0 ≤ x ∧ x ≤ 1000) → g41 l = some (stepsF l, ())) = con41.goal Try.prog (spOf [con60]) g41_sh [] lm30 := by kernel_rfl
  rw [← e]
  intro l hl hb
  have hs : small l := by unfold small; omega
  unfold g41
  refine (whileO_chk (st := fun i => ((((i : Nat) : Int), ()) : Int × Unit)) (lo := 0) (hi := l.length) (b := stepsF l) (Q := fun j => (List.range j).all fun i => stepQ l i j) (x := ((false, ()) : Bool × Unit)) (y := ((true, ()) : Bool × Unit)) (by omega) all_chk (fun j _ hj => ?_) ?_).trans (by rw [cond_eta])
  · dsimp only
    rw [cond_t (ilt_iff.2 (by omega)), gd_pos (by omega), gd_pos (by omega)]
    refine whileO_chk (st := fun d => ((((d : Nat) : Int), ()) : Int × Unit)) (lo := 0) (hi := j) (Q := fun i => stepQ l i j) (x := Lp.out ((false, ()) : Bool × Unit)) (y := Lp.go ((((j + 1 : Nat) : Int), ()) : Int × Unit)) (by omega) all_chk (fun i _ hi => ?_) ?_
    · unfold g41_l0
      dsimp only
      have htl : (List.take ((j : Int)).toNat l).length = j := by rw [List.length_take, Int.toNat_natCast]; omega
      have hg : (List.take ((j : Int)).toNat l).getD i 0 = l.getD i 0 := by
        rw [gd_at (by rw [htl]; exact hi), gd_at (by omega), List.getElem_take]
      rw [htl, Int.toNat_natCast (n := i), hg, Int.toNat_natCast (n := j), step_wr hb (by omega) hj, cond_t (ilt_iff.2 (by omega)), gd_pos (by omega), gd_pos hs, cast1 (by omega)]
      unfold stepQ
      cases l.contains (2 * l.getD j 0 - l.getD i 0) <;> rfl
    · unfold g41_l0
      dsimp only
      have htl : (List.take ((j : Int)).toNat l).length = j := by rw [List.length_take, Int.toNat_natCast]; omega
      rw [htl, cond_f (ilt_false.2 (by omega)), cast1 (by omega)]
  · dsimp only
    rw [cond_f (ilt_false.2 (by omega))]
set_option maxRecDepth 100000 in
theorem ok41 : con41.Ok Try.prog := Con.of_goal mixed (okC ok60 okN) con41 goal41

/-! ### The functions -/
end Go.Caps
