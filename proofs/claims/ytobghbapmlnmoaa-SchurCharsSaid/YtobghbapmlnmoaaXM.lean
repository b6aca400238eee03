/- Characters: contracts. -/
import Derived.Test.YtobghbapmlnmoaaXJ
import Derived.Test.YtobghbapmlnmoaaSS
import Derived.Test.YtobghbapmlnmoaaXF
set_option linter.unusedVariables false
set_option linter.unusedSimpArgs false
namespace Go.Schur
open Go Go.Ab Go.Proofs
def beadsF (l : List Int) : List Int := (List.range l.length).map fun (i : Nat) => l.getD i 0 + l.length - 1 - i
def insI (x : Int) : List Int → List Int
  | [] => [x]
  | y :: l => if x ≤ y then x :: y :: l else y :: insI x l
def insS : List Int → List Int
  | [] => []
  | x :: l => insI x (insS l)
/-- What beads say: rows that fall. -/
def ofF (b : List Int) : List Int := ((List.range b.length).reverse.map fun (k : Nat) => (insS b).getD k 0 - k).filter fun x => decide (0 < x)
def rowsF (b : List Int) (x n : Int) : Int := 1 + (b.filter fun y => decide (x - n < y) && decide (y < x)).length
/-- All ways to take a rim away: what is left, how many rows it has. -/
def rimL (b : List Int) (n : Int) : List Nat → List (List Int × Int)
  | [] => []
  | i :: is => if b.getD i 0 < n ∨ (b.getD i 0 - n) ∈ b then rimL b n is else (ofF (b.set i (b.getD i 0 - n)), rowsF b (b.getD i 0) n) :: rimL b n is
def rimS (l : List Int) (n : Int) : List (List Int × Int) := rimL (beadsF l) n (List.range l.length)
def stepC (D : List Int → Int) (out : Int) (a : List Int × Int) : Int := if Int.tmod a.2 2 = 0 then wr .i64 (out - D a.1) else wr .i64 (out + D a.1)
def chF : List Int → List Int → Int
  | _, [] => 1
  | l, n :: m => (rimS l n).foldl (stepC fun c => chF c m) 0
def rimO (l : List Int) (n : Int) (m : List Int) (out : Int) : Int := (rimS l n).foldl (stepC fun c => chF c m) out
def preC (k : Nat) (l m : List Int) : Prop := shapeB l = true ∧ shapeB m = true ∧ boxW l = boxW m ∧ m.length < k
noncomputable def con140 : Con := mkC 140 [.d LI] [LI] (fun (l : List Int) => [shapeB l = true]) (fun (l : List Int) => (beadsF l, ()))
noncomputable def g140 (x0 : List Int) : Option (List Int × Unit) := gd ((0 : Nat) = (0 : Nat)) (whileO (fun (d1 : Int × List Int × Unit) => bif ilt d1.1 (↑(List.length x0) : Int) then gd ((0 : Int) ≤ d1.1 ∧ d1.1 < (↑(List.length x0) : Int)) (gd (List.length d1.2.1 ≤ List.length d1.2.1) (gd ((List.length d1.2.1 + (1 : Nat)) * (8 : Nat) ≤ (1099511627776 : Nat)) (gd (List.length d1.2.1 + (1 : Nat) = List.length (List.take (List.length d1.2.1) d1.2.1 ++ wr IntKind.i64 (wr IntKind.i64 (wr IntKind.i64 (List.getD x0 (Int.toNat d1.1) (0 : Int) + (↑(List.length x0) : Int)) - (1 : Int)) - d1.1) :: ([] : List Int))) (some (Lp.go ((wr IntKind.i64 (d1.1 + (1 : Int)), List.take (List.length d1.2.1) d1.2.1 ++ wr IntKind.i64 (wr IntKind.i64 (wr IntKind.i64 (List.getD x0 (Int.toNat d1.1) (0 : Int) + (↑(List.length x0) : Int)) - (1 : Int)) - d1.1) :: ([] : List Int), ()) : Int × List Int × Unit)))))) else gd ((0 : Nat) + List.length d1.2.1 ≤ List.length d1.2.1) (some (Lp.out ((List.take (List.length d1.2.1) (List.drop (0 : Nat) d1.2.1), ()) : List Int × Unit)))) (((0 : Int), ([] : List Int), ()) : Int × List Int × Unit))
noncomputable def g140_sh : List LSh := LSh.mk (((3, TV.slf (0) (1)) : Nat × TV) :: ((8, TV.v (Ty.int IntKind.i64)) : Nat × TV) :: ([] : List (Nat × TV))) (TB.arr (Ty.int IntKind.i64) true :: ([] : List TB)) :: ([] : List LSh)
def ixF (l : List Int) (x : Int) : Int := if x ∈ l then (l.idxOf x : Nat) else -1
noncomputable def con145 : Con := mkC 145 [.d LI, .d I64] [I64] (fun (l : List Int) (x : Int) => [l.length ≤ 1000]) (fun (l : List Int) (x : Int) => (ixF l x, ()))
noncomputable def g145 (x0 : List Int) (x1 : Int) : Option (Int × Unit) := whileO (fun (d2 : Int × Unit) => bif ilt d2.1 (↑(List.length x0) : Int) then gd ((0 : Int) ≤ d2.1 ∧ d2.1 < (↑(List.length x0) : Int)) (bif ieq x1 (List.getD x0 (Int.toNat d2.1) (0 : Int)) then some (Lp.out ((d2.1, ()) : Int × Unit)) else some (Lp.go ((wr IntKind.i64 (d2.1 + (1 : Int)), ()) : Int × Unit))) else some (Lp.out (((-1 : Int), ()) : Int × Unit))) (((0 : Int), ()) : Int × Unit)
noncomputable def g145_sh : List LSh := LSh.mk (((8, TV.v (Ty.int IntKind.i64)) : Nat × TV) :: ([] : List (Nat × TV))) ([] : List TB) :: ([] : List LSh)
def hasF (l : List Int) (x : Int) : Bool := decide (x ∈ l)
noncomputable def con141 : Con := mkC 141 [.d LI, .d I64] [.bool] (fun (l : List Int) (x : Int) => [l.length ≤ 1000]) (fun (l : List Int) (x : Int) => (hasF l x, ()))
noncomputable def g141 (x0 : List Int) (x1 : Int) : Option (Bool × Unit) := gd (List.length x0 ≤ (1000 : Nat)) (some ((ile (0 : Int) (ixF x0 x1), ()) : Bool × Unit))
noncomputable def g141_sh : List LSh := ([] : List LSh)
noncomputable def con142 : SCon := mkS 142 [.slf 0 1] [.arr I64 true] [.v LI] [.dead] (fun (b : List Int) => [b.length ≤ 8 ∧ ∀ x ∈ b, -100 ≤ x ∧ x ≤ 100]) (fun (b : List Int) => (ofF b, ()))
noncomputable def g142 (x0 : List Int) : Option (List Int × Unit) := gd (List.length x0 = List.length x0) (gd (List.length x0 < (4611686018427387904 : Nat)) (gd ((0 : Nat) = (0 : Nat)) (whileO (fun (d1 : Int × Int × List Int × List Int × Unit) => bif ile (0 : Int) d1.2.1 then gd ((0 : Int) ≤ d1.2.1 ∧ d1.2.1 < (↑(Int.toNat d1.1) : Int)) (gd ((0 : Nat) + Int.toNat d1.2.1 < List.length d1.2.2.1) (bif ilt (0 : Int) (wr IntKind.i64 (List.getD d1.2.2.1 ((0 : Nat) + Int.toNat d1.2.1) (0 : Int) - d1.2.1)) then gd (List.length d1.2.2.2.1 ≤ List.length d1.2.2.2.1) (gd ((List.length d1.2.2.2.1 + (1 : Nat)) * (8 : Nat) ≤ (1099511627776 : Nat)) (gd (List.length d1.2.2.2.1 + (1 : Nat) = List.length (List.take (List.length d1.2.2.2.1) d1.2.2.2.1 ++ wr IntKind.i64 (List.getD d1.2.2.1 ((0 : Nat) + Int.toNat d1.2.1) (0 : Int) - d1.2.1) :: ([] : List Int))) (some (Lp.go (((↑(Int.toNat d1.1) : Int), wr IntKind.i64 (d1.2.1 - (1 : Int)), d1.2.2.1, List.take (List.length d1.2.2.2.1) d1.2.2.2.1 ++ wr IntKind.i64 (List.getD d1.2.2.1 ((0 : Nat) + Int.toNat d1.2.1) (0 : Int) - d1.2.1) :: ([] : List Int), ()) : Int × Int × List Int × List Int × Unit))))) else gd (List.length d1.2.2.2.1 = List.length d1.2.2.2.1) (some (Lp.go (((↑(Int.toNat d1.1) : Int), wr IntKind.i64 (d1.2.1 - (1 : Int)), d1.2.2.1, d1.2.2.2.1, ()) : Int × Int × List Int × List Int × Unit))))) else gd ((0 : Nat) + List.length d1.2.2.2.1 ≤ List.length d1.2.2.2.1) (some (Lp.out ((List.take (List.length d1.2.2.2.1) (List.drop (0 : Nat) d1.2.2.2.1), ()) : List Int × Unit)))) (((↑(List.length x0) : Int), wr IntKind.i64 ((↑(List.length x0) : Int) - (1 : Int)), sortL x0, ([] : List Int), ()) : Int × Int × List Int × List Int × Unit))))
noncomputable def g142_sh : List LSh := LSh.mk3 (((0, TV.sl (1) (1) (0)) : Nat × TV) :: ((3, TV.slf (2) (1)) : Nat × TV) :: ((4, TV.v (Ty.int IntKind.i64)) : Nat × TV) :: ([] : List (Nat × TV))) (TB.dead :: TB.arr (Ty.int IntKind.i64) true :: TB.arr (Ty.int IntKind.i64) true :: ([] : List TB)) (1) :: ([] : List LSh)
noncomputable def con105 (k : Nat) : SCon := mkS 105 [.v LI, .v LI] [] [.v I64] [] (fun (l m : List Int) => [preC k l m]) (fun (l m : List Int) => (chF l m, ()))
noncomputable def con130 (k : Nat) : SCon := mkS 130 [.v LI, .v I64, .ref 0 1 0 0, .ref 1 1 0 0] [.cells [.v I64], .cells [.v LI]] [] [.cells [.v I64], .cells [.v LI]] (fun (l : List Int) (r out : Int) (m : List Int) => [0 < m.length ∧ preC k l (m.drop 1)]) (fun (l : List Int) (r out : Int) (m : List Int) => (stepC (fun c => chF c (m.drop 1)) out (l, r), m, ()))
noncomputable def g130 (n : Nat) (x0 : List Int) (x1 x2 : Int) (x3 : List Int) : Option (Int × List Int × Unit) := gd ((2 : Int) ≠ (0 : Int)) (bif ieq (Int.tmod x1 (2 : Int)) (0 : Int) then gd ((0 : Int) ≤ (1 : Int) ∧ (1 : Int) ≤ (↑(List.length x3) : Int)) (gd (preC n x0 (List.drop (1 : Nat) x3)) (some ((wr IntKind.i64 (x2 - chF x0 (List.drop (1 : Nat) x3)), x3, ()) : Int × List Int × Unit))) else gd ((0 : Int) ≤ (1 : Int) ∧ (1 : Int) ≤ (↑(List.length x3) : Int)) (gd (preC n x0 (List.drop (1 : Nat) x3)) (some ((wr IntKind.i64 (x2 + chF x0 (List.drop (1 : Nat) x3)), x3, ()) : Int × List Int × Unit))))
noncomputable def g130_sh : List LSh := ([] : List LSh)
abbrev F130 : TV := .fn 130 (.cons (.ref 0 1 0 0) (.cons (.ref 1 1 0 0) .nil))
def preT (k : Nat) (l : List Int) (n : Int) (m : List Int) : Prop := 0 < m.length ∧ n = m.getD 0 0 ∧ preC (k + 1) l m
noncomputable def con129 (k : Nat) : SCon := mkS 129 [.v LI, .v I64, F130] [.cells [.v I64], .cells [.v LI]] [] [.cells [.v I64], .cells [.v LI]] (fun (l : List Int) (n out : Int) (m : List Int) => [preT k l n m]) (fun (l : List Int) (n out : Int) (m : List Int) => (rimO l n (m.drop 1) out, m, ()))
noncomputable def g129_l0 (n : Nat) (x0 : List Int) (x1 : Int) (d5 : Int × Int × List Int × Unit) (d6 : Int × Int × Int × List Int × Unit) : Option (Lp (Int × Int × Int × List Int × Unit) (Lp (Int × Int × List Int × Unit) (Int × List Int × Unit))) := bif ilt d6.2.1 (↑(List.length (beadsF x0)) : Int) then gd ((0 : Int) ≤ d6.2.1 ∧ d6.2.1 < (↑(List.length (beadsF x0)) : Int)) (gd (ilt (wr IntKind.i64 (List.getD (beadsF x0) (Int.toNat d5.1) (0 : Int) - x1)) (List.getD (beadsF x0) (Int.toNat d6.2.1) (0 : Int)) = true → ilt (wr IntKind.i64 (List.getD (beadsF x0) (Int.toNat d5.1) (0 : Int) - x1)) (List.getD (beadsF x0) (Int.toNat d6.2.1) (0 : Int)) = true ∧ ilt (wr IntKind.i64 (List.getD (beadsF x0) (Int.toNat d5.1) (0 : Int) - x1)) (List.getD (beadsF x0) (Int.toNat d6.2.1) (0 : Int)) = true) (gd (ilt (wr IntKind.i64 (List.getD (beadsF x0) (Int.toNat d5.1) (0 : Int) - x1)) (List.getD (beadsF x0) (Int.toNat d6.2.1) (0 : Int)) = true → ilt (wr IntKind.i64 (List.getD (beadsF x0) (Int.toNat d5.1) (0 : Int) - x1)) (List.getD (beadsF x0) (Int.toNat d6.2.1) (0 : Int)) = true) (bif bif ilt (wr IntKind.i64 (List.getD (beadsF x0) (Int.toNat d5.1) (0 : Int) - x1)) (List.getD (beadsF x0) (Int.toNat d6.2.1) (0 : Int)) then ilt (List.getD (beadsF x0) (Int.toNat d6.2.1) (0 : Int)) (List.getD (beadsF x0) (Int.toNat d5.1) (0 : Int)) else false then some (Lp.go ((wr IntKind.i64 (d6.1 + (1 : Int)), wr IntKind.i64 (d6.2.1 + (1 : Int)), d6.2.2.1, d6.2.2.2.1, ()) : Int × Int × Int × List Int × Unit)) else some (Lp.go ((d6.1, wr IntKind.i64 (d6.2.1 + (1 : Int)), d6.2.2.1, d6.2.2.2.1, ()) : Int × Int × Int × List Int × Unit))))) else gd (List.length (beadsF x0) ≤ (100000 : Nat)) (gd ((0 : Int) ≤ d5.1 ∧ d5.1 < (↑(List.length (beadsF x0)) : Int)) (gd ((0 : Nat) + Int.toNat d5.1 < List.length (beadsF x0)) (gd (List.length (beadsF x0) = List.length (List.set (beadsF x0) ((0 : Nat) + Int.toNat d5.1) (wr IntKind.i64 (List.getD (beadsF x0) (Int.toNat d5.1) (0 : Int) - x1)))) (gd (List.length (List.set (beadsF x0) ((0 : Nat) + Int.toNat d5.1) (wr IntKind.i64 (List.getD (beadsF x0) (Int.toNat d5.1) (0 : Int) - x1))) ≤ (8 : Nat) ∧ ∀ (x7 : Int), List.Mem x7 (List.set (beadsF x0) ((0 : Nat) + Int.toNat d5.1) (wr IntKind.i64 (List.getD (beadsF x0) (Int.toNat d5.1) (0 : Int) - x1))) → (-100 : Int) ≤ x7 ∧ x7 ≤ (100 : Int)) (gd ((0 : Nat) < List.length d6.2.2.2.1 ∧ preC n (ofF (List.set (beadsF x0) ((0 : Nat) + Int.toNat d5.1) (wr IntKind.i64 (List.getD (beadsF x0) (Int.toNat d5.1) (0 : Int) - x1)))) (List.drop (1 : Nat) d6.2.2.2.1)) (some (Lp.out (Lp.go ((wr IntKind.i64 (d5.1 + (1 : Int)), stepC (fun (d7 : List Int) => chF d7 (List.drop (1 : Nat) d6.2.2.2.1)) d6.2.2.1 ((ofF (List.set (beadsF x0) ((0 : Nat) + Int.toNat d5.1) (wr IntKind.i64 (List.getD (beadsF x0) (Int.toNat d5.1) (0 : Int) - x1))), d6.1) : List Int × Int), d6.2.2.2.1, ()) : Int × Int × List Int × Unit)))))))))
noncomputable def g129 (n : Nat) (x0 : List Int) (x1 x2 : Int) (x3 : List Int) : Option (Int × List Int × Unit) := gd (shapeB x0 = true) (whileO (fun (d5 : Int × Int × List Int × Unit) => bif ilt d5.1 (↑(List.length (beadsF x0)) : Int) then gd ((0 : Int) ≤ d5.1 ∧ d5.1 < (↑(List.length (beadsF x0)) : Int)) (gd ((!ilt (List.getD (beadsF x0) (Int.toNat d5.1) (0 : Int)) x1) = true → (!ilt (List.getD (beadsF x0) (Int.toNat d5.1) (0 : Int)) x1) = true ∧ (!ilt (List.getD (beadsF x0) (Int.toNat d5.1) (0 : Int)) x1) = true) (gd ((!ilt (List.getD (beadsF x0) (Int.toNat d5.1) (0 : Int)) x1) = true → (!ilt (List.getD (beadsF x0) (Int.toNat d5.1) (0 : Int)) x1) = true ∧ (!ilt (List.getD (beadsF x0) (Int.toNat d5.1) (0 : Int)) x1) = true ∧ List.length (beadsF x0) ≤ (1000 : Nat)) (gd (ilt (List.getD (beadsF x0) (Int.toNat d5.1) (0 : Int)) x1 = false → (!ilt (List.getD (beadsF x0) (Int.toNat d5.1) (0 : Int)) x1) = true) (bif bif ilt (List.getD (beadsF x0) (Int.toNat d5.1) (0 : Int)) x1 then true else hasF (beadsF x0) (wr IntKind.i64 (List.getD (beadsF x0) (Int.toNat d5.1) (0 : Int) - x1)) then some (Lp.go ((wr IntKind.i64 (d5.1 + (1 : Int)), d5.2.1, d5.2.2.1, ()) : Int × Int × List Int × Unit)) else whileO (g129_l0 n x0 x1 d5) (((1 : Int), (0 : Int), d5.2.1, d5.2.2.1, ()) : Int × Int × Int × List Int × Unit))))) else some (Lp.out ((d5.2.1, d5.2.2.1, ()) : Int × List Int × Unit))) (((0 : Int), x2, x3, ()) : Int × Int × List Int × Unit))
noncomputable def g129_sh : List LSh := LSh.mk3 (((2, TV.fn (130) (TV.cons (TV.ref (0) (1 : Nat) (0 : Nat) (0 : Nat)) (TV.cons (TV.ref (1) (1 : Nat) (0 : Nat) (0 : Nat)) TV.nil))) : Nat × TV) :: ((17, TV.v (Ty.int IntKind.i64)) : Nat × TV) :: ([] : List (Nat × TV))) (TB.cells (TV.v (Ty.int IntKind.i64) :: ([] : List TV)) :: TB.cells (TV.v (Ty.slice (Ty.int IntKind.i64)) :: ([] : List TV)) :: ([] : List TB)) (2) :: LSh.mk3 (((2, TV.fn (130) (TV.cons (TV.ref (0) (1 : Nat) (0 : Nat) (0 : Nat)) (TV.cons (TV.ref (1) (1 : Nat) (0 : Nat) (0 : Nat)) TV.nil))) : Nat × TV) :: ((9, TV.v (Ty.int IntKind.i64)) : Nat × TV) :: ((34, TV.v (Ty.int IntKind.i64)) : Nat × TV) :: ([] : List (Nat × TV))) (TB.cells (TV.v (Ty.int IntKind.i64) :: ([] : List TV)) :: TB.cells (TV.v (Ty.slice (Ty.int IntKind.i64)) :: ([] : List TV)) :: ([] : List TB)) (2) :: ([] : List LSh)
noncomputable def g105 (n : Nat) (x0 x1 : List Int) : Option (Int × Unit) := bif ieq (↑(List.length x1) : Int) (0 : Int) then some (((1 : Int), ()) : Int × Unit) else gd ((0 : Int) ≤ (0 : Int) ∧ (0 : Int) < (↑(List.length x1) : Int)) (gd (preT n x0 (List.getD x1 (0 : Nat) (0 : Int)) x1) (some ((rimO x0 (List.getD x1 (0 : Nat) (0 : Int)) (List.drop (1 : Nat) x1) (0 : Int), ()) : Int × Unit)))
noncomputable def g105_sh : List LSh := ([] : List LSh)
def charF (l m : List Int) : Int × Int × Unit := if shapeB l = true ∧ shapeB m = true ∧ boxW l = boxW m then (chF l m, 0, ()) else (0, 2, ())
noncomputable def con62 : Con := mkC 62 [.d LI, .d LI] [I64, I64] (fun (l m : List Int) => [l.length ≤ 1000 ∧ m.length ≤ 1000]) (fun (l m : List Int) => charF l m)
noncomputable def g62 (x0 x1 : List Int) : Option (Int × Int × Unit) := gd (List.length x0 ≤ (1000 : Nat)) (gd ((!!shapeB x0) = true → (!!shapeB x0) = true ∧ List.length x1 ≤ (1000 : Nat)) (gd ((!!shapeB x0) = true → (!!shapeB x0) = true) (gd ((!shapeB x0) = false → (!!shapeB x0) = true) (gd ((!bif !shapeB x0 then true else !shapeB x1) = true → (!bif !shapeB x0 then true else !shapeB x1) = true ∧ List.length x0 ≤ (1000 : Nat)) (gd ((!bif !shapeB x0 then true else !shapeB x1) = true → (!bif !shapeB x0 then true else !shapeB x1) = true ∧ List.length x1 ≤ (1000 : Nat)) (gd ((!bif !shapeB x0 then true else !shapeB x1) = true → (!bif !shapeB x0 then true else !shapeB x1) = true ∧ (!bif !shapeB x0 then true else !shapeB x1) = true) (gd ((bif !shapeB x0 then true else !shapeB x1) = false → (!bif !shapeB x0 then true else !shapeB x1) = true) (bif bif bif !shapeB x0 then true else !shapeB x1 then true else !ieq (boxW x0) (boxW x1) then some (((0 : Int), (2 : Int), ()) : Int × Int × Unit) else gd (preC (9 : Nat) x0 x1) (some ((chF x0 x1, (0 : Int), ()) : Int × Int × Unit))))))))))
noncomputable def g62_sh : List LSh := ([] : List LSh)

def h140 (x0 : List Int) : Option (List Int × Unit) := gdD ((0 : Nat) = (0 : Nat)) (whileF 30 (fun (d1 : Int × List Int × Unit) => bif ilt d1.1 (↑(List.length x0) : Int) then gdD ((0 : Int) ≤ d1.1 ∧ d1.1 < (↑(List.length x0) : Int)) (gdD (List.length d1.2.1 ≤ List.length d1.2.1) (gdD ((List.length d1.2.1 + (1 : Nat)) * (8 : Nat) ≤ (1099511627776 : Nat)) (gdD (List.length d1.2.1 + (1 : Nat) = List.length (List.take (List.length d1.2.1) d1.2.1 ++ wr IntKind.i64 (wr IntKind.i64 (wr IntKind.i64 (List.getD x0 (Int.toNat d1.1) (0 : Int) + (↑(List.length x0) : Int)) - (1 : Int)) - d1.1) :: ([] : List Int))) (some (Lp.go ((wr IntKind.i64 (d1.1 + (1 : Int)), List.take (List.length d1.2.1) d1.2.1 ++ wr IntKind.i64 (wr IntKind.i64 (wr IntKind.i64 (List.getD x0 (Int.toNat d1.1) (0 : Int) + (↑(List.length x0) : Int)) - (1 : Int)) - d1.1) :: ([] : List Int), ()) : Int × List Int × Unit)))))) else gdD ((0 : Nat) + List.length d1.2.1 ≤ List.length d1.2.1) (some (Lp.out ((List.take (List.length d1.2.1) (List.drop (0 : Nat) d1.2.1), ()) : List Int × Unit)))) (((0 : Int), ([] : List Int), ()) : Int × List Int × Unit))
theorem h140_le (x0 : List Int) : LeO (h140 x0) (g140 x0) := by
  unfold h140 g140
  repeat' first | exact leO_refl | refine leO_gd ?_ | refine leO_cond ?_ ?_ | refine leO_map ?_ | refine leO_eqO ?_ ?_ | (refine leO_while fun s => ?_; try dsimp only)
end Go.Schur

set_option linter.unusedVariables false
set_option linter.unusedSimpArgs false
namespace Go.Schur
open Go Go.Ab Go.Proofs

theorem insI_perm {x : Int} : ∀ {l : List Int}, (insI x l).Perm (x :: l)
  | [] => List.Perm.refl _
  | y :: l => by
    rw [insI]
    split
    · exact List.Perm.refl _
    · exact (List.Perm.cons y insI_perm).trans (List.Perm.swap x y l)
theorem insI_pw {x : Int} : ∀ {l : List Int}, l.Pairwise (· ≤ ·) → (insI x l).Pairwise (· ≤ ·)
  | [], _ => by simp [insI]
  | y :: l, h => by
    obtain ⟨h1, h2⟩ := List.pairwise_cons.1 h
    rw [insI]
    split
    · rename_i hxy
      refine List.pairwise_cons.2 ⟨fun z hz => ?_, h⟩
      rcases List.mem_cons.1 hz with rfl | hz
      · exact hxy
      · have := h1 z hz; omega
    · rename_i hxy
      refine List.pairwise_cons.2 ⟨fun z hz => ?_, insI_pw h2⟩
      have := insI_perm.mem_iff.1 hz
      rcases List.mem_cons.1 this with rfl | hz
      · omega
      · exact h1 z hz
theorem insS_perm : ∀ {l : List Int}, (insS l).Perm l
  | [] => List.Perm.refl _
  | x :: l => insI_perm.trans (List.Perm.cons x insS_perm)
theorem insS_pw : ∀ {l : List Int}, (insS l).Pairwise (· ≤ ·)
  | [] => by simp [insS]
  | x :: l => insI_pw insS_pw
theorem sort_ins {l : List Int} : sortL l = insS l :=
  List.Perm.eq_of_pairwise (le := (· ≤ ·)) (fun a b _ _ h1 h2 => by omega) sortL_pw insS_pw (sortL_perm.trans insS_perm.symm)

theorem goal142 : con142.goal Try.prog (spS [sortCon 61 true] []) g142_sh [8] lm30 := by
  have e : (∀ (b : List Int), (b.length ≤ 8 ∧ ∀ x ∈ b, -100 ≤ x ∧ x ≤ 100) → g142 b = some (ofF b, ())) = con142.goal Try.prog (spS [sortCon 61 true] []) g142_sh [8] lm30 := by kernel_rfl
  rw [← e]
  rintro b ⟨h1, h2⟩
  unfold g142
  rw [gd_pos rfl, gd_pos (by omega), gd_pos rfl, sort_ins]
  have hl : (insS b).length = b.length := insS_perm.length_eq
  have hm : ∀ x ∈ insS b, -100 ≤ x ∧ x ≤ 100 := fun x hx => h2 x (insS_perm.mem_iff.1 hx)
  generalize hs : insS b = s at hl hm
  let fl : Nat → List Int := fun k => ((List.range k).reverse.map fun (j : Nat) => s.getD j 0 - j).filter fun x => decide (0 < x)
  have hfl : ∀ k, fl (k + 1) = (if 0 < s.getD k 0 - k then [s.getD k 0 - k] else []) ++ fl k := fun k => by
    show List.filter _ (List.map _ (List.range (k + 1)).reverse) = _
    rw [List.range_succ, List.reverse_append]
    simp only [List.reverse_cons, List.reverse_nil, List.nil_append, List.cons_append, List.map_cons, List.filter_cons]
    by_cases h : 0 < s.getD k 0 - (k : Int)
    · rw [if_pos h, if_pos (decide_eq_true h)]; rfl
    · rw [if_neg h, if_neg (by simpa using h)]; rfl
  have key : ∀ (k : Nat) (o : List Int), k ≤ b.length → o.length + k ≤ b.length → whileO (fun (d1 : Int × Int × List Int × List Int × Unit) => bif ile (0 : Int) d1.2.1 then gd ((0 : Int) ≤ d1.2.1 ∧ d1.2.1 < (↑(Int.toNat d1.1) : Int)) (gd ((0 : Nat) + Int.toNat d1.2.1 < List.length d1.2.2.1) (bif ilt (0 : Int) (wr IntKind.i64 (List.getD d1.2.2.1 ((0 : Nat) + Int.toNat d1.2.1) (0 : Int) - d1.2.1)) then gd (List.length d1.2.2.2.1 ≤ List.length d1.2.2.2.1) (gd ((List.length d1.2.2.2.1 + (1 : Nat)) * (8 : Nat) ≤ (1099511627776 : Nat)) (gd (List.length d1.2.2.2.1 + (1 : Nat) = List.length (List.take (List.length d1.2.2.2.1) d1.2.2.2.1 ++ wr IntKind.i64 (List.getD d1.2.2.1 ((0 : Nat) + Int.toNat d1.2.1) (0 : Int) - d1.2.1) :: ([] : List Int))) (some (Lp.go (((↑(Int.toNat d1.1) : Int), wr IntKind.i64 (d1.2.1 - (1 : Int)), d1.2.2.1, List.take (List.length d1.2.2.2.1) d1.2.2.2.1 ++ wr IntKind.i64 (List.getD d1.2.2.1 ((0 : Nat) + Int.toNat d1.2.1) (0 : Int) - d1.2.1) :: ([] : List Int), ()) : Int × Int × List Int × List Int × Unit))))) else gd (List.length d1.2.2.2.1 = List.length d1.2.2.2.1) (some (Lp.go (((↑(Int.toNat d1.1) : Int), wr IntKind.i64 (d1.2.1 - (1 : Int)), d1.2.2.1, d1.2.2.2.1, ()) : Int × Int × List Int × List Int × Unit))))) else gd ((0 : Nat) + List.length d1.2.2.2.1 ≤ List.length d1.2.2.2.1) (some (Lp.out ((List.take (List.length d1.2.2.2.1) (List.drop (0 : Nat) d1.2.2.2.1), ()) : List Int × Unit)))) (((b.length : Nat) : Int), (k : Int) - 1, s, o, ()) = some (o ++ fl k, ()) := by
    intro k
    induction k with
    | zero =>
      intro o _ _
      refine whileO_out ?_
      have : fl 0 = [] := rfl
      simp only [ile_false.2 (show ((0 : Nat) : Int) - 1 < 0 by omega), cond_false, List.drop_zero, List.take_length, this, List.append_nil]
      rw [gd_pos (by omega)]
    | succ k ih =>
      intro o hk ho
      have hks : k < s.length := by omega
      have hx := hm (s.getD k 0) (getD_mem hks)
      have ek : ((k + 1 : Nat) : Int) - 1 = (k : Int) := by omega
      have w1 : wr .i64 ((k : Int) - 1) = (k : Int) - 1 := wr_id (by omega)
      have w2 : wr .i64 (s.getD k 0 - (k : Int)) = s.getD k 0 - (k : Int) := wr_id (by omega)
      rw [ek, hfl]
      by_cases hpos : 0 < s.getD k 0 - (k : Int)
      · refine (whileO_go (s' := (((b.length : Nat) : Int), (k : Int) - 1, s, o ++ [s.getD k 0 - (k : Int)], ())) ?_).trans ((ih _ (by omega) (by simp; omega)).trans ?_)
        · simp only [ile_iff.2 (show (0 : Int) ≤ (k : Int) by omega), cond_true, Int.toNat_natCast, Nat.zero_add, w1, w2, ilt_iff.2 hpos, List.take_length]
          rw [gd_pos ⟨by omega, by omega⟩, gd_pos hks, gd_pos (Nat.le_refl _), gd_pos (by omega), gd_pos (by simp)]
        · rw [if_pos hpos, List.append_assoc]
      · refine (whileO_go (s' := (((b.length : Nat) : Int), (k : Int) - 1, s, o, ())) ?_).trans ((ih _ (by omega) (by omega)).trans ?_)
        · simp only [ile_iff.2 (show (0 : Int) ≤ (k : Int) by omega), cond_true, Int.toNat_natCast, Nat.zero_add, w1, w2, ilt_false.2 (show s.getD k 0 - (k : Int) ≤ 0 by omega), cond_false]
          rw [gd_pos ⟨by omega, by omega⟩, gd_pos hks, gd_true]
        · rw [if_neg hpos, List.nil_append]
  have w0 : wr .i64 ((b.length : Int) - 1) = (b.length : Int) - 1 := wr_id (by omega)
  rw [w0]
  have := key b.length [] (Nat.le_refl _) (by simp)
  rw [List.nil_append] at this
  rw [this]
  unfold ofF
  rw [hs]
set_option maxRecDepth 100000 in
theorem ok142 : con142.Ok Try.prog := SCon.of_goal mixed okN (okS (ok61 true) okS0) con142 goal142

theorem goal140 : con140.goal Try.prog (spOf []) g140_sh [] lm30 := by
  have e : (∀ (l : List Int), shapeB l = true → g140 l = some (beadsF l, ())) = con140.goal Try.prog (spOf []) g140_sh [] lm30 := by kernel_rfl
  rw [← e]
  intro l hl
  refine h140_le _ _ (all_shape (P := fun l => h140 l = some (beadsF l, ())) ?_ hl)
  decide +kernel
set_option maxRecDepth 100000 in
theorem ok140 : con140.Ok Try.prog := Con.of_goal mixed okN con140 goal140
theorem ixF_ge {l : List Int} {x : Int} : ile 0 (ixF l x) = hasF l x := by
  unfold ixF hasF
  by_cases h : x ∈ l
  · rw [if_pos h, decide_eq_true h, ile_iff]; omega
  · rw [if_neg h, decide_eq_false h, ile_false]; omega
theorem goal145 : con145.goal Try.prog (spOf []) g145_sh [] lm30 := by
  have e : (∀ (l : List Int) (x : Int), l.length ≤ 1000 → g145 l x = some (ixF l x, ())) = con145.goal Try.prog (spOf []) g145_sh [] lm30 := by kernel_rfl
  rw [← e]
  intro l x hl
  unfold g145
  have key : ∀ (c i : Nat), c + i = l.length → x ∉ l.take i → whileO (fun (d2 : Int × Unit) => bif ilt d2.1 (↑(List.length l) : Int) then gd ((0 : Int) ≤ d2.1 ∧ d2.1 < (↑(List.length l) : Int)) (bif ieq x (List.getD l (Int.toNat d2.1) (0 : Int)) then some (Lp.out ((d2.1, ()) : Int × Unit)) else some (Lp.go ((wr IntKind.i64 (d2.1 + (1 : Int)), ()) : Int × Unit))) else some (Lp.out (((-1 : Int), ()) : Int × Unit))) (((i : Nat) : Int), ()) = some (ixF l x, ()) := by
    intro c
    induction c with
    | zero =>
      intro i hi hn
      refine whileO_out ?_
      rw [List.take_of_length_le (by omega)] at hn
      simp only [ilt_false.2 (show (l.length : Int) ≤ (i : Int) by omega), cond_false]
      unfold ixF
      rw [if_neg hn]
    | succ c ih =>
      intro i hi hn
      have hlt : i < l.length := by omega
      have hg : l.getD i 0 = l[i] := by rw [List.getD_eq_getElem?_getD, List.getElem?_eq_getElem hlt]; rfl
      by_cases hx : x = l[i]
      · refine whileO_out ?_
        simp only [ilt_iff.2 (show (i : Int) < (l.length : Int) by omega), cond_true, Int.toNat_natCast, hg, ieq_iff.2 hx]
        rw [gd_pos ⟨by omega, by omega⟩]
        unfold ixF
        have hm : x ∈ l := hx ▸ List.getElem_mem hlt
        rw [if_pos hm]
        have : l.idxOf x = i := by
          have e1 : l = l.take i ++ (l[i] :: l.drop (i + 1)) := by rw [← List.drop_eq_getElem_cons hlt, List.take_append_drop]
          conv => lhs; rw [e1]
          rw [List.idxOf_append, if_neg hn, hx, List.idxOf_cons_self, List.length_take]; omega
        rw [this]
      · refine (whileO_go (s' := (((i + 1 : Nat) : Int), ())) ?_).trans (ih (i + 1) (by omega) ?_)
        · have w : wr .i64 ((i : Int) + 1) = (i + 1 : Nat) := (wr_id (by omega)).trans (by omega)
          simp only [ilt_iff.2 (show (i : Int) < (l.length : Int) by omega), cond_true, Int.toNat_natCast, hg, ieq_false.2 hx, cond_false, w]
          rw [gd_pos ⟨by omega, by omega⟩]
        · rw [List.take_succ_eq_append_getElem hlt, List.mem_append]
          rintro (h | h)
          · exact hn h
          · exact hx (List.mem_singleton.1 h)
  exact key l.length 0 (by omega) (by simp)
set_option maxRecDepth 100000 in
theorem ok145 : con145.Ok Try.prog := Con.of_goal mixed okN con145 goal145
theorem goal141 : con141.goal Try.prog (spOf [con145]) g141_sh [] lm30 := by
  have e : (∀ (l : List Int) (x : Int), l.length ≤ 1000 → g141 l x = some (hasF l x, ())) = con141.goal Try.prog (spOf [con145]) g141_sh [] lm30 := by kernel_rfl
  rw [← e]
  intro l x hl
  unfold g141
  rw [gd_pos hl, ixF_ge]
set_option maxRecDepth 100000 in
theorem ok141 : con141.Ok Try.prog := Con.of_goal mixed (okC ok145 okN) con141 goal141

/-- What a rim leaves. -/
def rimOk (p : List Nat) (n : Nat) : Bool := (List.range p.length).all fun i => decide ((beadsF (toI p)).getD i 0 < n) || (hasF (beadsF (toI p)) ((beadsF (toI p)).getD i 0 - n) || (shapeB (ofF ((beadsF (toI p)).set i ((beadsF (toI p)).getD i 0 - n))) && decide (boxW (ofF ((beadsF (toI p)).set i ((beadsF (toI p)).getD i 0 - n))) = boxW (toI p) - n)))
set_option maxRecDepth 100000 in
theorem rim_all : ∀ p ∈ allP, ∀ n ∈ List.range (p.sum + 1), rimOk p n = true := by decide +kernel
set_option maxRecDepth 100000 in
theorem beads_bd : ∀ p ∈ allP, ∀ x ∈ beadsF (toI p), 0 ≤ x ∧ x ≤ 16 := by decide +kernel
theorem beads_len {l : List Int} : (beadsF l).length = l.length := by simp [beadsF]

theorem goal130 (k : Nat) : (con130 k).goal Try.prog (spS [con105 k] []) g130_sh [] lm30 := by
  have e : (∀ (l : List Int) (r out : Int) (m : List Int), (0 < m.length ∧ preC k l (m.drop 1)) → g130 k l r out m = some (stepC (fun c => chF c (m.drop 1)) out (l, r), m, ())) = (con130 k).goal Try.prog (spS [con105 k] []) g130_sh [] lm30 := by kernel_rfl
  rw [← e]
  rintro l r out m ⟨h1, h2⟩
  unfold g130 stepC
  rw [gd_pos (by decide)]
  by_cases h : Int.tmod r 2 = 0
  · rw [ieq_iff.2 h, cond_true, gd_pos ⟨by omega, by omega⟩, gd_pos h2, if_pos h]
  · rw [ieq_false.2 h, cond_false, gd_pos ⟨by omega, by omega⟩, gd_pos h2, if_neg h]
theorem shape_head {p : List Nat} {m : List Int} (hm : shapeB m = true) (hl : 0 < m.length) : ∃ n : Nat, m.getD 0 0 = n ∧ 1 ≤ n ∧ n ≤ 8 ∧ boxW (m.drop 1) = boxW m - n ∧ shapeB (m.drop 1) = true := by
  have : ∀ p ∈ allP, 0 < p.length → shapeB ((toI p).drop 1) = true ∧ boxW ((toI p).drop 1) = boxW (toI p) - (p.getD 0 0 : Nat) ∧ 1 ≤ p.getD 0 0 ∧ p.getD 0 0 ≤ 8 := by decide +kernel
  obtain ⟨q, hq, rfl, _⟩ := shape_allP hm
  obtain ⟨h1, h2, h3, h4⟩ := this q hq (by simpa [toI] using hl)
  exact ⟨q.getD 0 0, toI_get, h3, h4, h2, h1⟩
theorem goal129 (k : Nat) : (con129 k).goal Try.prog (spS [con39s, con142, con130 k] [con140, con141]) g129_sh [] lm30 := by
  have e : (∀ (l : List Int) (n out : Int) (m : List Int), preT k l n m → g129 k l n out m = some (rimO l n (m.drop 1) out, m, ())) = (con129 k).goal Try.prog (spS [con39s, con142, con130 k] [con140, con141]) g129_sh [] lm30 := by kernel_rfl
  rw [← e]
  rintro l n0 out m ⟨hm0, rfl, hl, hm, hbox, hlen⟩
  obtain ⟨n, hn, hn1, hn8, hdb, hds⟩ := shape_head (p := []) hm hm0
  obtain ⟨p, hp, rfl, hp8, hp1, hps⟩ := shape_allP hl
  have hb1 := toI_box hp8.len hps
  have hpl := hp8.len
  have hbl : (beadsF (toI p)).length = p.length := by rw [beads_len]; simp [toI]
  have hnn : (n : Int) ≤ boxW m := by
    obtain ⟨q, hq, rfl, hq8, _, hqs⟩ := shape_allP hm
    have : ∀ q ∈ allP, ((q.getD 0 0 : Nat) : Int) ≤ boxW (toI q) := by decide +kernel
    have h2 := this q hq
    rw [toI_get] at hn
    omega
  have hbd := beads_bd p hp
  have hrim := rim_all p hp n (List.mem_range.2 (by omega))
  unfold rimOk at hrim
  rw [List.all_eq_true] at hrim
  unfold g129
  rw [hn, gd_pos hl]
  unfold rimO rimS
  rw [show (toI p).length = p.length by simp [toI]]
  generalize hbs : beadsF (toI p) = b at hbl hbd hrim
  have key : ∀ (c i : Nat) (o : Int), c + i = p.length → whileO (fun (d5 : Int × Int × List Int × Unit) => bif ilt d5.1 (↑(List.length b) : Int) then gd ((0 : Int) ≤ d5.1 ∧ d5.1 < (↑(List.length b) : Int)) (gd ((!ilt (List.getD b (Int.toNat d5.1) (0 : Int)) (n : Int)) = true → (!ilt (List.getD b (Int.toNat d5.1) (0 : Int)) (n : Int)) = true ∧ (!ilt (List.getD b (Int.toNat d5.1) (0 : Int)) (n : Int)) = true) (gd ((!ilt (List.getD b (Int.toNat d5.1) (0 : Int)) (n : Int)) = true → (!ilt (List.getD b (Int.toNat d5.1) (0 : Int)) (n : Int)) = true ∧ (!ilt (List.getD b (Int.toNat d5.1) (0 : Int)) (n : Int)) = true ∧ List.length b ≤ (1000 : Nat)) (gd (ilt (List.getD b (Int.toNat d5.1) (0 : Int)) (n : Int) = false → (!ilt (List.getD b (Int.toNat d5.1) (0 : Int)) (n : Int)) = true) (bif bif ilt (List.getD b (Int.toNat d5.1) (0 : Int)) (n : Int) then true else hasF b (wr IntKind.i64 (List.getD b (Int.toNat d5.1) (0 : Int) - (n : Int))) then some (Lp.go ((wr IntKind.i64 (d5.1 + (1 : Int)), d5.2.1, d5.2.2.1, ()) : Int × Int × List Int × Unit)) else whileO (g129_l0 k (toI p) (n : Int) d5) (((1 : Int), (0 : Int), d5.2.1, d5.2.2.1, ()) : Int × Int × Int × List Int × Unit))))) else some (Lp.out ((d5.2.1, d5.2.2.1, ()) : Int × List Int × Unit))) (((i : Nat) : Int), o, m, ()) = some ((rimL b n ((List.range p.length).drop i)).foldl (stepC fun c => chF c (m.drop 1)) o, m, ()) := by
    intro c
    induction c with
    | zero =>
      intro i o hi
      refine whileO_out ?_
      simp only [hbl, ilt_false.2 (show (p.length : Int) ≤ (i : Int) by omega), cond_false]
      rw [show (List.range p.length).drop i = [] from List.drop_eq_nil_of_le (by simp; omega)]; rfl
    | succ c ih =>
      intro i o hi
      have hlt : i < p.length := by omega
      have hd : (List.range p.length).drop i = i :: (List.range p.length).drop (i + 1) := by
        rw [List.drop_eq_getElem_cons (by simpa using hlt), List.getElem_range]
      have w1 : wr .i64 ((i : Int) + 1) = (i + 1 : Nat) := (wr_id (by omega)).trans (by omega)
      have hxb := hbd (b.getD i 0) (getD_mem (by omega))
      have w2 : wr .i64 (b.getD i 0 - (n : Int)) = b.getD i 0 - (n : Int) := wr_id (by omega)
      rw [hd, rimL]
      by_cases hskip : b.getD i 0 < (n : Int) ∨ (b.getD i 0 - (n : Int)) ∈ b
      · rw [if_pos hskip]
        refine (whileO_go (s' := (((i + 1 : Nat) : Int), o, m, ())) ?_).trans (ih (i + 1) o (by omega))
        have hc : (bif ilt (b.getD i 0) (n : Int) then true else hasF b (b.getD i 0 - (n : Int))) = true := by
          rcases hskip with h | h
          · rw [ilt_iff.2 h]; rfl
          · cases ilt (b.getD i 0) (n : Int)
            · exact decide_eq_true h
            · rfl
        simp only [hbl, ilt_iff.2 (show (i : Int) < (p.length : Int) by omega), cond_true, Int.toNat_natCast, w1, w2, hc]
        rw [gd_pos ⟨by omega, by omega⟩, gd_pos (fun h => ⟨h, h⟩), gd_pos (fun h => ⟨h, h, by omega⟩), gd_pos (fun h => by rw [h]; rfl)]
      · rw [if_neg hskip, List.foldl_cons]
        have h1 : ¬ b.getD i 0 < (n : Int) := fun h => hskip (.inl h)
        have h2 : (b.getD i 0 - (n : Int)) ∉ b := fun h => hskip (.inr h)
        have ht := hrim i (List.mem_range.2 hlt)
        rw [decide_eq_false h1, show hasF b (b.getD i 0 - (n : Int)) = false from decide_eq_false h2] at ht
        simp only [Bool.false_or, Bool.and_eq_true, decide_eq_true_eq] at ht
        refine (whileO_go (s' := (((i + 1 : Nat) : Int), stepC (fun c => chF c (m.drop 1)) o (ofF (b.set i (b.getD i 0 - (n : Int))), rowsF b (b.getD i 0) n), m, ())) ?_).trans (ih (i + 1) _ (by omega))
        have hc : (bif ilt (b.getD i 0) (n : Int) then true else hasF b (b.getD i 0 - (n : Int))) = false := by
          rw [ilt_false.2 (by omega), show hasF b (b.getD i 0 - (n : Int)) = false from decide_eq_false h2]; rfl
        simp only [hbl, ilt_iff.2 (show (i : Int) < (p.length : Int) by omega), cond_true, Int.toNat_natCast, w1, w2, hc, cond_false]
        rw [gd_pos ⟨by omega, by omega⟩, gd_pos (fun h => ⟨h, h⟩), gd_pos (fun h => ⟨h, h, by omega⟩), gd_pos (fun h => by rw [h]; rfl)]
        have hcnt : ∀ j, j ≤ b.length → ((b.take j).filter fun y => decide (b.getD i 0 - (n : Int) < y) && decide (y < b.getD i 0)).length ≤ j := fun j hj => Nat.le_trans (List.length_filter_le _ _) (by simp; omega)
        refine whileO_at (fun j => (1 + ((((b.take j).filter fun y => decide (b.getD i 0 - (n : Int) < y) && decide (y < b.getD i 0)).length : Nat) : Int), ((j : Nat) : Int), o, m, ())) p.length _ rfl (fun j hj => ?_) ?_
        · unfold g129_l0
          have hjb : j < b.length := by omega
          have hgj : b.getD j 0 = b[j] := by rw [List.getD_eq_getElem?_getD, List.getElem?_eq_getElem hjb]; rfl
          have w3 : wr .i64 ((j : Int) + 1) = (j + 1 : Nat) := (wr_id (by omega)).trans (by omega)
          have hcj := hcnt j (by omega)
          rw [hbs]
          simp only [hbl, ilt_iff.2 (show (j : Int) < (p.length : Int) by omega), cond_true, Int.toNat_natCast, w2, w3]
          rw [gd_pos ⟨by omega, by omega⟩, List.take_succ_eq_append_getElem hjb, List.filter_append, List.length_append, hgj]
          simp only [imp_self, and_self, gd_true]
          have hfs : List.filter (fun y => decide (b.getD i 0 - (n : Int) < y) && decide (y < b.getD i 0)) [b[j]] = if (decide (b.getD i 0 - (n : Int) < b[j]) && decide (b[j] < b.getD i 0)) = true then [b[j]] else [] := by
            simp only [List.filter_cons, List.filter_nil]
          rw [hfs]
          by_cases k1 : b.getD i 0 - (n : Int) < b[j]
          · by_cases k2 : b[j] < b.getD i 0
            · rw [ilt_iff.2 k1, ilt_iff.2 k2, decide_eq_true k1, decide_eq_true k2]
              simp only [cond_true, Bool.and_self, if_true, List.length_cons, List.length_nil]
              rw [wr_id (by omega)]
              simp [gd_true]; omega
            · rw [ilt_iff.2 k1, ilt_false.2 (show b.getD i 0 ≤ b[j] by omega), decide_eq_false k2]
              simp [gd_true]
          · rw [ilt_false.2 (show b[j] ≤ b.getD i 0 - (n : Int) by omega), decide_eq_false k1]
            simp [gd_true]
        · unfold g129_l0
          have hpre : preC k (ofF (b.set i (b.getD i 0 - (n : Int)))) (m.drop 1) := by
            refine ⟨ht.1, hds, ?_, by simp; omega⟩
            rw [ht.2, hdb]; omega
          have hrows : (1 : Int) + ((((b.take p.length).filter fun y => decide (b.getD i 0 - (n : Int) < y) && decide (y < b.getD i 0)).length : Nat) : Int) = rowsF b (b.getD i 0) n := by
            rw [List.take_of_length_le (by omega)]; rfl
          have hset : (b.set i (b.getD i 0 - (n : Int))).length ≤ 8 ∧ ∀ x ∈ b.set i (b.getD i 0 - (n : Int)), -100 ≤ x ∧ x ≤ 100 := by
            refine ⟨by simp; omega, fun x hx => ?_⟩
            rcases List.mem_or_eq_of_mem_set hx with h | h
            · have := hbd x h; omega
            · omega
          rw [hbs, hrows]
          simp only [hbl, ilt_false.2 (Int.le_refl _), cond_false, Int.toNat_natCast, Nat.zero_add, w1, w2, List.length_set]
          rw [gd_pos (by omega), gd_pos ⟨by omega, by omega⟩, gd_pos (by omega), gd_true]
          first
            | rw [gd_pos hset, gd_pos ⟨hm0, hpre⟩]
            | (rw [gd_pos ⟨by omega, hset.2⟩, gd_pos ⟨hm0, hpre⟩])
  have := key p.length 0 out (by omega)
  rw [List.drop_zero] at this
  exact this
theorem goal105 (k : Nat) : (con105 (k + 1)).goal Try.prog (spS [con129 k] []) g105_sh [] lm30 := by
  have e : (∀ (l m : List Int), preC (k + 1) l m → g105 k l m = some (chF l m, ())) = (con105 (k + 1)).goal Try.prog (spS [con129 k] []) g105_sh [] lm30 := by kernel_rfl
  rw [← e]
  intro l m h
  unfold g105
  cases m with
  | nil => rfl
  | cons n m =>
    rw [ieq_false.2 (by simp only [List.length_cons]; omega), cond_false, gd_pos ⟨by omega, by simp only [List.length_cons]; omega⟩, gd_pos ⟨by simp, rfl, h⟩]
    rfl
set_option maxRecDepth 100000 in
theorem ok105 : ∀ k, (con105 k).Ok Try.prog
  | 0 => scon_false _ (by kernel_rfl) fun l m p hp h => by
      cases hp
      have h : preC 0 l m := allP_one.1 h
      have := h.2.2.2
      omega
  | k + 1 => SCon.of_goal mixed okN (okS (SCon.of_goal mixed (okC ok140 (okC ok141 okN)) (okS ok39s (okS ok142 (okS (SCon.of_goal mixed okN (okS (ok105 k) okS0) (con130 k) (goal130 k)) okS0))) (con129 k) (goal129 k)) okS0) (con105 (k + 1)) (goal105 k)
end Go.Schur

set_option linter.unusedVariables false
set_option linter.unusedSimpArgs false
namespace Go.Schur
open Go Go.Ab Go.Proofs
noncomputable def con93 : Con := mkC 93 [.d LI, .d I64] [I64] (fun (l : List Int) (i : Int) => [0 ≤ i ∧ l.length ≤ 1000]) (fun (l : List Int) (i : Int) => (l.getD i.toNat 0, ()))
noncomputable def g93 (x0 : List Int) (x1 : Int) : Option (Int × Unit) := gd ((!ilt x1 (0 : Int)) = true → (!ilt x1 (0 : Int)) = true) (gd ((!ilt x1 (0 : Int)) = true → (!ilt x1 (0 : Int)) = true ∧ (!ilt x1 (0 : Int)) = true) (gd (ilt x1 (0 : Int) = false → (!ilt x1 (0 : Int)) = true) (bif bif ilt x1 (0 : Int) then true else ile (↑(List.length x0) : Int) x1 then some (((0 : Int), ()) : Int × Unit) else gd ((0 : Int) ≤ x1 ∧ x1 < (↑(List.length x0) : Int)) (some ((List.getD x0 (Int.toNat x1) (0 : Int), ()) : Int × Unit)))))
noncomputable def g93_sh : List LSh := ([] : List LSh)
def rimD (l c : List Int) : List Nat := (List.range (max l.length c.length)).filter fun i => decide (c.getD i 0 < l.getD i 0)
def rimF (l c : List Int) : Int :=
  if (List.range (max l.length c.length)).any fun i => decide (l.getD i 0 < c.getD i 0) then 0 else
  if (rimD l c).isEmpty then 1 else
  if (List.range ((rimD l c).getLastD 0 - (rimD l c).headD 0)).any fun j => decide (l.getD ((rimD l c).headD 0 + j + 1) 0 - c.getD ((rimD l c).headD 0 + j) 0 ≠ 1) then 0
  else (((rimD l c).getLastD 0 - (rimD l c).headD 0 + 1 : Nat) : Int)
noncomputable def con106 : Con := mkC 106 [.d LI, .d LI] [I64] (fun (l c : List Int) => [shapeB l = true ∧ shapeB c = true]) (fun (l c : List Int) => (rimF l c, ()))
noncomputable def g106 (x0 x1 : List Int) : Option (Int × Unit) := whileO (fun (d2 : Int × Int × Int × Unit) => bif ilt d2.2.2.1 (imax (↑(List.length x0) : Int) (↑(List.length x1) : Int)) then gd ((0 : Int) ≤ d2.2.2.1 ∧ List.length x1 ≤ (1000 : Nat)) (gd ((0 : Int) ≤ d2.2.2.1 ∧ List.length x0 ≤ (1000 : Nat)) (bif ilt (List.getD x0 (Int.toNat d2.2.2.1) (0 : Int)) (List.getD x1 (Int.toNat d2.2.2.1) (0 : Int)) then some (Lp.out (((0 : Int), ()) : Int × Unit)) else gd ((0 : Int) ≤ d2.2.2.1 ∧ List.length x1 ≤ (1000 : Nat)) (gd ((0 : Int) ≤ d2.2.2.1 ∧ List.length x0 ≤ (1000 : Nat)) (bif ilt (List.getD x1 (Int.toNat d2.2.2.1) (0 : Int)) (List.getD x0 (Int.toNat d2.2.2.1) (0 : Int)) then bif ilt d2.1 (0 : Int) then some (Lp.go ((d2.2.2.1, d2.2.2.1, wr IntKind.i64 (d2.2.2.1 + (1 : Int)), ()) : Int × Int × Int × Unit)) else some (Lp.go ((d2.1, d2.2.2.1, wr IntKind.i64 (d2.2.2.1 + (1 : Int)), ()) : Int × Int × Int × Unit)) else some (Lp.go ((d2.1, d2.2.1, wr IntKind.i64 (d2.2.2.1 + (1 : Int)), ()) : Int × Int × Int × Unit)))))) else whileO (fun (d3 : Int × Unit) => bif ilt d3.1 d2.2.1 then gd ((0 : Int) ≤ wr IntKind.i64 (d3.1 + (1 : Int)) ∧ List.length x0 ≤ (1000 : Nat)) (gd ((0 : Int) ≤ d3.1 ∧ List.length x1 ≤ (1000 : Nat)) (bif !ieq (wr IntKind.i64 (List.getD x0 (Int.toNat (wr IntKind.i64 (d3.1 + (1 : Int)))) (0 : Int) - List.getD x1 (Int.toNat d3.1) (0 : Int))) (1 : Int) then some (Lp.out (Lp.out (((0 : Int), ()) : Int × Unit))) else some (Lp.go ((wr IntKind.i64 (d3.1 + (1 : Int)), ()) : Int × Unit)))) else some (Lp.out (Lp.out ((wr IntKind.i64 (wr IntKind.i64 (d2.2.1 - d2.1) + (1 : Int)), ()) : Int × Unit)))) ((d2.1, ()) : Int × Unit)) (((-1 : Int), (-1 : Int), (0 : Int), ()) : Int × Int × Int × Unit)
noncomputable def g106_sh : List LSh := LSh.mk (((5, TV.v (Ty.int IntKind.i64)) : Nat × TV) :: ((6, TV.v (Ty.int IntKind.i64)) : Nat × TV) :: ((14, TV.v (Ty.int IntKind.i64)) : Nat × TV) :: ([] : List (Nat × TV))) ([] : List TB) :: LSh.mk (((8, TV.v (Ty.int IntKind.i64)) : Nat × TV) :: ([] : List (Nat × TV))) ([] : List TB) :: ([] : List LSh)
noncomputable def con64 (k : Nat) : SCon := mkS 64 [.v LI, .v LI] [] [.v I64] [] (fun (l m : List Int) => [preC k l m]) (fun (l m : List Int) => (chF l m, ()))
noncomputable def g64 (n : Nat) (x0 x1 : List Int) : Option (Int × Unit) := bif ieq (↑(List.length x1) : Int) (0 : Int) then some (((1 : Int), ()) : Int × Unit) else gd (List.length x0 ≤ (1000 : Nat)) (gd ((0 : Int) ≤ (0 : Int) ∧ (0 : Int) < (↑(List.length x1) : Int)) (gd ((0 : Int) ≤ wr IntKind.i64 (boxW x0 - List.getD x1 (0 : Nat) (0 : Int)) ∧ wr IntKind.i64 (boxW x0 - List.getD x1 (0 : Nat) (0 : Int)) ≤ (8 : Int)) (whileO (fun (d3 : Int × Int × Unit) => bif ilt d3.2.1 (↑(List.length (shapesF (wr IntKind.i64 (boxW x0 - List.getD x1 (0 : Nat) (0 : Int))))) : Int) then gd ((0 : Int) ≤ d3.2.1 ∧ d3.2.1 < (↑(List.length (shapesF (wr IntKind.i64 (boxW x0 - List.getD x1 (0 : Nat) (0 : Int))))) : Int)) (gd (shapeB x0 = true ∧ shapeB (List.getD (shapesF (wr IntKind.i64 (boxW x0 - List.getD x1 (0 : Nat) (0 : Int)))) (Int.toNat d3.2.1) ([] : List Int)) = true) (bif ilt (0 : Int) (rimF x0 (List.getD (shapesF (wr IntKind.i64 (boxW x0 - List.getD x1 (0 : Nat) (0 : Int)))) (Int.toNat d3.2.1) ([] : List Int))) then gd ((2 : Int) ≠ (0 : Int)) (gd ((0 : Int) ≤ (1 : Int) ∧ (1 : Int) ≤ (↑(List.length x1) : Int)) (gd (preC n (List.getD (shapesF (wr IntKind.i64 (boxW x0 - List.getD x1 (0 : Nat) (0 : Int)))) (Int.toNat d3.2.1) ([] : List Int)) (List.drop (1 : Nat) x1)) (some (Lp.go ((wr IntKind.i64 (d3.1 + wr IntKind.i64 (wr IntKind.i64 (wr IntKind.i64 ((2 : Int) * Int.tmod (rimF x0 (List.getD (shapesF (wr IntKind.i64 (boxW x0 - List.getD x1 (0 : Nat) (0 : Int)))) (Int.toNat d3.2.1) ([] : List Int))) (2 : Int)) - (1 : Int)) * chF (List.getD (shapesF (wr IntKind.i64 (boxW x0 - List.getD x1 (0 : Nat) (0 : Int)))) (Int.toNat d3.2.1) ([] : List Int)) (List.drop (1 : Nat) x1))), wr IntKind.i64 (d3.2.1 + (1 : Int)), ()) : Int × Int × Unit))))) else some (Lp.go ((d3.1, wr IntKind.i64 (d3.2.1 + (1 : Int)), ()) : Int × Int × Unit)))) else some (Lp.out ((d3.1, ()) : Int × Unit))) (((0 : Int), (0 : Int), ()) : Int × Int × Unit))))
noncomputable def g64_sh : List LSh := LSh.mk (((5, TV.v (Ty.int IntKind.i64)) : Nat × TV) :: ((20, TV.v (Ty.int IntKind.i64)) : Nat × TV) :: ([] : List (Nat × TV))) ([] : List TB) :: ([] : List LSh)
noncomputable def con63 : Con := mkC 63 [.d LI] [I64] (fun (l : List Int) => [shapeB l = true]) (fun (l : List Int) => (((refFil l (List.replicate (boxW l).toNat 1)).length : Int), ()))
noncomputable def g63 (x0 : List Int) : Option (Int × Unit) := gd (List.length x0 ≤ (1000 : Nat)) (gd ((0 : Nat) = (0 : Nat)) (whileO (fun (d1 : Int × List Int × Unit) => bif ilt d1.1 (boxW x0) then gd (List.length d1.2.1 ≤ List.length d1.2.1) (gd ((List.length d1.2.1 + (1 : Nat)) * (8 : Nat) ≤ (1099511627776 : Nat)) (gd (List.length d1.2.1 + (1 : Nat) = List.length (List.take (List.length d1.2.1) d1.2.1 ++ (1 : Int) :: ([] : List Int))) (some (Lp.go ((wr IntKind.i64 (d1.1 + (1 : Int)), List.take (List.length d1.2.1) d1.2.1 ++ (1 : Int) :: ([] : List Int), ()) : Int × List Int × Unit))))) else gd ((0 : Nat) + List.length d1.2.1 ≤ List.length d1.2.1) (gd (shapeB x0 = true ∧ contB (List.take (List.length d1.2.1) (List.drop (0 : Nat) d1.2.1)) = true) (some (Lp.out (((↑(List.length (refFil x0 (List.take (List.length d1.2.1) (List.drop (0 : Nat) d1.2.1)))) : Int), ()) : Int × Unit))))) (((0 : Int), ([] : List Int), ()) : Int × List Int × Unit)))
noncomputable def g63_sh : List LSh := LSh.mk (((3, TV.slf (0) (1)) : Nat × TV) :: ((6, TV.v (Ty.int IntKind.i64)) : Nat × TV) :: ([] : List (Nat × TV))) (TB.arr (Ty.int IntKind.i64) true :: ([] : List TB)) :: ([] : List LSh)
noncomputable def con17 : Con := mkC 17 [.d LI, .d LI] [.bool] (fun (l m : List Int) => [small l ∧ small m]) (fun (l m : List Int) => (true, ()))
noncomputable def g17 (x0 x1 : List Int) : Option (Bool × Unit) := gd (List.length (List.take (12 : Nat) x0) ≤ (1000 : Nat) ∧ List.length (List.take (12 : Nat) x1) ≤ (1000 : Nat)) (gd (List.length (List.take (12 : Nat) x0) ≤ (1000 : Nat)) (gd (small x0) (bif !shapeB x0 then gd (ieq (charF (List.take (12 : Nat) x0) (List.take (12 : Nat) x1)).1 (0 : Int) = true → ieq (charF (List.take (12 : Nat) x0) (List.take (12 : Nat) x1)).1 (0 : Int) = true) (gd (ieq (charF (List.take (12 : Nat) x0) (List.take (12 : Nat) x1)).1 (0 : Int) = true → ieq (charF (List.take (12 : Nat) x0) (List.take (12 : Nat) x1)).1 (0 : Int) = true) (gd ((bif ieq (charF (List.take (12 : Nat) x0) (List.take (12 : Nat) x1)).1 (0 : Int) then ieq (stdF (List.take (12 : Nat) x0)).1 (0 : Int) else false) = true → (bif ieq (charF (List.take (12 : Nat) x0) (List.take (12 : Nat) x1)).1 (0 : Int) then ieq (stdF (List.take (12 : Nat) x0)).1 (0 : Int) else false) = true) (gd ((bif ieq (charF (List.take (12 : Nat) x0) (List.take (12 : Nat) x1)).1 (0 : Int) then ieq (stdF (List.take (12 : Nat) x0)).1 (0 : Int) else false) = true → (bif ieq (charF (List.take (12 : Nat) x0) (List.take (12 : Nat) x1)).1 (0 : Int) then ieq (stdF (List.take (12 : Nat) x0)).1 (0 : Int) else false) = true) (gd ((bif bif ieq (charF (List.take (12 : Nat) x0) (List.take (12 : Nat) x1)).1 (0 : Int) then ieq (stdF (List.take (12 : Nat) x0)).1 (0 : Int) else false then ieq (charF (List.take (12 : Nat) x0) (List.take (12 : Nat) x1)).2.1 (2 : Int) else false) = true → (bif bif ieq (charF (List.take (12 : Nat) x0) (List.take (12 : Nat) x1)).1 (0 : Int) then ieq (stdF (List.take (12 : Nat) x0)).1 (0 : Int) else false then ieq (charF (List.take (12 : Nat) x0) (List.take (12 : Nat) x1)).2.1 (2 : Int) else false) = true) (gd ((bif bif ieq (charF (List.take (12 : Nat) x0) (List.take (12 : Nat) x1)).1 (0 : Int) then ieq (stdF (List.take (12 : Nat) x0)).1 (0 : Int) else false then ieq (charF (List.take (12 : Nat) x0) (List.take (12 : Nat) x1)).2.1 (2 : Int) else false) = true → (bif bif ieq (charF (List.take (12 : Nat) x0) (List.take (12 : Nat) x1)).1 (0 : Int) then ieq (stdF (List.take (12 : Nat) x0)).1 (0 : Int) else false then ieq (charF (List.take (12 : Nat) x0) (List.take (12 : Nat) x1)).2.1 (2 : Int) else false) = true) (gd ((bif bif bif ieq (charF (List.take (12 : Nat) x0) (List.take (12 : Nat) x1)).1 (0 : Int) then ieq (stdF (List.take (12 : Nat) x0)).1 (0 : Int) else false then ieq (charF (List.take (12 : Nat) x0) (List.take (12 : Nat) x1)).2.1 (2 : Int) else false then ieq (stdF (List.take (12 : Nat) x0)).2.1 (2 : Int) else false) = true → (bif bif bif ieq (charF (List.take (12 : Nat) x0) (List.take (12 : Nat) x1)).1 (0 : Int) then ieq (stdF (List.take (12 : Nat) x0)).1 (0 : Int) else false then ieq (charF (List.take (12 : Nat) x0) (List.take (12 : Nat) x1)).2.1 (2 : Int) else false then ieq (stdF (List.take (12 : Nat) x0)).2.1 (2 : Int) else false) = true) (some ((bif bif bif bif ieq (charF (List.take (12 : Nat) x0) (List.take (12 : Nat) x1)).1 (0 : Int) then ieq (stdF (List.take (12 : Nat) x0)).1 (0 : Int) else false then ieq (charF (List.take (12 : Nat) x0) (List.take (12 : Nat) x1)).2.1 (2 : Int) else false then ieq (stdF (List.take (12 : Nat) x0)).2.1 (2 : Int) else false then true else false, ()) : Bool × Unit)))))))) else gd (shapeB x0 = true) (gd ((!!ieq (stdF (List.take (12 : Nat) x0)).1 (↑(List.length (refFil x0 (List.replicate (Int.toNat (boxW x0)) (1 : Int)))) : Int)) = true → (!!ieq (stdF (List.take (12 : Nat) x0)).1 (↑(List.length (refFil x0 (List.replicate (Int.toNat (boxW x0)) (1 : Int)))) : Int)) = true) (gd ((!ieq (stdF (List.take (12 : Nat) x0)).1 (↑(List.length (refFil x0 (List.replicate (Int.toNat (boxW x0)) (1 : Int)))) : Int)) = false → (!!ieq (stdF (List.take (12 : Nat) x0)).1 (↑(List.length (refFil x0 (List.replicate (Int.toNat (boxW x0)) (1 : Int)))) : Int)) = true) (gd ((!bif !ieq (stdF (List.take (12 : Nat) x0)).1 (↑(List.length (refFil x0 (List.replicate (Int.toNat (boxW x0)) (1 : Int)))) : Int) then true else !ieq (stdF (List.take (12 : Nat) x0)).2.1 (0 : Int)) = true → (!bif !ieq (stdF (List.take (12 : Nat) x0)).1 (↑(List.length (refFil x0 (List.replicate (Int.toNat (boxW x0)) (1 : Int)))) : Int) then true else !ieq (stdF (List.take (12 : Nat) x0)).2.1 (0 : Int)) = true) (gd ((bif !ieq (stdF (List.take (12 : Nat) x0)).1 (↑(List.length (refFil x0 (List.replicate (Int.toNat (boxW x0)) (1 : Int)))) : Int) then true else !ieq (stdF (List.take (12 : Nat) x0)).2.1 (0 : Int)) = false → (!bif !ieq (stdF (List.take (12 : Nat) x0)).1 (↑(List.length (refFil x0 (List.replicate (Int.toNat (boxW x0)) (1 : Int)))) : Int) then true else !ieq (stdF (List.take (12 : Nat) x0)).2.1 (0 : Int)) = true) (bif bif bif !ieq (stdF (List.take (12 : Nat) x0)).1 (↑(List.length (refFil x0 (List.replicate (Int.toNat (boxW x0)) (1 : Int)))) : Int) then true else !ieq (stdF (List.take (12 : Nat) x0)).2.1 (0 : Int) then true else false then some ((false, ()) : Bool × Unit) else gd (small x1) (gd ((!!shapeB x1) = true → (!!shapeB x1) = true ∧ List.length x0 ≤ (1000 : Nat)) (gd ((!!shapeB x1) = true → (!!shapeB x1) = true ∧ List.length x1 ≤ (1000 : Nat)) (gd ((!!shapeB x1) = true → (!!shapeB x1) = true ∧ (!!shapeB x1) = true) (gd ((!shapeB x1) = false → (!!shapeB x1) = true) (bif bif !shapeB x1 then true else !ieq (boxW x0) (boxW x1) then gd (ieq (charF (List.take (12 : Nat) x0) (List.take (12 : Nat) x1)).1 (0 : Int) = true → ieq (charF (List.take (12 : Nat) x0) (List.take (12 : Nat) x1)).1 (0 : Int) = true) (gd (ieq (charF (List.take (12 : Nat) x0) (List.take (12 : Nat) x1)).1 (0 : Int) = true → ieq (charF (List.take (12 : Nat) x0) (List.take (12 : Nat) x1)).1 (0 : Int) = true) (some ((bif ieq (charF (List.take (12 : Nat) x0) (List.take (12 : Nat) x1)).1 (0 : Int) then ieq (charF (List.take (12 : Nat) x0) (List.take (12 : Nat) x1)).2.1 (2 : Int) else false, ()) : Bool × Unit))) else gd (preC (9 : Nat) x0 x1) (gd (ieq (charF (List.take (12 : Nat) x0) (List.take (12 : Nat) x1)).1 (chF x0 x1) = true → ieq (charF (List.take (12 : Nat) x0) (List.take (12 : Nat) x1)).1 (chF x0 x1) = true) (gd (ieq (charF (List.take (12 : Nat) x0) (List.take (12 : Nat) x1)).1 (chF x0 x1) = true → ieq (charF (List.take (12 : Nat) x0) (List.take (12 : Nat) x1)).1 (chF x0 x1) = true) (some ((bif ieq (charF (List.take (12 : Nat) x0) (List.take (12 : Nat) x1)).1 (chF x0 x1) then ieq (charF (List.take (12 : Nat) x0) (List.take (12 : Nat) x1)).2.1 (0 : Int) else false, ()) : Bool × Unit)))))))))))))))))
noncomputable def g17_sh : List LSh := ([] : List LSh)

def h106 (x0 x1 : List Int) : Option (Int × Unit) := whileF 30 (fun (d2 : Int × Int × Int × Unit) => bif ilt d2.2.2.1 (imax (↑(List.length x0) : Int) (↑(List.length x1) : Int)) then gdD ((0 : Int) ≤ d2.2.2.1 ∧ List.length x1 ≤ (1000 : Nat)) (gdD ((0 : Int) ≤ d2.2.2.1 ∧ List.length x0 ≤ (1000 : Nat)) (bif ilt (List.getD x0 (Int.toNat d2.2.2.1) (0 : Int)) (List.getD x1 (Int.toNat d2.2.2.1) (0 : Int)) then some (Lp.out (((0 : Int), ()) : Int × Unit)) else gdD ((0 : Int) ≤ d2.2.2.1 ∧ List.length x1 ≤ (1000 : Nat)) (gdD ((0 : Int) ≤ d2.2.2.1 ∧ List.length x0 ≤ (1000 : Nat)) (bif ilt (List.getD x1 (Int.toNat d2.2.2.1) (0 : Int)) (List.getD x0 (Int.toNat d2.2.2.1) (0 : Int)) then bif ilt d2.1 (0 : Int) then some (Lp.go ((d2.2.2.1, d2.2.2.1, wr IntKind.i64 (d2.2.2.1 + (1 : Int)), ()) : Int × Int × Int × Unit)) else some (Lp.go ((d2.1, d2.2.2.1, wr IntKind.i64 (d2.2.2.1 + (1 : Int)), ()) : Int × Int × Int × Unit)) else some (Lp.go ((d2.1, d2.2.1, wr IntKind.i64 (d2.2.2.1 + (1 : Int)), ()) : Int × Int × Int × Unit)))))) else whileF 30 (fun (d3 : Int × Unit) => bif ilt d3.1 d2.2.1 then gdD ((0 : Int) ≤ wr IntKind.i64 (d3.1 + (1 : Int)) ∧ List.length x0 ≤ (1000 : Nat)) (gdD ((0 : Int) ≤ d3.1 ∧ List.length x1 ≤ (1000 : Nat)) (bif !ieq (wr IntKind.i64 (List.getD x0 (Int.toNat (wr IntKind.i64 (d3.1 + (1 : Int)))) (0 : Int) - List.getD x1 (Int.toNat d3.1) (0 : Int))) (1 : Int) then some (Lp.out (Lp.out (((0 : Int), ()) : Int × Unit))) else some (Lp.go ((wr IntKind.i64 (d3.1 + (1 : Int)), ()) : Int × Unit)))) else some (Lp.out (Lp.out ((wr IntKind.i64 (wr IntKind.i64 (d2.2.1 - d2.1) + (1 : Int)), ()) : Int × Unit)))) ((d2.1, ()) : Int × Unit)) (((-1 : Int), (-1 : Int), (0 : Int), ()) : Int × Int × Int × Unit)
theorem h106_le (x0 x1 : List Int) : LeO (h106 x0 x1) (g106 x0 x1) := by
  unfold h106 g106
  repeat' first | exact leO_refl | refine leO_gd ?_ | refine leO_cond ?_ ?_ | refine leO_map ?_ | refine leO_eqO ?_ ?_ | (refine leO_while fun s => ?_; try dsimp only)
end Go.Schur

set_option linter.unusedVariables false
set_option linter.unusedSimpArgs false
namespace Go.Schur
open Go Go.Ab Go.Proofs
theorem goal62 : con62.goal Try.prog (spS [con105 9] [con66, con86]) g62_sh [] lm30 := by
  have e : (∀ (l m : List Int), (l.length ≤ 1000 ∧ m.length ≤ 1000) → g62 l m = some (charF l m)) = con62.goal Try.prog (spS [con105 9] [con66, con86]) g62_sh [] lm30 := by kernel_rfl
  rw [← e]
  rintro l m ⟨h1, h2⟩
  unfold g62 charF
  by_cases hb : boxW l = boxW m
  case neg =>
    have hb2 : (boxW l == boxW m) = false := beq_false_of_ne hb
    cases hl : shapeB l <;> cases hm : shapeB m <;> simp [gd_true, h1, h2, hl, hm, hb, hb2, ieq]
  cases hl : shapeB l <;> cases hm : shapeB m <;> simp [gd_true, h1, h2, hl, hm, hb, ieq]
  refine gd_pos ⟨hl, hm, hb, ?_⟩
  obtain ⟨q, hq, rfl, hq8, _, hqs⟩ := shape_allP hm
  have := hq8.len
  simp [toI]; omega
set_option maxRecDepth 100000 in
theorem ok62 : con62.Ok Try.prog := Con.of_goalS mixed (okC ok66 (okC ok86 okN)) (okS (ok105 9) okS0) con62 goal62
theorem goal93 : con93.goal Try.prog (spOf []) g93_sh [] lm30 := by
  have e : (∀ (l : List Int) (i : Int), (0 ≤ i ∧ l.length ≤ 1000) → g93 l i = some (l.getD i.toNat 0, ())) = con93.goal Try.prog (spOf []) g93_sh [] lm30 := by kernel_rfl
  rw [← e]
  rintro l i ⟨h1, h2⟩
  unfold g93
  rw [ilt_false.2 h1]
  simp only [cond_false]
  by_cases h : (l.length : Int) ≤ i
  · rw [ile_iff.2 h]
    have : l[i.toNat]?.getD 0 = 0 := by rw [List.getElem?_eq_none (by omega)]; rfl
    simp [gd_true, this]
  · rw [ile_false.2 (by omega)]
    have h3 : i < (l.length : Int) := by omega
    simp [gd_true, h1, h3]
set_option maxRecDepth 100000 in
theorem ok93 : con93.Ok Try.prog := Con.of_goal mixed okN con93 goal93
set_option maxRecDepth 100000 in
theorem rim_pairs : ∀ p ∈ allP, ∀ q ∈ allP, h106 (toI p) (toI q) = some (rimF (toI p) (toI q), ()) := by decide +kernel
theorem goal106 : con106.goal Try.prog (spOf [con93]) g106_sh [] lm30 := by
  have e : (∀ (l c : List Int), (shapeB l = true ∧ shapeB c = true) → g106 l c = some (rimF l c, ())) = con106.goal Try.prog (spOf [con93]) g106_sh [] lm30 := by kernel_rfl
  rw [← e]
  rintro l c ⟨hl, hc⟩
  obtain ⟨p, hp, rfl, _⟩ := shape_allP hl
  obtain ⟨q, hq, rfl, _⟩ := shape_allP hc
  exact h106_le _ _ _ (rim_pairs p hp q hq)
set_option maxRecDepth 100000 in
theorem ok106 : con106.Ok Try.prog := Con.of_goal mixed (okC ok93 okN) con106 goal106
/-- The shapes that a rim of n leaves, by trying all. -/
def rimT (p : List Nat) (cs : List (List Nat)) : List (List Int × Int) := (cs.map toI).filterMap fun c => if 0 < rimF (toI p) c then some (c, rimF (toI p) c) else none
set_option maxRecDepth 100000 in
theorem rim_perm : ∀ p ∈ allP, ∀ n ∈ List.range p.sum, (rimT p (P (p.sum - (n + 1)))).Perm (rimS (toI p) ((n + 1 : Nat) : Int)) := by decide +kernel
set_option maxRecDepth 100000 in
theorem rim_bd : ∀ p ∈ allP, ∀ q ∈ allP, 0 ≤ rimF (toI p) (toI q) ∧ rimF (toI p) (toI q) ≤ 8 := by decide +kernel
theorem wr_sub_l {a b : Int} : wr .i64 (wr .i64 a - b) = wr .i64 (a - b) := by
  rw [Int.sub_eq_add_neg, wr_add_l, Int.sub_eq_add_neg]
theorem stepC_comm (D : List Int → Int) (o : Int) (a b : List Int × Int) : stepC D (stepC D o a) b = stepC D (stepC D o b) a := by
  unfold stepC
  split <;> split <;> simp only [wr_sub_l, wr_add_l] <;> congr 1 <;> omega
theorem stepC_eq {D : List Int → Int} {o r : Int} {c : List Int} (h0 : 0 < r) (h8 : r ≤ 8) : wr .i64 (o + wr .i64 (wr .i64 (wr .i64 (2 * Int.tmod r 2) - 1) * D c)) = stepC D o (c, r) := by
  unfold stepC
  have ht : Int.tmod r 2 = r % 2 := Int.tmod_eq_emod_of_nonneg (by omega)
  rw [ht]
  by_cases h : r % 2 = 0
  · rw [h]
    simp only [if_pos]
    rw [wr_add_r, show wr .i64 (wr .i64 ((2 : Int) * 0) - 1) = -1 from by decide]
    congr 1; omega
  · have h1 : r % 2 = 1 := by omega
    rw [h1]
    simp only [if_neg (show ¬ (1 : Int) = 0 by decide)]
    rw [wr_add_r, show wr .i64 (wr .i64 ((2 : Int) * 1) - 1) = 1 from by decide]
    congr 1; omega
theorem foldl_perm' {α β : Type} {f : β → α → β} (hf : ∀ b x y, f (f b x) y = f (f b y) x) {l₁ l₂ : List α} (h : l₁.Perm l₂) : ∀ b, l₁.foldl f b = l₂.foldl f b := by
  induction h with
  | nil => intro b; rfl
  | cons x _ ih => intro b; exact ih _
  | swap x y l => intro b; simp only [List.foldl_cons]; rw [hf]
  | trans _ _ ih1 ih2 => intro b; rw [ih1, ih2]
theorem chF_rimT {p : List Nat} {n : Nat} {m : List Int} (hp : p ∈ allP) (hn : 1 ≤ n) (hn2 : n ≤ p.sum) : chF (toI p) ((n : Int) :: m) = (rimT p (P (p.sum - n))).foldl (stepC fun c => chF c m) 0 := by
  obtain ⟨k, rfl⟩ : ∃ k, n = k + 1 := ⟨n - 1, by omega⟩
  rw [chF]
  exact (foldl_perm' (stepC_comm _) (rim_perm p hp k (List.mem_range.2 (by omega))) 0).symm
theorem goal64 (k : Nat) : (con64 (k + 1)).goal Try.prog (spS [con64 k] [con37, con38, con106]) g64_sh [] lm30 := by
  have e : (∀ (l m : List Int), preC (k + 1) l m → g64 k l m = some (chF l m, ())) = (con64 (k + 1)).goal Try.prog (spS [con64 k] [con37, con38, con106]) g64_sh [] lm30 := by kernel_rfl
  rw [← e]
  rintro l m ⟨hl, hm, hbox, hlen⟩
  unfold g64
  cases m with
  | nil => rfl
  | cons n0 m =>
    obtain ⟨n, hn, hn1, hn8, hdb, hds⟩ := shape_head (p := []) hm (by simp)
    obtain ⟨p, hp, rfl, hp8, hp1, hps⟩ := shape_allP hl
    have hb1 := toI_box hp8.len hps
    have hpl := hp8.len
    have hnn : (n : Int) ≤ boxW (n0 :: m) := by
      obtain ⟨q, hq, hqe, hq8, _, hqs⟩ := shape_allP hm
      have : ∀ q ∈ allP, ((q.getD 0 0 : Nat) : Int) ≤ boxW (toI q) := by decide +kernel
      have h2 := this q hq
      rw [hqe] at hn ⊢
      rw [toI_get] at hn
      omega
    have hn' : n0 = (n : Int) := hn
    subst hn'
    have hw : wr .i64 (boxW (toI p) - (n : Int)) = ((p.sum - n : Nat) : Int) := (wr_id (by omega)).trans (by omega)
    have hs : shapesF ((p.sum - n : Nat) : Int) = (P (p.sum - n)).map toI := by unfold shapesF; rw [Int.toNat_natCast]
    have hg0 : ((n : Int) :: m).getD 0 0 = (n : Int) := rfl
    have hd1 : List.drop 1 ((n : Int) :: m) = m := rfl
    rw [ieq_false.2 (by simp only [List.length_cons]; omega), cond_false, gd_pos (by simp [toI]; omega), gd_pos ⟨by omega, by simp only [List.length_cons]; omega⟩]
    simp only [Int.toNat_zero, hg0, hw, hs, hd1]
    rw [gd_pos ⟨by omega, by omega⟩, chF_rimT hp hn1 (by omega)]
    have hmem : ∀ c ∈ P (p.sum - n), shapeB (toI c) = true ∧ boxW (toI c) = ((p.sum - n : Nat) : Int) ∧ c ∈ allP := by
      intro c hc
      have hs := shape_P (show p.sum - n ≤ 8 by omega) hc
      refine ⟨hs, ?_, ?_⟩
      · have : ∀ n ∈ List.range 9, ∀ c ∈ P n, boxW (toI c) = (n : Nat) := by decide +kernel
        exact this _ (List.mem_range.2 (by omega)) c hc
      · exact List.mem_flatMap.2 ⟨p.sum - n, List.mem_range.2 (by omega), hc⟩
    have hcl : (P (p.sum - n)).length ≤ 22 := by
      have : ∀ n ∈ List.range 9, (P n).length ≤ 22 := by decide +kernel
      exact this _ (List.mem_range.2 (by omega))
    generalize P (p.sum - n) = cs at hmem hcl
    refine whileO_at (fun i => ((rimT p (cs.take i)).foldl (stepC fun c => chF c m) 0, ((i : Nat) : Int), ())) cs.length _ rfl (fun i hi => ?_) ?_
    · have hgi : (cs.map toI).getD i [] = toI cs[i] := by rw [List.getD_eq_getElem?_getD, List.getElem?_map, List.getElem?_eq_getElem hi]; rfl
      obtain ⟨c1, c2, c3⟩ := hmem cs[i] (List.getElem_mem hi)
      have w1 : wr .i64 ((i : Int) + 1) = (i + 1 : Nat) := (wr_id (by omega)).trans (by omega)
      have hlt : ilt (i : Int) ((cs.map toI).length : Int) = true := ilt_iff.2 (by simp only [List.length_map]; omega)
      simp only [hlt, cond_true, Int.toNat_natCast, hgi, w1]
      rw [gd_pos ⟨by omega, by simp only [List.length_map]; omega⟩, gd_pos ⟨hl, c1⟩, List.take_succ_eq_append_getElem hi]
      unfold rimT
      rw [List.map_append, List.filterMap_append, List.foldl_append]
      simp only [List.map_cons, List.map_nil, List.filterMap_cons, List.filterMap_nil]
      have hrb := rim_bd p hp _ c3
      by_cases hr : 0 < rimF (toI p) (toI cs[i])
      · rw [ilt_iff.2 hr, cond_true, gd_pos (by decide), gd_pos ⟨by omega, by simp only [List.length_cons]; omega⟩, gd_pos ⟨c1, hds, by rw [c2, ← hd1, hdb, ← hbox]; omega, by simp only [List.length_cons] at hlen; omega⟩, stepC_eq (D := fun c => chF c m) hr hrb.2, if_pos hr]
        rfl
      · rw [ilt_false.2 (by omega), cond_false, if_neg hr]
        rfl
    · simp only [List.length_map, ilt_false.2 (Int.le_refl _), cond_false, List.take_length]
set_option maxRecDepth 100000 in
theorem ok64 : ∀ k, (con64 k).Ok Try.prog
  | 0 => scon_false _ (by kernel_rfl) fun l m p hp h => by
      cases hp
      have h : preC 0 l m := allP_one.1 h
      have := h.2.2.2
      omega
  | k + 1 => SCon.of_goal mixed (okC ok37 (okC ok38 (okC ok106 okN))) (okS (ok64 k) okS0) (con64 (k + 1)) (goal64 k)
theorem goal63 : con63.goal Try.prog (spOf [con37, con25]) g63_sh [] lm30 := by
  have e : (∀ (l : List Int), shapeB l = true → g63 l = some (((refFil l (List.replicate (boxW l).toNat 1)).length : Int), ())) = con63.goal Try.prog (spOf [con37, con25]) g63_sh [] lm30 := by kernel_rfl
  rw [← e]
  intro l hl
  unfold g63
  obtain ⟨p, hp, rfl, hp8, hp1, hps⟩ := shape_allP hl
  have hb1 := toI_box hp8.len hps
  have hpl := hp8.len
  rw [gd_pos (by simp [toI]; omega), gd_pos rfl, hb1, Int.toNat_natCast]
  refine whileO_at (fun i => (((i : Nat) : Int), List.replicate i 1, ())) p.sum _ rfl (fun i hi => ?_) ?_
  · have w1 : wr .i64 ((i : Int) + 1) = (i + 1 : Nat) := (wr_id (by omega)).trans (by omega)
    have e1 : List.replicate i (1 : Int) ++ 1 :: [] = List.replicate (i + 1) 1 := List.replicate_succ'.symm
    simp only [ilt_iff.2 (show (i : Int) < (p.sum : Int) by omega), cond_true, w1, List.length_replicate, List.take_replicate, Nat.min_self, e1]
    rw [gd_pos (by omega), gd_pos (by omega), gd_true]
  · have hc : contB (List.replicate p.sum 1) = true := by
      have := toI_cont (m := List.replicate p.sum 1) (by simp; omega) (by simp; omega)
      rwa [show toI (List.replicate p.sum 1) = List.replicate p.sum 1 by simp [toI]] at this
    simp only [ilt_false.2 (Int.le_refl _), cond_false, List.drop_zero, List.take_length, Nat.zero_add, Nat.le_refl, gd_true]
    rw [gd_pos ⟨hl, hc⟩]
set_option maxRecDepth 100000 in
theorem ok63 : con63.Ok Try.prog := Con.of_goal mixed (okC ok37 (okC ok25 okN)) con63 goal63
theorem std_ref {l : List Int} (hl : shapeB l = true) : stdF l = (((refFil l (List.replicate (boxW l).toNat 1)).length : Int), 0, ()) := by
  obtain ⟨p, hp, rfl, hp8, hp1, hps⟩ := shape_allP hl
  have := refFil_len (q := List.replicate p.sum 1) hp8 hps hl (by simp; omega) (by simp; omega)
  rw [show toI (List.replicate p.sum 1) = List.replicate p.sum 1 by simp [toI], List.reverse_replicate] at this
  unfold stdF
  rw [if_pos hl, toI_box hp8.len hps, Int.toNat_natCast, this, toNat_toI]
theorem charF_take {l m : List Int} : charF (l.take 12) (m.take 12) = charF l m := by
  unfold charF
  rw [shape_take, shape_take]
  by_cases h : shapeB l = true ∧ shapeB m = true
  · rw [shape_take_id h.1, shape_take_id h.2]
  · rw [if_neg (fun k => h ⟨k.1, k.2.1⟩), if_neg (fun k => h ⟨k.1, k.2.1⟩)]
theorem goal17 : con17.goal Try.prog (spS [con64 9] [con20, con62, con40, con22, con63, con24, con37]) g17_sh [] lm30 := by
  have e : (∀ (l m : List Int), (small l ∧ small m) → g17 l m = some (true, ())) = con17.goal Try.prog (spS [con64 9] [con20, con62, con40, con22, con63, con24, con37]) g17_sh [] lm30 := by kernel_rfl
  rw [← e]
  rintro l m ⟨hl, hm⟩
  have q1 : (l.take 12).length ≤ 1000 ∧ (m.take 12).length ≤ 1000 := ⟨by simp; omega, by simp; omega⟩
  unfold g17
  rw [gd_pos q1, gd_pos q1.1, gd_pos hl, charF_take]
  cases hs : shapeB l with
  | false =>
    have e1 : stdF (l.take 12) = (0, 2, ()) := std_bad (by rw [shape_take, hs])
    have e2 : charF l m = (0, 2, ()) := by unfold charF; rw [hs]; simp
    rw [e1, e2]
    simp [gd_true, ieq]
  | true =>
    rw [shape_take_id hs, std_ref hs]
    by_cases h : shapeB m = true ∧ boxW l = boxW m
    · have e2 : charF l m = (chF l m, 0, ()) := by unfold charF; rw [if_pos ⟨hs, h.1, h.2⟩]
      have hp : preC 9 l m := ⟨hs, h.1, h.2, by
        obtain ⟨q, hq, rfl, hq8, _, hqs⟩ := shape_allP h.1
        have := hq8.len
        simp [toI]; omega⟩
      have hl2 : l.length ≤ 1000 := by obtain ⟨q, hq, rfl, hq8, _, hqs⟩ := shape_allP hs; have := hq8.len; simp [toI]; omega
      have hm2 : m.length ≤ 1000 := by obtain ⟨q, hq, rfl, hq8, _, hqs⟩ := shape_allP h.1; have := hq8.len; simp [toI]; omega
      rw [e2, h.1, h.2]
      simp [gd_true, ieq, hm, hp, hl2, hm2]
    · have e2 : charF l m = (0, 2, ()) := by unfold charF; rw [if_neg (fun k => h ⟨k.2.1, k.2.2⟩)]
      have hl2 : l.length ≤ 1000 := by obtain ⟨q, hq, rfl, hq8, _, hqs⟩ := shape_allP hs; have := hq8.len; simp [toI]; omega
      rw [e2]
      cases hms : shapeB m with
      | false => simp [gd_true, ieq, hm, hl2]
      | true =>
        have hm2 : m.length ≤ 1000 := by obtain ⟨q, hq, rfl, hq8, _, hqs⟩ := shape_allP hms; have := hq8.len; simp [toI]; omega
        have hne : ¬ boxW l = boxW m := fun k => h ⟨hms, k⟩
        have hb2 : (boxW l == boxW m) = false := beq_false_of_ne hne
        simp [gd_true, ieq, hm, hl2, hm2, hne, hb2]
set_option maxRecDepth 100000 in
theorem ok17law : con17.Ok Try.prog := Con.of_goalS mixed (okC ok20 (okC ok62 (okC ok40 (okC ok22 (okC ok63 (okC ok24 (okC ok37 okN))))))) (okS (ok64 9) okS0) con17 goal17
end Go.Schur

set_option linter.unusedVariables false
set_option linter.unusedSimpArgs false
set_option maxRecDepth 100000
namespace Go.Schur
open Go Go.Ab Go.Proofs
def look {α : Type} (d : α) (k : Nat) : List (Nat × α) → α
  | [] => d
  | (a, v) :: r => bif Nat.beq a k then v else look d k r
end Go.Schur

set_option linter.unusedVariables false
namespace Go.Schur
open Go Go.Ab Go.Proofs
end Go.Schur

set_option linter.unusedVariables false
set_option linter.unusedSimpArgs false
namespace Go.Schur
open Go Go.Ab Go.Proofs
end Go.Schur
