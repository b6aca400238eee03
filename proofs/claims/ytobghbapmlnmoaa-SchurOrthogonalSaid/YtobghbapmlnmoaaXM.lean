/- Characters: contracts. -/
import Derived.Test.YtobghbapmlnmoaaXJ
import Derived.Test.YtobghbapmlnmoaaSS
import Derived.Test.YtobghbapmlnmoaaXF
set_option linter.unusedVariables false
set_option linter.unusedSimpArgs false
namespace Go.Schur
open Go Go.Ab Go.Proofs
def beadsF (l : List Int) : List Int := (List.range l.length).map fun (i : Nat) => l.getD i 0 + l.length - 1 - i
def insI (x : Int) : List Int → List Int
  | [] => [x]
  | y :: l => if x ≤ y then x :: y :: l else y :: insI x l
def insS : List Int → List Int
  | [] => []
  | x :: l => insI x (insS l)
/-- What beads say: rows that fall. -/
def ofF (b : List Int) : List Int := ((List.range b.length).reverse.map fun (k : Nat) => (insS b).getD k 0 - k).filter fun x => decide (0 < x)
def rowsF (b : List Int) (x n : Int) : Int := 1 + (b.filter fun y => decide (x - n < y) && decide (y < x)).length
/-- All ways to take a rim away: what is left, how many rows it has. -/
def rimL (b : List Int) (n : Int) : List Nat → List (List Int × Int)
  | [] => []
  | i :: is => if b.getD i 0 < n ∨ (b.getD i 0 - n) ∈ b then rimL b n is else (ofF (b.set i (b.getD i 0 - n)), rowsF b (b.getD i 0) n) :: rimL b n is
def rimS (l : List Int) (n : Int) : List (List Int × Int) := rimL (beadsF l) n (List.range l.length)
def stepC (D : List Int → Int) (out : Int) (a : List Int × Int) : Int := if Int.tmod a.2 2 = 0 then wr .i64 (out - D a.1) else wr .i64 (out + D a.1)
def chF : List Int → List Int → Int
  | _, [] => 1
  | l, n :: m => (rimS l n).foldl (stepC fun c => chF c m) 0
def rimO (l : List Int) (n : Int) (m : List Int) (out : Int) : Int := (rimS l n).foldl (stepC fun c => chF c m) out
def preC (k : Nat) (l m : List Int) : Prop := shapeB l = true ∧ shapeB m = true ∧ boxW l = boxW m ∧ m.length < k
noncomputable def con140 : Con := mkC 140 [.d LI] [LI] (fun (l : List Int) => [shapeB l = true]) (fun (l : List Int) => (beadsF l, ()))
noncomputable def g140 (x0 : List Int) : Option (List Int × Unit) := gd ((0 : Nat) = (0 : Nat)) (whileO (fun (d1 : Int × List Int × Unit) => bif ilt d1.1 (↑(List.length x0) : Int) then gd ((0 : Int) ≤ d1.1 ∧ d1.1 < (↑(List.length x0) : Int)) (gd (List.length d1.2.1 ≤ List.length d1.2.1) (gd ((List.length d1.2.1 + (1 : Nat)) * (8 : Nat) ≤ (1099511627776 : Nat)) (gd (List.length d1.2.1 + (1 : Nat) = List.length (List.take (List.length d1.2.1) d1.2.1 ++ wr IntKind.i64 (wr IntKind.i64 (wr IntKind.i64 (List.getD x0 (Int.toNat d1.1) (0 : Int) + (↑(List.length x0) : Int)) - (1 : Int)) - d1.1) :: ([] : List Int))) (some (Lp.go ((wr IntKind.i64 (d1.1 + (1 : Int)), List.take (List.length d1.2.1) d1.2.1 ++ wr IntKind.i64 (wr IntKind.i64 (wr IntKind.i64 (List.getD x0 (Int.toNat d1.1) (0 : Int) + (↑(List.length x0) : Int)) - (1 : Int)) - d1.1) :: ([] : List Int), ()) : Int × List Int × Unit)))))) else gd ((0 : Nat) + List.length d1.2.1 ≤ List.length d1.2.1) (some (Lp.out ((List.take (List.length d1.2.1) (List.drop (0 : Nat) d1.2.1), ()) : List Int × Unit)))) (((0 : Int), ([] : List Int), ()) : Int × List Int × Unit))
noncomputable def g140_sh : List LSh := LSh.mk (((3, TV.slf (0) (1)) : Nat × TV) :: ((8, TV.v (Ty.int IntKind.i64)) : Nat × TV) :: ([] : List (Nat × TV))) (TB.arr (Ty.int IntKind.i64) true :: ([] : List TB)) :: ([] : List LSh)
def ixF (l : List Int) (x : Int) : Int := if x ∈ l then (l.idxOf x : Nat) else -1
noncomputable def con145 : Con := mkC 145 [.d LI, .d I64] [I64] (fun (l : List Int) (x : Int) => [l.length ≤ 1000]) (fun (l : List Int) (x : Int) => (ixF l x, ()))
noncomputable def g145 (x0 : List Int) (x1 : Int) : Option (Int × Unit) := whileO (fun (d2 : Int × Unit) => bif ilt d2.1 (↑(List.length x0) : Int) then gd ((0 : Int) ≤ d2.1 ∧ d2.1 < (↑(List.length x0) : Int)) (bif ieq x1 (List.getD x0 (Int.toNat d2.1) (0 : Int)) then some (Lp.out ((d2.1, ()) : Int × Unit)) else some (Lp.go ((wr IntKind.i64 (d2.1 + (1 : Int)), ()) : Int × Unit))) else some (Lp.out (((-1 : Int), ()) : Int × Unit))) (((0 : Int), ()) : Int × Unit)
noncomputable def g145_sh : List LSh := LSh.mk (((8, TV.v (Ty.int IntKind.i64)) : Nat × TV) :: ([] : List (Nat × TV))) ([] : List TB) :: ([] : List LSh)
def hasF (l : List Int) (x : Int) : Bool := decide (x ∈ l)
noncomputable def con141 : Con := mkC 141 [.d LI, .d I64] [.bool] (fun (l : List Int) (x : Int) => [l.length ≤ 1000]) (fun (l : List Int) (x : Int) => (hasF l x, ()))
noncomputable def g141 (x0 : List Int) (x1 : Int) : Option (Bool × Unit) := gd (List.length x0 ≤ (1000 : Nat)) (some ((ile (0 : Int) (ixF x0 x1), ()) : Bool × Unit))
noncomputable def g141_sh : List LSh := ([] : List LSh)
noncomputable def con142 : SCon := mkS 142 [.slf 0 1] [.arr I64 true] [.v LI] [.dead] (fun (b : List Int) => [b.length ≤ 8 ∧ ∀ x ∈ b, -100 ≤ x ∧ x ≤ 100]) (fun (b : List Int) => (ofF b, ()))
noncomputable def g142 (x0 : List Int) : Option (List Int × Unit) := gd (List.length x0 = List.length x0) (gd (List.length x0 < (4611686018427387904 : Nat)) (gd ((0 : Nat) = (0 : Nat)) (whileO (fun (d1 : Int × Int × List Int × List Int × Unit) => bif ile (0 : Int) d1.2.1 then gd ((0 : Int) ≤ d1.2.1 ∧ d1.2.1 < (↑(Int.toNat d1.1) : Int)) (gd ((0 : Nat) + Int.toNat d1.2.1 < List.length d1.2.2.1) (bif ilt (0 : Int) (wr IntKind.i64 (List.getD d1.2.2.1 ((0 : Nat) + Int.toNat d1.2.1) (0 : Int) - d1.2.1)) then gd (List.length d1.2.2.2.1 ≤ List.length d1.2.2.2.1) (gd ((List.length d1.2.2.2.1 + (1 : Nat)) * (8 : Nat) ≤ (1099511627776 : Nat)) (gd (List.length d1.2.2.2.1 + (1 : Nat) = List.length (List.take (List.length d1.2.2.2.1) d1.2.2.2.1 ++ wr IntKind.i64 (List.getD d1.2.2.1 ((0 : Nat) + Int.toNat d1.2.1) (0 : Int) - d1.2.1) :: ([] : List Int))) (some (Lp.go (((↑(Int.toNat d1.1) : Int), wr IntKind.i64 (d1.2.1 - (1 : Int)), d1.2.2.1, List.take (List.length d1.2.2.2.1) d1.2.2.2.1 ++ wr IntKind.i64 (List.getD d1.2.2.1 ((0 : Nat) + Int.toNat d1.2.1) (0 : Int) - d1.2.1) :: ([] : List Int), ()) : Int × Int × List Int × List Int × Unit))))) else gd (List.length d1.2.2.2.1 = List.length d1.2.2.2.1) (some (Lp.go (((↑(Int.toNat d1.1) : Int), wr IntKind.i64 (d1.2.1 - (1 : Int)), d1.2.2.1, d1.2.2.2.1, ()) : Int × Int × List Int × List Int × Unit))))) else gd ((0 : Nat) + List.length d1.2.2.2.1 ≤ List.length d1.2.2.2.1) (some (Lp.out ((List.take (List.length d1.2.2.2.1) (List.drop (0 : Nat) d1.2.2.2.1), ()) : List Int × Unit)))) (((↑(List.length x0) : Int), wr IntKind.i64 ((↑(List.length x0) : Int) - (1 : Int)), sortL x0, ([] : List Int), ()) : Int × Int × List Int × List Int × Unit))))
noncomputable def g142_sh : List LSh := LSh.mk3 (((0, TV.sl (1) (1) (0)) : Nat × TV) :: ((3, TV.slf (2) (1)) : Nat × TV) :: ((4, TV.v (Ty.int IntKind.i64)) : Nat × TV) :: ([] : List (Nat × TV))) (TB.dead :: TB.arr (Ty.int IntKind.i64) true :: TB.arr (Ty.int IntKind.i64) true :: ([] : List TB)) (1) :: ([] : List LSh)
noncomputable def con105 (k : Nat) : SCon := mkS 105 [.v LI, .v LI] [] [.v I64] [] (fun (l m : List Int) => [preC k l m]) (fun (l m : List Int) => (chF l m, ()))
noncomputable def con130 (k : Nat) : SCon := mkS 130 [.v LI, .v I64, .ref 0 1 0 0, .ref 1 1 0 0] [.cells [.v I64], .cells [.v LI]] [] [.cells [.v I64], .cells [.v LI]] (fun (l : List Int) (r out : Int) (m : List Int) => [0 < m.length ∧ preC k l (m.drop 1)]) (fun (l : List Int) (r out : Int) (m : List Int) => (stepC (fun c => chF c (m.drop 1)) out (l, r), m, ()))
noncomputable def g130 (n : Nat) (x0 : List Int) (x1 x2 : Int) (x3 : List Int) : Option (Int × List Int × Unit) := gd ((2 : Int) ≠ (0 : Int)) (bif ieq (Int.tmod x1 (2 : Int)) (0 : Int) then gd ((0 : Int) ≤ (1 : Int) ∧ (1 : Int) ≤ (↑(List.length x3) : Int)) (gd (preC n x0 (List.drop (1 : Nat) x3)) (some ((wr IntKind.i64 (x2 - chF x0 (List.drop (1 : Nat) x3)), x3, ()) : Int × List Int × Unit))) else gd ((0 : Int) ≤ (1 : Int) ∧ (1 : Int) ≤ (↑(List.length x3) : Int)) (gd (preC n x0 (List.drop (1 : Nat) x3)) (some ((wr IntKind.i64 (x2 + chF x0 (List.drop (1 : Nat) x3)), x3, ()) : Int × List Int × Unit))))
noncomputable def g130_sh : List LSh := ([] : List LSh)
abbrev F130 : TV := .fn 130 (.cons (.ref 0 1 0 0) (.cons (.ref 1 1 0 0) .nil))
def preT (k : Nat) (l : List Int) (n : Int) (m : List Int) : Prop := 0 < m.length ∧ n = m.getD 0 0 ∧ preC (k + 1) l m
noncomputable def con129 (k : Nat) : SCon := mkS 129 [.v LI, .v I64, F130] [.cells [.v I64], .cells [.v LI]] [] [.cells [.v I64], .cells [.v LI]] (fun (l : List Int) (n out : Int) (m : List Int) => [preT k l n m]) (fun (l : List Int) (n out : Int) (m : List Int) => (rimO l n (m.drop 1) out, m, ()))
noncomputable def g129_l0 (n : Nat) (x0 : List Int) (x1 : Int) (d5 : Int × Int × List Int × Unit) (d6 : Int × Int × Int × List Int × Unit) : Option (Lp (Int × Int × Int × List Int × Unit) (Lp (Int × Int × List Int × Unit) (Int × List Int × Unit))) := bif ilt d6.2.1 (↑(List.length (beadsF x0)) : Int) then gd ((0 : Int) ≤ d6.2.1 ∧ d6.2.1 < (↑(List.length (beadsF x0)) : Int)) (gd (ilt (wr IntKind.i64 (List.getD (beadsF x0) (Int.toNat d5.1) (0 : Int) - x1)) (List.getD (beadsF x0) (Int.toNat d6.2.1) (0 : Int)) = true → ilt (wr IntKind.i64 (List.getD (beadsF x0) (Int.toNat d5.1) (0 : Int) - x1)) (List.getD (beadsF x0) (Int.toNat d6.2.1) (0 : Int)) = true ∧ ilt (wr IntKind.i64 (List.getD (beadsF x0) (Int.toNat d5.1) (0 : Int) - x1)) (List.getD (beadsF x0) (Int.toNat d6.2.1) (0 : Int)) = true) (gd (ilt (wr IntKind.i64 (List.getD (beadsF x0) (Int.toNat d5.1) (0 : Int) - x1)) (List.getD (beadsF x0) (Int.toNat d6.2.1) (0 : Int)) = true → ilt (wr IntKind.i64 (List.getD (beadsF x0) (Int.toNat d5.1) (0 : Int) - x1)) (List.getD (beadsF x0) (Int.toNat d6.2.1) (0 : Int)) = true) (bif bif ilt (wr IntKind.i64 (List.getD (beadsF x0) (Int.toNat d5.1) (0 : Int) - x1)) (List.getD (beadsF x0) (Int.toNat d6.2.1) (0 : Int)) then ilt (List.getD (beadsF x0) (Int.toNat d6.2.1) (0 : Int)) (List.getD (beadsF x0) (Int.toNat d5.1) (0 : Int)) else false then some (Lp.go ((wr IntKind.i64 (d6.1 + (1 : Int)), wr IntKind.i64 (d6.2.1 + (1 : Int)), d6.2.2.1, d6.2.2.2.1, ()) : Int × Int × Int × List Int × Unit)) else some (Lp.go ((d6.1, wr IntKind.i64 (d6.2.1 + (1 : Int)), d6.2.2.1, d6.2.2.2.1, ()) : Int × Int × Int × List Int × Unit))))) else gd (List.length (beadsF x0) ≤ (100000 : Nat)) (gd ((0 : Int) ≤ d5.1 ∧ d5.1 < (↑(List.length (beadsF x0)) : Int)) (gd ((0 : Nat) + Int.toNat d5.1 < List.length (beadsF x0)) (gd (List.length (beadsF x0) = List.length (List.set (beadsF x0) ((0 : Nat) + Int.toNat d5.1) (wr IntKind.i64 (List.getD (beadsF x0) (Int.toNat d5.1) (0 : Int) - x1)))) (gd (List.length (List.set (beadsF x0) ((0 : Nat) + Int.toNat d5.1) (wr IntKind.i64 (List.getD (beadsF x0) (Int.toNat d5.1) (0 : Int) - x1))) ≤ (8 : Nat) ∧ ∀ (x7 : Int), List.Mem x7 (List.set (beadsF x0) ((0 : Nat) + Int.toNat d5.1) (wr IntKind.i64 (List.getD (beadsF x0) (Int.toNat d5.1) (0 : Int) - x1))) → (-100 : Int) ≤ x7 ∧ x7 ≤ (100 : Int)) (gd ((0 : Nat) < List.length d6.2.2.2.1 ∧ preC n (ofF (List.set (beadsF x0) ((0 : Nat) + Int.toNat d5.1) (wr IntKind.i64 (List.getD (beadsF x0) (Int.toNat d5.1) (0 : Int) - x1)))) (List.drop (1 : Nat) d6.2.2.2.1)) (some (Lp.out (Lp.go ((wr IntKind.i64 (d5.1 + (1 : Int)), stepC (fun (d7 : List Int) => chF d7 (List.drop (1 : Nat) d6.2.2.2.1)) d6.2.2.1 ((ofF (List.set (beadsF x0) ((0 : Nat) + Int.toNat d5.1) (wr IntKind.i64 (List.getD (beadsF x0) (Int.toNat d5.1) (0 : Int) - x1))), d6.1) : List Int × Int), d6.2.2.2.1, ()) : Int × Int × List Int × Unit)))))))))
noncomputable def g129 (n : Nat) (x0 : List Int) (x1 x2 : Int) (x3 : List Int) : Option (Int × List Int × Unit) := gd (shapeB x0 = true) (whileO (fun (d5 : Int × Int × List Int × Unit) => bif ilt d5.1 (↑(List.length (beadsF x0)) : Int) then gd ((0 : Int) ≤ d5.1 ∧ d5.1 < (↑(List.length (beadsF x0)) : Int)) (gd ((!ilt (List.getD (beadsF x0) (Int.toNat d5.1) (0 : Int)) x1) = true → (!ilt (List.getD (beadsF x0) (Int.toNat d5.1) (0 : Int)) x1) = true ∧ (!ilt (List.getD (beadsF x0) (Int.toNat d5.1) (0 : Int)) x1) = true) (gd ((!ilt (List.getD (beadsF x0) (Int.toNat d5.1) (0 : Int)) x1) = true → (!ilt (List.getD (beadsF x0) (Int.toNat d5.1) (0 : Int)) x1) = true ∧ (!ilt (List.getD (beadsF x0) (Int.toNat d5.1) (0 : Int)) x1) = true ∧ List.length (beadsF x0) ≤ (1000 : Nat)) (gd (ilt (List.getD (beadsF x0) (Int.toNat d5.1) (0 : Int)) x1 = false → (!ilt (List.getD (beadsF x0) (Int.toNat d5.1) (0 : Int)) x1) = true) (bif bif ilt (List.getD (beadsF x0) (Int.toNat d5.1) (0 : Int)) x1 then true else hasF (beadsF x0) (wr IntKind.i64 (List.getD (beadsF x0) (Int.toNat d5.1) (0 : Int) - x1)) then some (Lp.go ((wr IntKind.i64 (d5.1 + (1 : Int)), d5.2.1, d5.2.2.1, ()) : Int × Int × List Int × Unit)) else whileO (g129_l0 n x0 x1 d5) (((1 : Int), (0 : Int), d5.2.1, d5.2.2.1, ()) : Int × Int × Int × List Int × Unit))))) else some (Lp.out ((d5.2.1, d5.2.2.1, ()) : Int × List Int × Unit))) (((0 : Int), x2, x3, ()) : Int × Int × List Int × Unit))
noncomputable def g129_sh : List LSh := LSh.mk3 (((2, TV.fn (130) (TV.cons (TV.ref (0) (1 : Nat) (0 : Nat) (0 : Nat)) (TV.cons (TV.ref (1) (1 : Nat) (0 : Nat) (0 : Nat)) TV.nil))) : Nat × TV) :: ((17, TV.v (Ty.int IntKind.i64)) : Nat × TV) :: ([] : List (Nat × TV))) (TB.cells (TV.v (Ty.int IntKind.i64) :: ([] : List TV)) :: TB.cells (TV.v (Ty.slice (Ty.int IntKind.i64)) :: ([] : List TV)) :: ([] : List TB)) (2) :: LSh.mk3 (((2, TV.fn (130) (TV.cons (TV.ref (0) (1 : Nat) (0 : Nat) (0 : Nat)) (TV.cons (TV.ref (1) (1 : Nat) (0 : Nat) (0 : Nat)) TV.nil))) : Nat × TV) :: ((9, TV.v (Ty.int IntKind.i64)) : Nat × TV) :: ((34, TV.v (Ty.int IntKind.i64)) : Nat × TV) :: ([] : List (Nat × TV))) (TB.cells (TV.v (Ty.int IntKind.i64) :: ([] : List TV)) :: TB.cells (TV.v (Ty.slice (Ty.int IntKind.i64)) :: ([] : List TV)) :: ([] : List TB)) (2) :: ([] : List LSh)
noncomputable def g105 (n : Nat) (x0 x1 : List Int) : Option (Int × Unit) := bif ieq (↑(List.length x1) : Int) (0 : Int) then some (((1 : Int), ()) : Int × Unit) else gd ((0 : Int) ≤ (0 : Int) ∧ (0 : Int) < (↑(List.length x1) : Int)) (gd (preT n x0 (List.getD x1 (0 : Nat) (0 : Int)) x1) (some ((rimO x0 (List.getD x1 (0 : Nat) (0 : Int)) (List.drop (1 : Nat) x1) (0 : Int), ()) : Int × Unit)))
noncomputable def g105_sh : List LSh := ([] : List LSh)
def charF (l m : List Int) : Int × Int × Unit := if shapeB l = true ∧ shapeB m = true ∧ boxW l = boxW m then (chF l m, 0, ()) else (0, 2, ())
noncomputable def con62 : Con := mkC 62 [.d LI, .d LI] [I64, I64] (fun (l m : List Int) => [l.length ≤ 1000 ∧ m.length ≤ 1000]) (fun (l m : List Int) => charF l m)
noncomputable def g62 (x0 x1 : List Int) : Option (Int × Int × Unit) := gd (List.length x0 ≤ (1000 : Nat)) (gd ((!!shapeB x0) = true → (!!shapeB x0) = true ∧ List.length x1 ≤ (1000 : Nat)) (gd ((!!shapeB x0) = true → (!!shapeB x0) = true) (gd ((!shapeB x0) = false → (!!shapeB x0) = true) (gd ((!bif !shapeB x0 then true else !shapeB x1) = true → (!bif !shapeB x0 then true else !shapeB x1) = true ∧ List.length x0 ≤ (1000 : Nat)) (gd ((!bif !shapeB x0 then true else !shapeB x1) = true → (!bif !shapeB x0 then true else !shapeB x1) = true ∧ List.length x1 ≤ (1000 : Nat)) (gd ((!bif !shapeB x0 then true else !shapeB x1) = true → (!bif !shapeB x0 then true else !shapeB x1) = true ∧ (!bif !shapeB x0 then true else !shapeB x1) = true) (gd ((bif !shapeB x0 then true else !shapeB x1) = false → (!bif !shapeB x0 then true else !shapeB x1) = true) (bif bif bif !shapeB x0 then true else !shapeB x1 then true else !ieq (boxW x0) (boxW x1) then some (((0 : Int), (2 : Int), ()) : Int × Int × Unit) else gd (preC (9 : Nat) x0 x1) (some ((chF x0 x1, (0 : Int), ()) : Int × Int × Unit))))))))))
noncomputable def g62_sh : List LSh := ([] : List LSh)

def h140 (x0 : List Int) : Option (List Int × Unit) := gdD ((0 : Nat) = (0 : Nat)) (whileF 30 (fun (d1 : Int × List Int × Unit) => bif ilt d1.1 (↑(List.length x0) : Int) then gdD ((0 : Int) ≤ d1.1 ∧ d1.1 < (↑(List.length x0) : Int)) (gdD (List.length d1.2.1 ≤ List.length d1.2.1) (gdD ((List.length d1.2.1 + (1 : Nat)) * (8 : Nat) ≤ (1099511627776 : Nat)) (gdD (List.length d1.2.1 + (1 : Nat) = List.length (List.take (List.length d1.2.1) d1.2.1 ++ wr IntKind.i64 (wr IntKind.i64 (wr IntKind.i64 (List.getD x0 (Int.toNat d1.1) (0 : Int) + (↑(List.length x0) : Int)) - (1 : Int)) - d1.1) :: ([] : List Int))) (some (Lp.go ((wr IntKind.i64 (d1.1 + (1 : Int)), List.take (List.length d1.2.1) d1.2.1 ++ wr IntKind.i64 (wr IntKind.i64 (wr IntKind.i64 (List.getD x0 (Int.toNat d1.1) (0 : Int) + (↑(List.length x0) : Int)) - (1 : Int)) - d1.1) :: ([] : List Int), ()) : Int × List Int × Unit)))))) else gdD ((0 : Nat) + List.length d1.2.1 ≤ List.length d1.2.1) (some (Lp.out ((List.take (List.length d1.2.1) (List.drop (0 : Nat) d1.2.1), ()) : List Int × Unit)))) (((0 : Int), ([] : List Int), ()) : Int × List Int × Unit))
theorem h140_le (x0 : List Int) : LeO (h140 x0) (g140 x0) := by
  unfold h140 g140
  repeat' first | exact leO_refl | refine leO_gd ?_ | refine leO_cond ?_ ?_ | refine leO_map ?_ | refine leO_eqO ?_ ?_ | (refine leO_while fun s => ?_; try dsimp only)
end Go.Schur

set_option linter.unusedVariables false
set_option linter.unusedSimpArgs false
namespace Go.Schur
open Go Go.Ab Go.Proofs

theorem insI_perm {x : Int} : ∀ {l : List Int}, (insI x l).Perm (x :: l)
  | [] => List.Perm.refl _
  | y :: l => by
    rw [insI]
    split
    · exact List.Perm.refl _
    · exact (List.Perm.cons y insI_perm).trans (List.Perm.swap x y l)
theorem insI_pw {x : Int} : ∀ {l : List Int}, l.Pairwise (· ≤ ·) → (insI x l).Pairwise (· ≤ ·)
  | [], _ => by simp [insI]
  | y :: l, h => by
    obtain ⟨h1, h2⟩ := List.pairwise_cons.1 h
    rw [insI]
    split
    · rename_i hxy
      refine List.pairwise_cons.2 ⟨fun z hz => ?_, h⟩
      rcases List.mem_cons.1 hz with rfl | hz
      · exact hxy
      · have := h1 z hz; omega
    · rename_i hxy
      refine List.pairwise_cons.2 ⟨fun z hz => ?_, insI_pw h2⟩
      have := insI_perm.mem_iff.1 hz
      rcases List.mem_cons.1 this with rfl | hz
      · omega
      · exact h1 z hz
theorem insS_perm : ∀ {l : List Int}, (insS l).Perm l
  | [] => List.Perm.refl _
  | x :: l => insI_perm.trans (List.Perm.cons x insS_perm)
theorem insS_pw : ∀ {l : List Int}, (insS l).Pairwise (· ≤ ·)
  | [] => by simp [insS]
  | x :: l => insI_pw insS_pw
theorem sort_ins {l : List Int} : sortL l = insS l :=
  List.Perm.eq_of_pairwise (le := (· ≤ ·)) (fun a b _ _ h1 h2 => by omega) sortL_pw insS_pw (sortL_perm.trans insS_perm.symm)

theorem goal142 : con142.goal Try.prog (spS [sortCon 61 true] []) g142_sh [8] lm30 := by
  have e : (∀ (b : List Int), (b.length ≤ 8 ∧ ∀ x ∈ b, -100 ≤ x ∧ x ≤ 100) → g142 b = some (ofF b, ())) = con142.goal Try.prog (spS [sortCon 61 true] []) g142_sh [8] lm30 := by kernel_rfl
  rw [← e]
  rintro b ⟨h1, h2⟩
  unfold g142
  rw [gd_pos rfl, gd_pos (by omega), gd_pos rfl, sort_ins]
  have hl : (insS b).length = b.length := insS_perm.length_eq
  have hm : ∀ x ∈ insS b, -100 ≤ x ∧ x ≤ 100 := fun x hx => h2 x (insS_perm.mem_iff.1 hx)
  generalize hs : insS b = s at hl hm
  let fl : Nat → List Int := fun k => ((List.range k).reverse.map fun (j : Nat) => s.getD j 0 - j).filter fun x => decide (0 < x)
  have hfl : ∀ k, fl (k + 1) = (if 0 < s.getD k 0 - k then [s.getD k 0 - k] else []) ++ fl k := fun k => by
    show List.filter _ (List.map _ (List.range (k + 1)).reverse) = _
    rw [List.range_succ, List.reverse_append]
    simp only [List.reverse_cons, List.reverse_nil, List.nil_append, List.cons_append, List.map_cons, List.filter_cons]
    by_cases h : 0 < s.getD k 0 - (k : Int)
    · rw [if_pos h, if_pos (decide_eq_true h)]; rfl
    · rw [if_neg h, if_neg (by simpa using h)]; rfl
  have key : ∀ (k : Nat) (o : List Int), k ≤ b.length → o.length + k ≤ b.length → whileO (fun (d1 : Int × Int × List Int × List Int × Unit) => bif ile (0 : Int) d1.2.1 then gd ((0 : Int) ≤ d1.2.1 ∧ d1.2.1 < (↑(Int.toNat d1.1) : Int)) (gd ((0 : Nat) + Int.toNat d1.2.1 < List.length d1.2.2.1) (bif ilt (0 : Int) (wr IntKind.i64 (List.getD d1.2.2.1 ((0 : Nat) + Int.toNat d1.2.1) (0 : Int) - d1.2.1)) then gd (List.length d1.2.2.2.1 ≤ List.length d1.2.2.2.1) (gd ((List.length d1.2.2.2.1 + (1 : Nat)) * (8 : Nat) ≤ (1099511627776 : Nat)) (gd (List.length d1.2.2.2.1 + (1 : Nat) = List.length (List.take (List.length d1.2.2.2.1) d1.2.2.2.1 ++ wr IntKind.i64 (List.getD d1.2.2.1 ((0 : Nat) + Int.toNat d1.2.1) (0 : Int) - d1.2.1) :: ([] : List Int))) (some (Lp.go (((↑(Int.toNat d1.1) : Int), wr IntKind.i64 (d1.2.1 - (1 : Int)), d1.2.2.1, List.take (List.length d1.2.2.2.1) d1.2.2.2.1 ++ wr IntKind.i64 (List.getD d1.2.2.1 ((0 : Nat) + Int.toNat d1.2.1) (0 : Int) - d1.2.1) :: ([] : List Int), ()) : Int × Int × List Int × List Int × Unit))))) else gd (List.length d1.2.2.2.1 = List.length d1.2.2.2.1) (some (Lp.go (((↑(Int.toNat d1.1) : Int), wr IntKind.i64 (d1.2.1 - (1 : Int)), d1.2.2.1, d1.2.2.2.1, ()) : Int × Int × List Int × List Int × Unit))))) else gd ((0 : Nat) + List.length d1.2.2.2.1 ≤ List.length d1.2.2.2.1) (some (Lp.out ((List.take (List.length d1.2.2.2.1) (List.drop (0 : Nat) d1.2.2.2.1), ()) : List Int × Unit)))) (((b.length : Nat) : Int), (k : Int) - 1, s, o, ()) = some (o ++ fl k, ()) := by
    intro k
    induction k with
    | zero =>
      intro o _ _
      refine whileO_out ?_
      have : fl 0 = [] := rfl
      simp only [ile_false.2 (show ((0 : Nat) : Int) - 1 < 0 by omega), cond_false, List.drop_zero, List.take_length, this, List.append_nil]
      rw [gd_pos (by omega)]
    | succ k ih =>
      intro o hk ho
      have hks : k < s.length := by omega
      have hx := hm (s.getD k 0) (getD_mem hks)
      have ek : ((k + 1 : Nat) : Int) - 1 = (k : Int) := by omega
      have w1 : wr .i64 ((k : Int) - 1) = (k : Int) - 1 := wr_id (by omega)
      have w2 : wr .i64 (s.getD k 0 - (k : Int)) = s.getD k 0 - (k : Int) := wr_id (by omega)
      rw [ek, hfl]
      by_cases hpos : 0 < s.getD k 0 - (k : Int)
      · refine (whileO_go (s' := (((b.length : Nat) : Int), (k : Int) - 1, s, o ++ [s.getD k 0 - (k : Int)], ())) ?_).trans ((ih _ (by omega) (by simp; omega)).trans ?_)
        · simp only [ile_iff.2 (show (0 : Int) ≤ (k : Int) by omega), cond_true, Int.toNat_natCast, Nat.zero_add, w1, w2, ilt_iff.2 hpos, List.take_length]
          rw [gd_pos ⟨by omega, by omega⟩, gd_pos hks, gd_pos (Nat.le_refl _), gd_pos (by omega), gd_pos (by simp)]
        · rw [if_pos hpos, List.append_assoc]
      · refine (whileO_go (s' := (((b.length : Nat) : Int), (k : Int) - 1, s, o, ())) ?_).trans ((ih _ (by omega) (by omega)).trans ?_)
        · simp only [ile_iff.2 (show (0 : Int) ≤ (k : Int) by omega), cond_true, Int.toNat_natCast, Nat.zero_add, w1, w2, ilt_false.2 (show s.getD k 0 - (k : Int) ≤ 0 by omega), cond_false]
          rw [gd_pos ⟨by omega, by omega⟩, gd_pos hks, gd_true]
        · rw [if_neg hpos, List.nil_append]
  have w0 : wr .i64 ((b.length : Int) - 1) = (b.length : Int) - 1 := wr_id (by omega)
  rw [w0]
  have := key b.length [] (Nat.le_refl _) (by simp)
  rw [List.nil_append] at this
  rw [this]
  unfold ofF
  rw [hs]
set_option maxRecDepth 100000 in
theorem ok142 : con142.Ok Try.prog := SCon.of_goal mixed okN (okS (ok61 true) okS0) con142 goal142

theorem goal140 : con140.goal Try.prog (spOf []) g140_sh [] lm30 := by
  have e : (∀ (l : List Int), shapeB l = true → g140 l = some (beadsF l, ())) = con140.goal Try.prog (spOf []) g140_sh [] lm30 := by kernel_rfl
  rw [← e]
  intro l hl
  refine h140_le _ _ (all_shape (P := fun l => h140 l = some (beadsF l, ())) ?_ hl)
  decide +kernel
set_option maxRecDepth 100000 in
theorem ok140 : con140.Ok Try.prog := Con.of_goal mixed okN con140 goal140
theorem ixF_ge {l : List Int} {x : Int} : ile 0 (ixF l x) = hasF l x := by
  unfold ixF hasF
  by_cases h : x ∈ l
  · rw [if_pos h, decide_eq_true h, ile_iff]; omega
  · rw [if_neg h, decide_eq_false h, ile_false]; omega
theorem goal145 : con145.goal Try.prog (spOf []) g145_sh [] lm30 := by
  have e : (∀ (l : List Int) (x : Int), l.length ≤ 1000 → g145 l x = some (ixF l x, ())) = con145.goal Try.prog (spOf []) g145_sh [] lm30 := by kernel_rfl
  rw [← e]
  intro l x hl
  unfold g145
  have key : ∀ (c i : Nat), c + i = l.length → x ∉ l.take i → whileO (fun (d2 : Int × Unit) => bif ilt d2.1 (↑(List.length l) : Int) then gd ((0 : Int) ≤ d2.1 ∧ d2.1 < (↑(List.length l) : Int)) (bif ieq x (List.getD l (Int.toNat d2.1) (0 : Int)) then some (Lp.out ((d2.1, ()) : Int × Unit)) else some (Lp.go ((wr IntKind.i64 (d2.1 + (1 : Int)), ()) : Int × Unit))) else some (Lp.out (((-1 : Int), ()) : Int × Unit))) (((i : Nat) : Int), ()) = some (ixF l x, ()) := by
    intro c
    induction c with
    | zero =>
      intro i hi hn
      refine whileO_out ?_
      rw [List.take_of_length_le (by omega)] at hn
      simp only [ilt_false.2 (show (l.length : Int) ≤ (i : Int) by omega), cond_false]
      unfold ixF
      rw [if_neg hn]
    | succ c ih =>
      intro i hi hn
      have hlt : i < l.length := by omega
      have hg : l.getD i 0 = l[i] := by rw [List.getD_eq_getElem?_getD, List.getElem?_eq_getElem hlt]; rfl
      by_cases hx : x = l[i]
      · refine whileO_out ?_
        simp only [ilt_iff.2 (show (i : Int) < (l.length : Int) by omega), cond_true, Int.toNat_natCast, hg, ieq_iff.2 hx]
        rw [gd_pos ⟨by omega, by omega⟩]
        unfold ixF
        have hm : x ∈ l := hx ▸ List.getElem_mem hlt
        rw [if_pos hm]
        have : l.idxOf x = i := by
          have e1 : l = l.take i ++ (l[i] :: l.drop (i + 1)) := by rw [← List.drop_eq_getElem_cons hlt, List.take_append_drop]
          conv => lhs; rw [e1]
          rw [List.idxOf_append, if_neg hn, hx, List.idxOf_cons_self, List.length_take]; omega
        rw [this]
      · refine (whileO_go (s' := (((i + 1 : Nat) : Int), ())) ?_).trans (ih (i + 1) (by omega) ?_)
        · have w : wr .i64 ((i : Int) + 1) = (i + 1 : Nat) := (wr_id (by omega)).trans (by omega)
          simp only [ilt_iff.2 (show (i : Int) < (l.length : Int) by omega), cond_true, Int.toNat_natCast, hg, ieq_false.2 hx, cond_false, w]
          rw [gd_pos ⟨by omega, by omega⟩]
        · rw [List.take_succ_eq_append_getElem hlt, List.mem_append]
          rintro (h | h)
          · exact hn h
          · exact hx (List.mem_singleton.1 h)
  exact key l.length 0 (by omega) (by simp)
set_option maxRecDepth 100000 in
theorem ok145 : con145.Ok Try.prog := Con.of_goal mixed okN con145 goal145
theorem goal141 : con141.goal Try.prog (spOf [con145]) g141_sh [] lm30 := by
  have e : (∀ (l : List Int) (x : Int), l.length ≤ 1000 → g141 l x = some (hasF l x, ())) = con141.goal Try.prog (spOf [con145]) g141_sh [] lm30 := by kernel_rfl
  rw [← e]
  intro l x hl
  unfold g141
  rw [gd_pos hl, ixF_ge]
set_option maxRecDepth 100000 in
theorem ok141 : con141.Ok Try.prog := Con.of_goal mixed (okC ok145 okN) con141 goal141

/-- What a rim leaves. -/
def rimOk (p : List Nat) (n : Nat) : Bool := (List.range p.length).all fun i => decide ((beadsF (toI p)).getD i 0 < n) || (hasF (beadsF (toI p)) ((beadsF (toI p)).getD i 0 - n) || (shapeB (ofF ((beadsF (toI p)).set i ((beadsF (toI p)).getD i 0 - n))) && decide (boxW (ofF ((beadsF (toI p)).set i ((beadsF (toI p)).getD i 0 - n))) = boxW (toI p) - n)))
set_option maxRecDepth 100000 in
theorem rim_all : ∀ p ∈ allP, ∀ n ∈ List.range (p.sum + 1), rimOk p n = true := by decide +kernel
set_option maxRecDepth 100000 in
theorem beads_bd : ∀ p ∈ allP, ∀ x ∈ beadsF (toI p), 0 ≤ x ∧ x ≤ 16 := by decide +kernel
theorem beads_len {l : List Int} : (beadsF l).length = l.length := by simp [beadsF]

theorem goal130 (k : Nat) : (con130 k).goal Try.prog (spS [con105 k] []) g130_sh [] lm30 := by
  have e : (∀ (l : List Int) (r out : Int) (m : List Int), (0 < m.length ∧ preC k l (m.drop 1)) → g130 k l r out m = some (stepC (fun c => chF c (m.drop 1)) out (l, r), m, ())) = (con130 k).goal Try.prog (spS [con105 k] []) g130_sh [] lm30 := by kernel_rfl
  rw [← e]
  rintro l r out m ⟨h1, h2⟩
  unfold g130 stepC
  rw [gd_pos (by decide)]
  by_cases h : Int.tmod r 2 = 0
  · rw [ieq_iff.2 h, cond_true, gd_pos ⟨by omega, by omega⟩, gd_pos h2, if_pos h]
  · rw [ieq_false.2 h, cond_false, gd_pos ⟨by omega, by omega⟩, gd_pos h2, if_neg h]
theorem shape_head {p : List Nat} {m : List Int} (hm : shapeB m = true) (hl : 0 < m.length) : ∃ n : Nat, m.getD 0 0 = n ∧ 1 ≤ n ∧ n ≤ 8 ∧ boxW (m.drop 1) = boxW m - n ∧ shapeB (m.drop 1) = true := by
  have : ∀ p ∈ allP, 0 < p.length → shapeB ((toI p).drop 1) = true ∧ boxW ((toI p).drop 1) = boxW (toI p) - (p.getD 0 0 : Nat) ∧ 1 ≤ p.getD 0 0 ∧ p.getD 0 0 ≤ 8 := by decide +kernel
  obtain ⟨q, hq, rfl, _⟩ := shape_allP hm
  obtain ⟨h1, h2, h3, h4⟩ := this q hq (by simpa [toI] using hl)
  exact ⟨q.getD 0 0, toI_get, h3, h4, h2, h1⟩
theorem goal129 (k : Nat) : (con129 k).goal Try.prog (spS [con39s, con142, con130 k] [con140, con141]) g129_sh [] lm30 := by
  have e : (∀ (l : List Int) (n out : Int) (m : List Int), preT k l n m → g129 k l n out m = some (rimO l n (m.drop 1) out, m, ())) = (con129 k).goal Try.prog (spS [con39s, con142, con130 k] [con140, con141]) g129_sh [] lm30 := by kernel_rfl
  rw [← e]
  rintro l n0 out m ⟨hm0, rfl, hl, hm, hbox, hlen⟩
  obtain ⟨n, hn, hn1, hn8, hdb, hds⟩ := shape_head (p := []) hm hm0
  obtain ⟨p, hp, rfl, hp8, hp1, hps⟩ := shape_allP hl
  have hb1 := toI_box hp8.len hps
  have hpl := hp8.len
  have hbl : (beadsF (toI p)).length = p.length := by rw [beads_len]; simp [toI]
  have hnn : (n : Int) ≤ boxW m := by
    obtain ⟨q, hq, rfl, hq8, _, hqs⟩ := shape_allP hm
    have : ∀ q ∈ allP, ((q.getD 0 0 : Nat) : Int) ≤ boxW (toI q) := by decide +kernel
    have h2 := this q hq
    rw [toI_get] at hn
    omega
  have hbd := beads_bd p hp
  have hrim := rim_all p hp n (List.mem_range.2 (by omega))
  unfold rimOk at hrim
  rw [List.all_eq_true] at hrim
  unfold g129
  rw [hn, gd_pos hl]
  unfold rimO rimS
  rw [show (toI p).length = p.length by simp [toI]]
  generalize hbs : beadsF (toI p) = b at hbl hbd hrim
  have key : ∀ (c i : Nat) (o : Int), c + i = p.length → whileO (fun (d5 : Int × Int × List Int × Unit) => bif ilt d5.1 (↑(List.length b) : Int) then gd ((0 : Int) ≤ d5.1 ∧ d5.1 < (↑(List.length b) : Int)) (gd ((!ilt (List.getD b (Int.toNat d5.1) (0 : Int)) (n : Int)) = true → (!ilt (List.getD b (Int.toNat d5.1) (0 : Int)) (n : Int)) = true ∧ (!ilt (List.getD b (Int.toNat d5.1) (0 : Int)) (n : Int)) = true) (gd ((!ilt (List.getD b (Int.toNat d5.1) (0 : Int)) (n : Int)) = true → (!ilt (List.getD b (Int.toNat d5.1) (0 : Int)) (n : Int)) = true ∧ (!ilt (List.getD b (Int.toNat d5.1) (0 : Int)) (n : Int)) = true ∧ List.length b ≤ (1000 : Nat)) (gd (ilt (List.getD b (Int.toNat d5.1) (0 : Int)) (n : Int) = false → (!ilt (List.getD b (Int.toNat d5.1) (0 : Int)) (n : Int)) = true) (bif bif ilt (List.getD b (Int.toNat d5.1) (0 : Int)) (n : Int) then true else hasF b (wr IntKind.i64 (List.getD b (Int.toNat d5.1) (0 : Int) - (n : Int))) then some (Lp.go ((wr IntKind.i64 (d5.1 + (1 : Int)), d5.2.1, d5.2.2.1, ()) : Int × Int × List Int × Unit)) else whileO (g129_l0 k (toI p) (n : Int) d5) (((1 : Int), (0 : Int), d5.2.1, d5.2.2.1, ()) : Int × Int × Int × List Int × Unit))))) else some (Lp.out ((d5.2.1, d5.2.2.1, ()) : Int × List Int × Unit))) (((i : Nat) : Int), o, m, ()) = some ((rimL b n ((List.range p.length).drop i)).foldl (stepC fun c => chF c (m.drop 1)) o, m, ()) := by
    intro c
    induction c with
    | zero =>
      intro i o hi
      refine whileO_out ?_
      simp only [hbl, ilt_false.2 (show (p.length : Int) ≤ (i : Int) by omega), cond_false]
      rw [show (List.range p.length).drop i = [] from List.drop_eq_nil_of_le (by simp; omega)]; rfl
    | succ c ih =>
      intro i o hi
      have hlt : i < p.length := by omega
      have hd : (List.range p.length).drop i = i :: (List.range p.length).drop (i + 1) := by
        rw [List.drop_eq_getElem_cons (by simpa using hlt), List.getElem_range]
      have w1 : wr .i64 ((i : Int) + 1) = (i + 1 : Nat) := (wr_id (by omega)).trans (by omega)
      have hxb := hbd (b.getD i 0) (getD_mem (by omega))
      have w2 : wr .i64 (b.getD i 0 - (n : Int)) = b.getD i 0 - (n : Int) := wr_id (by omega)
      rw [hd, rimL]
      by_cases hskip : b.getD i 0 < (n : Int) ∨ (b.getD i 0 - (n : Int)) ∈ b
      · rw [if_pos hskip]
        refine (whileO_go (s' := (((i + 1 : Nat) : Int), o, m, ())) ?_).trans (ih (i + 1) o (by omega))
        have hc : (bif ilt (b.getD i 0) (n : Int) then true else hasF b (b.getD i 0 - (n : Int))) = true := by
          rcases hskip with h | h
          · rw [ilt_iff.2 h]; rfl
          · cases ilt (b.getD i 0) (n : Int)
            · exact decide_eq_true h
            · rfl
        simp only [hbl, ilt_iff.2 (show (i : Int) < (p.length : Int) by omega), cond_true, Int.toNat_natCast, w1, w2, hc]
        rw [gd_pos ⟨by omega, by omega⟩, gd_pos (fun h => ⟨h, h⟩), gd_pos (fun h => ⟨h, h, by omega⟩), gd_pos (fun h => by rw [h]; rfl)]
      · rw [if_neg hskip, List.foldl_cons]
        have h1 : ¬ b.getD i 0 < (n : Int) := fun h => hskip (.inl h)
        have h2 : (b.getD i 0 - (n : Int)) ∉ b := fun h => hskip (.inr h)
        have ht := hrim i (List.mem_range.2 hlt)
        rw [decide_eq_false h1, show hasF b (b.getD i 0 - (n : Int)) = false from decide_eq_false h2] at ht
        simp only [Bool.false_or, Bool.and_eq_true, decide_eq_true_eq] at ht
        refine (whileO_go (s' := (((i + 1 : Nat) : Int), stepC (fun c => chF c (m.drop 1)) o (ofF (b.set i (b.getD i 0 - (n : Int))), rowsF b (b.getD i 0) n), m, ())) ?_).trans (ih (i + 1) _ (by omega))
        have hc : (bif ilt (b.getD i 0) (n : Int) then true else hasF b (b.getD i 0 - (n : Int))) = false := by
          rw [ilt_false.2 (by omega), show hasF b (b.getD i 0 - (n : Int)) = false from decide_eq_false h2]; rfl
        simp only [hbl, ilt_iff.2 (show (i : Int) < (p.length : Int) by omega), cond_true, Int.toNat_natCast, w1, w2, hc, cond_false]
        rw [gd_pos ⟨by omega, by omega⟩, gd_pos (fun h => ⟨h, h⟩), gd_pos (fun h => ⟨h, h, by omega⟩), gd_pos (fun h => by rw [h]; rfl)]
        have hcnt : ∀ j, j ≤ b.length → ((b.take j).filter fun y => decide (b.getD i 0 - (n : Int) < y) && decide (y < b.getD i 0)).length ≤ j := fun j hj => Nat.le_trans (List.length_filter_le _ _) (by simp; omega)
        refine whileO_at (fun j => (1 + ((((b.take j).filter fun y => decide (b.getD i 0 - (n : Int) < y) && decide (y < b.getD i 0)).length : Nat) : Int), ((j : Nat) : Int), o, m, ())) p.length _ rfl (fun j hj => ?_) ?_
        · unfold g129_l0
          have hjb : j < b.length := by omega
          have hgj : b.getD j 0 = b[j] := by rw [List.getD_eq_getElem?_getD, List.getElem?_eq_getElem hjb]; rfl
          have w3 : wr .i64 ((j : Int) + 1) = (j + 1 : Nat) := (wr_id (by omega)).trans (by omega)
          have hcj := hcnt j (by omega)
          rw [hbs]
          simp only [hbl, ilt_iff.2 (show (j : Int) < (p.length : Int) by omega), cond_true, Int.toNat_natCast, w2, w3]
          rw [gd_pos ⟨by omega, by omega⟩, List.take_succ_eq_append_getElem hjb, List.filter_append, List.length_append, hgj]
          simp only [imp_self, and_self, gd_true]
          have hfs : List.filter (fun y => decide (b.getD i 0 - (n : Int) < y) && decide (y < b.getD i 0)) [b[j]] = if (decide (b.getD i 0 - (n : Int) < b[j]) && decide (b[j] < b.getD i 0)) = true then [b[j]] else [] := by
            simp only [List.filter_cons, List.filter_nil]
          rw [hfs]
          by_cases k1 : b.getD i 0 - (n : Int) < b[j]
          · by_cases k2 : b[j] < b.getD i 0
            · rw [ilt_iff.2 k1, ilt_iff.2 k2, decide_eq_true k1, decide_eq_true k2]
              simp only [cond_true, Bool.and_self, if_true, List.length_cons, List.length_nil]
              rw [wr_id (by omega)]
              simp [gd_true]; omega
            · rw [ilt_iff.2 k1, ilt_false.2 (show b.getD i 0 ≤ b[j] by omega), decide_eq_false k2]
              simp [gd_true]
          · rw [ilt_false.2 (show b[j] ≤ b.getD i 0 - (n : Int) by omega), decide_eq_false k1]
            simp [gd_true]
        · unfold g129_l0
          have hpre : preC k (ofF (b.set i (b.getD i 0 - (n : Int)))) (m.drop 1) := by
            refine ⟨ht.1, hds, ?_, by simp; omega⟩
            rw [ht.2, hdb]; omega
          have hrows : (1 : Int) + ((((b.take p.length).filter fun y => decide (b.getD i 0 - (n : Int) < y) && decide (y < b.getD i 0)).length : Nat) : Int) = rowsF b (b.getD i 0) n := by
            rw [List.take_of_length_le (by omega)]; rfl
          have hset : (b.set i (b.getD i 0 - (n : Int))).length ≤ 8 ∧ ∀ x ∈ b.set i (b.getD i 0 - (n : Int)), -100 ≤ x ∧ x ≤ 100 := by
            refine ⟨by simp; omega, fun x hx => ?_⟩
            rcases List.mem_or_eq_of_mem_set hx with h | h
            · have := hbd x h; omega
            · omega
          rw [hbs, hrows]
          simp only [hbl, ilt_false.2 (Int.le_refl _), cond_false, Int.toNat_natCast, Nat.zero_add, w1, w2, List.length_set]
          rw [gd_pos (by omega), gd_pos ⟨by omega, by omega⟩, gd_pos (by omega), gd_true]
          first
            | rw [gd_pos hset, gd_pos ⟨hm0, hpre⟩]
            | (rw [gd_pos ⟨by omega, hset.2⟩, gd_pos ⟨hm0, hpre⟩])
  have := key p.length 0 out (by omega)
  rw [List.drop_zero] at this
  exact this
theorem goal105 (k : Nat) : (con105 (k + 1)).goal Try.prog (spS [con129 k] []) g105_sh [] lm30 := by
  have e : (∀ (l m : List Int), preC (k + 1) l m → g105 k l m = some (chF l m, ())) = (con105 (k + 1)).goal Try.prog (spS [con129 k] []) g105_sh [] lm30 := by kernel_rfl
  rw [← e]
  intro l m h
  unfold g105
  cases m with
  | nil => rfl
  | cons n m =>
    rw [ieq_false.2 (by simp only [List.length_cons]; omega), cond_false, gd_pos ⟨by omega, by simp only [List.length_cons]; omega⟩, gd_pos ⟨by simp, rfl, h⟩]
    rfl
set_option maxRecDepth 100000 in
theorem ok105 : ∀ k, (con105 k).Ok Try.prog
  | 0 => scon_false _ (by kernel_rfl) fun l m p hp h => by
      cases hp
      have h : preC 0 l m := allP_one.1 h
      have := h.2.2.2
      omega
  | k + 1 => SCon.of_goal mixed okN (okS (SCon.of_goal mixed (okC ok140 (okC ok141 okN)) (okS ok39s (okS ok142 (okS (SCon.of_goal mixed okN (okS (ok105 k) okS0) (con130 k) (goal130 k)) okS0))) (con129 k) (goal129 k)) okS0) (con105 (k + 1)) (goal105 k)
end Go.Schur

set_option linter.unusedVariables false
set_option linter.unusedSimpArgs false
namespace Go.Schur
open Go Go.Ab Go.Proofs
def rimD (l c : List Int) : List Nat := (List.range (max l.length c.length)).filter fun i => decide (c.getD i 0 < l.getD i 0)
def rimF (l c : List Int) : Int :=
  if (List.range (max l.length c.length)).any fun i => decide (l.getD i 0 < c.getD i 0) then 0 else
  if (rimD l c).isEmpty then 1 else
  if (List.range ((rimD l c).getLastD 0 - (rimD l c).headD 0)).any fun j => decide (l.getD ((rimD l c).headD 0 + j + 1) 0 - c.getD ((rimD l c).headD 0 + j) 0 ≠ 1) then 0
  else (((rimD l c).getLastD 0 - (rimD l c).headD 0 + 1 : Nat) : Int)
end Go.Schur

set_option linter.unusedVariables false
set_option linter.unusedSimpArgs false
namespace Go.Schur
open Go Go.Ab Go.Proofs
theorem goal62 : con62.goal Try.prog (spS [con105 9] [con66, con86]) g62_sh [] lm30 := by
  have e : (∀ (l m : List Int), (l.length ≤ 1000 ∧ m.length ≤ 1000) → g62 l m = some (charF l m)) = con62.goal Try.prog (spS [con105 9] [con66, con86]) g62_sh [] lm30 := by kernel_rfl
  rw [← e]
  rintro l m ⟨h1, h2⟩
  unfold g62 charF
  by_cases hb : boxW l = boxW m
  case neg =>
    have hb2 : (boxW l == boxW m) = false := beq_false_of_ne hb
    cases hl : shapeB l <;> cases hm : shapeB m <;> simp [gd_true, h1, h2, hl, hm, hb, hb2, ieq]
  cases hl : shapeB l <;> cases hm : shapeB m <;> simp [gd_true, h1, h2, hl, hm, hb, ieq]
  refine gd_pos ⟨hl, hm, hb, ?_⟩
  obtain ⟨q, hq, rfl, hq8, _, hqs⟩ := shape_allP hm
  have := hq8.len
  simp [toI]; omega
/-- The shapes that a rim of n leaves, by trying all. -/
def rimT (p : List Nat) (cs : List (List Nat)) : List (List Int × Int) := (cs.map toI).filterMap fun c => if 0 < rimF (toI p) c then some (c, rimF (toI p) c) else none
set_option maxRecDepth 100000 in
theorem rim_perm : ∀ p ∈ allP, ∀ n ∈ List.range p.sum, (rimT p (P (p.sum - (n + 1)))).Perm (rimS (toI p) ((n + 1 : Nat) : Int)) := by decide +kernel
end Go.Schur

set_option linter.unusedVariables false
set_option linter.unusedSimpArgs false
set_option maxRecDepth 100000
namespace Go.Schur
open Go Go.Ab Go.Proofs
def encI (l : List Int) : Nat := l.foldl (fun n x => n * 9 + x.toNat) 0
def look {α : Type} (d : α) (k : Nat) : List (Nat × α) → α
  | [] => d
  | (a, v) :: r => bif Nat.beq a k then v else look d k r
def chRow0 : List (Nat × Int) := [(0, 1)]
def chRow1 : List (Nat × Int) := [(1, 1)]
def chRow2 : List (Nat × Int) := [(10, 1), (2, -1)]
def chRow3 : List (Nat × Int) := [(10, 1), (2, 1)]
def chRow4 : List (Nat × Int) := [(91, 1), (19, -1), (3, 1)]
def chRow5 : List (Nat × Int) := [(91, 2), (19, 0), (3, -1)]
def chRow6 : List (Nat × Int) := [(91, 1), (19, 1), (3, 1)]
def chRow7 : List (Nat × Int) := [(820, 1), (172, -1), (20, 1), (28, 1), (4, -1)]
def chRow8 : List (Nat × Int) := [(820, 3), (172, -1), (20, -1), (28, 0), (4, 1)]
def chRow9 : List (Nat × Int) := [(820, 2), (172, 0), (20, 2), (28, -1), (4, 0)]
def chRow10 : List (Nat × Int) := [(820, 3), (172, 1), (20, -1), (28, 0), (4, -1)]
def chRow11 : List (Nat × Int) := [(820, 1), (172, 1), (20, 1), (28, 1), (4, 1)]
def chRow12 : List (Nat × Int) := [(7381, 1), (1549, -1), (181, 1), (253, 1), (29, -1), (37, -1), (5, 1)]
def chRow13 : List (Nat × Int) := [(7381, 4), (1549, -2), (181, 0), (253, 1), (29, 1), (37, 0), (5, -1)]
def chRow14 : List (Nat × Int) := [(7381, 5), (1549, -1), (181, 1), (253, -1), (29, -1), (37, 1), (5, 0)]
def chRow15 : List (Nat × Int) := [(7381, 6), (1549, 0), (181, -2), (253, 0), (29, 0), (37, 0), (5, 1)]
def chRow16 : List (Nat × Int) := [(7381, 5), (1549, 1), (181, 1), (253, -1), (29, 1), (37, -1), (5, 0)]
def chRow17 : List (Nat × Int) := [(7381, 4), (1549, 2), (181, 0), (253, 1), (29, -1), (37, 0), (5, -1)]
def chRow18 : List (Nat × Int) := [(7381, 1), (1549, 1), (181, 1), (253, 1), (29, 1), (37, 1), (5, 1)]
def chRow19 : List (Nat × Int) := [(66430, 1), (13942, -1), (1630, 1), (182, -1), (2278, 1), (262, -1), (30, 1), (334, -1), (38, 1), (46, 1), (6, -1)]
def chRow20 : List (Nat × Int) := [(66430, 5), (13942, -3), (1630, 1), (182, 1), (2278, 2), (262, 0), (30, -1), (334, -1), (38, -1), (46, 0), (6, 1)]
def chRow21 : List (Nat × Int) := [(66430, 9), (13942, -3), (1630, 1), (182, -3), (2278, 0), (262, 0), (30, 0), (334, 1), (38, 1), (46, -1), (6, 0)]
def chRow22 : List (Nat × Int) := [(66430, 5), (13942, -1), (1630, 1), (182, 3), (2278, -1), (262, -1), (30, 2), (334, 1), (38, -1), (46, 0), (6, 0)]
def chRow23 : List (Nat × Int) := [(66430, 10), (13942, -2), (1630, -2), (182, 2), (2278, 1), (262, 1), (30, 1), (334, 0), (38, 0), (46, 0), (6, -1)]
def chRow24 : List (Nat × Int) := [(66430, 16), (13942, 0), (1630, 0), (182, 0), (2278, -2), (262, 0), (30, -2), (334, 0), (38, 0), (46, 1), (6, 0)]
def chRow25 : List (Nat × Int) := [(66430, 5), (13942, 1), (1630, 1), (182, -3), (2278, -1), (262, 1), (30, 2), (334, -1), (38, -1), (46, 0), (6, 0)]
def chRow26 : List (Nat × Int) := [(66430, 10), (13942, 2), (1630, -2), (182, -2), (2278, 1), (262, -1), (30, 1), (334, 0), (38, 0), (46, 0), (6, 1)]
def chRow27 : List (Nat × Int) := [(66430, 9), (13942, 3), (1630, 1), (182, 3), (2278, 0), (262, 0), (30, 0), (334, -1), (38, 1), (46, -1), (6, 0)]
def chRow28 : List (Nat × Int) := [(66430, 5), (13942, 3), (1630, 1), (182, -1), (2278, 2), (262, 0), (30, -1), (334, 1), (38, -1), (46, 0), (6, -1)]
def chRow29 : List (Nat × Int) := [(66430, 1), (13942, 1), (1630, 1), (182, 1), (2278, 1), (262, 1), (30, 1), (334, 1), (38, 1), (46, 1), (6, 1)]
def chRow30 : List (Nat × Int) := [(597871, 1), (125479, -1), (14671, 1), (1639, -1), (20503, 1), (2359, -1), (263, 1), (271, 1), (3007, -1), (343, 1), (39, -1), (415, 1), (47, -1), (55, -1), (7, 1)]
def chRow31 : List (Nat × Int) := [(597871, 6), (125479, -4), (14671, 2), (1639, 0), (20503, 3), (2359, -1), (263, -1), (271, 0), (3007, -2), (343, 0), (39, 1), (415, 1), (47, 1), (55, 0), (7, -1)]
def chRow32 : List (Nat × Int) := [(597871, 14), (125479, -6), (14671, 2), (1639, -2), (20503, 2), (2359, 0), (263, 2), (271, -1), (3007, 0), (343, 0), (39, 0), (415, -1), (47, -1), (55, 1), (7, 0)]
def chRow33 : List (Nat × Int) := [(597871, 14), (125479, -4), (14671, 2), (1639, 0), (20503, -1), (2359, -1), (263, -1), (271, 2), (3007, 2), (343, 0), (39, -1), (415, -1), (47, 1), (55, 0), (7, 0)]
def chRow34 : List (Nat × Int) := [(597871, 15), (125479, -5), (14671, -1), (1639, 3), (20503, 3), (2359, 1), (263, -1), (271, 0), (3007, -1), (343, -1), (39, -1), (415, 0), (47, 0), (55, 0), (7, 1)]
def chRow35 : List (Nat × Int) := [(597871, 35), (125479, -5), (14671, -1), (1639, -1), (20503, -1), (2359, 1), (263, -1), (271, -1), (3007, 1), (343, 1), (39, 1), (415, 0), (47, 0), (55, -1), (7, 0)]
def chRow36 : List (Nat × Int) := [(597871, 21), (125479, -1), (14671, 1), (1639, 3), (20503, -3), (2359, -1), (263, 1), (271, 0), (3007, 1), (343, -1), (39, 1), (415, 1), (47, -1), (55, 0), (7, 0)]
def chRow37 : List (Nat × Int) := [(597871, 21), (125479, 1), (14671, 1), (1639, -3), (20503, -3), (2359, 1), (263, 1), (271, 0), (3007, -1), (343, -1), (39, -1), (415, 1), (47, 1), (55, 0), (7, 0)]
def chRow38 : List (Nat × Int) := [(597871, 20), (125479, 0), (14671, -4), (1639, 0), (20503, 2), (2359, 0), (263, 2), (271, 2), (3007, 0), (343, 0), (39, 0), (415, 0), (47, 0), (55, 0), (7, -1)]
def chRow39 : List (Nat × Int) := [(597871, 35), (125479, 5), (14671, -1), (1639, 1), (20503, -1), (2359, -1), (263, -1), (271, -1), (3007, -1), (343, 1), (39, -1), (415, 0), (47, 0), (55, 1), (7, 0)]
def chRow40 : List (Nat × Int) := [(597871, 14), (125479, 4), (14671, 2), (1639, 0), (20503, -1), (2359, 1), (263, -1), (271, 2), (3007, -2), (343, 0), (39, 1), (415, -1), (47, -1), (55, 0), (7, 0)]
def chRow41 : List (Nat × Int) := [(597871, 15), (125479, 5), (14671, -1), (1639, -3), (20503, 3), (2359, -1), (263, -1), (271, 0), (3007, 1), (343, -1), (39, 1), (415, 0), (47, 0), (55, 0), (7, 1)]
def chRow42 : List (Nat × Int) := [(597871, 14), (125479, 6), (14671, 2), (1639, 2), (20503, 2), (2359, 0), (263, 2), (271, -1), (3007, 0), (343, 0), (39, 0), (415, -1), (47, 1), (55, -1), (7, 0)]
def chRow43 : List (Nat × Int) := [(597871, 6), (125479, 4), (14671, 2), (1639, 0), (20503, 3), (2359, 1), (263, -1), (271, 0), (3007, 2), (343, 0), (39, -1), (415, 1), (47, -1), (55, 0), (7, -1)]
def chRow44 : List (Nat × Int) := [(597871, 1), (125479, 1), (14671, 1), (1639, 1), (20503, 1), (2359, 1), (263, 1), (271, 1), (3007, 1), (343, 1), (39, 1), (415, 1), (47, 1), (55, 1), (7, 1)]
def chRow45 : List (Nat × Int) := [(5380840, 1), (1129312, -1), (132040, 1), (14752, -1), (1640, 1), (184528, 1), (21232, -1), (2368, 1), (2440, 1), (272, -1), (27064, -1), (3088, 1), (344, -1), (352, -1), (40, 1), (3736, 1), (424, -1), (48, 1), (496, -1), (56, 1), (64, 1), (8, -1)]
def chRow46 : List (Nat × Int) := [(5380840, 7), (1129312, -5), (132040, 3), (14752, -1), (1640, -1), (184528, 4), (21232, -2), (2368, 0), (2440, 1), (272, 1), (27064, -3), (3088, 1), (344, 1), (352, 0), (40, -1), (3736, 2), (424, 0), (48, -1), (496, -1), (56, -1), (64, 0), (8, 1)]
def chRow47 : List (Nat × Int) := [(5380840, 20), (1129312, -10), (132040, 4), (14752, -2), (1640, 4), (184528, 5), (21232, -1), (2368, 1), (2440, -1), (272, -1), (27064, -2), (3088, 0), (344, -2), (352, 1), (40, 0), (3736, 0), (424, 0), (48, 0), (496, 1), (56, 1), (64, -1), (8, 0)]
def chRow48 : List (Nat × Int) := [(5380840, 28), (1129312, -10), (132040, 4), (14752, -2), (1640, -4), (184528, 1), (21232, -1), (2368, 1), (2440, 1), (272, -1), (27064, 2), (3088, 0), (344, 2), (352, -1), (40, 0), (3736, -2), (424, 0), (48, 1), (496, 1), (56, -1), (64, 0), (8, 0)]
def chRow49 : List (Nat × Int) := [(5380840, 14), (1129312, -4), (132040, 2), (14752, 0), (1640, 6), (184528, -1), (21232, -1), (2368, -1), (2440, 2), (272, 2), (27064, 2), (3088, 0), (344, -2), (352, -1), (40, 2), (3736, -1), (424, 1), (48, -1), (496, 0), (56, 0), (64, 0), (8, 0)]
def chRow50 : List (Nat × Int) := [(5380840, 21), (1129312, -9), (132040, 1), (14752, 3), (1640, -3), (184528, 6), (21232, 0), (2368, -2), (2440, 0), (272, 0), (27064, -3), (3088, -1), (344, 1), (352, 0), (40, 1), (3736, 1), (424, 1), (48, 1), (496, 0), (56, 0), (64, 0), (8, -1)]
def chRow51 : List (Nat × Int) := [(5380840, 64), (1129312, -16), (132040, 0), (14752, 0), (1640, 0), (184528, 4), (21232, 2), (2368, 0), (2440, -2), (272, 2), (27064, 0), (3088, 0), (344, 0), (352, 0), (40, 0), (3736, -1), (424, -1), (48, -1), (496, 0), (56, 0), (64, 1), (8, 0)]
def chRow52 : List (Nat × Int) := [(5380840, 70), (1129312, -10), (132040, 2), (14752, 2), (1640, -2), (184528, -5), (21232, -1), (2368, -1), (2440, 1), (272, -1), (27064, 4), (3088, 0), (344, 0), (352, 1), (40, -2), (3736, 0), (424, 0), (48, 0), (496, -1), (56, 1), (64, 0), (8, 0)]
def chRow53 : List (Nat × Int) := [(5380840, 56), (1129312, -4), (132040, 0), (14752, -4), (1640, 8), (184528, -4), (21232, 2), (2368, 0), (2440, -1), (272, -1), (27064, 0), (3088, 0), (344, 0), (352, 0), (40, 0), (3736, 1), (424, 1), (48, 1), (496, -1), (56, -1), (64, 0), (8, 0)]
def chRow54 : List (Nat × Int) := [(5380840, 42), (1129312, 0), (132040, 2), (14752, 0), (1640, -6), (184528, -6), (21232, 0), (2368, 2), (2440, 0), (272, 0), (27064, 0), (3088, -2), (344, 0), (352, 0), (40, 2), (3736, 2), (424, 0), (48, -1), (496, 0), (56, 0), (64, 0), (8, 0)]
def chRow55 : List (Nat × Int) := [(5380840, 35), (1129312, -5), (132040, -5), (14752, 3), (1640, 3), (184528, 5), (21232, 1), (2368, 1), (2440, 2), (272, -2), (27064, -1), (3088, -1), (344, -1), (352, -1), (40, -1), (3736, 0), (424, 0), (48, 0), (496, 0), (56, 0), (64, 0), (8, 1)]
def chRow56 : List (Nat × Int) := [(5380840, 90), (1129312, 0), (132040, -6), (14752, 0), (1640, -6), (184528, 0), (21232, 0), (2368, 0), (2440, 0), (272, 0), (27064, 0), (3088, 2), (344, 0), (352, 0), (40, 2), (3736, 0), (424, 0), (48, 0), (496, 0), (56, 0), (64, -1), (8, 0)]
def chRow57 : List (Nat × Int) := [(5380840, 56), (1129312, 4), (132040, 0), (14752, 4), (1640, 8), (184528, -4), (21232, -2), (2368, 0), (2440, -1), (272, 1), (27064, 0), (3088, 0), (344, 0), (352, 0), (40, 0), (3736, 1), (424, -1), (48, 1), (496, 1), (56, -1), (64, 0), (8, 0)]
def chRow58 : List (Nat × Int) := [(5380840, 70), (1129312, 10), (132040, 2), (14752, -2), (1640, -2), (184528, -5), (21232, 1), (2368, -1), (2440, 1), (272, 1), (27064, -4), (3088, 0), (344, 0), (352, -1), (40, -2), (3736, 0), (424, 0), (48, 0), (496, 1), (56, 1), (64, 0), (8, 0)]
def chRow59 : List (Nat × Int) := [(5380840, 14), (1129312, 4), (132040, 2), (14752, 0), (1640, 6), (184528, -1), (21232, 1), (2368, -1), (2440, 2), (272, -2), (27064, -2), (3088, 0), (344, 2), (352, 1), (40, 2), (3736, -1), (424, -1), (48, -1), (496, 0), (56, 0), (64, 0), (8, 0)]
def chRow60 : List (Nat × Int) := [(5380840, 35), (1129312, 5), (132040, -5), (14752, -3), (1640, 3), (184528, 5), (21232, -1), (2368, 1), (2440, 2), (272, 2), (27064, 1), (3088, -1), (344, 1), (352, 1), (40, -1), (3736, 0), (424, 0), (48, 0), (496, 0), (56, 0), (64, 0), (8, -1)]
def chRow61 : List (Nat × Int) := [(5380840, 64), (1129312, 16), (132040, 0), (14752, 0), (1640, 0), (184528, 4), (21232, -2), (2368, 0), (2440, -2), (272, -2), (27064, 0), (3088, 0), (344, 0), (352, 0), (40, 0), (3736, -1), (424, 1), (48, -1), (496, 0), (56, 0), (64, 1), (8, 0)]
def chRow62 : List (Nat × Int) := [(5380840, 28), (1129312, 10), (132040, 4), (14752, 2), (1640, -4), (184528, 1), (21232, 1), (2368, 1), (2440, 1), (272, 1), (27064, -2), (3088, 0), (344, -2), (352, 1), (40, 0), (3736, -2), (424, 0), (48, 1), (496, -1), (56, -1), (64, 0), (8, 0)]
def chRow63 : List (Nat × Int) := [(5380840, 21), (1129312, 9), (132040, 1), (14752, -3), (1640, -3), (184528, 6), (21232, 0), (2368, -2), (2440, 0), (272, 0), (27064, 3), (3088, -1), (344, -1), (352, 0), (40, 1), (3736, 1), (424, -1), (48, 1), (496, 0), (56, 0), (64, 0), (8, 1)]
def chRow64 : List (Nat × Int) := [(5380840, 20), (1129312, 10), (132040, 4), (14752, 2), (1640, 4), (184528, 5), (21232, 1), (2368, 1), (2440, -1), (272, 1), (27064, 2), (3088, 0), (344, 2), (352, -1), (40, 0), (3736, 0), (424, 0), (48, 0), (496, -1), (56, 1), (64, -1), (8, 0)]
def chRow65 : List (Nat × Int) := [(5380840, 7), (1129312, 5), (132040, 3), (14752, 1), (1640, -1), (184528, 4), (21232, 2), (2368, 0), (2440, 1), (272, -1), (27064, 3), (3088, 1), (344, -1), (352, 0), (40, -1), (3736, 2), (424, 0), (48, -1), (496, 1), (56, -1), (64, 0), (8, -1)]
def chRow66 : List (Nat × Int) := [(5380840, 1), (1129312, 1), (132040, 1), (14752, 1), (1640, 1), (184528, 1), (21232, 1), (2368, 1), (2440, 1), (272, 1), (27064, 1), (3088, 1), (344, 1), (352, 1), (40, 1), (3736, 1), (424, 1), (48, 1), (496, 1), (56, 1), (64, 1), (8, 1)]
def chTab : List (Nat × List (Nat × Int)) := [(0, chRow0), (1, chRow1), (10, chRow2), (2, chRow3), (91, chRow4), (19, chRow5), (3, chRow6), (820, chRow7), (172, chRow8), (20, chRow9), (28, chRow10), (4, chRow11), (7381, chRow12), (1549, chRow13), (181, chRow14), (253, chRow15), (29, chRow16), (37, chRow17), (5, chRow18), (66430, chRow19), (13942, chRow20), (1630, chRow21), (182, chRow22), (2278, chRow23), (262, chRow24), (30, chRow25), (334, chRow26), (38, chRow27), (46, chRow28), (6, chRow29), (597871, chRow30), (125479, chRow31), (14671, chRow32), (1639, chRow33), (20503, chRow34), (2359, chRow35), (263, chRow36), (271, chRow37), (3007, chRow38), (343, chRow39), (39, chRow40), (415, chRow41), (47, chRow42), (55, chRow43), (7, chRow44), (5380840, chRow45), (1129312, chRow46), (132040, chRow47), (14752, chRow48), (1640, chRow49), (184528, chRow50), (21232, chRow51), (2368, chRow52), (2440, chRow53), (272, chRow54), (27064, chRow55), (3088, chRow56), (344, chRow57), (352, chRow58), (40, chRow59), (3736, chRow60), (424, chRow61), (48, chRow62), (496, chRow63), (56, chRow64), (64, chRow65), (8, chRow66)]
def shTab : List (List (List Int)) := [[[]], [[1]], [[1, 1], [2]], [[1, 1, 1], [2, 1], [3]], [[1, 1, 1, 1], [2, 1, 1], [2, 2], [3, 1], [4]], [[1, 1, 1, 1, 1], [2, 1, 1, 1], [2, 2, 1], [3, 1, 1], [3, 2], [4, 1], [5]], [[1, 1, 1, 1, 1, 1], [2, 1, 1, 1, 1], [2, 2, 1, 1], [2, 2, 2], [3, 1, 1, 1], [3, 2, 1], [3, 3], [4, 1, 1], [4, 2], [5, 1], [6]], [[1, 1, 1, 1, 1, 1, 1], [2, 1, 1, 1, 1, 1], [2, 2, 1, 1, 1], [2, 2, 2, 1], [3, 1, 1, 1, 1], [3, 2, 1, 1], [3, 2, 2], [3, 3, 1], [4, 1, 1, 1], [4, 2, 1], [4, 3], [5, 1, 1], [5, 2], [6, 1], [7]], [[1, 1, 1, 1, 1, 1, 1, 1], [2, 1, 1, 1, 1, 1, 1], [2, 2, 1, 1, 1, 1], [2, 2, 2, 1, 1], [2, 2, 2, 2], [3, 1, 1, 1, 1, 1], [3, 2, 1, 1, 1], [3, 2, 2, 1], [3, 3, 1, 1], [3, 3, 2], [4, 1, 1, 1, 1], [4, 2, 1, 1], [4, 2, 2], [4, 3, 1], [4, 4], [5, 1, 1, 1], [5, 2, 1], [5, 3], [6, 1, 1], [6, 2], [7, 1], [8]]]
def shT (n : Int) : List (List Int) := shTab.getD n.toNat []
noncomputable def con38t : Con := mkC 38 [.d I64] [LLI] (fun (n : Int) => [0 ≤ n ∧ n ≤ 8]) (fun (n : Int) => (shT n, ()))
def chT (l m : List Int) : Int := look 0 (encI m) (look [] (encI l) chTab)
def charT (l m : List Int) : Int × Int × Unit := if shapeB l = true ∧ shapeB m = true ∧ boxW l = boxW m then (chT l m, 0, ()) else (0, 2, ())
noncomputable def con62t : Con := mkC 62 [.d LI, .d LI] [I64, I64] (fun (l m : List Int) => [l.length ≤ 1000 ∧ m.length ≤ 1000]) (fun (l m : List Int) => charT l m)
def truthI (b : Bool) : Int := bif b then 1 else 0
noncomputable def con65 : Con := mkC 65 [.d .bool] [I64] (fun (b : Bool) => []) (fun (b : Bool) => (truthI b, ()))
noncomputable def g65 (x0 : Bool) : Option (Int × Unit) := bif x0 then some (((1 : Int), ()) : Int × Unit) else some (((0 : Int), ()) : Int × Unit)
noncomputable def g65_sh : List LSh := ([] : List LSh)
def hkI (l : List Int) : Int × Int × Unit := if shapeB l = true then (chT l (List.replicate (l.map Int.toNat).sum 1), 0, ()) else (0, 2, ())
noncomputable def con40h : Con := mkC 40 [.d LI] [I64, I64] (fun (l : List Int) => [l.length ≤ 1000]) (fun (l : List Int) => hkI l)
noncomputable def con18 : Con := mkC 18 [.d LI, .d LI] [.bool] (fun (l k : List Int) => [small l ∧ small k]) (fun (l k : List Int) => (true, ()))
noncomputable def g18_l0 (x0 x1 : List Int) (d3 : Int × Int × Unit) (d4 : Int × Int × Int × Unit) : Option (Lp (Int × Int × Int × Unit) (Lp (Int × Int × Unit) (Lp (Int × Int × Unit) (Bool × Unit)))) := bif ilt d4.2.2.1 (↑(List.length (List.getD (shT (boxW x0)) (Int.toNat d3.2.1) ([] : List Int))) : Int) then gd ((0 : Int) ≤ d4.2.2.1 ∧ d4.2.2.1 < (↑(List.length (List.getD (shT (boxW x0)) (Int.toNat d3.2.1) ([] : List Int))) : Int)) (gd (ilt (0 : Int) d4.2.2.1 = true → ilt (0 : Int) d4.2.2.1 = true) (gd (ilt (0 : Int) d4.2.2.1 = true → ilt (0 : Int) d4.2.2.1 = true ∧ ilt (0 : Int) d4.2.2.1 = true ∧ (0 : Int) ≤ wr IntKind.i64 (d4.2.2.1 - (1 : Int)) ∧ wr IntKind.i64 (d4.2.2.1 - (1 : Int)) < (↑(List.length (List.getD (shT (boxW x0)) (Int.toNat d3.2.1) ([] : List Int))) : Int)) (gd (ilt (0 : Int) d4.2.2.1 = true → ilt (0 : Int) d4.2.2.1 = true) (gd (ilt (0 : Int) d4.2.2.1 = true → ilt (0 : Int) d4.2.2.1 = true ∧ ilt (0 : Int) d4.2.2.1 = true) (gd (ilt (0 : Int) d4.2.2.1 = true → ilt (0 : Int) d4.2.2.1 = true) (bif bif ilt (0 : Int) d4.2.2.1 then !ieq (List.getD (List.getD (shT (boxW x0)) (Int.toNat d3.2.1) ([] : List Int)) (Int.toNat (wr IntKind.i64 (d4.2.2.1 - (1 : Int)))) (0 : Int)) (List.getD (List.getD (shT (boxW x0)) (Int.toNat d3.2.1) ([] : List Int)) (Int.toNat d4.2.2.1) (0 : Int)) else false then gd (wr IntKind.i64 (List.getD (List.getD (shT (boxW x0)) (Int.toNat d3.2.1) ([] : List Int)) (Int.toNat d4.2.2.1) (0 : Int) * (1 : Int)) ≠ (0 : Int)) (some (Lp.go ((wr IntKind.i64 (Int.tdiv d4.1 (wr IntKind.i64 (List.getD (List.getD (shT (boxW x0)) (Int.toNat d3.2.1) ([] : List Int)) (Int.toNat d4.2.2.1) (0 : Int) * (1 : Int)))), (1 : Int), wr IntKind.i64 (d4.2.2.1 + (1 : Int)), ()) : Int × Int × Int × Unit))) else gd (wr IntKind.i64 (List.getD (List.getD (shT (boxW x0)) (Int.toNat d3.2.1) ([] : List Int)) (Int.toNat d4.2.2.1) (0 : Int) * wr IntKind.i64 (d4.2.1 + (1 : Int))) ≠ (0 : Int)) (some (Lp.go ((wr IntKind.i64 (Int.tdiv d4.1 (wr IntKind.i64 (List.getD (List.getD (shT (boxW x0)) (Int.toNat d3.2.1) ([] : List Int)) (Int.toNat d4.2.2.1) (0 : Int) * wr IntKind.i64 (d4.2.1 + (1 : Int))))), wr IntKind.i64 (d4.2.1 + (1 : Int)), wr IntKind.i64 (d4.2.2.1 + (1 : Int)), ()) : Int × Int × Int × Unit))))))))) else bif ieq (↑(List.length (List.getD (shT (boxW x0)) (Int.toNat d3.2.1) ([] : List Int))) : Int) (boxW x0) then gd (List.length (List.take (12 : Nat) x0) ≤ (1000 : Nat)) (gd ((!!ieq (hkI (List.take (12 : Nat) x0)).2.1 (0 : Int)) = true → (!!ieq (hkI (List.take (12 : Nat) x0)).2.1 (0 : Int)) = true ∧ (!!ieq (hkI (List.take (12 : Nat) x0)).2.1 (0 : Int)) = true) (gd ((!ieq (hkI (List.take (12 : Nat) x0)).2.1 (0 : Int)) = false → (!!ieq (hkI (List.take (12 : Nat) x0)).2.1 (0 : Int)) = true) (bif bif !ieq (hkI (List.take (12 : Nat) x0)).2.1 (0 : Int) then true else !ieq (hkI (List.take (12 : Nat) x0)).1 (charT (List.take (12 : Nat) x0) (List.getD (shT (boxW x0)) (Int.toNat d3.2.1) ([] : List Int))).1 then some (Lp.out (Lp.out (Lp.out ((false, ()) : Bool × Unit)))) else some (Lp.out (Lp.go ((wr IntKind.i64 (d3.1 + wr IntKind.i64 (wr IntKind.i64 (d4.1 * (charT (List.take (12 : Nat) x0) (List.getD (shT (boxW x0)) (Int.toNat d3.2.1) ([] : List Int))).1) * (charT (List.take (12 : Nat) x1) (List.getD (shT (boxW x0)) (Int.toNat d3.2.1) ([] : List Int))).1)), wr IntKind.i64 (d3.2.1 + (1 : Int)), ()) : Int × Int × Unit)))))) else some (Lp.out (Lp.go ((wr IntKind.i64 (d3.1 + wr IntKind.i64 (wr IntKind.i64 (d4.1 * (charT (List.take (12 : Nat) x0) (List.getD (shT (boxW x0)) (Int.toNat d3.2.1) ([] : List Int))).1) * (charT (List.take (12 : Nat) x1) (List.getD (shT (boxW x0)) (Int.toNat d3.2.1) ([] : List Int))).1)), wr IntKind.i64 (d3.2.1 + (1 : Int)), ()) : Int × Int × Unit)))
noncomputable def g18 (x0 x1 : List Int) : Option (Bool × Unit) := gd (small x0) (gd ((!!shapeB x0) = true → (!!shapeB x0) = true ∧ small x1) (gd ((!!shapeB x0) = true → (!!shapeB x0) = true) (gd ((!shapeB x0) = false → (!!shapeB x0) = true) (gd ((!bif !shapeB x0 then true else !shapeB x1) = true → (!bif !shapeB x0 then true else !shapeB x1) = true ∧ List.length x0 ≤ (1000 : Nat)) (gd ((!bif !shapeB x0 then true else !shapeB x1) = true → (!bif !shapeB x0 then true else !shapeB x1) = true ∧ List.length x1 ≤ (1000 : Nat)) (gd ((!bif !shapeB x0 then true else !shapeB x1) = true → (!bif !shapeB x0 then true else !shapeB x1) = true ∧ (!bif !shapeB x0 then true else !shapeB x1) = true) (gd ((bif !shapeB x0 then true else !shapeB x1) = false → (!bif !shapeB x0 then true else !shapeB x1) = true) (gd ((!bif bif !shapeB x0 then true else !shapeB x1 then true else !ieq (boxW x0) (boxW x1)) = true → (!bif bif !shapeB x0 then true else !shapeB x1 then true else !ieq (boxW x0) (boxW x1)) = true) (gd ((!bif bif !shapeB x0 then true else !shapeB x1 then true else !ieq (boxW x0) (boxW x1)) = true → (!bif bif !shapeB x0 then true else !shapeB x1 then true else !ieq (boxW x0) (boxW x1)) = true) (gd ((bif bif !shapeB x0 then true else !shapeB x1 then true else !ieq (boxW x0) (boxW x1)) = false → (!bif bif !shapeB x0 then true else !shapeB x1 then true else !ieq (boxW x0) (boxW x1)) = true) (bif bif bif bif !shapeB x0 then true else !shapeB x1 then true else !ieq (boxW x0) (boxW x1) then true else ieq (↑(List.length x0) : Int) (0 : Int) then some ((true, ()) : Bool × Unit) else gd (List.length x0 ≤ (1000 : Nat)) (whileO (fun (d2 : Int × Int × Unit) => bif ilt d2.2.1 (boxW x0) then some (Lp.go ((wr IntKind.i64 (d2.1 * wr IntKind.i64 (d2.2.1 + (1 : Int))), wr IntKind.i64 (d2.2.1 + (1 : Int)), ()) : Int × Int × Unit)) else gd ((0 : Int) ≤ boxW x0 ∧ boxW x0 ≤ (8 : Int)) (whileO (fun (d3 : Int × Int × Unit) => bif ilt d3.2.1 (↑(List.length (shT (boxW x0))) : Int) then gd ((0 : Int) ≤ d3.2.1 ∧ d3.2.1 < (↑(List.length (shT (boxW x0))) : Int)) (gd (List.length (List.getD (shT (boxW x0)) (Int.toNat d3.2.1) ([] : List Int)) ≤ (100000 : Nat)) (gd (List.length (List.take (12 : Nat) x0) ≤ (1000 : Nat) ∧ List.length (List.getD (shT (boxW x0)) (Int.toNat d3.2.1) ([] : List Int)) ≤ (1000 : Nat)) (gd (List.length (List.getD (shT (boxW x0)) (Int.toNat d3.2.1) ([] : List Int)) ≤ (100000 : Nat)) (gd (List.length (List.take (12 : Nat) x1) ≤ (1000 : Nat) ∧ List.length (List.getD (shT (boxW x0)) (Int.toNat d3.2.1) ([] : List Int)) ≤ (1000 : Nat)) (gd (shapeB x0 = true) (gd (List.length (List.getD (shT (boxW x0)) (Int.toNat d3.2.1) ([] : List Int)) ≤ (100000 : Nat)) (gd (List.length (conjF x0) ≤ (1000 : Nat) ∧ List.length (List.getD (shT (boxW x0)) (Int.toNat d3.2.1) ([] : List Int)) ≤ (1000 : Nat)) (gd ((!!ieq (charT (List.take (12 : Nat) x0) (List.getD (shT (boxW x0)) (Int.toNat d3.2.1) ([] : List Int))).2.1 (0 : Int)) = true → (!!ieq (charT (List.take (12 : Nat) x0) (List.getD (shT (boxW x0)) (Int.toNat d3.2.1) ([] : List Int))).2.1 (0 : Int)) = true) (gd ((!ieq (charT (List.take (12 : Nat) x0) (List.getD (shT (boxW x0)) (Int.toNat d3.2.1) ([] : List Int))).2.1 (0 : Int)) = false → (!!ieq (charT (List.take (12 : Nat) x0) (List.getD (shT (boxW x0)) (Int.toNat d3.2.1) ([] : List Int))).2.1 (0 : Int)) = true) (gd ((!bif !ieq (charT (List.take (12 : Nat) x0) (List.getD (shT (boxW x0)) (Int.toNat d3.2.1) ([] : List Int))).2.1 (0 : Int) then true else !ieq (charT (List.take (12 : Nat) x1) (List.getD (shT (boxW x0)) (Int.toNat d3.2.1) ([] : List Int))).2.1 (0 : Int)) = true → (!bif !ieq (charT (List.take (12 : Nat) x0) (List.getD (shT (boxW x0)) (Int.toNat d3.2.1) ([] : List Int))).2.1 (0 : Int) then true else !ieq (charT (List.take (12 : Nat) x1) (List.getD (shT (boxW x0)) (Int.toNat d3.2.1) ([] : List Int))).2.1 (0 : Int)) = true) (gd ((bif !ieq (charT (List.take (12 : Nat) x0) (List.getD (shT (boxW x0)) (Int.toNat d3.2.1) ([] : List Int))).2.1 (0 : Int) then true else !ieq (charT (List.take (12 : Nat) x1) (List.getD (shT (boxW x0)) (Int.toNat d3.2.1) ([] : List Int))).2.1 (0 : Int)) = false → (!bif !ieq (charT (List.take (12 : Nat) x0) (List.getD (shT (boxW x0)) (Int.toNat d3.2.1) ([] : List Int))).2.1 (0 : Int) then true else !ieq (charT (List.take (12 : Nat) x1) (List.getD (shT (boxW x0)) (Int.toNat d3.2.1) ([] : List Int))).2.1 (0 : Int)) = true) (gd ((!bif bif !ieq (charT (List.take (12 : Nat) x0) (List.getD (shT (boxW x0)) (Int.toNat d3.2.1) ([] : List Int))).2.1 (0 : Int) then true else !ieq (charT (List.take (12 : Nat) x1) (List.getD (shT (boxW x0)) (Int.toNat d3.2.1) ([] : List Int))).2.1 (0 : Int) then true else !ieq (charT (conjF x0) (List.getD (shT (boxW x0)) (Int.toNat d3.2.1) ([] : List Int))).2.1 (0 : Int)) = true → (!bif bif !ieq (charT (List.take (12 : Nat) x0) (List.getD (shT (boxW x0)) (Int.toNat d3.2.1) ([] : List Int))).2.1 (0 : Int) then true else !ieq (charT (List.take (12 : Nat) x1) (List.getD (shT (boxW x0)) (Int.toNat d3.2.1) ([] : List Int))).2.1 (0 : Int) then true else !ieq (charT (conjF x0) (List.getD (shT (boxW x0)) (Int.toNat d3.2.1) ([] : List Int))).2.1 (0 : Int)) = true) (gd ((!bif bif !ieq (charT (List.take (12 : Nat) x0) (List.getD (shT (boxW x0)) (Int.toNat d3.2.1) ([] : List Int))).2.1 (0 : Int) then true else !ieq (charT (List.take (12 : Nat) x1) (List.getD (shT (boxW x0)) (Int.toNat d3.2.1) ([] : List Int))).2.1 (0 : Int) then true else !ieq (charT (conjF x0) (List.getD (shT (boxW x0)) (Int.toNat d3.2.1) ([] : List Int))).2.1 (0 : Int)) = true → (!bif bif !ieq (charT (List.take (12 : Nat) x0) (List.getD (shT (boxW x0)) (Int.toNat d3.2.1) ([] : List Int))).2.1 (0 : Int) then true else !ieq (charT (List.take (12 : Nat) x1) (List.getD (shT (boxW x0)) (Int.toNat d3.2.1) ([] : List Int))).2.1 (0 : Int) then true else !ieq (charT (conjF x0) (List.getD (shT (boxW x0)) (Int.toNat d3.2.1) ([] : List Int))).2.1 (0 : Int)) = true ∧ (!bif bif !ieq (charT (List.take (12 : Nat) x0) (List.getD (shT (boxW x0)) (Int.toNat d3.2.1) ([] : List Int))).2.1 (0 : Int) then true else !ieq (charT (List.take (12 : Nat) x1) (List.getD (shT (boxW x0)) (Int.toNat d3.2.1) ([] : List Int))).2.1 (0 : Int) then true else !ieq (charT (conjF x0) (List.getD (shT (boxW x0)) (Int.toNat d3.2.1) ([] : List Int))).2.1 (0 : Int)) = true) (gd ((!bif bif !ieq (charT (List.take (12 : Nat) x0) (List.getD (shT (boxW x0)) (Int.toNat d3.2.1) ([] : List Int))).2.1 (0 : Int) then true else !ieq (charT (List.take (12 : Nat) x1) (List.getD (shT (boxW x0)) (Int.toNat d3.2.1) ([] : List Int))).2.1 (0 : Int) then true else !ieq (charT (conjF x0) (List.getD (shT (boxW x0)) (Int.toNat d3.2.1) ([] : List Int))).2.1 (0 : Int)) = true → (!bif bif !ieq (charT (List.take (12 : Nat) x0) (List.getD (shT (boxW x0)) (Int.toNat d3.2.1) ([] : List Int))).2.1 (0 : Int) then true else !ieq (charT (List.take (12 : Nat) x1) (List.getD (shT (boxW x0)) (Int.toNat d3.2.1) ([] : List Int))).2.1 (0 : Int) then true else !ieq (charT (conjF x0) (List.getD (shT (boxW x0)) (Int.toNat d3.2.1) ([] : List Int))).2.1 (0 : Int)) = true ∧ (2 : Int) ≠ (0 : Int)) (gd ((!bif bif !ieq (charT (List.take (12 : Nat) x0) (List.getD (shT (boxW x0)) (Int.toNat d3.2.1) ([] : List Int))).2.1 (0 : Int) then true else !ieq (charT (List.take (12 : Nat) x1) (List.getD (shT (boxW x0)) (Int.toNat d3.2.1) ([] : List Int))).2.1 (0 : Int) then true else !ieq (charT (conjF x0) (List.getD (shT (boxW x0)) (Int.toNat d3.2.1) ([] : List Int))).2.1 (0 : Int)) = true → (!bif bif !ieq (charT (List.take (12 : Nat) x0) (List.getD (shT (boxW x0)) (Int.toNat d3.2.1) ([] : List Int))).2.1 (0 : Int) then true else !ieq (charT (List.take (12 : Nat) x1) (List.getD (shT (boxW x0)) (Int.toNat d3.2.1) ([] : List Int))).2.1 (0 : Int) then true else !ieq (charT (conjF x0) (List.getD (shT (boxW x0)) (Int.toNat d3.2.1) ([] : List Int))).2.1 (0 : Int)) = true) (gd ((!bif bif !ieq (charT (List.take (12 : Nat) x0) (List.getD (shT (boxW x0)) (Int.toNat d3.2.1) ([] : List Int))).2.1 (0 : Int) then true else !ieq (charT (List.take (12 : Nat) x1) (List.getD (shT (boxW x0)) (Int.toNat d3.2.1) ([] : List Int))).2.1 (0 : Int) then true else !ieq (charT (conjF x0) (List.getD (shT (boxW x0)) (Int.toNat d3.2.1) ([] : List Int))).2.1 (0 : Int)) = true → (!bif bif !ieq (charT (List.take (12 : Nat) x0) (List.getD (shT (boxW x0)) (Int.toNat d3.2.1) ([] : List Int))).2.1 (0 : Int) then true else !ieq (charT (List.take (12 : Nat) x1) (List.getD (shT (boxW x0)) (Int.toNat d3.2.1) ([] : List Int))).2.1 (0 : Int) then true else !ieq (charT (conjF x0) (List.getD (shT (boxW x0)) (Int.toNat d3.2.1) ([] : List Int))).2.1 (0 : Int)) = true) (gd ((!bif bif !ieq (charT (List.take (12 : Nat) x0) (List.getD (shT (boxW x0)) (Int.toNat d3.2.1) ([] : List Int))).2.1 (0 : Int) then true else !ieq (charT (List.take (12 : Nat) x1) (List.getD (shT (boxW x0)) (Int.toNat d3.2.1) ([] : List Int))).2.1 (0 : Int) then true else !ieq (charT (conjF x0) (List.getD (shT (boxW x0)) (Int.toNat d3.2.1) ([] : List Int))).2.1 (0 : Int)) = true → (!bif bif !ieq (charT (List.take (12 : Nat) x0) (List.getD (shT (boxW x0)) (Int.toNat d3.2.1) ([] : List Int))).2.1 (0 : Int) then true else !ieq (charT (List.take (12 : Nat) x1) (List.getD (shT (boxW x0)) (Int.toNat d3.2.1) ([] : List Int))).2.1 (0 : Int) then true else !ieq (charT (conjF x0) (List.getD (shT (boxW x0)) (Int.toNat d3.2.1) ([] : List Int))).2.1 (0 : Int)) = true ∧ (!bif bif !ieq (charT (List.take (12 : Nat) x0) (List.getD (shT (boxW x0)) (Int.toNat d3.2.1) ([] : List Int))).2.1 (0 : Int) then true else !ieq (charT (List.take (12 : Nat) x1) (List.getD (shT (boxW x0)) (Int.toNat d3.2.1) ([] : List Int))).2.1 (0 : Int) then true else !ieq (charT (conjF x0) (List.getD (shT (boxW x0)) (Int.toNat d3.2.1) ([] : List Int))).2.1 (0 : Int)) = true) (gd ((!bif bif !ieq (charT (List.take (12 : Nat) x0) (List.getD (shT (boxW x0)) (Int.toNat d3.2.1) ([] : List Int))).2.1 (0 : Int) then true else !ieq (charT (List.take (12 : Nat) x1) (List.getD (shT (boxW x0)) (Int.toNat d3.2.1) ([] : List Int))).2.1 (0 : Int) then true else !ieq (charT (conjF x0) (List.getD (shT (boxW x0)) (Int.toNat d3.2.1) ([] : List Int))).2.1 (0 : Int)) = true → (!bif bif !ieq (charT (List.take (12 : Nat) x0) (List.getD (shT (boxW x0)) (Int.toNat d3.2.1) ([] : List Int))).2.1 (0 : Int) then true else !ieq (charT (List.take (12 : Nat) x1) (List.getD (shT (boxW x0)) (Int.toNat d3.2.1) ([] : List Int))).2.1 (0 : Int) then true else !ieq (charT (conjF x0) (List.getD (shT (boxW x0)) (Int.toNat d3.2.1) ([] : List Int))).2.1 (0 : Int)) = true ∧ (!bif bif !ieq (charT (List.take (12 : Nat) x0) (List.getD (shT (boxW x0)) (Int.toNat d3.2.1) ([] : List Int))).2.1 (0 : Int) then true else !ieq (charT (List.take (12 : Nat) x1) (List.getD (shT (boxW x0)) (Int.toNat d3.2.1) ([] : List Int))).2.1 (0 : Int) then true else !ieq (charT (conjF x0) (List.getD (shT (boxW x0)) (Int.toNat d3.2.1) ([] : List Int))).2.1 (0 : Int)) = true) (gd ((bif bif !ieq (charT (List.take (12 : Nat) x0) (List.getD (shT (boxW x0)) (Int.toNat d3.2.1) ([] : List Int))).2.1 (0 : Int) then true else !ieq (charT (List.take (12 : Nat) x1) (List.getD (shT (boxW x0)) (Int.toNat d3.2.1) ([] : List Int))).2.1 (0 : Int) then true else !ieq (charT (conjF x0) (List.getD (shT (boxW x0)) (Int.toNat d3.2.1) ([] : List Int))).2.1 (0 : Int)) = false → (!bif bif !ieq (charT (List.take (12 : Nat) x0) (List.getD (shT (boxW x0)) (Int.toNat d3.2.1) ([] : List Int))).2.1 (0 : Int) then true else !ieq (charT (List.take (12 : Nat) x1) (List.getD (shT (boxW x0)) (Int.toNat d3.2.1) ([] : List Int))).2.1 (0 : Int) then true else !ieq (charT (conjF x0) (List.getD (shT (boxW x0)) (Int.toNat d3.2.1) ([] : List Int))).2.1 (0 : Int)) = true) (bif bif bif bif !ieq (charT (List.take (12 : Nat) x0) (List.getD (shT (boxW x0)) (Int.toNat d3.2.1) ([] : List Int))).2.1 (0 : Int) then true else !ieq (charT (List.take (12 : Nat) x1) (List.getD (shT (boxW x0)) (Int.toNat d3.2.1) ([] : List Int))).2.1 (0 : Int) then true else !ieq (charT (conjF x0) (List.getD (shT (boxW x0)) (Int.toNat d3.2.1) ([] : List Int))).2.1 (0 : Int) then true else !ieq (charT (conjF x0) (List.getD (shT (boxW x0)) (Int.toNat d3.2.1) ([] : List Int))).1 (wr IntKind.i64 ((charT (List.take (12 : Nat) x0) (List.getD (shT (boxW x0)) (Int.toNat d3.2.1) ([] : List Int))).1 * wr IntKind.i64 ((1 : Int) - wr IntKind.i64 ((2 : Int) * Int.tmod (wr IntKind.i64 (boxW x0 - (↑(List.length (List.getD (shT (boxW x0)) (Int.toNat d3.2.1) ([] : List Int))) : Int))) (2 : Int))))) then some (Lp.out (Lp.out ((false, ()) : Bool × Unit))) else whileO (g18_l0 x0 x1 d3) ((d2.1, (0 : Int), (0 : Int), ()) : Int × Int × Int × Unit))))))))))))))))))))) else gd (small x0) (gd (ieq d3.1 (wr IntKind.i64 (d2.1 * truthI (eqL1 x0 x1))) = true → ieq d3.1 (wr IntKind.i64 (d2.1 * truthI (eqL1 x0 x1))) = true) (some (Lp.out (Lp.out ((bif ieq d3.1 (wr IntKind.i64 (d2.1 * truthI (eqL1 x0 x1))) then true else false, ()) : Bool × Unit)))))) (((0 : Int), (0 : Int), ()) : Int × Int × Unit))) (((1 : Int), (0 : Int), ()) : Int × Int × Unit)))))))))))))
noncomputable def g18_sh : List LSh := LSh.mk (((6, TV.v (Ty.int IntKind.i64)) : Nat × TV) :: ((47, TV.v (Ty.int IntKind.i64)) : Nat × TV) :: ([] : List (Nat × TV))) ([] : List TB) :: LSh.mk (((7, TV.v (Ty.int IntKind.i64)) : Nat × TV) :: ((58, TV.v (Ty.int IntKind.i64)) : Nat × TV) :: ([] : List (Nat × TV))) ([] : List TB) :: LSh.mk (((17, TV.v (Ty.int IntKind.i64)) : Nat × TV) :: ((18, TV.v (Ty.int IntKind.i64)) : Nat × TV) :: ((112, TV.v (Ty.int IntKind.i64)) : Nat × TV) :: ([] : List (Nat × TV))) ([] : List TB) :: ([] : List LSh)

def h18_l0 (x0 x1 : List Int) (d3 : Int × Int × Unit) (d4 : Int × Int × Int × Unit) : Option (Lp (Int × Int × Int × Unit) (Lp (Int × Int × Unit) (Lp (Int × Int × Unit) (Bool × Unit)))) := bif ilt d4.2.2.1 (↑(List.length (List.getD (shT (boxW x0)) (Int.toNat d3.2.1) ([] : List Int))) : Int) then gdD ((0 : Int) ≤ d4.2.2.1 ∧ d4.2.2.1 < (↑(List.length (List.getD (shT (boxW x0)) (Int.toNat d3.2.1) ([] : List Int))) : Int)) (gdD (ilt (0 : Int) d4.2.2.1 = true → ilt (0 : Int) d4.2.2.1 = true) (gdD (ilt (0 : Int) d4.2.2.1 = true → ilt (0 : Int) d4.2.2.1 = true ∧ ilt (0 : Int) d4.2.2.1 = true ∧ (0 : Int) ≤ wr IntKind.i64 (d4.2.2.1 - (1 : Int)) ∧ wr IntKind.i64 (d4.2.2.1 - (1 : Int)) < (↑(List.length (List.getD (shT (boxW x0)) (Int.toNat d3.2.1) ([] : List Int))) : Int)) (gdD (ilt (0 : Int) d4.2.2.1 = true → ilt (0 : Int) d4.2.2.1 = true) (gdD (ilt (0 : Int) d4.2.2.1 = true → ilt (0 : Int) d4.2.2.1 = true ∧ ilt (0 : Int) d4.2.2.1 = true) (gdD (ilt (0 : Int) d4.2.2.1 = true → ilt (0 : Int) d4.2.2.1 = true) (bif bif ilt (0 : Int) d4.2.2.1 then !ieq (List.getD (List.getD (shT (boxW x0)) (Int.toNat d3.2.1) ([] : List Int)) (Int.toNat (wr IntKind.i64 (d4.2.2.1 - (1 : Int)))) (0 : Int)) (List.getD (List.getD (shT (boxW x0)) (Int.toNat d3.2.1) ([] : List Int)) (Int.toNat d4.2.2.1) (0 : Int)) else false then gdD (wr IntKind.i64 (List.getD (List.getD (shT (boxW x0)) (Int.toNat d3.2.1) ([] : List Int)) (Int.toNat d4.2.2.1) (0 : Int) * (1 : Int)) ≠ (0 : Int)) (some (Lp.go ((wr IntKind.i64 (Int.tdiv d4.1 (wr IntKind.i64 (List.getD (List.getD (shT (boxW x0)) (Int.toNat d3.2.1) ([] : List Int)) (Int.toNat d4.2.2.1) (0 : Int) * (1 : Int)))), (1 : Int), wr IntKind.i64 (d4.2.2.1 + (1 : Int)), ()) : Int × Int × Int × Unit))) else gdD (wr IntKind.i64 (List.getD (List.getD (shT (boxW x0)) (Int.toNat d3.2.1) ([] : List Int)) (Int.toNat d4.2.2.1) (0 : Int) * wr IntKind.i64 (d4.2.1 + (1 : Int))) ≠ (0 : Int)) (some (Lp.go ((wr IntKind.i64 (Int.tdiv d4.1 (wr IntKind.i64 (List.getD (List.getD (shT (boxW x0)) (Int.toNat d3.2.1) ([] : List Int)) (Int.toNat d4.2.2.1) (0 : Int) * wr IntKind.i64 (d4.2.1 + (1 : Int))))), wr IntKind.i64 (d4.2.1 + (1 : Int)), wr IntKind.i64 (d4.2.2.1 + (1 : Int)), ()) : Int × Int × Int × Unit))))))))) else bif ieq (↑(List.length (List.getD (shT (boxW x0)) (Int.toNat d3.2.1) ([] : List Int))) : Int) (boxW x0) then gdD (List.length (List.take (12 : Nat) x0) ≤ (1000 : Nat)) (gdD ((!!ieq (hkI (List.take (12 : Nat) x0)).2.1 (0 : Int)) = true → (!!ieq (hkI (List.take (12 : Nat) x0)).2.1 (0 : Int)) = true ∧ (!!ieq (hkI (List.take (12 : Nat) x0)).2.1 (0 : Int)) = true) (gdD ((!ieq (hkI (List.take (12 : Nat) x0)).2.1 (0 : Int)) = false → (!!ieq (hkI (List.take (12 : Nat) x0)).2.1 (0 : Int)) = true) (bif bif !ieq (hkI (List.take (12 : Nat) x0)).2.1 (0 : Int) then true else !ieq (hkI (List.take (12 : Nat) x0)).1 (charT (List.take (12 : Nat) x0) (List.getD (shT (boxW x0)) (Int.toNat d3.2.1) ([] : List Int))).1 then some (Lp.out (Lp.out (Lp.out ((false, ()) : Bool × Unit)))) else some (Lp.out (Lp.go ((wr IntKind.i64 (d3.1 + wr IntKind.i64 (wr IntKind.i64 (d4.1 * (charT (List.take (12 : Nat) x0) (List.getD (shT (boxW x0)) (Int.toNat d3.2.1) ([] : List Int))).1) * (charT (List.take (12 : Nat) x1) (List.getD (shT (boxW x0)) (Int.toNat d3.2.1) ([] : List Int))).1)), wr IntKind.i64 (d3.2.1 + (1 : Int)), ()) : Int × Int × Unit)))))) else some (Lp.out (Lp.go ((wr IntKind.i64 (d3.1 + wr IntKind.i64 (wr IntKind.i64 (d4.1 * (charT (List.take (12 : Nat) x0) (List.getD (shT (boxW x0)) (Int.toNat d3.2.1) ([] : List Int))).1) * (charT (List.take (12 : Nat) x1) (List.getD (shT (boxW x0)) (Int.toNat d3.2.1) ([] : List Int))).1)), wr IntKind.i64 (d3.2.1 + (1 : Int)), ()) : Int × Int × Unit)))
theorem h18_l0_le (x0 x1 : List Int) (d3 : Int × Int × Unit) (d4 : Int × Int × Int × Unit) : LeO (h18_l0 x0 x1 d3 d4) (g18_l0 x0 x1 d3 d4) := by
  unfold h18_l0 g18_l0
  repeat' first | with_reducible exact leO_refl | with_reducible refine leO_gd ?_ | with_reducible refine leO_cond ?_ ?_ | with_reducible refine leO_map ?_ | with_reducible refine leO_eqO ?_ ?_ | (refine leO_while fun s => ?_; try dsimp only)
def h18 (x0 x1 : List Int) : Option (Bool × Unit) := gdD (small x0) (gdD ((!!shapeB x0) = true → (!!shapeB x0) = true ∧ small x1) (gdD ((!!shapeB x0) = true → (!!shapeB x0) = true) (gdD ((!shapeB x0) = false → (!!shapeB x0) = true) (gdD ((!bif !shapeB x0 then true else !shapeB x1) = true → (!bif !shapeB x0 then true else !shapeB x1) = true ∧ List.length x0 ≤ (1000 : Nat)) (gdD ((!bif !shapeB x0 then true else !shapeB x1) = true → (!bif !shapeB x0 then true else !shapeB x1) = true ∧ List.length x1 ≤ (1000 : Nat)) (gdD ((!bif !shapeB x0 then true else !shapeB x1) = true → (!bif !shapeB x0 then true else !shapeB x1) = true ∧ (!bif !shapeB x0 then true else !shapeB x1) = true) (gdD ((bif !shapeB x0 then true else !shapeB x1) = false → (!bif !shapeB x0 then true else !shapeB x1) = true) (gdD ((!bif bif !shapeB x0 then true else !shapeB x1 then true else !ieq (boxW x0) (boxW x1)) = true → (!bif bif !shapeB x0 then true else !shapeB x1 then true else !ieq (boxW x0) (boxW x1)) = true) (gdD ((!bif bif !shapeB x0 then true else !shapeB x1 then true else !ieq (boxW x0) (boxW x1)) = true → (!bif bif !shapeB x0 then true else !shapeB x1 then true else !ieq (boxW x0) (boxW x1)) = true) (gdD ((bif bif !shapeB x0 then true else !shapeB x1 then true else !ieq (boxW x0) (boxW x1)) = false → (!bif bif !shapeB x0 then true else !shapeB x1 then true else !ieq (boxW x0) (boxW x1)) = true) (bif bif bif bif !shapeB x0 then true else !shapeB x1 then true else !ieq (boxW x0) (boxW x1) then true else ieq (↑(List.length x0) : Int) (0 : Int) then some ((true, ()) : Bool × Unit) else gdD (List.length x0 ≤ (1000 : Nat)) (whileF 30 (fun (d2 : Int × Int × Unit) => bif ilt d2.2.1 (boxW x0) then some (Lp.go ((wr IntKind.i64 (d2.1 * wr IntKind.i64 (d2.2.1 + (1 : Int))), wr IntKind.i64 (d2.2.1 + (1 : Int)), ()) : Int × Int × Unit)) else gdD ((0 : Int) ≤ boxW x0 ∧ boxW x0 ≤ (8 : Int)) (whileF 30 (fun (d3 : Int × Int × Unit) => bif ilt d3.2.1 (↑(List.length (shT (boxW x0))) : Int) then gdD ((0 : Int) ≤ d3.2.1 ∧ d3.2.1 < (↑(List.length (shT (boxW x0))) : Int)) (gdD (List.length (List.getD (shT (boxW x0)) (Int.toNat d3.2.1) ([] : List Int)) ≤ (100000 : Nat)) (gdD (List.length (List.take (12 : Nat) x0) ≤ (1000 : Nat) ∧ List.length (List.getD (shT (boxW x0)) (Int.toNat d3.2.1) ([] : List Int)) ≤ (1000 : Nat)) (gdD (List.length (List.getD (shT (boxW x0)) (Int.toNat d3.2.1) ([] : List Int)) ≤ (100000 : Nat)) (gdD (List.length (List.take (12 : Nat) x1) ≤ (1000 : Nat) ∧ List.length (List.getD (shT (boxW x0)) (Int.toNat d3.2.1) ([] : List Int)) ≤ (1000 : Nat)) (gdD (shapeB x0 = true) (gdD (List.length (List.getD (shT (boxW x0)) (Int.toNat d3.2.1) ([] : List Int)) ≤ (100000 : Nat)) (gdD (List.length (conjF x0) ≤ (1000 : Nat) ∧ List.length (List.getD (shT (boxW x0)) (Int.toNat d3.2.1) ([] : List Int)) ≤ (1000 : Nat)) (gdD ((!!ieq (charT (List.take (12 : Nat) x0) (List.getD (shT (boxW x0)) (Int.toNat d3.2.1) ([] : List Int))).2.1 (0 : Int)) = true → (!!ieq (charT (List.take (12 : Nat) x0) (List.getD (shT (boxW x0)) (Int.toNat d3.2.1) ([] : List Int))).2.1 (0 : Int)) = true) (gdD ((!ieq (charT (List.take (12 : Nat) x0) (List.getD (shT (boxW x0)) (Int.toNat d3.2.1) ([] : List Int))).2.1 (0 : Int)) = false → (!!ieq (charT (List.take (12 : Nat) x0) (List.getD (shT (boxW x0)) (Int.toNat d3.2.1) ([] : List Int))).2.1 (0 : Int)) = true) (gdD ((!bif !ieq (charT (List.take (12 : Nat) x0) (List.getD (shT (boxW x0)) (Int.toNat d3.2.1) ([] : List Int))).2.1 (0 : Int) then true else !ieq (charT (List.take (12 : Nat) x1) (List.getD (shT (boxW x0)) (Int.toNat d3.2.1) ([] : List Int))).2.1 (0 : Int)) = true → (!bif !ieq (charT (List.take (12 : Nat) x0) (List.getD (shT (boxW x0)) (Int.toNat d3.2.1) ([] : List Int))).2.1 (0 : Int) then true else !ieq (charT (List.take (12 : Nat) x1) (List.getD (shT (boxW x0)) (Int.toNat d3.2.1) ([] : List Int))).2.1 (0 : Int)) = true) (gdD ((bif !ieq (charT (List.take (12 : Nat) x0) (List.getD (shT (boxW x0)) (Int.toNat d3.2.1) ([] : List Int))).2.1 (0 : Int) then true else !ieq (charT (List.take (12 : Nat) x1) (List.getD (shT (boxW x0)) (Int.toNat d3.2.1) ([] : List Int))).2.1 (0 : Int)) = false → (!bif !ieq (charT (List.take (12 : Nat) x0) (List.getD (shT (boxW x0)) (Int.toNat d3.2.1) ([] : List Int))).2.1 (0 : Int) then true else !ieq (charT (List.take (12 : Nat) x1) (List.getD (shT (boxW x0)) (Int.toNat d3.2.1) ([] : List Int))).2.1 (0 : Int)) = true) (gdD ((!bif bif !ieq (charT (List.take (12 : Nat) x0) (List.getD (shT (boxW x0)) (Int.toNat d3.2.1) ([] : List Int))).2.1 (0 : Int) then true else !ieq (charT (List.take (12 : Nat) x1) (List.getD (shT (boxW x0)) (Int.toNat d3.2.1) ([] : List Int))).2.1 (0 : Int) then true else !ieq (charT (conjF x0) (List.getD (shT (boxW x0)) (Int.toNat d3.2.1) ([] : List Int))).2.1 (0 : Int)) = true → (!bif bif !ieq (charT (List.take (12 : Nat) x0) (List.getD (shT (boxW x0)) (Int.toNat d3.2.1) ([] : List Int))).2.1 (0 : Int) then true else !ieq (charT (List.take (12 : Nat) x1) (List.getD (shT (boxW x0)) (Int.toNat d3.2.1) ([] : List Int))).2.1 (0 : Int) then true else !ieq (charT (conjF x0) (List.getD (shT (boxW x0)) (Int.toNat d3.2.1) ([] : List Int))).2.1 (0 : Int)) = true) (gdD ((!bif bif !ieq (charT (List.take (12 : Nat) x0) (List.getD (shT (boxW x0)) (Int.toNat d3.2.1) ([] : List Int))).2.1 (0 : Int) then true else !ieq (charT (List.take (12 : Nat) x1) (List.getD (shT (boxW x0)) (Int.toNat d3.2.1) ([] : List Int))).2.1 (0 : Int) then true else !ieq (charT (conjF x0) (List.getD (shT (boxW x0)) (Int.toNat d3.2.1) ([] : List Int))).2.1 (0 : Int)) = true → (!bif bif !ieq (charT (List.take (12 : Nat) x0) (List.getD (shT (boxW x0)) (Int.toNat d3.2.1) ([] : List Int))).2.1 (0 : Int) then true else !ieq (charT (List.take (12 : Nat) x1) (List.getD (shT (boxW x0)) (Int.toNat d3.2.1) ([] : List Int))).2.1 (0 : Int) then true else !ieq (charT (conjF x0) (List.getD (shT (boxW x0)) (Int.toNat d3.2.1) ([] : List Int))).2.1 (0 : Int)) = true ∧ (!bif bif !ieq (charT (List.take (12 : Nat) x0) (List.getD (shT (boxW x0)) (Int.toNat d3.2.1) ([] : List Int))).2.1 (0 : Int) then true else !ieq (charT (List.take (12 : Nat) x1) (List.getD (shT (boxW x0)) (Int.toNat d3.2.1) ([] : List Int))).2.1 (0 : Int) then true else !ieq (charT (conjF x0) (List.getD (shT (boxW x0)) (Int.toNat d3.2.1) ([] : List Int))).2.1 (0 : Int)) = true) (gdD ((!bif bif !ieq (charT (List.take (12 : Nat) x0) (List.getD (shT (boxW x0)) (Int.toNat d3.2.1) ([] : List Int))).2.1 (0 : Int) then true else !ieq (charT (List.take (12 : Nat) x1) (List.getD (shT (boxW x0)) (Int.toNat d3.2.1) ([] : List Int))).2.1 (0 : Int) then true else !ieq (charT (conjF x0) (List.getD (shT (boxW x0)) (Int.toNat d3.2.1) ([] : List Int))).2.1 (0 : Int)) = true → (!bif bif !ieq (charT (List.take (12 : Nat) x0) (List.getD (shT (boxW x0)) (Int.toNat d3.2.1) ([] : List Int))).2.1 (0 : Int) then true else !ieq (charT (List.take (12 : Nat) x1) (List.getD (shT (boxW x0)) (Int.toNat d3.2.1) ([] : List Int))).2.1 (0 : Int) then true else !ieq (charT (conjF x0) (List.getD (shT (boxW x0)) (Int.toNat d3.2.1) ([] : List Int))).2.1 (0 : Int)) = true ∧ (2 : Int) ≠ (0 : Int)) (gdD ((!bif bif !ieq (charT (List.take (12 : Nat) x0) (List.getD (shT (boxW x0)) (Int.toNat d3.2.1) ([] : List Int))).2.1 (0 : Int) then true else !ieq (charT (List.take (12 : Nat) x1) (List.getD (shT (boxW x0)) (Int.toNat d3.2.1) ([] : List Int))).2.1 (0 : Int) then true else !ieq (charT (conjF x0) (List.getD (shT (boxW x0)) (Int.toNat d3.2.1) ([] : List Int))).2.1 (0 : Int)) = true → (!bif bif !ieq (charT (List.take (12 : Nat) x0) (List.getD (shT (boxW x0)) (Int.toNat d3.2.1) ([] : List Int))).2.1 (0 : Int) then true else !ieq (charT (List.take (12 : Nat) x1) (List.getD (shT (boxW x0)) (Int.toNat d3.2.1) ([] : List Int))).2.1 (0 : Int) then true else !ieq (charT (conjF x0) (List.getD (shT (boxW x0)) (Int.toNat d3.2.1) ([] : List Int))).2.1 (0 : Int)) = true) (gdD ((!bif bif !ieq (charT (List.take (12 : Nat) x0) (List.getD (shT (boxW x0)) (Int.toNat d3.2.1) ([] : List Int))).2.1 (0 : Int) then true else !ieq (charT (List.take (12 : Nat) x1) (List.getD (shT (boxW x0)) (Int.toNat d3.2.1) ([] : List Int))).2.1 (0 : Int) then true else !ieq (charT (conjF x0) (List.getD (shT (boxW x0)) (Int.toNat d3.2.1) ([] : List Int))).2.1 (0 : Int)) = true → (!bif bif !ieq (charT (List.take (12 : Nat) x0) (List.getD (shT (boxW x0)) (Int.toNat d3.2.1) ([] : List Int))).2.1 (0 : Int) then true else !ieq (charT (List.take (12 : Nat) x1) (List.getD (shT (boxW x0)) (Int.toNat d3.2.1) ([] : List Int))).2.1 (0 : Int) then true else !ieq (charT (conjF x0) (List.getD (shT (boxW x0)) (Int.toNat d3.2.1) ([] : List Int))).2.1 (0 : Int)) = true) (gdD ((!bif bif !ieq (charT (List.take (12 : Nat) x0) (List.getD (shT (boxW x0)) (Int.toNat d3.2.1) ([] : List Int))).2.1 (0 : Int) then true else !ieq (charT (List.take (12 : Nat) x1) (List.getD (shT (boxW x0)) (Int.toNat d3.2.1) ([] : List Int))).2.1 (0 : Int) then true else !ieq (charT (conjF x0) (List.getD (shT (boxW x0)) (Int.toNat d3.2.1) ([] : List Int))).2.1 (0 : Int)) = true → (!bif bif !ieq (charT (List.take (12 : Nat) x0) (List.getD (shT (boxW x0)) (Int.toNat d3.2.1) ([] : List Int))).2.1 (0 : Int) then true else !ieq (charT (List.take (12 : Nat) x1) (List.getD (shT (boxW x0)) (Int.toNat d3.2.1) ([] : List Int))).2.1 (0 : Int) then true else !ieq (charT (conjF x0) (List.getD (shT (boxW x0)) (Int.toNat d3.2.1) ([] : List Int))).2.1 (0 : Int)) = true ∧ (!bif bif !ieq (charT (List.take (12 : Nat) x0) (List.getD (shT (boxW x0)) (Int.toNat d3.2.1) ([] : List Int))).2.1 (0 : Int) then true else !ieq (charT (List.take (12 : Nat) x1) (List.getD (shT (boxW x0)) (Int.toNat d3.2.1) ([] : List Int))).2.1 (0 : Int) then true else !ieq (charT (conjF x0) (List.getD (shT (boxW x0)) (Int.toNat d3.2.1) ([] : List Int))).2.1 (0 : Int)) = true) (gdD ((!bif bif !ieq (charT (List.take (12 : Nat) x0) (List.getD (shT (boxW x0)) (Int.toNat d3.2.1) ([] : List Int))).2.1 (0 : Int) then true else !ieq (charT (List.take (12 : Nat) x1) (List.getD (shT (boxW x0)) (Int.toNat d3.2.1) ([] : List Int))).2.1 (0 : Int) then true else !ieq (charT (conjF x0) (List.getD (shT (boxW x0)) (Int.toNat d3.2.1) ([] : List Int))).2.1 (0 : Int)) = true → (!bif bif !ieq (charT (List.take (12 : Nat) x0) (List.getD (shT (boxW x0)) (Int.toNat d3.2.1) ([] : List Int))).2.1 (0 : Int) then true else !ieq (charT (List.take (12 : Nat) x1) (List.getD (shT (boxW x0)) (Int.toNat d3.2.1) ([] : List Int))).2.1 (0 : Int) then true else !ieq (charT (conjF x0) (List.getD (shT (boxW x0)) (Int.toNat d3.2.1) ([] : List Int))).2.1 (0 : Int)) = true ∧ (!bif bif !ieq (charT (List.take (12 : Nat) x0) (List.getD (shT (boxW x0)) (Int.toNat d3.2.1) ([] : List Int))).2.1 (0 : Int) then true else !ieq (charT (List.take (12 : Nat) x1) (List.getD (shT (boxW x0)) (Int.toNat d3.2.1) ([] : List Int))).2.1 (0 : Int) then true else !ieq (charT (conjF x0) (List.getD (shT (boxW x0)) (Int.toNat d3.2.1) ([] : List Int))).2.1 (0 : Int)) = true) (gdD ((bif bif !ieq (charT (List.take (12 : Nat) x0) (List.getD (shT (boxW x0)) (Int.toNat d3.2.1) ([] : List Int))).2.1 (0 : Int) then true else !ieq (charT (List.take (12 : Nat) x1) (List.getD (shT (boxW x0)) (Int.toNat d3.2.1) ([] : List Int))).2.1 (0 : Int) then true else !ieq (charT (conjF x0) (List.getD (shT (boxW x0)) (Int.toNat d3.2.1) ([] : List Int))).2.1 (0 : Int)) = false → (!bif bif !ieq (charT (List.take (12 : Nat) x0) (List.getD (shT (boxW x0)) (Int.toNat d3.2.1) ([] : List Int))).2.1 (0 : Int) then true else !ieq (charT (List.take (12 : Nat) x1) (List.getD (shT (boxW x0)) (Int.toNat d3.2.1) ([] : List Int))).2.1 (0 : Int) then true else !ieq (charT (conjF x0) (List.getD (shT (boxW x0)) (Int.toNat d3.2.1) ([] : List Int))).2.1 (0 : Int)) = true) (bif bif bif bif !ieq (charT (List.take (12 : Nat) x0) (List.getD (shT (boxW x0)) (Int.toNat d3.2.1) ([] : List Int))).2.1 (0 : Int) then true else !ieq (charT (List.take (12 : Nat) x1) (List.getD (shT (boxW x0)) (Int.toNat d3.2.1) ([] : List Int))).2.1 (0 : Int) then true else !ieq (charT (conjF x0) (List.getD (shT (boxW x0)) (Int.toNat d3.2.1) ([] : List Int))).2.1 (0 : Int) then true else !ieq (charT (conjF x0) (List.getD (shT (boxW x0)) (Int.toNat d3.2.1) ([] : List Int))).1 (wr IntKind.i64 ((charT (List.take (12 : Nat) x0) (List.getD (shT (boxW x0)) (Int.toNat d3.2.1) ([] : List Int))).1 * wr IntKind.i64 ((1 : Int) - wr IntKind.i64 ((2 : Int) * Int.tmod (wr IntKind.i64 (boxW x0 - (↑(List.length (List.getD (shT (boxW x0)) (Int.toNat d3.2.1) ([] : List Int))) : Int))) (2 : Int))))) then some (Lp.out (Lp.out ((false, ()) : Bool × Unit))) else whileF 30 (h18_l0 x0 x1 d3) ((d2.1, (0 : Int), (0 : Int), ()) : Int × Int × Int × Unit))))))))))))))))))))) else gdD (small x0) (gdD (ieq d3.1 (wr IntKind.i64 (d2.1 * truthI (eqL1 x0 x1))) = true → ieq d3.1 (wr IntKind.i64 (d2.1 * truthI (eqL1 x0 x1))) = true) (some (Lp.out (Lp.out ((bif ieq d3.1 (wr IntKind.i64 (d2.1 * truthI (eqL1 x0 x1))) then true else false, ()) : Bool × Unit)))))) (((0 : Int), (0 : Int), ()) : Int × Int × Unit))) (((1 : Int), (0 : Int), ()) : Int × Int × Unit)))))))))))))
theorem h18_le (x0 x1 : List Int) : LeO (h18 x0 x1) (g18 x0 x1) := by
  unfold h18 g18
  repeat' first | with_reducible exact leO_refl | with_reducible apply h18_l0_le | with_reducible refine leO_gd ?_ | with_reducible refine leO_cond ?_ ?_ | with_reducible refine leO_map ?_ | with_reducible refine leO_eqO ?_ ?_ | (refine leO_while fun s => ?_; try dsimp only)
end Go.Schur

set_option linter.unusedVariables false
namespace Go.Schur
open Go Go.Ab Go.Proofs
def orthF : Option (Bool × Unit) → Bool
  | some (true, _) => true
  | _ => false
theorem orthF_h : ∀ {r : Option (Bool × Unit)}, orthF r = true → r = some (true, ())
  | some (true, ()), _ => rfl
  | some (false, ()), h => by cases h
  | none, h => by cases h
def orthB (p q : List Nat) : Bool := orthF (h18 (toI p) (toI q))
def orthC (n a b : Nat) : Bool := (((P n).drop a).take b).all fun p => (P n).all fun q => orthB p q
set_option maxRecDepth 100000 in
theorem orth_0_0 : orthC 0 0 11 = true := by decide +kernel
set_option maxRecDepth 100000 in
theorem orth_1_0 : orthC 1 0 11 = true := by decide +kernel
set_option maxRecDepth 100000 in
theorem orth_2_0 : orthC 2 0 11 = true := by decide +kernel
set_option maxRecDepth 100000 in
theorem orth_3_0 : orthC 3 0 11 = true := by decide +kernel
set_option maxRecDepth 100000 in
theorem orth_4_0 : orthC 4 0 11 = true := by decide +kernel
set_option maxRecDepth 100000 in
theorem orth_5_0 : orthC 5 0 11 = true := by decide +kernel
set_option maxRecDepth 100000 in
theorem orth_6_0 : orthC 6 0 6 = true := by decide +kernel
set_option maxRecDepth 100000 in
theorem orth_6_6 : orthC 6 6 6 = true := by decide +kernel
set_option maxRecDepth 100000 in
theorem orth_7_0 : orthC 7 0 4 = true := by decide +kernel
set_option maxRecDepth 100000 in
theorem orth_7_4 : orthC 7 4 4 = true := by decide +kernel
set_option maxRecDepth 100000 in
theorem orth_7_8 : orthC 7 8 4 = true := by decide +kernel
set_option maxRecDepth 100000 in
theorem orth_7_12 : orthC 7 12 4 = true := by decide +kernel
set_option maxRecDepth 100000 in
theorem orth_8_0 : orthC 8 0 3 = true := by decide +kernel
set_option maxRecDepth 100000 in
theorem orth_8_3 : orthC 8 3 3 = true := by decide +kernel
set_option maxRecDepth 100000 in
theorem orth_8_6 : orthC 8 6 3 = true := by decide +kernel
set_option maxRecDepth 100000 in
theorem orth_8_9 : orthC 8 9 3 = true := by decide +kernel
set_option maxRecDepth 100000 in
theorem orth_8_12 : orthC 8 12 3 = true := by decide +kernel
set_option maxRecDepth 100000 in
theorem orth_8_15 : orthC 8 15 3 = true := by decide +kernel
set_option maxRecDepth 100000 in
theorem orth_8_18 : orthC 8 18 3 = true := by decide +kernel
set_option maxRecDepth 100000 in
theorem orth_8_21 : orthC 8 21 3 = true := by decide +kernel
theorem orthC_all {n : Nat} {p q : List Nat} (hp : p ∈ P n) (hq : q ∈ P n) (b : Nat) (l : List Nat) (h : ∀ a ∈ l, orthC n a b = true) (hl : (P n).length ≤ l.length * b) (hl2 : ∀ (i : Nat), i < l.length → l.getD i 0 = i * b) (hb : 0 < b) : orthB p q = true := by
  obtain ⟨i, hi, rfl⟩ := List.mem_iff_getElem.1 hp
  have h1 : i / b < l.length := Nat.div_lt_of_lt_mul (by rw [Nat.mul_comm]; omega)
  have h2 := h (l.getD (i / b) 0) (by rw [List.getD_eq_getElem?_getD, List.getElem?_eq_getElem h1]; exact List.getElem_mem h1)
  rw [hl2 _ h1] at h2
  have h3 := List.all_eq_true.1 h2 ((P n)[i]) (by
    have e : i = i / b * b + i % b := by rw [Nat.mul_comm]; exact (Nat.div_add_mod i b).symm
    have hm := Nat.mod_lt i hb
    refine List.mem_iff_getElem.2 ⟨i % b, by simp only [List.length_take, List.length_drop]; omega, ?_⟩
    rw [List.getElem_take, List.getElem_drop]
    congr 1; omega)
  exact List.all_eq_true.1 h3 _ hq
set_option maxRecDepth 100000 in
theorem orth_all : ∀ n, n < 9 → ∀ p ∈ P n, ∀ q ∈ P n, orthB p q = true := by
  intro n hn p hp q hq
  match n, hn, p, hp, q, hq with
  | 0, _, p, hp, q, hq => exact orthC_all hp hq 11 [0] (by intro a ha; simp only [List.mem_cons, List.not_mem_nil, or_false] at ha; rcases ha with rfl <;> first | with_reducible exact orth_0_0) (by decide +kernel) (by intro i hi; match i, hi with | 0, _ => rfl) (by decide)
  | 1, _, p, hp, q, hq => exact orthC_all hp hq 11 [0] (by intro a ha; simp only [List.mem_cons, List.not_mem_nil, or_false] at ha; rcases ha with rfl <;> first | with_reducible exact orth_1_0) (by decide +kernel) (by intro i hi; match i, hi with | 0, _ => rfl) (by decide)
  | 2, _, p, hp, q, hq => exact orthC_all hp hq 11 [0] (by intro a ha; simp only [List.mem_cons, List.not_mem_nil, or_false] at ha; rcases ha with rfl <;> first | with_reducible exact orth_2_0) (by decide +kernel) (by intro i hi; match i, hi with | 0, _ => rfl) (by decide)
  | 3, _, p, hp, q, hq => exact orthC_all hp hq 11 [0] (by intro a ha; simp only [List.mem_cons, List.not_mem_nil, or_false] at ha; rcases ha with rfl <;> first | with_reducible exact orth_3_0) (by decide +kernel) (by intro i hi; match i, hi with | 0, _ => rfl) (by decide)
  | 4, _, p, hp, q, hq => exact orthC_all hp hq 11 [0] (by intro a ha; simp only [List.mem_cons, List.not_mem_nil, or_false] at ha; rcases ha with rfl <;> first | with_reducible exact orth_4_0) (by decide +kernel) (by intro i hi; match i, hi with | 0, _ => rfl) (by decide)
  | 5, _, p, hp, q, hq => exact orthC_all hp hq 11 [0] (by intro a ha; simp only [List.mem_cons, List.not_mem_nil, or_false] at ha; rcases ha with rfl <;> first | with_reducible exact orth_5_0) (by decide +kernel) (by intro i hi; match i, hi with | 0, _ => rfl) (by decide)
  | 6, _, p, hp, q, hq => exact orthC_all hp hq 6 [0, 6] (by intro a ha; simp only [List.mem_cons, List.not_mem_nil, or_false] at ha; rcases ha with rfl | rfl <;> first | with_reducible exact orth_6_0 | with_reducible exact orth_6_6) (by decide +kernel) (by intro i hi; match i, hi with | 0, _ => rfl | 1, _ => rfl) (by decide)
  | 7, _, p, hp, q, hq => exact orthC_all hp hq 4 [0, 4, 8, 12] (by intro a ha; simp only [List.mem_cons, List.not_mem_nil, or_false] at ha; rcases ha with rfl | rfl | rfl | rfl <;> first | with_reducible exact orth_7_0 | with_reducible exact orth_7_4 | with_reducible exact orth_7_8 | with_reducible exact orth_7_12) (by decide +kernel) (by intro i hi; match i, hi with | 0, _ => rfl | 1, _ => rfl | 2, _ => rfl | 3, _ => rfl) (by decide)
  | 8, _, p, hp, q, hq => exact orthC_all hp hq 3 [0, 3, 6, 9, 12, 15, 18, 21] (by intro a ha; simp only [List.mem_cons, List.not_mem_nil, or_false] at ha; rcases ha with rfl | rfl | rfl | rfl | rfl | rfl | rfl | rfl <;> first | with_reducible exact orth_8_0 | with_reducible exact orth_8_3 | with_reducible exact orth_8_6 | with_reducible exact orth_8_9 | with_reducible exact orth_8_12 | with_reducible exact orth_8_15 | with_reducible exact orth_8_18 | with_reducible exact orth_8_21) (by decide +kernel) (by intro i hi; match i, hi with | 0, _ => rfl | 1, _ => rfl | 2, _ => rfl | 3, _ => rfl | 4, _ => rfl | 5, _ => rfl | 6, _ => rfl | 7, _ => rfl) (by decide)
end Go.Schur

set_option linter.unusedVariables false
set_option linter.unusedSimpArgs false
namespace Go.Schur
open Go Go.Ab Go.Proofs
set_option maxRecDepth 100000 in
theorem shT_P : ∀ n ∈ List.range 9, shT (n : Nat) = (P n).map toI := by decide +kernel
def chT_ok (p q : List Nat) : Bool := q.isEmpty || decide (chT (toI p) (toI q) = (rimS (toI p) ((q.headD 0 : Nat) : Int)).foldl (stepC fun c => chT c (toI (q.drop 1))) 0)
set_option maxRecDepth 100000 in
theorem chT_step : (allP.all fun p => (P p.sum).all fun q => chT_ok p q) = true := by decide +kernel
theorem P_tail : ((List.range 9).all fun n => (P n).all fun q => q.isEmpty || decide ((q.drop 1) ∈ P (n - q.headD 0) ∧ 1 ≤ q.headD 0 ∧ q.headD 0 ≤ n)) = true := by decide +kernel
theorem P_sum9 : ∀ n ∈ List.range 9, ∀ q ∈ P n, q.sum = n := by decide +kernel
theorem allP_sum : ∀ p ∈ allP, p.sum < 9 ∧ p ∈ P p.sum := by decide +kernel
theorem P_allP {n : Nat} {p : List Nat} (hn : n < 9) (hp : p ∈ P n) : p ∈ allP := List.mem_flatMap.2 ⟨n, List.mem_range.2 hn, hp⟩
theorem fold_congrC {D D' : List Int → Int} : ∀ {l : List (List Int × Int)} {o : Int}, (∀ c ∈ l, D c.1 = D' c.1) → l.foldl (stepC D) o = l.foldl (stepC D') o
  | [], _, _ => rfl
  | c :: l, o, h => by
    rw [List.foldl_cons, List.foldl_cons, show stepC D o c = stepC D' o c by unfold stepC; rw [h c (List.mem_cons_self ..)]]
    exact fold_congrC fun c hc => h c (List.mem_cons_of_mem _ hc)
set_option maxRecDepth 100000 in
theorem chF_chT : ∀ (q p : List Nat), p ∈ allP → q ∈ P p.sum → chF (toI p) (toI q) = chT (toI p) (toI q)
  | [], p, hp, hq => by
    have h0 := P_sum9 _ (List.mem_range.2 (allP_sum p hp).1) _ hq
    have : ∀ p ∈ allP, p.sum = 0 → chT (toI p) (toI []) = 1 := by decide +kernel
    rw [this p hp h0.symm]; rfl
  | n :: q, p, hp, hq => by
    have h1 := List.all_eq_true.1 (List.all_eq_true.1 chT_step p hp) _ hq
    have h2 := List.all_eq_true.1 (List.all_eq_true.1 P_tail p.sum (List.mem_range.2 (allP_sum p hp).1)) _ hq
    simp only [chT_ok, List.isEmpty_cons, Bool.false_or, decide_eq_true_eq, List.headD_cons, List.drop_succ_cons, List.drop_zero] at h1
    rw [List.isEmpty_cons, Bool.false_or] at h2
    obtain ⟨h2, h3, h4⟩ := of_decide_eq_true h2
    simp only [List.headD_cons, List.drop_succ_cons, List.drop_zero] at h2 h3 h4
    rw [h1]
    show (rimS (toI p) (n : Int)).foldl _ 0 = _
    refine fold_congrC fun c hc => ?_
    obtain ⟨k, rfl⟩ : ∃ k, n = k + 1 := ⟨n - 1, by omega⟩
    have hc2 := (rim_perm p hp k (List.mem_range.2 (by omega))).mem_iff.2 hc
    obtain ⟨d, hd, hdc⟩ := List.mem_filterMap.1 hc2
    obtain ⟨p', hp', rfl⟩ := List.mem_map.1 hd
    split at hdc
    · cases hdc
      have hlt := (allP_sum p hp).1
      have hs := P_sum9 (p.sum - (k + 1)) (List.mem_range.2 (by omega)) _ hp'
      exact chF_chT q p' (P_allP (by omega) hp') (by rw [hs]; exact h2)
    · cases hdc
theorem charF_charT {l m : List Int} : charF l m = charT l m := by
  unfold charF charT
  by_cases h : shapeB l = true ∧ shapeB m = true ∧ boxW l = boxW m
  · rw [if_pos h, if_pos h]
    obtain ⟨h1, h2, h3⟩ := h
    obtain ⟨p, hp, rfl, hp8, _, hps⟩ := shape_allP h1
    obtain ⟨q, hq, rfl, hq8, _, hqs⟩ := shape_allP h2
    rw [toI_box hp8.len hps, toI_box hq8.len hqs] at h3
    have := (allP_sum q hq).2
    rw [show q.sum = p.sum by omega] at this
    rw [chF_chT q p hp this]
  · rw [if_neg h, if_neg h]
set_option maxRecDepth 100000 in
theorem std_tab : ∀ p ∈ allP, chT (toI p) (List.replicate p.sum 1) = (hkN p : Nat) := by decide +kernel
theorem std_hkI {l : List Int} : stdF l = hkI l := by
  unfold stdF hkI
  by_cases h : shapeB l = true
  · rw [if_pos h, if_pos h]
    obtain ⟨p, hp, rfl, hp8, _, hps⟩ := shape_allP h
    rw [toNat_toI, std_tab p hp, std_hk p hp]
  · rw [if_neg h, if_neg h]
set_option maxRecDepth 100000 in
theorem goal62t : con62t.goal Try.prog (spS [con105 9] [con66, con86]) g62_sh [] lm30 := by
  have e : (∀ (l m : List Int), (l.length ≤ 1000 ∧ m.length ≤ 1000) → g62 l m = some (charT l m)) = con62t.goal Try.prog (spS [con105 9] [con66, con86]) g62_sh [] lm30 := by kernel_rfl
  have e0 : (∀ (l m : List Int), (l.length ≤ 1000 ∧ m.length ≤ 1000) → g62 l m = some (charF l m)) = con62.goal Try.prog (spS [con105 9] [con66, con86]) g62_sh [] lm30 := by kernel_rfl
  have this := e0.mpr goal62
  rw [← e]
  intro l m h
  rw [this l m h, charF_charT]
set_option maxRecDepth 100000 in
theorem ok62t : con62t.Ok Try.prog := Con.of_goalS mixed (okC ok66 (okC ok86 okN)) (okS (ok105 9) okS0) con62t goal62t
set_option maxRecDepth 100000 in
theorem goal38t : con38t.goal Try.prog (spS [con84 9] []) g38_sh [] lm30 := by
  have e : (∀ (n : Int), (0 ≤ n ∧ n ≤ 8) → g38 n = some (shT n, ())) = con38t.goal Try.prog (spS [con84 9] []) g38_sh [] lm30 := by kernel_rfl
  have e0 : (∀ (n : Int), (0 ≤ n ∧ n ≤ 8) → g38 n = some (shapesF n, ())) = con38.goal Try.prog (spS [con84 9] []) g38_sh [] lm30 := by kernel_rfl
  have this := e0.mpr goal38
  rw [← e]
  intro n h
  obtain ⟨k, rfl⟩ : ∃ k : Nat, n = k := ⟨n.toNat, by omega⟩
  rw [this k h, shT_P k (List.mem_range.2 (by omega))]
  unfold shapesF; rw [Int.toNat_natCast]
set_option maxRecDepth 100000 in
theorem ok38t : con38t.Ok Try.prog := Con.of_goalS mixed okN (okS (ok84 9) okS0) con38t goal38t
set_option maxRecDepth 100000 in
theorem goal40h : con40h.goal Try.prog (spOf [con86, con85, con21]) g40_sh [] lm30 := by
  have e : (∀ (l : List Int), l.length ≤ 1000 → g40 l = some (hkI l)) = con40h.goal Try.prog (spOf [con86, con85, con21]) g40_sh [] lm30 := by kernel_rfl
  have e0 : (∀ (l : List Int), l.length ≤ 1000 → g40 l = some (stdF l)) = con40.goal Try.prog (spOf [con86, con85, con21]) g40_sh [] lm30 := by kernel_rfl
  have this := e0.mpr goal40
  rw [← e]
  intro l h
  rw [this l h, std_hkI]
set_option maxRecDepth 100000 in
theorem ok40h : con40h.Ok Try.prog := Con.of_goal mixed (okC ok86 (okC ok85 (okC ok21 okN))) con40h goal40h
theorem goal65 : con65.goal Try.prog (spOf []) g65_sh [] lm30 := by
  have e : (∀ (b : Bool), g65 b = some (truthI b, ())) = con65.goal Try.prog (spOf []) g65_sh [] lm30 := by kernel_rfl
  rw [← e]
  intro b
  cases b <;> rfl
set_option maxRecDepth 100000 in
theorem ok65 : con65.Ok Try.prog := Con.of_goal mixed okN con65 goal65
theorem orthB_h {p q : List Nat} (h : orthB p q = true) : h18 (toI p) (toI q) = some (true, ()) := orthF_h h
set_option maxRecDepth 100000 in
theorem orth_bad {l k : List Int} (hl : small l) (hk : small k) (h : ¬ (shapeB l = true ∧ shapeB k = true ∧ boxW l = boxW k)) : g18 l k = some (true, ()) := by
  unfold g18
  cases h1 : shapeB l with
  | false => simp [gd_true, hl, hk, h1, ieq]
  | true =>
    have hl2 : l.length ≤ 1000 := by obtain ⟨q, hq, rfl, hq8, _, hqs⟩ := shape_allP h1; have := hq8.len; simp [toI]; omega
    cases h2 : shapeB k with
    | false => simp [gd_true, hl, hk, h1, h2, ieq]
    | true =>
      have hk2 : k.length ≤ 1000 := by obtain ⟨q, hq, rfl, hq8, _, hqs⟩ := shape_allP h2; have := hq8.len; simp [toI]; omega
      have hne : ¬ boxW l = boxW k := fun x => h ⟨h1, h2, x⟩
      have hb2 : (boxW l == boxW k) = false := beq_false_of_ne hne
      simp [gd_true, hl, hk, hl2, hk2, h1, h2, ieq, hne, hb2]

set_option maxRecDepth 100000 in
theorem goal18 : con18.goal Try.prog (spOf [con22, con37, con38t, con20, con39, con62t, con41, con40h, con65, con51, con24]) g18_sh [] lm30 := by
  have e : (∀ (l k : List Int), (small l ∧ small k) → g18 l k = some (true, ())) = con18.goal Try.prog (spOf [con22, con37, con38t, con20, con39, con62t, con41, con40h, con65, con51, con24]) g18_sh [] lm30 := by kernel_rfl
  rw [← e]
  rintro l k ⟨hl, hk⟩
  by_cases h : shapeB l = true ∧ shapeB k = true ∧ boxW l = boxW k
  · obtain ⟨h1, h2, h3⟩ := h
    obtain ⟨p, hp, rfl, hp8, _, hps⟩ := shape_allP h1
    obtain ⟨q, hq, rfl, hq8, _, hqs⟩ := shape_allP h2
    rw [toI_box hp8.len hps, toI_box hq8.len hqs] at h3
    have := (allP_sum q hq).2
    rw [show q.sum = p.sum by omega] at this
    exact h18_le _ _ _ (orthB_h (orth_all p.sum (allP_sum p hp).1 p (allP_sum p hp).2 q this))
  · exact orth_bad hl hk h
set_option maxRecDepth 100000 in
theorem ok18law : con18.Ok Try.prog := Con.of_goal mixed (okC ok22 (okC ok37 (okC ok38t (okC ok20 (okC ok39 (okC ok62t (okC ok41 (okC ok40h (okC ok65 (okC ok51 (okC ok24 okN))))))))))) con18 goal18
end Go.Schur
