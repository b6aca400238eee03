/- Matrices: contracts. -/
import Derived.Test.YtibpopddoggnkaaProg
import Derived.Test.YtibpopddoggnkaaAT
set_option linter.unusedVariables false
set_option linter.unusedSimpArgs false
namespace Go.Signs
open Go Go.Ab Go.Proofs
abbrev U64 : Ty := .int .u64
noncomputable def con40 : Con := mkC 40 [.d LI] [LI] (fun (l:List Int) => [l.length ≤ 100000]) (fun (l:List Int) => (l, ()))
noncomputable def g40 (x0:List Int) : Option (List Int × Unit) := Option.map id (eqO (List.length x0 = (0:Nat)) (some ((([]:List Int), ()) : List Int × Unit)) (gd ((0:Nat) ≤ (0:Nat)) (gd (((0:Nat) + List.length x0) * (8:Nat) ≤ (1099511627776:Nat)) (gd ((0:Nat) + ((0:Nat) + List.length x0) ≤ List.length x0) (some ((List.take ((0:Nat) + List.length x0) (List.drop (0:Nat) x0), ()) : List Int × Unit))))))
noncomputable def g40_sh : List LSh := ([] : List LSh)
noncomputable def con18 : Con := mkC 18 [.d LI] [LI] (fun (l:List Int) => []) (fun (l:List Int) => (l.take 20, ()))
noncomputable def g18 (x0:List Int) : Option (List Int × Unit) := gd ((0:Int) ≤ imin (↑(List.length x0):Int) (20:Int) ∧ imin (↑(List.length x0):Int) (20:Int) ≤ (↑(List.length x0):Int)) (gd (List.length (List.take (Int.toNat (imin (↑(List.length x0):Int) (20:Int))) x0) ≤ (100000:Nat)) (some ((List.take (Int.toNat (imin (↑(List.length x0):Int) (20:Int))) x0, ()) : List Int × Unit)))
noncomputable def g18_sh : List LSh := ([] : List LSh)
def inM (n:Int) (r:Int) : Bool := decide (0 ≤ r) && decide (r < 2 ^ n.toNat)
noncomputable def con90 : Con := mkC 90 [.d I64, .d (.ptr I64)] [.bool] (fun (r n:Int) => [1 ≤ n, n ≤ 16]) (fun (r n:Int) => (!inM n r, ()))
noncomputable def g90 (x0 x1:Int) : Option (Bool × Unit) := gd ((!ilt x0 (0:Int)) = true → (!ilt x0 (0:Int)) = true ∧ (0:Int) ≤ x1) (gd ((!ilt x0 (0:Int)) = true → (!ilt x0 (0:Int)) = true ∧ (!ilt x0 (0:Int)) = true) (gd (ilt x0 (0:Int) = false → (!ilt x0 (0:Int)) = true) (some ((bif ilt x0 (0:Int) then true else ile (ishl IntKind.i64 (1:Int) x1) x0, ()) : Bool × Unit))))
noncomputable def g90_sh : List LSh := ([] : List LSh)
def ixNot (n:Int) : List Int → Int → Int
  | [], _ => -1
  | x :: l, i => if inM n x = true then ixNot n l (i + 1) else i
noncomputable def con109 : Con := mkC 109 [.d LI, .fn 90 [.ptr I64]] [I64] (fun (l:List Int) (n:Int) => [small l, 1 ≤ n, n ≤ 16]) (fun (l:List Int) (n:Int) => (ixNot n l 0, ()))
noncomputable def g109 (x0:List Int) (x1:Int) : Option (Int × Unit) := whileO (fun (d2 : Int × Int × Unit) => bif ilt d2.2.1 (↑(List.length x0):Int) then gd ((0:Int) ≤ d2.2.1 ∧ d2.2.1 < (↑(List.length x0):Int)) (gd ((1:Int) ≤ d2.1) (gd (d2.1 ≤ (16:Int)) (bif !inM d2.1 (List.getD x0 (Int.toNat d2.2.1) (0:Int)) then some (Lp.out ((d2.2.1, ()) : Int × Unit)) else some (Lp.go ((d2.1, wr IntKind.i64 (d2.2.1 + (1:Int)), ()) : Int × Int × Unit))))) else some (Lp.out (((-1:Int), ()) : Int × Unit))) ((x1, (0:Int), ()) : Int × Int × Unit)
noncomputable def g109_sh : List LSh := LSh.mk (((1, TV.fn (90) (TV.cons (TV.v (Ty.ptr (Ty.int IntKind.i64))) TV.nil)) : Nat × TV) :: ((8, TV.v (Ty.int IntKind.i64)) : Nat × TV) :: ([] : List (Nat × TV))) ([] : List TB) :: ([] : List LSh)
noncomputable def con89 : Con := mkC 89 [.d LI, .fn 90 [.ptr I64]] [.bool] (fun (l:List Int) (n:Int) => [small l, 1 ≤ n, n ≤ 16]) (fun (l:List Int) (n:Int) => (!l.all (inM n), ()))
noncomputable def g89 (x0:List Int) (x1:Int) : Option (Bool × Unit) := gd (small x0) (gd ((1:Int) ≤ x1) (gd (x1 ≤ (16:Int)) (some ((ile (0:Int) (ixNot x1 x0 (0:Int)), ()) : Bool × Unit))))
noncomputable def g89_sh : List LSh := ([] : List LSh)
def isM (l:List Int) (most:Int) : Bool := decide (1 ≤ (l.length:Int)) && decide ((l.length:Int) ≤ most) && l.all (inM (l.length:Int))
noncomputable def con62 : Con := mkC 62 [.d LI, .d I64] [.bool] (fun (l:List Int) (m:Int) => [small l, m ≤ 16]) (fun (l:List Int) (m:Int) => (isM l m, ()))
noncomputable def g62 (x0:List Int) (x1:Int) : Option (Bool × Unit) := gd (ile (1:Int) (↑(List.length x0):Int) = true → ile (1:Int) (↑(List.length x0):Int) = true ∧ ile (1:Int) (↑(List.length x0):Int) = true) (gd (ile (1:Int) (↑(List.length x0):Int) = true → ile (1:Int) (↑(List.length x0):Int) = true) (gd ((bif ile (1:Int) (↑(List.length x0):Int) then ile (↑(List.length x0):Int) x1 else false) = true → (bif ile (1:Int) (↑(List.length x0):Int) then ile (↑(List.length x0):Int) x1 else false) = true ∧ (bif ile (1:Int) (↑(List.length x0):Int) then ile (↑(List.length x0):Int) x1 else false) = true ∧ small x0 ∧ (1:Int) ≤ (↑(List.length x0):Int) ∧ (↑(List.length x0):Int) ≤ (16:Int)) (gd ((bif ile (1:Int) (↑(List.length x0):Int) then ile (↑(List.length x0):Int) x1 else false) = true → (bif ile (1:Int) (↑(List.length x0):Int) then ile (↑(List.length x0):Int) x1 else false) = true) (gd ((bif ile (1:Int) (↑(List.length x0):Int) then ile (↑(List.length x0):Int) x1 else false) = true → (bif ile (1:Int) (↑(List.length x0):Int) then ile (↑(List.length x0):Int) x1 else false) = true) (some ((bif bif ile (1:Int) (↑(List.length x0):Int) then ile (↑(List.length x0):Int) x1 else false then !!List.all x0 (inM (↑(List.length x0):Int)) else false, ()) : Bool × Unit))))))
noncomputable def g62_sh : List LSh := ([] : List LSh)
noncomputable def con23 : Con := mkC 23 [.d LI, .d I64] [.bool] (fun (l:List Int) (m:Int) => [small l, m ≤ 16]) (fun (l:List Int) (m:Int) => (isM l m, ()))
noncomputable def g23 (x0:List Int) (x1:Int) : Option (Bool × Unit) := whileO (fun (d2 : Int × Unit) => bif ilt d2.1 (↑(List.length x0):Int) then gd ((0:Int) ≤ d2.1 ∧ d2.1 < (↑(List.length x0):Int)) (gd ((!ilt (List.getD x0 (Int.toNat d2.1) (0:Int)) (0:Int)) = true → (!ilt (List.getD x0 (Int.toNat d2.1) (0:Int)) (0:Int)) = true) (gd ((!ilt (List.getD x0 (Int.toNat d2.1) (0:Int)) (0:Int)) = true → (!ilt (List.getD x0 (Int.toNat d2.1) (0:Int)) (0:Int)) = true) (gd ((!ilt (List.getD x0 (Int.toNat d2.1) (0:Int)) (0:Int)) = true → (!ilt (List.getD x0 (Int.toNat d2.1) (0:Int)) (0:Int)) = true ∧ (0:Int) ≤ imin (↑(List.length x0):Int) (16:Int)) (gd ((!ilt (List.getD x0 (Int.toNat d2.1) (0:Int)) (0:Int)) = true → (!ilt (List.getD x0 (Int.toNat d2.1) (0:Int)) (0:Int)) = true ∧ (!ilt (List.getD x0 (Int.toNat d2.1) (0:Int)) (0:Int)) = true) (gd (ilt (List.getD x0 (Int.toNat d2.1) (0:Int)) (0:Int) = false → (!ilt (List.getD x0 (Int.toNat d2.1) (0:Int)) (0:Int)) = true) (bif bif ilt (List.getD x0 (Int.toNat d2.1) (0:Int)) (0:Int) then true else ile (ishl IntKind.i64 (1:Int) (imin (↑(List.length x0):Int) (16:Int))) (List.getD x0 (Int.toNat d2.1) (0:Int)) then some (Lp.out ((false, ()) : Bool × Unit)) else some (Lp.go ((wr IntKind.i64 (d2.1 + (1:Int)), ()) : Int × Unit)))))))) else gd (ile (1:Int) (↑(List.length x0):Int) = true → ile (1:Int) (↑(List.length x0):Int) = true) (gd (ile (1:Int) (↑(List.length x0):Int) = true → ile (1:Int) (↑(List.length x0):Int) = true ∧ ile (1:Int) (↑(List.length x0):Int) = true) (gd (ile (1:Int) (↑(List.length x0):Int) = true → ile (1:Int) (↑(List.length x0):Int) = true) (some (Lp.out ((bif ile (1:Int) (↑(List.length x0):Int) then ile (↑(List.length x0):Int) x1 else false, ()) : Bool × Unit)))))) (((0:Int), ()) : Int × Unit)
noncomputable def g23_sh : List LSh := LSh.mk (((9, TV.v (Ty.int IntKind.i64)) : Nat × TV) :: ([] : List (Nat × TV))) ([] : List TB) :: ([] : List LSh)
def bit (x j:Int) : Bool := x.toNat.testBit j.toNat
def okE (l:List Int) (i j:Int) : Prop := 0 ≤ i ∧ i < l.length ∧ 0 ≤ j ∧ j < 16 ∧ ∀ x ∈ l, 0 ≤ x ∧ x < 65536
def isF (l:List Int) (i j:Int) : Bool := bit (l.getD i.toNat 0) j
noncomputable def con64 : Con := mkC 64 [.d LI, .d I64, .d I64] [.bool] (fun (l:List Int) (i j:Int) => [okE l i j]) (fun (l:List Int) (i j:Int) => (isF l i j, ()))
noncomputable def g64 (x0:List Int) (x1 x2:Int) : Option (Bool × Unit) := gd ((0:Int) ≤ x1 ∧ x1 < (↑(List.length x0):Int)) (gd ((0:Int) ≤ x2) (some ((ieq (iand IntKind.i64 (ishr IntKind.i64 (List.getD x0 (Int.toNat x1) (0:Int)) x2) (1:Int)) (1:Int), ()) : Bool × Unit)))
noncomputable def g64_sh : List LSh := ([] : List LSh)
def popN (x:Nat) : Nat := (List.range 16).countP (fun j => x.testBit j)
def pop (x:Int) : Int := popN x.toNat
def is16 (x:Int) : Prop := 0 ≤ x ∧ x < 65536
noncomputable def con108 : Con := mkC 108 [.d U64] [I64] (fun (x:Int) => [is16 x]) (fun (x:Int) => (pop x, ()))
noncomputable def g108 (x0:Int) : Option (Int × Unit) := gd ((0:Int) ≤ (1:Int)) (gd ((0:Int) ≤ (2:Int)) (gd ((0:Int) ≤ (4:Int)) (gd ((0:Int) ≤ (8:Int)) (gd ((0:Int) ≤ (16:Int)) (gd ((0:Int) ≤ (32:Int)) (some ((iand IntKind.i64 (wr IntKind.i64 (wr IntKind.u64 (wr IntKind.u64 (wr IntKind.u64 (iand IntKind.u64 (wr IntKind.u64 (ishr IntKind.u64 (wr IntKind.u64 (iand IntKind.u64 (ishr IntKind.u64 (wr IntKind.u64 (iand IntKind.u64 (ishr IntKind.u64 x0 (1:Int)) (6148914691236517205:Int) + iand IntKind.u64 x0 (6148914691236517205:Int))) (2:Int)) (3689348814741910323:Int) + iand IntKind.u64 (wr IntKind.u64 (iand IntKind.u64 (ishr IntKind.u64 x0 (1:Int)) (6148914691236517205:Int) + iand IntKind.u64 x0 (6148914691236517205:Int))) (3689348814741910323:Int))) (4:Int) + wr IntKind.u64 (iand IntKind.u64 (ishr IntKind.u64 (wr IntKind.u64 (iand IntKind.u64 (ishr IntKind.u64 x0 (1:Int)) (6148914691236517205:Int) + iand IntKind.u64 x0 (6148914691236517205:Int))) (2:Int)) (3689348814741910323:Int) + iand IntKind.u64 (wr IntKind.u64 (iand IntKind.u64 (ishr IntKind.u64 x0 (1:Int)) (6148914691236517205:Int) + iand IntKind.u64 x0 (6148914691236517205:Int))) (3689348814741910323:Int)))) (1085102592571150095:Int) + ishr IntKind.u64 (iand IntKind.u64 (wr IntKind.u64 (ishr IntKind.u64 (wr IntKind.u64 (iand IntKind.u64 (ishr IntKind.u64 (wr IntKind.u64 (iand IntKind.u64 (ishr IntKind.u64 x0 (1:Int)) (6148914691236517205:Int) + iand IntKind.u64 x0 (6148914691236517205:Int))) (2:Int)) (3689348814741910323:Int) + iand IntKind.u64 (wr IntKind.u64 (iand IntKind.u64 (ishr IntKind.u64 x0 (1:Int)) (6148914691236517205:Int) + iand IntKind.u64 x0 (6148914691236517205:Int))) (3689348814741910323:Int))) (4:Int) + wr IntKind.u64 (iand IntKind.u64 (ishr IntKind.u64 (wr IntKind.u64 (iand IntKind.u64 (ishr IntKind.u64 x0 (1:Int)) (6148914691236517205:Int) + iand IntKind.u64 x0 (6148914691236517205:Int))) (2:Int)) (3689348814741910323:Int) + iand IntKind.u64 (wr IntKind.u64 (iand IntKind.u64 (ishr IntKind.u64 x0 (1:Int)) (6148914691236517205:Int) + iand IntKind.u64 x0 (6148914691236517205:Int))) (3689348814741910323:Int)))) (1085102592571150095:Int)) (8:Int)) + ishr IntKind.u64 (wr IntKind.u64 (iand IntKind.u64 (wr IntKind.u64 (ishr IntKind.u64 (wr IntKind.u64 (iand IntKind.u64 (ishr IntKind.u64 (wr IntKind.u64 (iand IntKind.u64 (ishr IntKind.u64 x0 (1:Int)) (6148914691236517205:Int) + iand IntKind.u64 x0 (6148914691236517205:Int))) (2:Int)) (3689348814741910323:Int) + iand IntKind.u64 (wr IntKind.u64 (iand IntKind.u64 (ishr IntKind.u64 x0 (1:Int)) (6148914691236517205:Int) + iand IntKind.u64 x0 (6148914691236517205:Int))) (3689348814741910323:Int))) (4:Int) + wr IntKind.u64 (iand IntKind.u64 (ishr IntKind.u64 (wr IntKind.u64 (iand IntKind.u64 (ishr IntKind.u64 x0 (1:Int)) (6148914691236517205:Int) + iand IntKind.u64 x0 (6148914691236517205:Int))) (2:Int)) (3689348814741910323:Int) + iand IntKind.u64 (wr IntKind.u64 (iand IntKind.u64 (ishr IntKind.u64 x0 (1:Int)) (6148914691236517205:Int) + iand IntKind.u64 x0 (6148914691236517205:Int))) (3689348814741910323:Int)))) (1085102592571150095:Int) + ishr IntKind.u64 (iand IntKind.u64 (wr IntKind.u64 (ishr IntKind.u64 (wr IntKind.u64 (iand IntKind.u64 (ishr IntKind.u64 (wr IntKind.u64 (iand IntKind.u64 (ishr IntKind.u64 x0 (1:Int)) (6148914691236517205:Int) + iand IntKind.u64 x0 (6148914691236517205:Int))) (2:Int)) (3689348814741910323:Int) + iand IntKind.u64 (wr IntKind.u64 (iand IntKind.u64 (ishr IntKind.u64 x0 (1:Int)) (6148914691236517205:Int) + iand IntKind.u64 x0 (6148914691236517205:Int))) (3689348814741910323:Int))) (4:Int) + wr IntKind.u64 (iand IntKind.u64 (ishr IntKind.u64 (wr IntKind.u64 (iand IntKind.u64 (ishr IntKind.u64 x0 (1:Int)) (6148914691236517205:Int) + iand IntKind.u64 x0 (6148914691236517205:Int))) (2:Int)) (3689348814741910323:Int) + iand IntKind.u64 (wr IntKind.u64 (iand IntKind.u64 (ishr IntKind.u64 x0 (1:Int)) (6148914691236517205:Int) + iand IntKind.u64 x0 (6148914691236517205:Int))) (3689348814741910323:Int)))) (1085102592571150095:Int)) (8:Int))) (16:Int)) + ishr IntKind.u64 (wr IntKind.u64 (wr IntKind.u64 (iand IntKind.u64 (wr IntKind.u64 (ishr IntKind.u64 (wr IntKind.u64 (iand IntKind.u64 (ishr IntKind.u64 (wr IntKind.u64 (iand IntKind.u64 (ishr IntKind.u64 x0 (1:Int)) (6148914691236517205:Int) + iand IntKind.u64 x0 (6148914691236517205:Int))) (2:Int)) (3689348814741910323:Int) + iand IntKind.u64 (wr IntKind.u64 (iand IntKind.u64 (ishr IntKind.u64 x0 (1:Int)) (6148914691236517205:Int) + iand IntKind.u64 x0 (6148914691236517205:Int))) (3689348814741910323:Int))) (4:Int) + wr IntKind.u64 (iand IntKind.u64 (ishr IntKind.u64 (wr IntKind.u64 (iand IntKind.u64 (ishr IntKind.u64 x0 (1:Int)) (6148914691236517205:Int) + iand IntKind.u64 x0 (6148914691236517205:Int))) (2:Int)) (3689348814741910323:Int) + iand IntKind.u64 (wr IntKind.u64 (iand IntKind.u64 (ishr IntKind.u64 x0 (1:Int)) (6148914691236517205:Int) + iand IntKind.u64 x0 (6148914691236517205:Int))) (3689348814741910323:Int)))) (1085102592571150095:Int) + ishr IntKind.u64 (iand IntKind.u64 (wr IntKind.u64 (ishr IntKind.u64 (wr IntKind.u64 (iand IntKind.u64 (ishr IntKind.u64 (wr IntKind.u64 (iand IntKind.u64 (ishr IntKind.u64 x0 (1:Int)) (6148914691236517205:Int) + iand IntKind.u64 x0 (6148914691236517205:Int))) (2:Int)) (3689348814741910323:Int) + iand IntKind.u64 (wr IntKind.u64 (iand IntKind.u64 (ishr IntKind.u64 x0 (1:Int)) (6148914691236517205:Int) + iand IntKind.u64 x0 (6148914691236517205:Int))) (3689348814741910323:Int))) (4:Int) + wr IntKind.u64 (iand IntKind.u64 (ishr IntKind.u64 (wr IntKind.u64 (iand IntKind.u64 (ishr IntKind.u64 x0 (1:Int)) (6148914691236517205:Int) + iand IntKind.u64 x0 (6148914691236517205:Int))) (2:Int)) (3689348814741910323:Int) + iand IntKind.u64 (wr IntKind.u64 (iand IntKind.u64 (ishr IntKind.u64 x0 (1:Int)) (6148914691236517205:Int) + iand IntKind.u64 x0 (6148914691236517205:Int))) (3689348814741910323:Int)))) (1085102592571150095:Int)) (8:Int)) + ishr IntKind.u64 (wr IntKind.u64 (iand IntKind.u64 (wr IntKind.u64 (ishr IntKind.u64 (wr IntKind.u64 (iand IntKind.u64 (ishr IntKind.u64 (wr IntKind.u64 (iand IntKind.u64 (ishr IntKind.u64 x0 (1:Int)) (6148914691236517205:Int) + iand IntKind.u64 x0 (6148914691236517205:Int))) (2:Int)) (3689348814741910323:Int) + iand IntKind.u64 (wr IntKind.u64 (iand IntKind.u64 (ishr IntKind.u64 x0 (1:Int)) (6148914691236517205:Int) + iand IntKind.u64 x0 (6148914691236517205:Int))) (3689348814741910323:Int))) (4:Int) + wr IntKind.u64 (iand IntKind.u64 (ishr IntKind.u64 (wr IntKind.u64 (iand IntKind.u64 (ishr IntKind.u64 x0 (1:Int)) (6148914691236517205:Int) + iand IntKind.u64 x0 (6148914691236517205:Int))) (2:Int)) (3689348814741910323:Int) + iand IntKind.u64 (wr IntKind.u64 (iand IntKind.u64 (ishr IntKind.u64 x0 (1:Int)) (6148914691236517205:Int) + iand IntKind.u64 x0 (6148914691236517205:Int))) (3689348814741910323:Int)))) (1085102592571150095:Int) + ishr IntKind.u64 (iand IntKind.u64 (wr IntKind.u64 (ishr IntKind.u64 (wr IntKind.u64 (iand IntKind.u64 (ishr IntKind.u64 (wr IntKind.u64 (iand IntKind.u64 (ishr IntKind.u64 x0 (1:Int)) (6148914691236517205:Int) + iand IntKind.u64 x0 (6148914691236517205:Int))) (2:Int)) (3689348814741910323:Int) + iand IntKind.u64 (wr IntKind.u64 (iand IntKind.u64 (ishr IntKind.u64 x0 (1:Int)) (6148914691236517205:Int) + iand IntKind.u64 x0 (6148914691236517205:Int))) (3689348814741910323:Int))) (4:Int) + wr IntKind.u64 (iand IntKind.u64 (ishr IntKind.u64 (wr IntKind.u64 (iand IntKind.u64 (ishr IntKind.u64 x0 (1:Int)) (6148914691236517205:Int) + iand IntKind.u64 x0 (6148914691236517205:Int))) (2:Int)) (3689348814741910323:Int) + iand IntKind.u64 (wr IntKind.u64 (iand IntKind.u64 (ishr IntKind.u64 x0 (1:Int)) (6148914691236517205:Int) + iand IntKind.u64 x0 (6148914691236517205:Int))) (3689348814741910323:Int)))) (1085102592571150095:Int)) (8:Int))) (16:Int))) (32:Int)))) (127:Int), ()) : Int × Unit)))))))
noncomputable def g108_sh : List LSh := ([] : List LSh)
noncomputable def con88 : Con := mkC 88 [.d U64] [I64] (fun (x:Int) => [is16 x]) (fun (x:Int) => (pop x, ()))
noncomputable def g88 (x0:Int) : Option (Int × Unit) := gd (is16 x0) (some ((pop x0, ()) : Int × Unit))
noncomputable def g88_sh : List LSh := ([] : List LSh)
noncomputable def con61 : Con := mkC 61 [.d I64] [I64] (fun (x:Int) => [is16 x]) (fun (x:Int) => (pop x, ()))
noncomputable def g61 (x0:Int) : Option (Int × Unit) := gd (is16 (wr IntKind.u64 x0)) (some ((pop (wr IntKind.u64 x0), ()) : Int × Unit))
noncomputable def g61_sh : List LSh := ([] : List LSh)
noncomputable def con20 : Con := mkC 20 [.d LI, .d LI] [.bool] (fun (l m:List Int) => [small l, small m]) (fun (l m:List Int) => (eqLf ieq l m, ()))
noncomputable def g20 (x0 x1:List Int) : Option (Bool × Unit) := bif !ieq (↑(List.length x0):Int) (↑(List.length x1):Int) then some ((false, ()) : Bool × Unit) else whileO (fun (d2 : Int × Unit) => bif ilt d2.1 (↑(List.length x0):Int) then gd ((0:Int) ≤ d2.1 ∧ d2.1 < (↑(List.length x0):Int)) (gd ((0:Int) ≤ d2.1 ∧ d2.1 < (↑(List.length x1):Int)) (bif !ieq (List.getD x0 (Int.toNat d2.1) (0:Int)) (List.getD x1 (Int.toNat d2.1) (0:Int)) then some (Lp.out ((false, ()) : Bool × Unit)) else some (Lp.go ((wr IntKind.i64 (d2.1 + (1:Int)), ()) : Int × Unit)))) else some (Lp.out ((true, ()) : Bool × Unit))) (((0:Int), ()) : Int × Unit)
noncomputable def g20_sh : List LSh := LSh.mk (((13, TV.v (Ty.int IntKind.i64)) : Nat × TV) :: ([] : List (Nat × TV))) ([] : List TB) :: ([] : List LSh)
def dblB (i j:Int) : Bool := decide (pop ((i.toNat &&& j.toNat:Nat):Int) % 2 = 1)
noncomputable def con60 : Con := mkC 60 [.d I64, .d I64] [.bool] (fun (i j:Int) => [is16 i, is16 j]) (fun (i j:Int) => (dblB i j, ()))
noncomputable def g60 (x0 x1:Int) : Option (Bool × Unit) := gd (is16 (iand IntKind.i64 x0 x1)) (gd ((2:Int) ≠ (0:Int)) (some ((ieq (Int.tmod (pop (iand IntKind.i64 x0 x1)) (2:Int)) (1:Int), ()) : Bool × Unit)))
noncomputable def g60_sh : List LSh := ([] : List LSh)
def rowN (g : Int → Bool) : Nat → Nat
  | 0 => 0
  | j + 1 => if g j = true then rowN g j ||| 2 ^ j else rowN g j
def madeF (n:Nat) (f : Int → Int → Bool) : List Int := (List.range n).map fun (i:Nat) => ((rowN (f i) n:Nat):Int)
noncomputable def con59 : Con := mkC 59 [.d I64, .fn 60 []] [LI] (fun (n:Int) => [0 ≤ n, n ≤ 16]) (fun (n:Int) => (madeF n.toNat dblB, ()))
noncomputable def g59_l0 (x0:Int) (d1 d2 : Int × List Int × Unit) : Option (Lp (Int × List Int × Unit) (Lp (Int × List Int × Unit) (List Int × Unit))) := bif ilt d2.1 x0 then gd (is16 d1.1) (gd (is16 d2.1) (bif dblB d1.1 d2.1 then gd ((0:Int) ≤ d1.1 ∧ d1.1 < (↑(List.length d2.2.1):Int)) (gd ((0:Nat) + Int.toNat d1.1 < List.length d2.2.1) (gd ((0:Int) ≤ d2.1) (gd ((0:Int) ≤ d1.1 ∧ d1.1 < (↑(List.length d2.2.1):Int)) (gd ((0:Nat) + Int.toNat d1.1 < List.length d2.2.1) (gd (List.length d2.2.1 = List.length (List.set d2.2.1 ((0:Nat) + Int.toNat d1.1) (ior IntKind.i64 (List.getD d2.2.1 ((0:Nat) + Int.toNat d1.1) (0:Int)) (ishl IntKind.i64 (1:Int) d2.1)))) (some (Lp.go ((wr IntKind.i64 (d2.1 + (1:Int)), List.set d2.2.1 ((0:Nat) + Int.toNat d1.1) (ior IntKind.i64 (List.getD d2.2.1 ((0:Nat) + Int.toNat d1.1) (0:Int)) (ishl IntKind.i64 (1:Int) d2.1)), ()) : Int × List Int × Unit)))))))) else gd (List.length d2.2.1 = List.length d2.2.1) (some (Lp.go ((wr IntKind.i64 (d2.1 + (1:Int)), d2.2.1, ()) : Int × List Int × Unit))))) else gd (List.length d2.2.1 = List.length d2.2.1) (some (Lp.out (Lp.go ((wr IntKind.i64 (d1.1 + (1:Int)), d2.2.1, ()) : Int × List Int × Unit))))
noncomputable def g59 (x0:Int) : Option (List Int × Unit) := gd ((0:Int) ≤ x0 ∧ x0 ≤ x0 ∧ x0 * (8:Int) ≤ (1099511627776:Int)) (gd (Int.toNat x0 = List.length (List.replicate (Int.toNat x0) (0:Int))) (whileO (fun (d1 : Int × List Int × Unit) => bif ilt d1.1 x0 then gd (List.length d1.2.1 = List.length d1.2.1) (whileO (g59_l0 x0 d1) (((0:Int), d1.2.1, ()) : Int × List Int × Unit)) else gd ((0:Nat) + List.length d1.2.1 ≤ List.length d1.2.1) (some (Lp.out ((List.take (List.length d1.2.1) (List.drop (0:Nat) d1.2.1), ()) : List Int × Unit)))) (((0:Int), List.replicate (Int.toNat x0) (0:Int), ()) : Int × List Int × Unit)))
noncomputable def g59_sh : List LSh := LSh.mk (((1, TV.fn (60) TV.nil) : Nat × TV) :: ((5, TV.slf (0) (1)) : Nat × TV) :: ((11, TV.v (Ty.int IntKind.i64)) : Nat × TV) :: ([] : List (Nat × TV))) (TB.arr (Ty.int IntKind.i64) true :: ([] : List TB)) :: LSh.mk (((1, TV.fn (60) TV.nil) : Nat × TV) :: ((5, TV.slf (0) (1)) : Nat × TV) :: ((15, TV.v (Ty.int IntKind.i64)) : Nat × TV) :: ([] : List (Nat × TV))) (TB.arr (Ty.int IntKind.i64) true :: ([] : List TB)) :: ([] : List LSh)
def timB (a b:List Int) (n:Int) (i j:Int) : Bool := xor (isF a (i.tdiv n) (j.tdiv n)) (isF b (i.tmod n) (j.tmod n))
def douF (k:Int) : List Int := madeF (2 ^ k.toNat) dblB
def doubX (k:Int) : List Int × Int × Unit := if 0 ≤ k ∧ k ≤ 4 then (douF k, 0, ()) else ([], 2, ())
noncomputable def con16 : Con := mkC 16 [.d I64] [LI, I64] (fun (k:Int) => []) (fun (k:Int) => doubX k)
noncomputable def g16 (x0:Int) : Option (List Int × Int × Unit) := gd ((!ilt x0 (0:Int)) = true → (!ilt x0 (0:Int)) = true) (gd (ilt x0 (0:Int) = false → (!ilt x0 (0:Int)) = true) (bif bif ilt x0 (0:Int) then true else ilt (4:Int) x0 then some ((([]:List Int), (2:Int), ()) : List Int × Int × Unit) else gd ((0:Int) ≤ x0) (gd ((0:Int) ≤ ishl IntKind.i64 (1:Int) x0) (gd (ishl IntKind.i64 (1:Int) x0 ≤ (16:Int)) (some ((madeF (Int.toNat (ishl IntKind.i64 (1:Int) x0)) dblB, (0:Int), ()) : List Int × Int × Unit))))))
noncomputable def g16_sh : List LSh := ([] : List LSh)
def timF (a b:List Int) : List Int := madeF (a.length * b.length) (timB a b b.length)
def timX (a b:List Int) : List Int × Int × Unit := if (isM a 16 && isM b 16) = true then (if (a.length * b.length:Int) ≤ 16 then (timF a b, 0, ()) else ([], 6, ())) else ([], 2, ())
noncomputable def con24 : Con := mkC 24 [] [.bool] [] (true, ())
noncomputable def g24  : Option (Bool × Unit) := gd (ieq (doubX (1:Int)).2.1 (0:Int) = true → ieq (doubX (1:Int)).2.1 (0:Int) = true ∧ ieq (doubX (1:Int)).2.1 (0:Int) = true ∧ small (doubX (1:Int)).1 ∧ small ((0:Int) :: (2:Int) :: ([]:List Int))) (gd (ieq (doubX (1:Int)).2.1 (0:Int) = true → ieq (doubX (1:Int)).2.1 (0:Int) = true) (some ((bif ieq (doubX (1:Int)).2.1 (0:Int) then eqLf ieq (doubX (1:Int)).1 ((0:Int) :: (2:Int) :: ([]:List Int)) else false, ()) : Bool × Unit)))
noncomputable def g24_sh : List LSh := ([] : List LSh)
def sqB (m : List (Int × Bool)) (p i j:Int) : Bool := decide (0 < i) && (decide (j = 0) || !(assoc I64 .bool m ((j - i + p) % p)).getD false)
def sqP (p:Int) : Nat → List (Int × Bool)
  | 0 => [(0, true)]
  | x + 1 => assocUp I64 .bool (sqP p x) ((x * x:Int) % p) true
def sqM (p:Int) : List (Int × Bool) := sqP p p.toNat
def squF (p:Int) : List Int := madeF (p.toNat + 1) (sqB (sqM p) p)
def squaX (p:Int) : List Int × Int × Unit := if p = 3 ∨ p = 7 ∨ p = 11 then (squF p, 0, ()) else ([], 2, ())
noncomputable def g3_c0 (x1 x2:List Int) : Bool := bif ieq (↑(List.length (timX (List.take (20:Nat) x1) (List.take (20:Nat) x2)).1):Int) (0:Int) then ieq (timX (List.take (20:Nat) x1) (List.take (20:Nat) x2)).2.1 (2:Int) else false
noncomputable def g3_c1 (x1 x2:List Int) : Bool := bif ieq (↑(List.length (timX (List.take (20:Nat) x1) (List.take (20:Nat) x2)).1):Int) (0:Int) then ieq (timX (List.take (20:Nat) x1) (List.take (20:Nat) x2)).2.1 (6:Int) else false
noncomputable def g3_c2 (x1 x2:List Int) : Bool := bif eqLf ieq (timX (List.take (20:Nat) x1) (List.take (20:Nat) x2)).1 (timF x1 x2) then ieq (timX (List.take (20:Nat) x1) (List.take (20:Nat) x2)).2.1 (0:Int) else false
noncomputable def g3 (x0:Int) (x1 x2:List Int) : Option (Bool × Unit) := gd (small (List.take (20:Nat) x1)) (gd (small (List.take (20:Nat) x2)) (gd ((!ilt x0 (0:Int)) = true → (!ilt x0 (0:Int)) = true) (gd (ilt x0 (0:Int) = false → (!ilt x0 (0:Int)) = true) (bif bif ilt x0 (0:Int) then true else ilt (4:Int) x0 then gd ((!!ieq (↑(List.length (doubX x0).1):Int) (0:Int)) = true → (!!ieq (↑(List.length (doubX x0).1):Int) (0:Int)) = true) (gd ((!ieq (↑(List.length (doubX x0).1):Int) (0:Int)) = false → (!!ieq (↑(List.length (doubX x0).1):Int) (0:Int)) = true) (bif bif !ieq (↑(List.length (doubX x0).1):Int) (0:Int) then true else !ieq (doubX x0).2.1 (2:Int) then some ((false, ()) : Bool × Unit) else gd ((!ieq x0 (3:Int)) = true → (!ieq x0 (3:Int)) = true) (gd ((!ieq x0 (3:Int)) = true → (!ieq x0 (3:Int)) = true) (gd ((bif !ieq x0 (3:Int) then !ieq x0 (7:Int) else false) = true → (bif !ieq x0 (3:Int) then !ieq x0 (7:Int) else false) = true) (gd ((bif !ieq x0 (3:Int) then !ieq x0 (7:Int) else false) = true → (bif !ieq x0 (3:Int) then !ieq x0 (7:Int) else false) = true) (bif bif bif !ieq x0 (3:Int) then !ieq x0 (7:Int) else false then !ieq x0 (11:Int) else false then gd ((!!ieq (↑(List.length (squaX x0).1):Int) (0:Int)) = true → (!!ieq (↑(List.length (squaX x0).1):Int) (0:Int)) = true) (gd ((!ieq (↑(List.length (squaX x0).1):Int) (0:Int)) = false → (!!ieq (↑(List.length (squaX x0).1):Int) (0:Int)) = true) (bif bif !ieq (↑(List.length (squaX x0).1):Int) (0:Int) then true else !ieq (squaX x0).2.1 (2:Int) then some ((false, ()) : Bool × Unit) else gd (small x1) (gd ((16:Int) ≤ (16:Int)) (gd ((!!isM x1 (16:Int)) = true → (!!isM x1 (16:Int)) = true ∧ small x2 ∧ (16:Int) ≤ (16:Int)) (gd ((!!isM x1 (16:Int)) = true → (!!isM x1 (16:Int)) = true) (gd ((!isM x1 (16:Int)) = false → (!!isM x1 (16:Int)) = true) (bif bif !isM x1 (16:Int) then true else !isM x2 (16:Int) then gd (ieq (↑(List.length (timX (List.take (20:Nat) x1) (List.take (20:Nat) x2)).1):Int) (0:Int) = true → ieq (↑(List.length (timX (List.take (20:Nat) x1) (List.take (20:Nat) x2)).1):Int) (0:Int) = true) (gd (ieq (↑(List.length (timX (List.take (20:Nat) x1) (List.take (20:Nat) x2)).1):Int) (0:Int) = true → ieq (↑(List.length (timX (List.take (20:Nat) x1) (List.take (20:Nat) x2)).1):Int) (0:Int) = true) (gd (g3_c0 x1 x2 = true → g3_c0 x1 x2 = true) (some ((bif g3_c0 x1 x2 then true else false, ()) : Bool × Unit)))) else bif ilt (16:Int) (wr IntKind.i64 ((↑(List.length x1):Int) * (↑(List.length x2):Int))) then gd (ieq (↑(List.length (timX (List.take (20:Nat) x1) (List.take (20:Nat) x2)).1):Int) (0:Int) = true → ieq (↑(List.length (timX (List.take (20:Nat) x1) (List.take (20:Nat) x2)).1):Int) (0:Int) = true) (gd (ieq (↑(List.length (timX (List.take (20:Nat) x1) (List.take (20:Nat) x2)).1):Int) (0:Int) = true → ieq (↑(List.length (timX (List.take (20:Nat) x1) (List.take (20:Nat) x2)).1):Int) (0:Int) = true) (gd (g3_c1 x1 x2 = true → g3_c1 x1 x2 = true) (some ((bif g3_c1 x1 x2 then true else false, ()) : Bool × Unit)))) else gd (isM x1 (16:Int) = true) (gd (isM x2 (16:Int) = true) (gd ((↑(List.length x1):Int) * (↑(List.length x2):Int) ≤ (16:Int)) (gd (small (timX (List.take (20:Nat) x1) (List.take (20:Nat) x2)).1) (gd (small (timF x1 x2)) (gd (eqLf ieq (timX (List.take (20:Nat) x1) (List.take (20:Nat) x2)).1 (timF x1 x2) = true → eqLf ieq (timX (List.take (20:Nat) x1) (List.take (20:Nat) x2)).1 (timF x1 x2) = true) (gd (eqLf ieq (timX (List.take (20:Nat) x1) (List.take (20:Nat) x2)).1 (timF x1 x2) = true → eqLf ieq (timX (List.take (20:Nat) x1) (List.take (20:Nat) x2)).1 (timF x1 x2) = true) (gd (g3_c2 x1 x2 = true → g3_c2 x1 x2 = true) (some ((bif g3_c2 x1 x2 then true else false, ()) : Bool × Unit)))))))))))))))) else gd (x0 = (3:Int) ∨ x0 = (7:Int) ∨ x0 = (11:Int)) (gd (small (squaX x0).1) (gd (small (squF x0)) (gd ((!!eqLf ieq (squaX x0).1 (squF x0)) = true → (!!eqLf ieq (squaX x0).1 (squF x0)) = true) (gd ((!eqLf ieq (squaX x0).1 (squF x0)) = false → (!!eqLf ieq (squaX x0).1 (squF x0)) = true) (bif bif !eqLf ieq (squaX x0).1 (squF x0) then true else !ieq (squaX x0).2.1 (0:Int) then some ((false, ()) : Bool × Unit) else gd (small x1) (gd ((16:Int) ≤ (16:Int)) (gd ((!!isM x1 (16:Int)) = true → (!!isM x1 (16:Int)) = true ∧ small x2 ∧ (16:Int) ≤ (16:Int)) (gd ((!!isM x1 (16:Int)) = true → (!!isM x1 (16:Int)) = true) (gd ((!isM x1 (16:Int)) = false → (!!isM x1 (16:Int)) = true) (bif bif !isM x1 (16:Int) then true else !isM x2 (16:Int) then gd (ieq (↑(List.length (timX (List.take (20:Nat) x1) (List.take (20:Nat) x2)).1):Int) (0:Int) = true → ieq (↑(List.length (timX (List.take (20:Nat) x1) (List.take (20:Nat) x2)).1):Int) (0:Int) = true) (gd (ieq (↑(List.length (timX (List.take (20:Nat) x1) (List.take (20:Nat) x2)).1):Int) (0:Int) = true → ieq (↑(List.length (timX (List.take (20:Nat) x1) (List.take (20:Nat) x2)).1):Int) (0:Int) = true) (gd (g3_c0 x1 x2 = true → g3_c0 x1 x2 = true) (some ((bif g3_c0 x1 x2 then true else false, ()) : Bool × Unit)))) else bif ilt (16:Int) (wr IntKind.i64 ((↑(List.length x1):Int) * (↑(List.length x2):Int))) then gd (ieq (↑(List.length (timX (List.take (20:Nat) x1) (List.take (20:Nat) x2)).1):Int) (0:Int) = true → ieq (↑(List.length (timX (List.take (20:Nat) x1) (List.take (20:Nat) x2)).1):Int) (0:Int) = true) (gd (ieq (↑(List.length (timX (List.take (20:Nat) x1) (List.take (20:Nat) x2)).1):Int) (0:Int) = true → ieq (↑(List.length (timX (List.take (20:Nat) x1) (List.take (20:Nat) x2)).1):Int) (0:Int) = true) (gd (g3_c1 x1 x2 = true → g3_c1 x1 x2 = true) (some ((bif g3_c1 x1 x2 then true else false, ()) : Bool × Unit)))) else gd (isM x1 (16:Int) = true) (gd (isM x2 (16:Int) = true) (gd ((↑(List.length x1):Int) * (↑(List.length x2):Int) ≤ (16:Int)) (gd (small (timX (List.take (20:Nat) x1) (List.take (20:Nat) x2)).1) (gd (small (timF x1 x2)) (gd (eqLf ieq (timX (List.take (20:Nat) x1) (List.take (20:Nat) x2)).1 (timF x1 x2) = true → eqLf ieq (timX (List.take (20:Nat) x1) (List.take (20:Nat) x2)).1 (timF x1 x2) = true) (gd (eqLf ieq (timX (List.take (20:Nat) x1) (List.take (20:Nat) x2)).1 (timF x1 x2) = true → eqLf ieq (timX (List.take (20:Nat) x1) (List.take (20:Nat) x2)).1 (timF x1 x2) = true) (gd (g3_c2 x1 x2 = true → g3_c2 x1 x2 = true) (some ((bif g3_c2 x1 x2 then true else false, ()) : Bool × Unit))))))))))))))))))))))))) else gd ((0:Int) ≤ x0) (gd (x0 ≤ (4:Int)) (gd (small (doubX x0).1) (gd (small (douF x0)) (gd ((!!eqLf ieq (doubX x0).1 (douF x0)) = true → (!!eqLf ieq (doubX x0).1 (douF x0)) = true) (gd ((!eqLf ieq (doubX x0).1 (douF x0)) = false → (!!eqLf ieq (doubX x0).1 (douF x0)) = true) (bif bif !eqLf ieq (doubX x0).1 (douF x0) then true else !ieq (doubX x0).2.1 (0:Int) then some ((false, ()) : Bool × Unit) else gd ((!ieq x0 (3:Int)) = true → (!ieq x0 (3:Int)) = true) (gd ((!ieq x0 (3:Int)) = true → (!ieq x0 (3:Int)) = true) (gd ((bif !ieq x0 (3:Int) then !ieq x0 (7:Int) else false) = true → (bif !ieq x0 (3:Int) then !ieq x0 (7:Int) else false) = true) (gd ((bif !ieq x0 (3:Int) then !ieq x0 (7:Int) else false) = true → (bif !ieq x0 (3:Int) then !ieq x0 (7:Int) else false) = true) (bif bif bif !ieq x0 (3:Int) then !ieq x0 (7:Int) else false then !ieq x0 (11:Int) else false then gd ((!!ieq (↑(List.length (squaX x0).1):Int) (0:Int)) = true → (!!ieq (↑(List.length (squaX x0).1):Int) (0:Int)) = true) (gd ((!ieq (↑(List.length (squaX x0).1):Int) (0:Int)) = false → (!!ieq (↑(List.length (squaX x0).1):Int) (0:Int)) = true) (bif bif !ieq (↑(List.length (squaX x0).1):Int) (0:Int) then true else !ieq (squaX x0).2.1 (2:Int) then some ((false, ()) : Bool × Unit) else gd (small x1) (gd ((16:Int) ≤ (16:Int)) (gd ((!!isM x1 (16:Int)) = true → (!!isM x1 (16:Int)) = true ∧ small x2 ∧ (16:Int) ≤ (16:Int)) (gd ((!!isM x1 (16:Int)) = true → (!!isM x1 (16:Int)) = true) (gd ((!isM x1 (16:Int)) = false → (!!isM x1 (16:Int)) = true) (bif bif !isM x1 (16:Int) then true else !isM x2 (16:Int) then gd (ieq (↑(List.length (timX (List.take (20:Nat) x1) (List.take (20:Nat) x2)).1):Int) (0:Int) = true → ieq (↑(List.length (timX (List.take (20:Nat) x1) (List.take (20:Nat) x2)).1):Int) (0:Int) = true) (gd (ieq (↑(List.length (timX (List.take (20:Nat) x1) (List.take (20:Nat) x2)).1):Int) (0:Int) = true → ieq (↑(List.length (timX (List.take (20:Nat) x1) (List.take (20:Nat) x2)).1):Int) (0:Int) = true) (gd (g3_c0 x1 x2 = true → g3_c0 x1 x2 = true) (some ((bif g3_c0 x1 x2 then true else false, ()) : Bool × Unit)))) else bif ilt (16:Int) (wr IntKind.i64 ((↑(List.length x1):Int) * (↑(List.length x2):Int))) then gd (ieq (↑(List.length (timX (List.take (20:Nat) x1) (List.take (20:Nat) x2)).1):Int) (0:Int) = true → ieq (↑(List.length (timX (List.take (20:Nat) x1) (List.take (20:Nat) x2)).1):Int) (0:Int) = true) (gd (ieq (↑(List.length (timX (List.take (20:Nat) x1) (List.take (20:Nat) x2)).1):Int) (0:Int) = true → ieq (↑(List.length (timX (List.take (20:Nat) x1) (List.take (20:Nat) x2)).1):Int) (0:Int) = true) (gd (g3_c1 x1 x2 = true → g3_c1 x1 x2 = true) (some ((bif g3_c1 x1 x2 then true else false, ()) : Bool × Unit)))) else gd (isM x1 (16:Int) = true) (gd (isM x2 (16:Int) = true) (gd ((↑(List.length x1):Int) * (↑(List.length x2):Int) ≤ (16:Int)) (gd (small (timX (List.take (20:Nat) x1) (List.take (20:Nat) x2)).1) (gd (small (timF x1 x2)) (gd (eqLf ieq (timX (List.take (20:Nat) x1) (List.take (20:Nat) x2)).1 (timF x1 x2) = true → eqLf ieq (timX (List.take (20:Nat) x1) (List.take (20:Nat) x2)).1 (timF x1 x2) = true) (gd (eqLf ieq (timX (List.take (20:Nat) x1) (List.take (20:Nat) x2)).1 (timF x1 x2) = true → eqLf ieq (timX (List.take (20:Nat) x1) (List.take (20:Nat) x2)).1 (timF x1 x2) = true) (gd (g3_c2 x1 x2 = true → g3_c2 x1 x2 = true) (some ((bif g3_c2 x1 x2 then true else false, ()) : Bool × Unit)))))))))))))))) else gd (x0 = (3:Int) ∨ x0 = (7:Int) ∨ x0 = (11:Int)) (gd (small (squaX x0).1) (gd (small (squF x0)) (gd ((!!eqLf ieq (squaX x0).1 (squF x0)) = true → (!!eqLf ieq (squaX x0).1 (squF x0)) = true) (gd ((!eqLf ieq (squaX x0).1 (squF x0)) = false → (!!eqLf ieq (squaX x0).1 (squF x0)) = true) (bif bif !eqLf ieq (squaX x0).1 (squF x0) then true else !ieq (squaX x0).2.1 (0:Int) then some ((false, ()) : Bool × Unit) else gd (small x1) (gd ((16:Int) ≤ (16:Int)) (gd ((!!isM x1 (16:Int)) = true → (!!isM x1 (16:Int)) = true ∧ small x2 ∧ (16:Int) ≤ (16:Int)) (gd ((!!isM x1 (16:Int)) = true → (!!isM x1 (16:Int)) = true) (gd ((!isM x1 (16:Int)) = false → (!!isM x1 (16:Int)) = true) (bif bif !isM x1 (16:Int) then true else !isM x2 (16:Int) then gd (ieq (↑(List.length (timX (List.take (20:Nat) x1) (List.take (20:Nat) x2)).1):Int) (0:Int) = true → ieq (↑(List.length (timX (List.take (20:Nat) x1) (List.take (20:Nat) x2)).1):Int) (0:Int) = true) (gd (ieq (↑(List.length (timX (List.take (20:Nat) x1) (List.take (20:Nat) x2)).1):Int) (0:Int) = true → ieq (↑(List.length (timX (List.take (20:Nat) x1) (List.take (20:Nat) x2)).1):Int) (0:Int) = true) (gd (g3_c0 x1 x2 = true → g3_c0 x1 x2 = true) (some ((bif g3_c0 x1 x2 then true else false, ()) : Bool × Unit)))) else bif ilt (16:Int) (wr IntKind.i64 ((↑(List.length x1):Int) * (↑(List.length x2):Int))) then gd (ieq (↑(List.length (timX (List.take (20:Nat) x1) (List.take (20:Nat) x2)).1):Int) (0:Int) = true → ieq (↑(List.length (timX (List.take (20:Nat) x1) (List.take (20:Nat) x2)).1):Int) (0:Int) = true) (gd (ieq (↑(List.length (timX (List.take (20:Nat) x1) (List.take (20:Nat) x2)).1):Int) (0:Int) = true → ieq (↑(List.length (timX (List.take (20:Nat) x1) (List.take (20:Nat) x2)).1):Int) (0:Int) = true) (gd (g3_c1 x1 x2 = true → g3_c1 x1 x2 = true) (some ((bif g3_c1 x1 x2 then true else false, ()) : Bool × Unit)))) else gd (isM x1 (16:Int) = true) (gd (isM x2 (16:Int) = true) (gd ((↑(List.length x1):Int) * (↑(List.length x2):Int) ≤ (16:Int)) (gd (small (timX (List.take (20:Nat) x1) (List.take (20:Nat) x2)).1) (gd (small (timF x1 x2)) (gd (eqLf ieq (timX (List.take (20:Nat) x1) (List.take (20:Nat) x2)).1 (timF x1 x2) = true → eqLf ieq (timX (List.take (20:Nat) x1) (List.take (20:Nat) x2)).1 (timF x1 x2) = true) (gd (eqLf ieq (timX (List.take (20:Nat) x1) (List.take (20:Nat) x2)).1 (timF x1 x2) = true → eqLf ieq (timX (List.take (20:Nat) x1) (List.take (20:Nat) x2)).1 (timF x1 x2) = true) (gd (g3_c2 x1 x2 = true → g3_c2 x1 x2 = true) (some ((bif g3_c2 x1 x2 then true else false, ()) : Bool × Unit)))))))))))))))))))))))))))))))))
end Go.Signs
set_option linter.unusedVariables false
set_option linter.unusedSimpArgs false
namespace Go.Signs
open Go Go.Ab Go.Proofs
theorem mixed : Try.prog.follows .mixedOrders = true := by kernel_rfl
theorem bv_nat {a : Nat} (h : a < 18446744073709551616) : (BitVec.ofInt 64 (a:Int)).toNat = a := by
  rw [BitVec.ofInt_natCast, BitVec.toNat_ofNat]; omega
theorem wrap_nat {a : Nat} (h : a < 9223372036854775808) : IntKind.i64.wrap (a:Int) = a := by rw [IntKind.wrap_i64]; omega
theorem wrapu_nat {a : Nat} (h : a < 18446744073709551616) : IntKind.u64.wrap (a:Int) = a := by rw [IntKind.wrap_u64]; omega
theorem iand_nat {a b : Nat} (ha : a < 9223372036854775808) (hb : b < 9223372036854775808) : iand .i64 a b = ((a &&& b:Nat):Int) := by
  have h : a &&& b ≤ a := Nat.and_le_left
  show IntKind.i64.wrap (BitVec.ofInt 64 (a:Int) &&& BitVec.ofInt 64 (b:Int)).toNat = _
  rw [BitVec.toNat_and, bv_nat (by omega), bv_nat (by omega), wrap_nat (by omega)]
theorem iandu_nat {a b : Nat} (ha : a < 18446744073709551616) (hb : b < 18446744073709551616) : iand .u64 a b = ((a &&& b:Nat):Int) := by
  have h : a &&& b ≤ a := Nat.and_le_left
  show IntKind.u64.wrap (BitVec.ofInt 64 (a:Int) &&& BitVec.ofInt 64 (b:Int)).toNat = _
  rw [BitVec.toNat_and, bv_nat (by omega), bv_nat (by omega), wrapu_nat (by omega)]
theorem or_lt {a b k : Nat} (ha : a < 2 ^ k) (hb : b < 2 ^ k) : a ||| b < 2 ^ k := Nat.or_lt_two_pow ha hb
theorem ior_nat {a b : Nat} (ha : a < 9223372036854775808) (hb : b < 9223372036854775808) : ior .i64 a b = ((a ||| b:Nat):Int) := by
  have h : a ||| b < 2 ^ 63 := or_lt (by omega) (by omega)
  show IntKind.i64.wrap (BitVec.ofInt 64 (a:Int) ||| BitVec.ofInt 64 (b:Int)).toNat = _
  rw [BitVec.toNat_or, bv_nat (by omega), bv_nat (by omega), wrap_nat (by omega)]
theorem ixor_nat {a b : Nat} (ha : a < 9223372036854775808) (hb : b < 9223372036854775808) : ixor .i64 a b = ((a ^^^ b:Nat):Int) := by
  have h : a ^^^ b < 2 ^ 63 := Nat.xor_lt_two_pow (by omega) (by omega)
  show IntKind.i64.wrap (BitVec.ofInt 64 (a:Int) ^^^ BitVec.ofInt 64 (b:Int)).toNat = _
  rw [BitVec.toNat_xor, bv_nat (by omega), bv_nat (by omega), wrap_nat (by omega)]
theorem pow_le16 {j : Nat} (h : j ≤ 16) : 2 ^ j ≤ 65536 := Nat.pow_le_pow_right (n := 2) (by omega) h
theorem ishl_one {j : Nat} (h : j ≤ 16) : ishl .i64 1 j = ((2 ^ j:Nat):Int) := by
  have h1 := pow_le16 h
  show IntKind.i64.wrap (1 * 2 ^ (min (j:Int).toNat 64)) = _
  rw [Int.toNat_natCast, Nat.min_eq_left (by omega), Int.one_mul]
  have : (2:Int) ^ j = ((2 ^ j:Nat):Int) := by rw [Int.natCast_pow]; rfl
  rw [this, wrap_nat (by omega)]
theorem ishr_nat {a j : Nat} (h : j ≤ 64) : ishr .i64 a j = ((a / 2 ^ j:Nat):Int) := by
  show Int.fdiv a (2 ^ (min (j:Int).toNat 64)) = _
  rw [Int.toNat_natCast, Nat.min_eq_left h]
  have : (2:Int) ^ j = ((2 ^ j:Nat):Int) := by rw [Int.natCast_pow]; rfl
  rw [this, ← Int.ofNat_fdiv]
theorem ishru_nat {a j : Nat} (h : j ≤ 64) : ishr .u64 a j = ((a / 2 ^ j:Nat):Int) := ishr_nat h
theorem goal40 : con40.goal Try.prog (spOf []) g40_sh [5] lm30 := by
  have e : (∀ (l:List Int), l.length ≤ 100000 → g40 l = some (l, ())) = con40.goal Try.prog (spOf []) g40_sh [5] lm30 := by kernel_rfl
  rw [← e]
  intro l hl
  unfold g40
  rw [gd_pos (by omega), gd_pos (by omega), gd_pos (by omega)]
  have e : List.take (0 + l.length) (List.drop 0 l) = l := by simp
  rw [e]
  have : eqO (l.length = 0) (some (([]:List Int), ())) (some (l, ())) = some (l, ()) := eqO_some.2 ⟨rfl, fun h => by rw [List.eq_nil_of_length_eq_zero h]⟩
  rw [this]
  rfl
set_option maxRecDepth 100000 in
theorem ok40 : con40.Ok Try.prog := Con.of_goal mixed okN con40 goal40
theorem goal18 : con18.goal Try.prog (spOf [con40]) g18_sh [] lm30 := by
  have e : (∀ (l:List Int), g18 l = some (l.take 20, ())) = con18.goal Try.prog (spOf [con40]) g18_sh [] lm30 := by kernel_rfl
  rw [← e]
  intro l
  have h : (imin (l.length:Int) 20).toNat = min l.length 20 ∧ 0 ≤ imin (l.length:Int) 20 ∧ imin (l.length:Int) 20 ≤ (l.length:Int) := by
    unfold imin
    split <;> omega
  unfold g18
  rw [gd_pos ⟨h.2.1, h.2.2⟩, h.1]
  have e2 : l.take (min l.length 20) = l.take 20 := by
    rcases Nat.le_total l.length 20 with h | h
    · rw [Nat.min_eq_left h, List.take_of_length_le (Nat.le_refl _), List.take_of_length_le h]
    · rw [Nat.min_eq_right h]
  rw [e2, gd_pos (by rw [List.length_take]; omega)]
set_option maxRecDepth 100000 in
theorem ok18 : con18.Ok Try.prog := Con.of_goal mixed (okC ok40 okN) con18 goal18
theorem ishl_pow {n : Int} (h1 : 0 ≤ n) (h2 : n ≤ 16) : ishl .i64 1 n = 2 ^ n.toNat := by
  obtain ⟨k, rfl⟩ : ∃ k : Nat, n = k := ⟨n.toNat, by omega⟩
  rw [ishl_one (by omega), Int.toNat_natCast, Int.natCast_pow]; rfl
theorem inM_d {n r : Int} : inM n r = (decide (0 ≤ r) && decide (r < 2 ^ n.toNat)) := rfl
theorem goal90 : con90.goal Try.prog (spOf []) g90_sh [] lm30 := by
  have e : (∀ (r n:Int), 1 ≤ n → n ≤ 16 → g90 r n = some (!inM n r, ())) = con90.goal Try.prog (spOf []) g90_sh [] lm30 := by kernel_rfl
  rw [← e]
  intro r n h1 h2
  unfold g90
  rw [ishl_pow (by omega) h2, inM_d]
  by_cases h3 : r < 0
  · simp [ilt_iff.2 h3, gd_true, show ¬ 0 ≤ r by omega]
  · have h4 : 0 ≤ r := by omega
    by_cases h5 : r < 2 ^ n.toNat
    · simp [ilt_false.2 h4, ile_false.2 h5, gd_true, h5, h4, show 0 ≤ n by omega]
    · simp [ilt_false.2 h4, ile_iff.2 (Int.not_lt.1 h5), gd_true, h5, show 0 ≤ n by omega]
set_option maxRecDepth 100000 in
theorem ok90 : con90.Ok Try.prog := Con.of_goal mixed okN con90 goal90
theorem ixNot_spec {n : Int} : ∀ {l : List Int} {i : Int}, 0 ≤ i → (0 ≤ ixNot n l i ↔ l.all (inM n) = false)
  | [], i, h => by simp [ixNot]
  | x :: l, i, h => by
    rw [ixNot]
    cases hx : inM n x with
    | true => rw [if_pos rfl, ixNot_spec (by omega), List.all_cons, hx, Bool.true_and]
    | false => simp [hx, h]
theorem ixNot_go {n : Int} {l : List Int} {i : Nat} (h : i < l.length) (hq : inM n (l.getD i 0) = true) : ixNot n (l.drop i) i = ixNot n (l.drop (i + 1)) (i + 1) := by
  rw [List.drop_eq_getElem_cons h, ixNot]
  rw [gd_at h] at hq
  rw [if_pos hq]
theorem ixNot_out {n : Int} {l : List Int} {i : Nat} (h : i < l.length) (hq : inM n (l.getD i 0) = false) : ixNot n (l.drop i) i = i := by
  rw [List.drop_eq_getElem_cons h, ixNot]
  rw [gd_at h] at hq
  rw [if_neg (by rw [hq]; simp)]
theorem goal109 : con109.goal Try.prog (spOf [con90]) g109_sh [] lm30 := by
  have e : (∀ (l:List Int) (n:Int), small l → 1 ≤ n → n ≤ 16 → g109 l n = some (ixNot n l 0, ())) = con109.goal Try.prog (spOf [con90]) g109_sh [] lm30 := by kernel_rfl
  rw [← e]
  intro l k hs hk1 hk2
  unfold small at hs
  unfold g109
  refine whileO_rec (fun (d : Int × Int × Unit) => d.1 = k ∧ 0 ≤ d.2.1 ∧ d.2.1 ≤ l.length) (fun (d : Int × Int × Unit) => l.length - d.2.1.toNat) (fun (d : Int × Int × Unit) => (ixNot k (l.drop d.2.1.toNat) d.2.1, ())) ?_ ((k, 0, ()) : Int × Int × Unit) ⟨rfl, by simp only; omega, by simp only; omega⟩
  rintro ⟨k', i, _⟩ ⟨rfl, h0, h1⟩
  simp only at h0 h1 hk1 hk2 ⊢
  obtain ⟨n, rfl⟩ : ∃ n : Nat, i = n := ⟨i.toNat, by omega⟩
  by_cases hlt : n < l.length
  · cases hq : inM k' (l.getD n 0) with
    | true =>
      right
      refine ⟨((k', ((n + 1:Nat):Int), ()) : Int × Int × Unit), ?_, ⟨rfl, by simp only; omega, by simp only; omega⟩, by simp only; omega, ?_⟩
      · rw [cond_t (ilt_iff.2 (by omega)), gd_pos (by omega), gd_pos hk1, gd_pos hk2]
        simp only [Int.toNat_natCast, hq, cast1 (i := n) (by omega)]
        rfl
      · simp only [Int.toNat_natCast]
        rw [ixNot_go hlt hq]; rfl
    | false =>
      left
      rw [cond_t (ilt_iff.2 (by omega)), gd_pos (by omega), gd_pos hk1, gd_pos hk2]
      simp only [Int.toNat_natCast, hq]
      rw [ixNot_out hlt hq]
      rfl
  · left
    have hn : n = l.length := by omega
    rw [cond_f (ilt_false.2 (by omega))]
    simp only [Int.toNat_natCast, hn, List.drop_length, ixNot]
set_option maxRecDepth 100000 in
theorem ok109 : con109.Ok Try.prog := Con.of_goal mixed (okC ok90 okN) con109 goal109
theorem goal89 : con89.goal Try.prog (spOf [con109]) g89_sh [] lm30 := by
  have e : (∀ (l:List Int) (n:Int), small l → 1 ≤ n → n ≤ 16 → g89 l n = some (!l.all (inM n), ())) = con89.goal Try.prog (spOf [con109]) g89_sh [] lm30 := by kernel_rfl
  rw [← e]
  intro l n hs h1 h2
  unfold g89
  rw [gd_pos hs, gd_pos h1, gd_pos h2]
  have h := ixNot_spec (n := n) (l := l) (i := 0) (by omega)
  cases ha : l.all (inM n) with
  | true =>
    have : ixNot n l 0 < 0 := by
      rcases Int.lt_or_le (ixNot n l 0) 0 with h1 | h1
      · exact h1
      · have := h.1 h1; rw [ha] at this; cases this
    rw [ile_false.2 this]; rfl
  | false => rw [ile_iff.2 (h.2 ha)]; rfl
set_option maxRecDepth 100000 in
theorem ok89 : con89.Ok Try.prog := Con.of_goal mixed (okC ok109 okN) con89 goal89
theorem goal62 : con62.goal Try.prog (spOf [con89]) g62_sh [] lm30 := by
  have e : (∀ (l:List Int) (m:Int), small l → m ≤ 16 → g62 l m = some (isM l m, ())) = con62.goal Try.prog (spOf [con89]) g62_sh [] lm30 := by kernel_rfl
  rw [← e]
  intro l m hs hm
  unfold g62 isM
  by_cases h1 : 1 ≤ (l.length:Int)
  · by_cases h2 : (l.length:Int) ≤ m
    · have h3 : (l.length:Int) ≤ 16 := by omega
      simp [ile_iff.2 h1, ile_iff.2 h2, h1, h2, h3, hs, gd_true]
    · simp [ile_iff.2 h1, ile_false.2 (Int.not_le.1 h2), h1, h2, gd_true]
  · simp [ile_false.2 (Int.not_le.1 h1), h1, gd_true]
set_option maxRecDepth 100000 in
theorem ok62 : con62.Ok Try.prog := Con.of_goal mixed (okC ok89 okN) con62 goal62
theorem okE_get {l : List Int} {i j : Int} (h : okE l i j) : ∃ (a b:Nat) (x:Nat), i = a ∧ j = b ∧ a < l.length ∧ b < 16 ∧ l.getD a 0 = (x:Int) ∧ x < 65536 := by
  obtain ⟨h1, h2, h3, h4, h5⟩ := h
  have ha : i.toNat < l.length := by omega
  have hx := h5 (l.getD i.toNat 0) (by rw [gd_at ha]; exact List.getElem_mem ha)
  exact ⟨i.toNat, j.toNat, (l.getD i.toNat 0).toNat, by omega, by omega, ha, by omega, by omega, by omega⟩
theorem bit_nat {x j : Nat} (h : x < 65536) (hj : j < 16) : ieq (iand .i64 (ishr .i64 x j) 1) 1 = bit x j ∧ iand .i64 (ishr .i64 x j) 1 = if bit x j = true then 1 else 0 := by
  have h1 : x / 2 ^ j ≤ x := Nat.div_le_self _ _
  have e : iand .i64 (ishr .i64 x j) 1 = ((x / 2 ^ j % 2:Nat):Int) := by
    rw [ishr_nat (by omega), show (1:Int) = ((1:Nat):Int) from rfl, iand_nat (by omega) (by omega), Nat.and_one_is_mod]
  have e2 : bit x j = decide (x / 2 ^ j % 2 = 1) := by
    unfold bit
    rw [Int.toNat_natCast, Int.toNat_natCast, Nat.testBit_eq_decide_div_mod_eq]
  rw [e, e2, ieq_d]
  constructor
  · exact decide_eq_decide.2 (by omega)
  · rcases Nat.mod_two_eq_zero_or_one (x / 2 ^ j) with h | h <;> rw [h] <;> rfl
theorem goal64 : con64.goal Try.prog (spOf []) g64_sh [] lm30 := by
  have e : (∀ (l:List Int) (i j:Int), okE l i j → g64 l i j = some (isF l i j, ())) = con64.goal Try.prog (spOf []) g64_sh [] lm30 := by kernel_rfl
  rw [← e]
  intro l i j h
  obtain ⟨a, b, x, rfl, rfl, ha, hb, hx, hlt⟩ := okE_get h
  unfold g64 isF
  rw [gd_pos (by omega), gd_pos (by omega), Int.toNat_natCast, hx, (bit_nat hlt hb).1]
set_option maxRecDepth 100000 in
theorem ok64 : con64.Ok Try.prog := Con.of_goal mixed okN con64 goal64
end Go.Signs
set_option linter.unusedVariables false
set_option linter.unusedSimpArgs false
namespace Go.Signs
open Go Go.Ab
def pc : Nat → Nat → Nat
  | 0, _ => 0
  | k + 1, x => x % 2 + pc k (x / 2)
theorem pc_eq : ∀ (k x:Nat), (List.range k).countP (fun j => x.testBit j) = pc k x
  | 0, _ => rfl
  | k + 1, x => by
    rw [List.range_succ_eq_map, List.countP_cons, List.countP_map, pc, ← pc_eq k (x / 2), Nat.add_comm]
    congr 1
    · rw [Nat.testBit_zero]
      rcases Nat.mod_two_eq_zero_or_one x with h | h <;> rw [h] <;> rfl
    · congr 1
      funext j
      show x.testBit (j + 1) = _
      rw [Nat.testBit_succ]
def frc (n:Nat) (f : Nat → Nat) : Nat := Nat.rec (f 0) (fun m _ => f (m + 1)) n
theorem frc_eq {n : Nat} {f : Nat → Nat} : frc n f = f n := by cases n <;> rfl
def ocN (x:Nat) : Nat := frc ((x / 2 &&& 6148914691236517205) + (x &&& 6148914691236517205)) fun a => frc ((a / 4 &&& 3689348814741910323) + (a &&& 3689348814741910323)) fun b => frc ((b / 16 + b) &&& 1085102592571150095) fun c => frc (c + c / 256) fun d => frc (d + d / 65536) fun e => e + e / 4294967296
def ocQ (x:Nat) : Bool := Nat.beq (ocN x &&& 127) (pc 16 x)
def allB : Nat → (Nat → Bool) → Nat → Bool
  | 0, f, x => f x
  | k + 1, f, x => allB k f (2 * x) && allB k f (2 * x + 1)
theorem allB_spec {f : Nat → Bool} : ∀ {k x : Nat}, allB k f x = true → ∀ y, y / 2 ^ k = x → f y = true
  | 0, x, h, y, hy => by rw [Nat.pow_zero, Nat.div_one] at hy; subst hy; exact h
  | k + 1, x, h, y, hy => by
    rw [allB, Bool.and_eq_true] at h
    rw [Nat.pow_succ, ← Nat.div_div_eq_div_mul] at hy
    rcases Nat.mod_two_eq_zero_or_one (y / 2 ^ k) with h0 | h0
    · exact allB_spec h.1 y (by omega)
    · exact allB_spec h.2 y (by omega)
theorem oc_all : allB 16 ocQ 0 = true := by decide +kernel
end Go.Signs
set_option linter.unusedVariables false
set_option linter.unusedSimpArgs false
namespace Go.Signs
open Go Go.Ab Go.Proofs
theorem oc_pop {x : Nat} (h : x < 65536) : ocN x &&& 127 = popN x := by
  have h1 := allB_spec oc_all x (by omega)
  have h2 := Nat.eq_of_beq_eq_true h1
  rw [h2, popN, pc_eq]
theorem wru {n : Nat} (h : n < 18446744073709551616) : wr .u64 (n:Int) = n := wrapu_nat h
theorem wri {n : Nat} (h : n < 9223372036854775808) : wr .i64 (n:Int) = n := wrap_nat h
theorem goal108 : con108.goal Try.prog (spOf []) g108_sh [] lm30 := by
  have e : (∀ (x:Int), is16 x → g108 x = some (pop x, ())) = con108.goal Try.prog (spOf []) g108_sh [] lm30 := by kernel_rfl
  rw [← e]
  intro x hx
  obtain ⟨n, rfl⟩ : ∃ n : Nat, x = n := ⟨x.toNat, by have := hx.1; omega⟩
  have hn : n < 65536 := by have := hx.2; omega
  unfold g108
  iterate 6 rw [gd_pos (by decide)]
  have s1 : (1:Int) = ((1:Nat):Int) := rfl
  have s2 : (2:Int) = ((2:Nat):Int) := rfl
  have s4 : (4:Int) = ((4:Nat):Int) := rfl
  have s8 : (8:Int) = ((8:Nat):Int) := rfl
  have s16 : (16:Int) = ((16:Nat):Int) := rfl
  have s32 : (32:Int) = ((32:Nat):Int) := rfl
  have s127 : (127:Int) = ((127:Nat):Int) := rfl
  have m0 : (6148914691236517205:Int) = ((6148914691236517205:Nat):Int) := rfl
  have m1 : (3689348814741910323:Int) = ((3689348814741910323:Nat):Int) := rfl
  have m2 : (1085102592571150095:Int) = ((1085102592571150095:Nat):Int) := rfl
  have ad : ∀ a b : Nat, (a:Int) + (b:Int) = ((a + b:Nat):Int) := fun a b => rfl
  have a1 : ishr .u64 (n:Int) 1 = ((n / 2:Nat):Int) := by rw [s1, ishru_nat (by decide)]
  have l1 : n / 2 &&& 6148914691236517205 ≤ n / 2 := Nat.and_le_left
  have l2 : n &&& 6148914691236517205 ≤ n := Nat.and_le_left
  have e1 : wr .u64 (iand .u64 (ishr .u64 (n:Int) 1) 6148914691236517205 + iand .u64 (n:Int) 6148914691236517205) = (((n / 2 &&& 6148914691236517205) + (n &&& 6148914691236517205):Nat):Int) := by
    rw [a1, m0, iandu_nat (by omega) (by decide), iandu_nat (by omega) (by decide), ad, wru (by omega)]
  rw [e1]
  generalize ha : (n / 2 &&& 6148914691236517205) + (n &&& 6148914691236517205) = a
  have hal : a < 131072 := by omega
  have a2 : ishr .u64 (a:Int) 2 = ((a / 4:Nat):Int) := by rw [s2, ishru_nat (by decide)]
  have l3 : a / 4 &&& 3689348814741910323 ≤ a / 4 := Nat.and_le_left
  have l4 : a &&& 3689348814741910323 ≤ a := Nat.and_le_left
  have e2 : wr .u64 (iand .u64 (ishr .u64 (a:Int) 2) 3689348814741910323 + iand .u64 (a:Int) 3689348814741910323) = (((a / 4 &&& 3689348814741910323) + (a &&& 3689348814741910323):Nat):Int) := by
    rw [a2, m1, iandu_nat (by omega) (by decide), iandu_nat (by omega) (by decide), ad, wru (by omega)]
  rw [e2]
  generalize hb : (a / 4 &&& 3689348814741910323) + (a &&& 3689348814741910323) = b
  have hbl : b < 262144 := by omega
  have a3 : ishr .u64 (b:Int) 4 = ((b / 16:Nat):Int) := by rw [s4, ishru_nat (by decide)]
  have l5 : (b / 16 + b) &&& 1085102592571150095 ≤ b / 16 + b := Nat.and_le_left
  have e3 : iand .u64 (wr .u64 (ishr .u64 (b:Int) 4 + (b:Int))) 1085102592571150095 = (((b / 16 + b) &&& 1085102592571150095:Nat):Int) := by
    rw [a3, m2, ad, wru (by omega), iandu_nat (by omega) (by decide)]
  rw [e3]
  generalize hc : (b / 16 + b) &&& 1085102592571150095 = c
  have hcl : c < 524288 := by omega
  have a4 : ishr .u64 (c:Int) 8 = ((c / 256:Nat):Int) := by rw [s8, ishru_nat (by decide)]
  have e4 : wr .u64 ((c:Int) + ishr .u64 (c:Int) 8) = ((c + c / 256:Nat):Int) := by rw [a4, ad, wru (by omega)]
  rw [e4]
  generalize hd : c + c / 256 = d
  have hdl : d < 1048576 := by omega
  have a5 : ishr .u64 (d:Int) 16 = ((d / 65536:Nat):Int) := by rw [s16, ishru_nat (by decide)]
  have e5 : wr .u64 ((d:Int) + ishr .u64 (d:Int) 16) = ((d + d / 65536:Nat):Int) := by rw [a5, ad, wru (by omega)]
  rw [e5]
  generalize hf : d + d / 65536 = f
  have hfl : f < 2097152 := by omega
  have a6 : ishr .u64 (f:Int) 32 = ((f / 4294967296:Nat):Int) := by rw [s32, ishru_nat (by decide)]
  have e6 : wr .u64 ((f:Int) + ishr .u64 (f:Int) 32) = ((f + f / 4294967296:Nat):Int) := by rw [a6, ad, wru (by omega)]
  rw [e6, wri (by omega), s127, iand_nat (by omega) (by decide)]
  have key : f + f / 4294967296 = ocN n := by
    unfold ocN
    simp only [frc_eq, ha, hb, hc, hd, hf]
  rw [key, oc_pop hn]
  rfl
set_option maxRecDepth 100000 in
theorem ok108 : con108.Ok Try.prog := Con.of_goal mixed okN con108 goal108
theorem goal88 : con88.goal Try.prog (spOf [con108]) g88_sh [] lm30 := by
  have e : (∀ (x:Int), is16 x → g88 x = some (pop x, ())) = con88.goal Try.prog (spOf [con108]) g88_sh [] lm30 := by kernel_rfl
  rw [← e]
  intro x hx
  unfold g88
  rw [gd_pos hx]
set_option maxRecDepth 100000 in
theorem ok88 : con88.Ok Try.prog := Con.of_goal mixed (okC ok108 okN) con88 goal88
theorem goal61 : con61.goal Try.prog (spOf [con88]) g61_sh [] lm30 := by
  have e : (∀ (x:Int), is16 x → g61 x = some (pop x, ())) = con61.goal Try.prog (spOf [con88]) g61_sh [] lm30 := by kernel_rfl
  rw [← e]
  intro x hx
  have h : wr .u64 x = x := by
    obtain ⟨n, rfl⟩ : ∃ n : Nat, x = n := ⟨x.toNat, by have := hx.1; omega⟩
    exact wru (by have := hx.2; omega)
  unfold g61
  rw [h, gd_pos hx]
set_option maxRecDepth 100000 in
theorem ok61 : con61.Ok Try.prog := Con.of_goal mixed (okC ok88 okN) con61 goal61
end Go.Signs
set_option linter.unusedVariables false
set_option linter.unusedSimpArgs false
namespace Go.Signs
open Go Go.Ab Go.Proofs
theorem rowN_lt {g : Int → Bool} : ∀ {j : Nat}, rowN g j < 2 ^ j
  | 0 => by simp [rowN]
  | j + 1 => by
    have h := rowN_lt (g := g) (j := j)
    have h1 : 2 ^ j < 2 ^ (j + 1) := Nat.pow_lt_pow_right (by omega) (by omega)
    rw [rowN]
    split
    · exact or_lt (by omega) h1
    · omega
theorem rowN_16 {g : Int → Bool} {j : Nat} (h : j ≤ 16) : rowN g j < 65536 := by
  have h1 := rowN_lt (g := g) (j := j)
  have h2 := pow_le16 h
  omega
def partR (n:Nat) (f : Int → Int → Bool) (i j r:Nat) : Nat := if r < i then rowN (f r) n else if r = i then rowN (f i) j else 0
def partL (n:Nat) (f : Int → Int → Bool) (i j:Nat) : List Int := (List.range n).map fun r => (partR n f i j r:Int)
section
variable {n i j : Nat} {f : Int → Int → Bool}
theorem part_len : (partL n f i j).length = n := by simp [partL]
theorem part_get {r : Nat} (h : r < n) : (partL n f i j).getD r 0 = (partR n f i j r:Int) := by
  rw [gd_at (by rw [part_len]; exact h)]
  simp [partL]
theorem part_at (hi : i < n) : (partL n f i j).getD i 0 = (rowN (f i) j:Int) := by
  rw [part_get hi, partR, if_neg (by omega), if_pos rfl]
theorem part_set (hi : i < n) {k : Nat} : (partL n f i j).set i (rowN (f i) k:Int) = partL n f i k := by
  refine List.ext_getElem (by simp [partL]) fun r h1 h2 => ?_
  rw [List.getElem_set]
  simp only [partL, List.getElem_map, List.getElem_range, partR]
  by_cases h : i = r
  · subst h; rw [if_pos rfl, if_neg (by omega), if_pos rfl]
  · rw [if_neg h]
    by_cases h3 : r < i
    · rw [if_pos h3, if_pos h3]
    · rw [if_neg h3, if_neg h3, if_neg (fun e => h e.symm), if_neg (fun e => h e.symm)]
theorem part_next : partL n f i n = partL n f (i + 1) 0 := by
  refine List.map_congr_left fun r hr => ?_
  unfold partR
  congr 1
  by_cases h : r < i
  · rw [if_pos h, if_pos (by omega)]
  · rw [if_neg h]
    by_cases h2 : r = i
    · subst h2; rw [if_pos rfl, if_pos (by omega)]
    · rw [if_neg h2, if_neg (by omega)]
      split
      · rfl
      · rfl
theorem part_0 : partL n f 0 0 = List.replicate n 0 := by
  refine List.ext_getElem (by simp [partL]) fun r h1 h2 => ?_
  simp only [partL, List.getElem_map, List.getElem_range, partR, List.getElem_replicate]
  rw [if_neg (by omega)]
  split <;> rfl
theorem part_end : partL n f n 0 = madeF n f := by
  refine List.map_congr_left fun r hr => ?_
  have := List.mem_range.1 hr
  unfold partR
  rw [if_pos this]
theorem part_or (hn : n ≤ 16) (hi : i < n) (hj : j < n) (h : f i j = true) : (partL n f i j).set (0 + (i:Int).toNat) (ior .i64 ((partL n f i j).getD (0 + (i:Int).toNat) 0) (ishl .i64 1 (j:Int))) = partL n f i (j + 1) := by
  have h1 := rowN_16 (g := f i) (j := j) (by omega)
  have h2 := pow_le16 (j := j) (by omega)
  rw [Int.toNat_natCast, Nat.zero_add, part_at hi, ishl_one (by omega), ior_nat (by omega) (by omega)]
  have : rowN (f i) j ||| 2 ^ j = rowN (f i) (j + 1) := by rw [rowN, if_pos h]
  rw [this, part_set hi]
theorem part_no (hi : i < n) (h : f i j = false) : partL n f i j = partL n f i (j + 1) := by
  have : rowN (f i) j = rowN (f i) (j + 1) := by rw [rowN, if_neg (by rw [h]; simp)]
  rw [← part_set (j := j) (k := j + 1) hi, ← this, part_set hi]
end
theorem nat16 {n : Nat} (h : n < 65536) : is16 (n:Int) := ⟨by omega, by omega⟩
theorem goal60 : con60.goal Try.prog (spOf [con61]) g60_sh [] lm30 := by
  have e : (∀ (i j:Int), is16 i → is16 j → g60 i j = some (dblB i j, ())) = con60.goal Try.prog (spOf [con61]) g60_sh [] lm30 := by kernel_rfl
  rw [← e]
  intro i j hi hj
  obtain ⟨a, rfl⟩ : ∃ a : Nat, i = a := ⟨i.toNat, by have := hi.1; omega⟩
  obtain ⟨b, rfl⟩ : ∃ b : Nat, j = b := ⟨j.toNat, by have := hj.1; omega⟩
  have ha := hi.2
  have hb := hj.2
  have hab : a &&& b ≤ a := Nat.and_le_left
  unfold g60 dblB
  rw [iand_nat (by omega) (by omega), gd_pos (nat16 (by omega)), gd_pos (by decide), Int.toNat_natCast, Int.toNat_natCast]
  rw [Int.tmod_eq_emod_of_nonneg (by unfold pop; omega), ieq_d]
set_option maxRecDepth 100000 in
theorem ok60 : con60.Ok Try.prog := Con.of_goal mixed (okC ok61 okN) con60 goal60
theorem take_all {l : List Int} : List.take l.length (List.drop 0 l) = l := by simp
theorem in59 {n i : Nat} (hn : n ≤ 16) (hi : i < n) : whileO (g59_l0 (n:Int) (((i:Int), partL n dblB i 0, ()) : Int × List Int × Unit)) (((0:Int), partL n dblB i 0, ()) : Int × List Int × Unit) = some (.go ((((i + 1:Nat):Int), partL n dblB (i + 1) 0, ()) : Int × List Int × Unit)) := by
  refine whileO_nat (st := fun j => (((j:Nat):Int), partL n dblB i j, ())) (lo := 0) (hi := n) (by omega) (fun j _ hj => ?_) ?_
  · unfold g59_l0
    dsimp only
    have hl : (partL n dblB i j).length = n := part_len
    rw [cond_t (ilt_iff.2 (by omega)), gd_pos (nat16 (by omega)), gd_pos (nat16 (by omega))]
    cases h : dblB i j with
    | true =>
      rw [cond_t rfl]
      simp only [hl, Int.toNat_natCast, List.length_set, gd_true]
      rw [gd_pos (by omega), gd_pos (by omega), gd_pos (by omega), gd_pos (by omega), gd_pos (by omega)]
      have := part_or hn hi hj h
      rw [Int.toNat_natCast] at this
      rw [this, cast1 (by omega)]
    | false =>
      rw [cond_f rfl]
      simp only [gd_true]
      rw [part_no hi h, cast1 (by omega)]
  · unfold g59_l0
    dsimp only
    rw [cond_f (ilt_false.2 (by omega))]
    simp only [gd_true]
    rw [part_next, cast1 (by omega)]
theorem goal59 : con59.goal Try.prog (spOf [con60]) g59_sh [] lm30 := by
  have e : (∀ (n:Int), 0 ≤ n → n ≤ 16 → g59 n = some (madeF n.toNat dblB, ())) = con59.goal Try.prog (spOf [con60]) g59_sh [] lm30 := by kernel_rfl
  rw [← e]
  intro n h0 h1
  obtain ⟨n, rfl⟩ : ∃ k : Nat, n = k := ⟨n.toNat, by omega⟩
  unfold g59
  rw [Int.toNat_natCast, gd_pos (by omega), gd_pos (by simp), ← part_0 (f := dblB)]
  refine whileO_nat (st := fun i => (((i:Nat):Int), partL n dblB i 0, ())) (lo := 0) (hi := n) (by omega) (fun i _ hi => ?_) ?_
  · simp only
    rw [cond_t (ilt_iff.2 (by omega)), gd_true, in59 (by omega) hi]
  · simp only
    rw [cond_f (ilt_false.2 (by omega)), gd_pos (by omega), take_all, part_end]
set_option maxRecDepth 100000 in
theorem ok59 : con59.Ok Try.prog := Con.of_goal mixed (okC ok60 okN) con59 goal59
end Go.Signs
set_option linter.unusedVariables false
set_option linter.unusedSimpArgs false
namespace Go.Signs
open Go Go.Ab Go.Proofs
theorem goal20 : con20.goal Try.prog (spOf []) g20_sh [] lm30 := by
  have e : (∀ (l m:List Int), small l → small m → g20 l m = some (eqLf ieq l m, ())) = con20.goal Try.prog (spOf []) g20_sh [] lm30 := by kernel_rfl
  rw [← e]
  intro l m hl hm
  unfold small at hl hm
  have hq : ∀ x y : Int, ieq x y = true ↔ x = y := fun x y => ieq_iff
  unfold g20
  by_cases h : l.length = m.length
  · have hi : ieq (l.length:Int) (m.length:Int) = true := ieq_iff.2 (by omega)
    rw [hi]
    refine (cond_f rfl).trans ?_
    refine (whileO_chk (st := fun i : Nat => ((i:Int), ())) (lo := 0) (hi := l.length) (b := eqLf ieq l m) (Q := fun i => ieq (l.getD i 0) (m.getD i 0)) (x := ((false, ()) : Bool × Unit)) (y := ((true, ()) : Bool × Unit)) (Nat.zero_le _) ?_ ?_ ?_).trans (by cases eqLf ieq l m <;> rfl)
    · rw [eqLf_iff hq]
      constructor
      · rintro rfl i _ _; exact ieq_iff.2 rfl
      · intro hc
        apply List.ext_getElem h
        intro i h1 h2
        have := ieq_iff.1 (hc i (Nat.zero_le _) h1)
        rwa [List.getD_eq_getElem?_getD, List.getD_eq_getElem?_getD, List.getElem?_eq_getElem h1, List.getElem?_eq_getElem h2] at this
    · intro i _ h1
      refine (cond_t (ilt_iff.2 (by simp only; omega))).trans ?_
      simp only [Int.toNat_natCast, cast1 (i := i) (by omega)]
      rw [gd_pos (by omega), gd_pos (by omega)]
      cases ieq (l.getD i 0) (m.getD i 0) <;> rfl
    · exact (cond_f (ilt_false.2 (by simp only; omega))).trans rfl
  · have hi : ieq (l.length:Int) (m.length:Int) = false := by rw [ieq_d]; exact decide_eq_false (by omega)
    rw [hi, eqLf_len h]
    rfl
set_option maxRecDepth 100000 in
theorem ok20 : con20.Ok Try.prog := Con.of_goal mixed okN con20 goal20
theorem goal16 : con16.goal Try.prog (spOf [con59]) g16_sh [] lm30 := by
  have e : (∀ (k:Int), g16 k = some (doubX k)) = con16.goal Try.prog (spOf [con59]) g16_sh [] lm30 := by kernel_rfl
  rw [← e]
  intro k
  unfold g16 doubX
  by_cases h1 : k < 0
  · simp [ilt_iff.2 h1, gd_true, show ¬ (0 ≤ k ∧ k ≤ 4) by omega]
  · by_cases h2 : 4 < k
    · simp [ilt_false.2 (Int.not_lt.1 h1), ilt_iff.2 h2, gd_true, show ¬ (0 ≤ k ∧ k ≤ 4) by omega]
    · have h3 : ishl .i64 1 k = ((2 ^ k.toNat:Nat):Int) := by
        obtain ⟨n, rfl⟩ : ∃ n : Nat, k = n := ⟨k.toNat, by omega⟩
        rw [ishl_one (by omega), Int.toNat_natCast]
      have h4 : (2:Nat) ^ k.toNat ≤ 2 ^ 4 := Nat.pow_le_pow_right (by omega) (by omega)
      have h5 : ((2 ^ k.toNat:Nat):Int) ≤ 16 := by omega
      rw [ilt_false.2 (Int.not_lt.1 h1), ilt_false.2 (Int.not_lt.1 h2), if_pos (by omega), h3]
      rw [gd_pos (by simp), gd_pos (by simp)]
      simp only [cond_false]
      rw [gd_pos (by omega), gd_pos (Int.natCast_nonneg _), gd_pos h5, Int.toNat_natCast]
      rfl
set_option maxRecDepth 100000 in
theorem ok16 : con16.Ok Try.prog := Con.of_goal mixed (okC ok59 okN) con16 goal16
theorem isM_spec {l : List Int} {m : Int} (h : isM l m = true) : 1 ≤ l.length ∧ (l.length:Int) ≤ m ∧ ∀ x ∈ l, 0 ≤ x ∧ x < 2 ^ l.length := by
  unfold isM at h
  simp only [Bool.and_eq_true, decide_eq_true_eq, List.all_eq_true, inM_d, Int.toNat_natCast] at h
  exact ⟨by omega, h.1.2, fun x hx => h.2 x hx⟩
theorem goal23 : con23.goal Try.prog (spOf []) g23_sh [] lm30 := by
  have e : (∀ (l:List Int) (m:Int), small l → m ≤ 16 → g23 l m = some (isM l m, ())) = con23.goal Try.prog (spOf []) g23_sh [] lm30 := by kernel_rfl
  rw [← e]
  intro l m hs hm
  unfold small at hs
  unfold g23
  obtain ⟨k, hk, hk16⟩ : ∃ k : Nat, imin (l.length:Int) 16 = k ∧ k = min l.length 16 := ⟨min l.length 16, by unfold imin; split <;> omega, rfl⟩
  have hsh := ishl_one (j := k) (by omega)
  simp only [hk, hsh]
  refine (whileO_chk (st := fun i : Nat => ((i:Int), ())) (lo := 0) (hi := l.length) (b := l.all (fun x => !ilt x 0 && !ile ((2 ^ k:Nat):Int) x)) (Q := fun i => !ilt (l.getD i 0) 0 && !ile ((2 ^ k:Nat):Int) (l.getD i 0)) (x := ((false, ()) : Bool × Unit)) (y := ((decide (1 ≤ (l.length:Int)) && decide ((l.length:Int) ≤ m), ()) : Bool × Unit)) (by omega) ?_ (fun i _ hi => ?_) ?_).trans ?_
  · rw [List.all_eq_true]
    constructor
    · intro h i _ hi
      rw [gd_at hi]; exact h _ (List.getElem_mem hi)
    · intro h x hx
      obtain ⟨i, hi, rfl⟩ := List.getElem_of_mem hx
      have := h i (Nat.zero_le _) hi
      rwa [gd_at hi] at this
  · simp only [Int.toNat_natCast]
    rw [cond_t (ilt_iff.2 (by omega)), gd_pos (by omega), cast1 (by omega)]
    generalize l.getD i 0 = x
    cases h1 : ilt x 0 <;> cases h2 : ile ((2 ^ k:Nat):Int) x <;> simp [gd_true]
  · simp only
    rw [cond_f (ilt_false.2 (by omega))]
    by_cases h1 : 1 ≤ (l.length:Int)
    · simp [ile_iff.2 h1, h1, gd_true, ile_d]
    · simp [ile_false.2 (Int.not_le.1 h1), h1, gd_true]
  · unfold isM
    have key : ∀ b : Bool, (cond b ((decide (1 ≤ (l.length:Int)) && decide ((l.length:Int) ≤ m), ()) : Bool × Unit) (false, ())) = (decide (1 ≤ (l.length:Int)) && decide ((l.length:Int) ≤ m) && b, ()) := fun b => by cases b <;> simp
    rw [key]
    by_cases hle : (l.length:Int) ≤ m
    · have hkl : k = l.length := by omega
      have : (fun x => !ilt x 0 && !ile ((2 ^ k:Nat):Int) x) = inM (l.length:Int) := by
        funext x
        have h5 : ((2 ^ l.length:Nat):Int) = (2:Int) ^ l.length := by rw [Int.natCast_pow]; rfl
        rw [inM_d, ilt_d, ile_d, hkl, Int.toNat_natCast, ← h5]
        by_cases h1 : x < 0
        · simp [h1, show ¬ 0 ≤ x by omega]
        · by_cases h2 : x < ((2 ^ l.length:Nat):Int)
          · have h3 : ¬ ((2 ^ l.length:Nat):Int) ≤ x := by omega
            have h4 : 0 ≤ x := by omega
            rw [decide_eq_false h1, decide_eq_false h3, decide_eq_true h4, decide_eq_true h2]; rfl
          · have h3 : ((2 ^ l.length:Nat):Int) ≤ x := by omega
            rw [decide_eq_true h3, decide_eq_false h2]; simp
      rw [this]
    · simp [hle]
set_option maxRecDepth 100000 in
theorem ok23 : con23.Ok Try.prog := Con.of_goal mixed okN con23 goal23
theorem goal24 : con24.goal Try.prog (spOf [con16, con20]) g24_sh [] lm30 := by
  have e : (g24 = some (true, ())) = con24.goal Try.prog (spOf [con16, con20]) g24_sh [] lm30 := by kernel_rfl
  rw [← e]
  have h : doubX 1 = ([0, 2], 0, ()) := by decide +kernel
  unfold g24
  rw [h]
  have s : small ([0, 2]:List Int) := by unfold small; decide
  simp [s, gd_true, ieq, eqLf]
set_option maxRecDepth 100000 in
theorem ok24 : con24.Ok Try.prog := Con.of_goal mixed (okC ok16 (okC ok20 okN)) con24 goal24
end Go.Signs
set_option linter.unusedVariables false
set_option linter.unusedSimpArgs false
namespace Go.Signs
open Go Go.Ab Go.Proofs
abbrev Row := Int × List Int × Unit
end Go.Signs
set_option linter.unusedVariables false
set_option linter.unusedSimpArgs false
namespace Go.Signs
open Go Go.Ab Go.Proofs
theorem made_len {n : Nat} {f : Int → Int → Bool} : (madeF n f).length = n := by simp [madeF]
end Go.Signs
