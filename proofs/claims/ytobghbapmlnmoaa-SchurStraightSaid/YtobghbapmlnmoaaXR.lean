/- Swaps: contracts. -/
import Derived.Test.YtobghbapmlnmoaaXP
import Derived.Test.YtobghbapmlnmoaaXD
set_option linter.unusedVariables false
set_option linter.unusedSimpArgs false
namespace Go.Schur
open Go Go.Ab Go.Proofs
def tabF (t:List (List Int)) : List (List Int):=(t.take 12).map fun r=>r.take 12
noncomputable def con32 : Con:=mkC 32 [.d LLI] [LLI] (fun (t:List (List Int))=>[small t]) (fun (t:List (List Int))=>(tabF t,()))
noncomputable def g32 (x0:List (List Int)) : Option (List (List Int) × Unit):=gd ((0:Nat) = 0) (whileO (fun (d1 : Int × List (List Int) × Unit)=>bif ilt d1.1 (↑(List.length x0):Int) then gd (0 ≤ d1.1 ∧ d1.1 < (↑(List.length x0):Int)) (bif ilt d1.1 12 then gd (List.length d1.2.1 ≤ List.length d1.2.1) (gd ((List.length d1.2.1 + 1) * (24:Nat) ≤ 1099511627776) (gd (List.length d1.2.1 + 1 = List.length (List.take (List.length d1.2.1) d1.2.1 ++ List.take 12 (List.getD x0 (Int.toNat d1.1) ([]:List Int)) :: ([]:List (List Int)))) (some (Lp.go ((wr .i64 (d1.1 + 1),List.take (List.length d1.2.1) d1.2.1 ++ List.take 12 (List.getD x0 (Int.toNat d1.1) ([]:List Int)) :: ([]:List (List Int)),()) : Int × List (List Int) × Unit))))) else gd (List.length d1.2.1 = List.length d1.2.1) (some (Lp.go ((wr .i64 (d1.1 + 1),d1.2.1,()) : Int × List (List Int) × Unit)))) else gd (0 + List.length d1.2.1 ≤ List.length d1.2.1) (some (Lp.out ((List.take (List.length d1.2.1) (List.drop 0 d1.2.1),()) : List (List Int) × Unit)))) ((0,([]:List (List Int)),()) : Int × List (List Int) × Unit))
noncomputable def g32_sh : List LSh:=LSh.mk (((3,TV.slf (0) (1)) : Nat × TV) :: ((8,TV.v (Ty.int IntKind.i64)) : Nat × TV) :: ([] : List (Nat × TV))) (TB.arr (Ty.slice (Ty.int IntKind.i64)) true :: ([] : List TB)) :: ([] : List LSh)
def mtB (r:List Int) : Bool:=decide (r.length = 0)
def okL2 (rows:List (List Int)) : Prop:=rows.length ≤ 1000 ∧ ∀ r ∈ rows,r.length ≤ 1000
def el (rows:List (List Int)) (i j:Nat) : Int:=(rows.getD i []).getD j 0
def freeB (rows:List (List Int)) (k:Int) (i j:Nat) : Bool:=(decide (el rows i j = k) && !(decide (j < (rows.getD (i + 1) []).length) && decide (el rows (i + 1) j = k + 1))) || (decide (el rows i j = k + 1) && !(decide (0 < i) && decide (el rows (i - 1) j = k)))
noncomputable def con93p : Con:=mkC 93 [.d LI,.d I64] [I64] (fun (l:List Int) (i:Int)=>[l.length ≤ 1000]) (fun (l:List Int) (i:Int)=>(rowF l i,()))
noncomputable def g93p (x0:List Int) (x1:Int) : Option (Int × Unit):=gd ((!ilt x1 0) = true → (!ilt x1 0) = true) (gd ((!ilt x1 0) = true → (!ilt x1 0) = true ∧ (!ilt x1 0) = true) (gd (ilt x1 0 = false → (!ilt x1 0) = true) (bif bif ilt x1 0 then true else ile (↑(List.length x0):Int) x1 then some ((0,()) : Int × Unit) else gd (0 ≤ x1 ∧ x1 < (↑(List.length x0):Int)) (some ((List.getD x0 (Int.toNat x1) 0,()) : Int × Unit)))))
noncomputable def g93p_sh : List LSh:=([] : List LSh)
def trimZ : List Int → List Int
 | []=>[]
 | x :: l=>if trimZ l = [] ∧ x = 0 then [] else x :: trimZ l
def outF (inner:List Int) (rows:List (List Int)) (n:Nat) : List Int:=(List.range n).map fun (i:Nat)=>rowF inner (i:Int) + ((rows.getD i []).length:Int)
noncomputable def con90 : Con:=mkC 90 [.d LI,.d LLI] [LI] (fun (inner:List Int) (rows:List (List Int))=>[shapeB inner = true ∧ okL2 rows]) (fun (inner:List Int) (rows:List (List Int))=>(trimZ (outF inner rows rows.length),()))
noncomputable def g90 (x0:List Int) (x1:List (List Int)) : Option (List Int × Unit):=gd ((0:Nat) = 0) (whileO (fun (d2 : Int × List Int × Unit)=>bif ilt d2.1 (↑(List.length x1):Int) then gd (0 ≤ d2.1 ∧ d2.1 < (↑(List.length x1):Int)) (gd (List.length x0 ≤ 1000) (gd (List.length d2.2.1 ≤ List.length d2.2.1) (gd ((List.length d2.2.1 + 1) * (8:Nat) ≤ 1099511627776) (gd (List.length d2.2.1 + 1 = List.length (List.take (List.length d2.2.1) d2.2.1 ++ wr .i64 (rowF x0 d2.1 + (↑(List.length (List.getD x1 (Int.toNat d2.1) ([]:List Int))):Int)) :: ([]:List Int))) (some (Lp.go ((wr .i64 (d2.1 + 1),List.take (List.length d2.2.1) d2.2.1 ++ wr .i64 (rowF x0 d2.1 + (↑(List.length (List.getD x1 (Int.toNat d2.1) ([]:List Int))):Int)) :: ([]:List Int),()) : Int × List Int × Unit))))))) else gd (List.length d2.2.1 = List.length d2.2.1) (whileO (fun (d3 : List Int × Unit)=>gd (ilt 0 (↑(List.length d3.1):Int) = true → ilt 0 (↑(List.length d3.1):Int) = true) (gd (ilt 0 (↑(List.length d3.1):Int) = true → ilt 0 (↑(List.length d3.1):Int) = true) (gd (ilt 0 (↑(List.length d3.1):Int) = true → ilt 0 (↑(List.length d3.1):Int) = true ∧ ilt 0 (↑(List.length d3.1):Int) = true ∧ 0 ≤ wr .i64 ((↑(List.length d3.1):Int) - 1) ∧ wr .i64 ((↑(List.length d3.1):Int) - 1) < (↑(List.length d3.1):Int)) (gd (ilt 0 (↑(List.length d3.1):Int) = true → ilt 0 (↑(List.length d3.1):Int) = true ∧ 0 + Int.toNat (wr .i64 ((↑(List.length d3.1):Int) - 1)) < List.length d3.1) (gd (ilt 0 (↑(List.length d3.1):Int) = true → ilt 0 (↑(List.length d3.1):Int) = true) (gd (ilt 0 (↑(List.length d3.1):Int) = true → ilt 0 (↑(List.length d3.1):Int) = true) (bif bif ilt 0 (↑(List.length d3.1):Int) then ieq (List.getD d3.1 (0 + Int.toNat (wr .i64 ((↑(List.length d3.1):Int) - 1))) 0) 0 else false then gd (0 ≤ wr .i64 ((↑(List.length d3.1):Int) - 1) ∧ wr .i64 ((↑(List.length d3.1):Int) - 1) ≤ (↑(List.length d3.1):Int)) (gd (Int.toNat (wr .i64 ((↑(List.length d3.1):Int) - 1)) = List.length (List.take (Int.toNat (wr .i64 ((↑(List.length d3.1):Int) - 1))) d3.1)) (some (Lp.go ((List.take (Int.toNat (wr .i64 ((↑(List.length d3.1):Int) - 1))) d3.1,()) : List Int × Unit)))) else gd (0 + List.length d3.1 ≤ List.length d3.1) (some (Lp.out (Lp.out ((List.take (List.length d3.1) (List.drop 0 d3.1),()) : List Int × Unit))))))))))) ((d2.2.1,()) : List Int × Unit))) ((0,([]:List Int),()) : Int × List Int × Unit))
noncomputable def g90_sh : List LSh:=LSh.mk (((5,TV.slf (0) (1)) : Nat × TV) :: ((10,TV.v (Ty.int IntKind.i64)) : Nat × TV) :: ([] : List (Nat × TV))) (TB.arr (Ty.int IntKind.i64) true :: ([] : List TB)) :: LSh.mk (((5,TV.slf (0) (1)) : Nat × TV) :: ([] : List (Nat × TV))) (TB.arr (Ty.int IntKind.i64) true :: ([] : List TB)) :: ([] : List LSh)
def fitB (inner:List Int) (rows:List (List Int)) (i j:Nat) : Bool:=(decide (j = 0) || decide (el rows i (j - 1) ≤ el rows i j)) && (decide (i = 0) || !(decide (0 ≤ rowF inner i + (j:Int) - rowF inner ((i:Int) - 1)) && (decide (rowF inner i + (j:Int) - rowF inner ((i:Int) - 1) < ((rows.getD (i - 1) []).length:Int)) && decide (el rows i j ≤ el rows (i - 1) (rowF inner i + (j:Int) - rowF inner ((i:Int) - 1)).toNat))))
def fitsB (inner:List Int) (rows:List (List Int)) : Bool:=(List.range rows.length).all fun i=>(List.range (rows.getD i []).length).all fun j=>fitB inner rows i j
noncomputable def con91 : Con:=mkC 91 [.d LI,.d LLI] [.bool] (fun (inner:List Int) (rows:List (List Int))=>[shapeB inner = true ∧ okL2 rows]) (fun (inner:List Int) (rows:List (List Int))=>(fitsB inner rows,()))
noncomputable def g91_l0 (x0:List Int) (x1:List (List Int)) (d2 d3 : Int × Unit) : Option (Lp (Int × Unit) (Lp (Int × Unit) (Bool × Unit))):=bif ilt d3.1 (↑(List.length (List.getD x1 (Int.toNat d2.1) ([]:List Int))):Int) then gd (0 ≤ d3.1 ∧ d3.1 < (↑(List.length (List.getD x1 (Int.toNat d2.1) ([]:List Int))):Int)) (gd (ilt 0 d3.1 = true → ilt 0 d3.1 = true) (gd (ilt 0 d3.1 = true → ilt 0 d3.1 = true ∧ ilt 0 d3.1 = true ∧ 0 ≤ wr .i64 (d3.1 - 1) ∧ wr .i64 (d3.1 - 1) < (↑(List.length (List.getD x1 (Int.toNat d2.1) ([]:List Int))):Int)) (gd (ilt 0 d3.1 = true → ilt 0 d3.1 = true) (gd (ilt 0 d3.1 = true → ilt 0 d3.1 = true ∧ ilt 0 d3.1 = true) (gd (ilt 0 d3.1 = true → ilt 0 d3.1 = true) (bif bif ilt 0 d3.1 then ilt (List.getD (List.getD x1 (Int.toNat d2.1) ([]:List Int)) (Int.toNat d3.1) 0) (List.getD (List.getD x1 (Int.toNat d2.1) ([]:List Int)) (Int.toNat (wr .i64 (d3.1 - 1))) 0) else false then some (Lp.out (Lp.out ((false,()) : Bool × Unit))) else bif ieq d2.1 0 then some (Lp.go ((wr .i64 (d3.1 + 1),()) : Int × Unit)) else gd (List.length x0 ≤ 1000) (gd (List.length x0 ≤ 1000) (gd (ile 0 (wr .i64 (wr .i64 (rowF x0 d2.1 + d3.1) - rowF x0 (wr .i64 (d2.1 - 1)))) = true → ile 0 (wr .i64 (wr .i64 (rowF x0 d2.1 + d3.1) - rowF x0 (wr .i64 (d2.1 - 1)))) = true) (gd (ile 0 (wr .i64 (wr .i64 (rowF x0 d2.1 + d3.1) - rowF x0 (wr .i64 (d2.1 - 1)))) = true → ile 0 (wr .i64 (wr .i64 (rowF x0 d2.1 + d3.1) - rowF x0 (wr .i64 (d2.1 - 1)))) = true ∧ ile 0 (wr .i64 (wr .i64 (rowF x0 d2.1 + d3.1) - rowF x0 (wr .i64 (d2.1 - 1)))) = true ∧ 0 ≤ wr .i64 (d2.1 - 1) ∧ wr .i64 (d2.1 - 1) < (↑(List.length x1):Int)) (gd (ile 0 (wr .i64 (wr .i64 (rowF x0 d2.1 + d3.1) - rowF x0 (wr .i64 (d2.1 - 1)))) = true → ile 0 (wr .i64 (wr .i64 (rowF x0 d2.1 + d3.1) - rowF x0 (wr .i64 (d2.1 - 1)))) = true) (gd (ile 0 (wr .i64 (wr .i64 (rowF x0 d2.1 + d3.1) - rowF x0 (wr .i64 (d2.1 - 1)))) = true → ile 0 (wr .i64 (wr .i64 (rowF x0 d2.1 + d3.1) - rowF x0 (wr .i64 (d2.1 - 1)))) = true) (gd (ile 0 (wr .i64 (wr .i64 (rowF x0 d2.1 + d3.1) - rowF x0 (wr .i64 (d2.1 - 1)))) = true → ile 0 (wr .i64 (wr .i64 (rowF x0 d2.1 + d3.1) - rowF x0 (wr .i64 (d2.1 - 1)))) = true ∧ ile 0 (wr .i64 (wr .i64 (rowF x0 d2.1 + d3.1) - rowF x0 (wr .i64 (d2.1 - 1)))) = true) (gd (ile 0 (wr .i64 (wr .i64 (rowF x0 d2.1 + d3.1) - rowF x0 (wr .i64 (d2.1 - 1)))) = true → ile 0 (wr .i64 (wr .i64 (rowF x0 d2.1 + d3.1) - rowF x0 (wr .i64 (d2.1 - 1)))) = true) (gd ((bif ile 0 (wr .i64 (wr .i64 (rowF x0 d2.1 + d3.1) - rowF x0 (wr .i64 (d2.1 - 1)))) then ilt (wr .i64 (wr .i64 (rowF x0 d2.1 + d3.1) - rowF x0 (wr .i64 (d2.1 - 1)))) (↑(List.length (List.getD x1 (Int.toNat (wr .i64 (d2.1 - 1))) ([]:List Int))):Int) else false) = true → (bif ile 0 (wr .i64 (wr .i64 (rowF x0 d2.1 + d3.1) - rowF x0 (wr .i64 (d2.1 - 1)))) then ilt (wr .i64 (wr .i64 (rowF x0 d2.1 + d3.1) - rowF x0 (wr .i64 (d2.1 - 1)))) (↑(List.length (List.getD x1 (Int.toNat (wr .i64 (d2.1 - 1))) ([]:List Int))):Int) else false) = true) (gd ((bif ile 0 (wr .i64 (wr .i64 (rowF x0 d2.1 + d3.1) - rowF x0 (wr .i64 (d2.1 - 1)))) then ilt (wr .i64 (wr .i64 (rowF x0 d2.1 + d3.1) - rowF x0 (wr .i64 (d2.1 - 1)))) (↑(List.length (List.getD x1 (Int.toNat (wr .i64 (d2.1 - 1))) ([]:List Int))):Int) else false) = true → (bif ile 0 (wr .i64 (wr .i64 (rowF x0 d2.1 + d3.1) - rowF x0 (wr .i64 (d2.1 - 1)))) then ilt (wr .i64 (wr .i64 (rowF x0 d2.1 + d3.1) - rowF x0 (wr .i64 (d2.1 - 1)))) (↑(List.length (List.getD x1 (Int.toNat (wr .i64 (d2.1 - 1))) ([]:List Int))):Int) else false) = true ∧ (bif ile 0 (wr .i64 (wr .i64 (rowF x0 d2.1 + d3.1) - rowF x0 (wr .i64 (d2.1 - 1)))) then ilt (wr .i64 (wr .i64 (rowF x0 d2.1 + d3.1) - rowF x0 (wr .i64 (d2.1 - 1)))) (↑(List.length (List.getD x1 (Int.toNat (wr .i64 (d2.1 - 1))) ([]:List Int))):Int) else false) = true ∧ 0 ≤ wr .i64 (d2.1 - 1) ∧ wr .i64 (d2.1 - 1) < (↑(List.length x1):Int)) (gd ((bif ile 0 (wr .i64 (wr .i64 (rowF x0 d2.1 + d3.1) - rowF x0 (wr .i64 (d2.1 - 1)))) then ilt (wr .i64 (wr .i64 (rowF x0 d2.1 + d3.1) - rowF x0 (wr .i64 (d2.1 - 1)))) (↑(List.length (List.getD x1 (Int.toNat (wr .i64 (d2.1 - 1))) ([]:List Int))):Int) else false) = true → (bif ile 0 (wr .i64 (wr .i64 (rowF x0 d2.1 + d3.1) - rowF x0 (wr .i64 (d2.1 - 1)))) then ilt (wr .i64 (wr .i64 (rowF x0 d2.1 + d3.1) - rowF x0 (wr .i64 (d2.1 - 1)))) (↑(List.length (List.getD x1 (Int.toNat (wr .i64 (d2.1 - 1))) ([]:List Int))):Int) else false) = true) (gd ((bif ile 0 (wr .i64 (wr .i64 (rowF x0 d2.1 + d3.1) - rowF x0 (wr .i64 (d2.1 - 1)))) then ilt (wr .i64 (wr .i64 (rowF x0 d2.1 + d3.1) - rowF x0 (wr .i64 (d2.1 - 1)))) (↑(List.length (List.getD x1 (Int.toNat (wr .i64 (d2.1 - 1))) ([]:List Int))):Int) else false) = true → (bif ile 0 (wr .i64 (wr .i64 (rowF x0 d2.1 + d3.1) - rowF x0 (wr .i64 (d2.1 - 1)))) then ilt (wr .i64 (wr .i64 (rowF x0 d2.1 + d3.1) - rowF x0 (wr .i64 (d2.1 - 1)))) (↑(List.length (List.getD x1 (Int.toNat (wr .i64 (d2.1 - 1))) ([]:List Int))):Int) else false) = true ∧ (bif ile 0 (wr .i64 (wr .i64 (rowF x0 d2.1 + d3.1) - rowF x0 (wr .i64 (d2.1 - 1)))) then ilt (wr .i64 (wr .i64 (rowF x0 d2.1 + d3.1) - rowF x0 (wr .i64 (d2.1 - 1)))) (↑(List.length (List.getD x1 (Int.toNat (wr .i64 (d2.1 - 1))) ([]:List Int))):Int) else false) = true ∧ 0 ≤ wr .i64 (wr .i64 (rowF x0 d2.1 + d3.1) - rowF x0 (wr .i64 (d2.1 - 1))) ∧ wr .i64 (wr .i64 (rowF x0 d2.1 + d3.1) - rowF x0 (wr .i64 (d2.1 - 1))) < (↑(List.length (List.getD x1 (Int.toNat (wr .i64 (d2.1 - 1))) ([]:List Int))):Int)) (gd ((bif ile 0 (wr .i64 (wr .i64 (rowF x0 d2.1 + d3.1) - rowF x0 (wr .i64 (d2.1 - 1)))) then ilt (wr .i64 (wr .i64 (rowF x0 d2.1 + d3.1) - rowF x0 (wr .i64 (d2.1 - 1)))) (↑(List.length (List.getD x1 (Int.toNat (wr .i64 (d2.1 - 1))) ([]:List Int))):Int) else false) = true → (bif ile 0 (wr .i64 (wr .i64 (rowF x0 d2.1 + d3.1) - rowF x0 (wr .i64 (d2.1 - 1)))) then ilt (wr .i64 (wr .i64 (rowF x0 d2.1 + d3.1) - rowF x0 (wr .i64 (d2.1 - 1)))) (↑(List.length (List.getD x1 (Int.toNat (wr .i64 (d2.1 - 1))) ([]:List Int))):Int) else false) = true) (gd ((bif ile 0 (wr .i64 (wr .i64 (rowF x0 d2.1 + d3.1) - rowF x0 (wr .i64 (d2.1 - 1)))) then ilt (wr .i64 (wr .i64 (rowF x0 d2.1 + d3.1) - rowF x0 (wr .i64 (d2.1 - 1)))) (↑(List.length (List.getD x1 (Int.toNat (wr .i64 (d2.1 - 1))) ([]:List Int))):Int) else false) = true → (bif ile 0 (wr .i64 (wr .i64 (rowF x0 d2.1 + d3.1) - rowF x0 (wr .i64 (d2.1 - 1)))) then ilt (wr .i64 (wr .i64 (rowF x0 d2.1 + d3.1) - rowF x0 (wr .i64 (d2.1 - 1)))) (↑(List.length (List.getD x1 (Int.toNat (wr .i64 (d2.1 - 1))) ([]:List Int))):Int) else false) = true ∧ (bif ile 0 (wr .i64 (wr .i64 (rowF x0 d2.1 + d3.1) - rowF x0 (wr .i64 (d2.1 - 1)))) then ilt (wr .i64 (wr .i64 (rowF x0 d2.1 + d3.1) - rowF x0 (wr .i64 (d2.1 - 1)))) (↑(List.length (List.getD x1 (Int.toNat (wr .i64 (d2.1 - 1))) ([]:List Int))):Int) else false) = true) (gd ((bif ile 0 (wr .i64 (wr .i64 (rowF x0 d2.1 + d3.1) - rowF x0 (wr .i64 (d2.1 - 1)))) then ilt (wr .i64 (wr .i64 (rowF x0 d2.1 + d3.1) - rowF x0 (wr .i64 (d2.1 - 1)))) (↑(List.length (List.getD x1 (Int.toNat (wr .i64 (d2.1 - 1))) ([]:List Int))):Int) else false) = true → (bif ile 0 (wr .i64 (wr .i64 (rowF x0 d2.1 + d3.1) - rowF x0 (wr .i64 (d2.1 - 1)))) then ilt (wr .i64 (wr .i64 (rowF x0 d2.1 + d3.1) - rowF x0 (wr .i64 (d2.1 - 1)))) (↑(List.length (List.getD x1 (Int.toNat (wr .i64 (d2.1 - 1))) ([]:List Int))):Int) else false) = true) (bif bif bif ile 0 (wr .i64 (wr .i64 (rowF x0 d2.1 + d3.1) - rowF x0 (wr .i64 (d2.1 - 1)))) then ilt (wr .i64 (wr .i64 (rowF x0 d2.1 + d3.1) - rowF x0 (wr .i64 (d2.1 - 1)))) (↑(List.length (List.getD x1 (Int.toNat (wr .i64 (d2.1 - 1))) ([]:List Int))):Int) else false then ile (List.getD (List.getD x1 (Int.toNat d2.1) ([]:List Int)) (Int.toNat d3.1) 0) (List.getD (List.getD x1 (Int.toNat (wr .i64 (d2.1 - 1))) ([]:List Int)) (Int.toNat (wr .i64 (wr .i64 (rowF x0 d2.1 + d3.1) - rowF x0 (wr .i64 (d2.1 - 1))))) 0) else false then some (Lp.out (Lp.out ((false,()) : Bool × Unit))) else some (Lp.go ((wr .i64 (d3.1 + 1),()) : Int × Unit))))))))))))))))))))))) else some (Lp.out (Lp.go ((wr .i64 (d2.1 + 1),()) : Int × Unit)))
noncomputable def g91 (x0:List Int) (x1:List (List Int)) : Option (Bool × Unit):=whileO (fun (d2 : Int × Unit)=>bif ilt d2.1 (↑(List.length x1):Int) then gd (0 ≤ d2.1 ∧ d2.1 < (↑(List.length x1):Int)) (whileO (g91_l0 x0 x1 d2) ((0,()) : Int × Unit)) else some (Lp.out ((true,()) : Bool × Unit))) ((0,()) : Int × Unit)
noncomputable def g91_sh : List LSh:=LSh.mk (((12,TV.v (Ty.int IntKind.i64)) : Nat × TV) :: ([] : List (Nat × TV))) ([] : List TB) :: LSh.mk (((19,TV.v (Ty.int IntKind.i64)) : Nat × TV) :: ([] : List (Nat × TV))) ([] : List TB) :: ([] : List LSh)
def entB (rows:List (List Int)) : Bool:=rows.all fun r=>r.all fun x=>decide (1 ≤ x) && decide (x ≤ 8)
def skB (s : SkD) : Bool:=shapeB s.1 && decide (s.1.length ≤ s.2.1.length) && shapeB (trimZ (outF s.1 s.2.1 s.2.1.length)) && entB s.2.1 && fitsB s.1 s.2.1
noncomputable def con46 : Con:=mkC 46 [.d SkT] [.bool] (fun (s : SkD)=>[small s.1 ∧ okL2 s.2.1]) (fun (s : SkD)=>(skB s,()))
noncomputable def g46_l0 (x0 : List Int × List (List Int) × Unit) (d1 d2 : Int × List Int × List (List Int) × Unit) : Option (Lp (Int × List Int × List (List Int) × Unit) (Lp (Int × List Int × List (List Int) × Unit) (Bool × Unit))):=bif ilt d2.1 (↑(List.length (List.getD x0.2.1 (Int.toNat d1.1) ([]:List Int))):Int) then gd (0 ≤ d2.1 ∧ d2.1 < (↑(List.length (List.getD x0.2.1 (Int.toNat d1.1) ([]:List Int))):Int)) (gd ((!ilt (List.getD (List.getD x0.2.1 (Int.toNat d1.1) ([]:List Int)) (Int.toNat d2.1) 0) 1) = true → (!ilt (List.getD (List.getD x0.2.1 (Int.toNat d1.1) ([]:List Int)) (Int.toNat d2.1) 0) 1) = true) (gd (ilt (List.getD (List.getD x0.2.1 (Int.toNat d1.1) ([]:List Int)) (Int.toNat d2.1) 0) 1 = false → (!ilt (List.getD (List.getD x0.2.1 (Int.toNat d1.1) ([]:List Int)) (Int.toNat d2.1) 0) 1) = true) (bif bif ilt (List.getD (List.getD x0.2.1 (Int.toNat d1.1) ([]:List Int)) (Int.toNat d2.1) 0) 1 then true else ilt 8 (List.getD (List.getD x0.2.1 (Int.toNat d1.1) ([]:List Int)) (Int.toNat d2.1) 0) then some (Lp.out (Lp.out ((false,()) : Bool × Unit))) else some (Lp.go ((wr .i64 (d2.1 + 1),d2.2.1,d2.2.2.1,()) : Int × List Int × List (List Int) × Unit))))) else some (Lp.out (Lp.go ((wr .i64 (d1.1 + 1),d2.2.1,d2.2.2.1,()) : Int × List Int × List (List Int) × Unit)))
noncomputable def g46 (x0 : List Int × List (List Int) × Unit) : Option (Bool × Unit):=gd (small x0.1) (gd ((!!shapeB x0.1) = true → (!!shapeB x0.1) = true) (gd ((!!shapeB x0.1) = true → (!!shapeB x0.1) = true) (gd ((!!shapeB x0.1) = true → (!!shapeB x0.1) = true) (gd ((!!shapeB x0.1) = true → (!!shapeB x0.1) = true) (gd ((!!shapeB x0.1) = true → (!!shapeB x0.1) = true ∧ (!!shapeB x0.1) = true) (gd ((!shapeB x0.1) = false → (!!shapeB x0.1) = true) (gd ((!bif !shapeB x0.1 then true else ilt (↑(List.length x0.2.1):Int) (↑(List.length x0.1):Int)) = true → (!bif !shapeB x0.1 then true else ilt (↑(List.length x0.2.1):Int) (↑(List.length x0.1):Int)) = true) (gd ((!bif !shapeB x0.1 then true else ilt (↑(List.length x0.2.1):Int) (↑(List.length x0.1):Int)) = true → (!bif !shapeB x0.1 then true else ilt (↑(List.length x0.2.1):Int) (↑(List.length x0.1):Int)) = true) (gd ((!bif !shapeB x0.1 then true else ilt (↑(List.length x0.2.1):Int) (↑(List.length x0.1):Int)) = true → (!bif !shapeB x0.1 then true else ilt (↑(List.length x0.2.1):Int) (↑(List.length x0.1):Int)) = true ∧ (!bif !shapeB x0.1 then true else ilt (↑(List.length x0.2.1):Int) (↑(List.length x0.1):Int)) = true ∧ shapeB x0.1 = true ∧ okL2 x0.2.1) (gd ((!bif !shapeB x0.1 then true else ilt (↑(List.length x0.2.1):Int) (↑(List.length x0.1):Int)) = true → (!bif !shapeB x0.1 then true else ilt (↑(List.length x0.2.1):Int) (↑(List.length x0.1):Int)) = true ∧ small (trimZ (outF x0.1 x0.2.1 (List.length x0.2.1)))) (gd ((!bif !shapeB x0.1 then true else ilt (↑(List.length x0.2.1):Int) (↑(List.length x0.1):Int)) = true → (!bif !shapeB x0.1 then true else ilt (↑(List.length x0.2.1):Int) (↑(List.length x0.1):Int)) = true) (gd ((bif !shapeB x0.1 then true else ilt (↑(List.length x0.2.1):Int) (↑(List.length x0.1):Int)) = false → (!bif !shapeB x0.1 then true else ilt (↑(List.length x0.2.1):Int) (↑(List.length x0.1):Int)) = true) (bif bif bif !shapeB x0.1 then true else ilt (↑(List.length x0.2.1):Int) (↑(List.length x0.1):Int) then true else !shapeB (trimZ (outF x0.1 x0.2.1 (List.length x0.2.1))) then some ((false,()) : Bool × Unit) else whileO (fun (d1 : Int × List Int × List (List Int) × Unit)=>bif ilt d1.1 (↑(List.length x0.2.1):Int) then gd (0 ≤ d1.1 ∧ d1.1 < (↑(List.length x0.2.1):Int)) (whileO (g46_l0 x0 d1) ((0,d1.2.1,d1.2.2.1,()) : Int × List Int × List (List Int) × Unit)) else gd (shapeB d1.2.1 = true ∧ okL2 d1.2.2.1) (some (Lp.out ((fitsB d1.2.1 d1.2.2.1,()) : Bool × Unit)))) ((0,x0.1,x0.2.1,()) : Int × List Int × List (List Int) × Unit))))))))))))))
noncomputable def g46_sh : List LSh:=LSh.mk (((1,TV.ref (0) 1 0 0) : Nat × TV) :: ((32,TV.v (Ty.int IntKind.i64)) : Nat × TV) :: ([] : List (Nat × TV))) (TB.cells (TV.v (Ty.slice (Ty.int IntKind.i64)) :: TV.v (Ty.slice (Ty.slice (Ty.int IntKind.i64))) :: ([] : List TV)) :: ([] : List TB)) :: LSh.mk (((1,TV.ref (0) 1 0 0) : Nat × TV) :: ((38,TV.v (Ty.int IntKind.i64)) : Nat × TV) :: ([] : List (Nat × TV))) (TB.cells (TV.v (Ty.slice (Ty.int IntKind.i64)) :: TV.v (Ty.slice (Ty.slice (Ty.int IntKind.i64))) :: ([] : List TV)) :: ([] : List TB)) :: ([] : List LSh)
def fillB (rows:List (List Int)) : Bool:=!rows.any mtB && skB (([],rows,()) : SkD)
noncomputable def con34 : Con:=mkC 34 [.d LLI] [.bool] (fun (rows:List (List Int))=>[okL2 rows]) (fun (rows:List (List Int))=>(fillB rows,()))
noncomputable def g34 (x0:List (List Int)) : Option (Bool × Unit):=whileO (fun (d1 : Int × Unit)=>bif ilt d1.1 (↑(List.length x0):Int) then gd (0 ≤ d1.1 ∧ d1.1 < (↑(List.length x0):Int)) (bif ieq (↑(List.length (List.getD x0 (Int.toNat d1.1) ([]:List Int))):Int) 0 then some (Lp.out ((false,()) : Bool × Unit)) else some (Lp.go ((wr .i64 (d1.1 + 1),()) : Int × Unit))) else gd (small ([]:List Int) ∧ okL2 x0) (some (Lp.out ((skB ((([]:List Int),x0,()) : List Int × List (List Int) × Unit),()) : Bool × Unit)))) ((0,()) : Int × Unit)
noncomputable def g34_sh : List LSh:=LSh.mk (((7,TV.v (Ty.int IntKind.i64)) : Nat × TV) :: ([] : List (Nat × TV))) ([] : List TB) :: ([] : List LSh)
def cntF (rows:List (List Int)) (k:Int) : Int:=((rows.map fun r=>r.countP fun x=>decide (x = k)).sum:Nat)
noncomputable def con36 : Con:=mkC 36 [.d LLI,.d I64] [I64] (fun (rows:List (List Int)) (k:Int)=>[okL2 rows]) (fun (rows:List (List Int)) (k:Int)=>(cntF rows k,()))
noncomputable def g36_l0 (x0:List (List Int)) (x1:Int) (d2 d3 : Int × Int × Unit) : Option (Lp (Int × Int × Unit) (Lp (Int × Int × Unit) (Int × Unit))):=bif ilt d3.2.1 (↑(List.length (List.getD x0 (Int.toNat d2.2.1) ([]:List Int))):Int) then gd (0 ≤ d3.2.1 ∧ d3.2.1 < (↑(List.length (List.getD x0 (Int.toNat d2.2.1) ([]:List Int))):Int)) (bif ieq (List.getD (List.getD x0 (Int.toNat d2.2.1) ([]:List Int)) (Int.toNat d3.2.1) 0) x1 then some (Lp.go ((wr .i64 (d3.1 + 1),wr .i64 (d3.2.1 + 1),()) : Int × Int × Unit)) else some (Lp.go ((d3.1,wr .i64 (d3.2.1 + 1),()) : Int × Int × Unit))) else some (Lp.out (Lp.go ((d3.1,wr .i64 (d2.2.1 + 1),()) : Int × Int × Unit)))
noncomputable def g36 (x0:List (List Int)) (x1:Int) : Option (Int × Unit):=whileO (fun (d2 : Int × Int × Unit)=>bif ilt d2.2.1 (↑(List.length x0):Int) then gd (0 ≤ d2.2.1 ∧ d2.2.1 < (↑(List.length x0):Int)) (whileO (g36_l0 x0 x1 d2) ((d2.1,0,()) : Int × Int × Unit)) else some (Lp.out ((d2.1,()) : Int × Unit))) ((0,0,()) : Int × Int × Unit)
noncomputable def g36_sh : List LSh:=LSh.mk (((5,TV.v (Ty.int IntKind.i64)) : Nat × TV) :: ((12,TV.v (Ty.int IntKind.i64)) : Nat × TV) :: ([] : List (Nat × TV))) ([] : List TB) :: LSh.mk (((5,TV.v (Ty.int IntKind.i64)) : Nat × TV) :: ((18,TV.v (Ty.int IntKind.i64)) : Nat × TV) :: ([] : List (Nat × TV))) ([] : List TB) :: ([] : List LSh)
end Go.Schur
set_option maxRecDepth 100000
namespace Go.Schur
open Go Go.Ab Go.Proofs
theorem take_app {α : Type} {l : List α} {i : Nat} (h : i < l.length) (d : α) : l.take (i + 1) = l.take i ++ [l.getD i d]:=by
 rw [List.take_succ_eq_append_getElem h,List.getD_eq_getElem?_getD,List.getElem?_eq_getElem h];rfl
theorem drop_at {α : Type} {l : List α} {i : Nat} (h : i < l.length) (d : α) : l.drop i = l.getD i d :: l.drop (i + 1):=by
 rw [List.drop_eq_getElem_cons h,List.getD_eq_getElem?_getD,List.getElem?_eq_getElem h];rfl
theorem getD_memR {α : Type} {l : List α} {i : Nat} (h : i < l.length) {d : α} : l.getD i d ∈ l:=by
 rw [List.getD_eq_getElem?_getD,List.getElem?_eq_getElem h];exact List.getElem_mem _
theorem tab_len {t : List (List Int)} : (tabF t).length ≤ 12:=by simp [tabF];omega
theorem goal32 : con32.goal Try.prog (spOf [con20]) g32_sh [] lm30:=by
 have e : (∀ (t:List (List Int)),small t → g32 t = some (tabF t,())) = con32.goal Try.prog (spOf [con20]) g32_sh [] lm30:=by kernel_rfl
 rw [← e]
 intro t hs
 unfold small at hs
 unfold g32
 rw [gd_pos rfl]
 refine whileO_upP (fun (i:Nat)=>(((i:Int),tabF (t.take i),()) : Int × List (List Int) × Unit)) t.length _ (fun i hi=>?_) ?_
 ·have hl:=tab_len (t:=t.take i)
  have hw : wr .i64 ((i:Int) + 1) = ((i + 1:Nat):Int):=wr_id (by omega)
  simp only [ilt_iff.2 (show (i:Int) < (t.length:Int) by omega),cond_true,Int.toNat_natCast,List.take_length,hw]
  rw [gd_pos ⟨by omega,by omega⟩]
  by_cases h12 : i < 12
  ·rw [cond_t (ilt_iff.2 (by omega)),gd_pos (Nat.le_refl _),gd_pos (by omega),gd_pos (by simp)]
   have : tabF (t.take (i + 1)) = tabF (t.take i) ++ [List.take 12 (t.getD i [])]:=by
    unfold tabF
    have a : (t.take i ++ [t.getD i []]).length ≤ 12:=by simp;omega
    have b : (t.take i).length ≤ 12:=by simp;omega
    rw [take_app hi [],List.take_of_length_le a,List.take_of_length_le b,List.map_append]
    rfl
   rw [this]
  ·rw [cond_f (ilt_false.2 (by omega)),gd_true]
   have : tabF (t.take (i + 1)) = tabF (t.take i):=by
    unfold tabF
    rw [List.take_take,List.take_take,Nat.min_eq_left (by omega),Nat.min_eq_left (by omega)]
   rw [this]
 ·simp only [ilt_false.2 (Int.le_refl _),cond_false,Nat.zero_add,List.drop_zero,List.take_length]
  rw [gd_pos (Nat.le_refl _)]
theorem ok32 : con32.Ok Try.prog:=Con.of_goal mixed (okC ok20 okN) con32 goal32
theorem goal93p : con93p.goal Try.prog (spOf []) g93p_sh [] lm30:=by
 have e : (∀ (l:List Int) (i:Int),l.length ≤ 1000 → g93p l i = some (rowF l i,())) = con93p.goal Try.prog (spOf []) g93p_sh [] lm30:=by kernel_rfl
 rw [← e]
 intro l i hl
 unfold g93p rowF
 by_cases h0 : i < 0
 ·simp [ilt_iff.2 h0,gd_true,h0]
 ·have h1 : ilt i 0 = false:=ilt_false.2 (by omega)
  by_cases h2 : (l.length:Int) ≤ i
  ·simp only [h1,ile_iff.2 h2,gd_true,if_neg h0,Bool.not_false,Bool.not_true,imp_self,cond_true,cond_false,Bool.true_eq_false,false_implies,implies_true,true_implies,and_self]
   rw [List.getD_eq_getElem?_getD,List.getElem?_eq_none (by omega)];rfl
  ·simp only [h1,ile_false.2 (show i < (l.length:Int) by omega),gd_true,if_neg h0,Bool.not_false,Bool.not_true,imp_self,cond_true,cond_false,Bool.true_eq_false,false_implies,implies_true,true_implies,Bool.false_eq_true,and_self]
   rw [gd_pos ⟨by omega,by omega⟩]
theorem ok93p : con93p.Ok Try.prog:=Con.of_goal mixed okN con93p goal93p
theorem trimZ_app0 : ∀ {l : List Int},trimZ (l ++ [0]) = trimZ l
 | []=>rfl
 | x :: l=>by rw [List.cons_append,trimZ,trimZ,trimZ_app0]
theorem trimZ_app : ∀ {l : List Int} {x : Int},x ≠ 0 → trimZ (l ++ [x]) = l ++ [x]
 | [],x,h=>by
  show (if trimZ [] = [] ∧ x = 0 then [] else x :: trimZ []) = [x]
  rw [if_neg (fun h'=>h h'.2)];rfl
 | y :: l,x,h=>by
  rw [List.cons_append,trimZ,trimZ_app h,if_neg (fun h'=>by have:=h'.1;simp at this)]
theorem snoc_ex {l : List Int} (h : 0 < l.length) : ∃ l' x,l = l' ++ [x]:=by
 rcases List.eq_nil_or_concat l with rfl | ⟨l',x,rfl⟩
 ·simp at h
 ·exact ⟨l',x,List.concat_eq_append⟩
theorem goal90 : con90.goal Try.prog (spOf [con93p]) g90_sh [1041] lm30:=by
 have e : (∀ (inner:List Int) (rows:List (List Int)),(shapeB inner = true ∧ okL2 rows) → g90 inner rows = some (trimZ (outF inner rows rows.length),())) = con90.goal Try.prog (spOf [con93p]) g90_sh [1041] lm30:=by kernel_rfl
 rw [← e]
 rintro inner rows ⟨hs,h1,h2⟩
 have hin:=(shapeB_iff.1 hs).1
 unfold g90
 rw [gd_pos rfl]
 refine whileO_upP (fun (i:Nat)=>(((i:Int),outF inner rows i,()) : Int × List Int × Unit)) rows.length _ (fun i hi=>?_) ?_
 ·have hl : (outF inner rows i).length = i:=by simp [outF]
  have h3:=h2 _ (getD_memR hi (d:=[]))
  have hr:=shape_row hs i
  have hw : wr .i64 ((i:Int) + 1) = ((i + 1:Nat):Int):=wr_id (by omega)
  have hw2 : wr .i64 (rowF inner (i:Int) + ((rows.getD i []).length:Int)) = rowF inner (i:Int) + ((rows.getD i []).length:Int):=wr_id (by omega)
  have hu : outF inner rows (i + 1) = outF inner rows i ++ [rowF inner (i:Int) + ((rows.getD i []).length:Int)]:=by
   unfold outF;rw [List.range_succ,List.map_append];rfl
  simp only [ilt_iff.2 (show (i:Int) < (rows.length:Int) by omega),cond_true,Int.toNat_natCast,List.take_length,hw,hw2,hu]
  rw [gd_pos ⟨by omega,by omega⟩,gd_pos (by omega),gd_pos (Nat.le_refl _),gd_pos (by omega),gd_pos (by simp)]
 ·simp only [ilt_false.2 (Int.le_refl _),cond_false]
  rw [gd_true]
  have hl : (outF inner rows rows.length).length ≤ 1000:=by simp [outF];omega
  refine whileO_rec (fun s : List Int × Unit=>s.1.length ≤ 1000) (fun s : List Int × Unit=>s.1.length) (fun s : List Int × Unit=>Lp.out (trimZ s.1,())) ?_ _ hl
  rintro ⟨l,⟨⟩⟩ hl
  simp only at hl ⊢
  by_cases h0 : 0 < l.length
  ·obtain ⟨l',x,rfl⟩:=snoc_ex h0
   have hlen : (l' ++ [x]).length = l'.length + 1:=by simp
   rw [hlen] at hl
   have hw : wr .i64 (((l'.length + 1:Nat):Int) - 1) = (l'.length:Int):=(wr_id (by omega)).trans (by omega)
   have hx : (l' ++ [x]).getD (0 + l'.length) 0 = x:=by
    rw [Nat.zero_add,List.getD_eq_getElem?_getD,List.getElem?_append_right (Nat.le_refl _),Nat.sub_self];rfl
   have ht : List.take l'.length (l' ++ [x]) = l':=by rw [List.take_append_of_le_length (Nat.le_refl _),List.take_length]
   have f1 : 0 ≤ (l'.length:Int):=Int.natCast_nonneg _
   have f2 : (l'.length:Int) < ((l'.length + 1:Nat):Int):=by omega
   have f3 : 0 + l'.length < l'.length + 1:=by omega
   have f4 : (l'.length:Int) ≤ ((l'.length + 1:Nat):Int):=by omega
   have hx' : (l' ++ [x]).getD l'.length 0 = x:=by rw [Nat.zero_add] at hx;exact hx
   have f3' : l'.length < l'.length + 1:=by omega
   have f5 : ilt (0:Int) ((l'.length + 1:Nat):Int) = true:=ilt_iff.2 (by omega)
   have ht2 : List.take (l'.length + 1) (l' ++ [x]) = l' ++ [x]:=List.take_of_length_le (by simp)
   by_cases hz : x = 0
   ·refine .inr ⟨(l',()),?_,?_,?_,?_⟩
    ·subst hz
     simp only [hlen,hw,Int.toNat_natCast,hx,ht,f5,cond_true,imp_self,true_implies,and_self,show ieq 0 0 = true from rfl,f1,f2,f3,f4,gd_true,Bool.not_true,Bool.not_false,Bool.true_eq_false,Bool.false_eq_true,false_implies,implies_true]
    ·simp only;omega
    ·simp only [hlen];omega
    ·subst hz;simp only [trimZ_app0]
   ·refine .inl ?_
    simp only [hlen,hw,Int.toNat_natCast,hx,hx',f3',f5,cond_true,imp_self,true_implies,and_self,ieq_false.2 hz,cond_false,trimZ_app hz,f1,f2,f3,f4,gd_true,Bool.not_true,Bool.not_false,Bool.true_eq_false,Bool.false_eq_true,false_implies,implies_true,List.drop_zero,Nat.zero_add,ht2,Nat.le_refl]
  ·have : l = []:=List.eq_nil_of_length_eq_zero (by omega)
   subst this
   refine .inl ?_
   simp [gd_true,ilt,trimZ]
theorem ok90 : con90.Ok Try.prog:=Con.of_goal mixed (okC ok93p okN) con90 goal90
end Go.Schur
set_option maxRecDepth 100000
namespace Go.Schur
open Go Go.Ab Go.Proofs
theorem rng_step {p : Nat → Bool} {i n : Nat} (h : i < n) : (List.range' i (n - i)).all p = (p i && (List.range' (i + 1) (n - (i + 1))).all p):=by
 rw [show n - i = (n - (i + 1)) + 1 by omega,List.range'_succ,List.all_cons]
theorem rng_end {p : Nat → Bool} {n : Nat} : (List.range' n (n - n)).all p = true:=by rw [Nat.sub_self];rfl
theorem step91 {inner : List Int} {rows : List (List Int)} (hs : shapeB inner = true) (hr : okL2 rows) {i j : Nat} (hi : i < rows.length) (hjl : j < (rows.getD i []).length) :
  g91_l0 inner rows (((i:Int),()) : Int × Unit) (((j:Int),()) : Int × Unit) = bif fitB inner rows i j then some (.go (((j + 1:Nat):Int),())) else some (.out (.out (false,()))):=by
 have n1 : inner.length ≤ 1000:=by have:=(shapeB_iff.1 hs).1;omega
 have h3:=hr.2 _ (getD_memR hi (d:=[]))
 have hi10:=hr.1
 have hm : ∀ x ∈ inner,0 ≤ x ∧ x ≤ 8:=fun x hx=>by have:=shape_mem hs x hx;omega
 have hr0:=rowF_bd hm (i:Int)
 have hr1:=rowF_bd hm ((i:Int) - 1)
 have hlt:=ilt_iff.2 (show (j:Int) < ((rows.getD i []).length:Int) by omega)
 have w1 : wr .i64 ((j:Int) + 1) = ((j + 1:Nat):Int):=wr_id (by omega)
 have w2 : wr .i64 ((j:Int) - 1) = (j:Int) - 1:=wr_id (by omega)
 have w3 : wr .i64 ((i:Int) - 1) = (i:Int) - 1:=wr_id (by omega)
 have w4 : wr .i64 (rowF inner (i:Int) + (j:Int)) = rowF inner (i:Int) + (j:Int):=wr_id (by omega)
 have w5 : wr .i64 (rowF inner (i:Int) + (j:Int) - rowF inner ((i:Int) - 1)) = rowF inner (i:Int) + (j:Int) - rowF inner ((i:Int) - 1):=wr_id (by omega)
 have t2 : ((j:Int) - 1).toNat = j - 1:=by omega
 have t3 : ((i:Int) - 1).toNat = i - 1:=by omega
 have e0 : ∀ j,(rows.getD i []).getD j 0 = el rows i j:=fun _=>rfl
 have e1 : ∀ j,(rows.getD (i - 1) []).getD j 0 = el rows (i - 1) j:=fun _=>rfl
 have hF : fitB inner rows i j = ((!(ilt 0 (j:Int) && ilt (el rows i j) (el rows i (j - 1)))) && (ieq (i:Int) 0 || !(ile 0 (rowF inner (i:Int) + (j:Int) - rowF inner ((i:Int) - 1)) && (ilt (rowF inner (i:Int) + (j:Int) - rowF inner ((i:Int) - 1)) ((rows.getD (i - 1) []).length:Int) && ile (el rows i j) (el rows (i - 1) (rowF inner (i:Int) + (j:Int) - rowF inner ((i:Int) - 1)).toNat))))):=by
  unfold fitB
  have f1 : (decide (j = 0) || decide (el rows i (j - 1) ≤ el rows i j)) = !(ilt 0 (j:Int) && ilt (el rows i j) (el rows i (j - 1))):=by
   by_cases h : j = 0
   ·subst h;rfl
   ·rw [ilt_iff.2 (show (0:Int) < (j:Int) by omega),decide_eq_false h,Bool.false_or,Bool.true_and]
    unfold ilt
    by_cases h2 : el rows i (j - 1) ≤ el rows i j
    ·rw [decide_eq_true h2,decide_eq_false (p:=el rows i j < _) (Int.not_lt.2 h2)];rfl
    ·rw [decide_eq_false h2,decide_eq_true (p:=el rows i j < _) (Int.not_le.1 h2)];rfl
  have f2 : decide (i = 0) = ieq (i:Int) 0:=by
   by_cases h : i = 0
   ·subst h;rfl
   ·rw [decide_eq_false h,ieq_false.2 (by omega)]
  rw [f1,f2]
  rfl
 have qc : ilt 0 (j:Int) = true → (1 ≤ (j:Int) ∧ 0 ≤ (j:Int) - 1) ∧ (j:Int) - 1 < ((rows.getD i []).length:Int):=fun h=>by rw [ilt_iff] at h;omega
 have qe : ieq (i:Int) 0 = false → (1 ≤ (i:Int) ∧ 0 ≤ (i:Int) - 1) ∧ (i:Int) - 1 < (rows.length:Int):=fun h=>by rw [ieq_false] at h;omega
 rw [hF]
 unfold g91_l0
 simp only [Int.toNat_natCast,hlt,cond_true,w1,w2,w3,w4,w5,t2,t3,e0,e1]
 rw [gd_pos ⟨by omega,by omega⟩]
 generalize rowF inner (i:Int) + (j:Int) - rowF inner ((i:Int) - 1) = cc at *
 have qf : ile 0 cc = true → 0 ≤ cc:=fun h=>ile_iff.1 h
 have qg : ilt cc ((rows.getD (i - 1) []).length:Int) = true → cc < ((rows.getD (i - 1) []).length:Int):=fun h=>ilt_iff.1 h
 generalize (rows.getD (i - 1) []).length = L at *
 generalize (rows.getD i []).length = L0 at *
 generalize ilt 0 (j:Int) = c at *
 generalize ilt (el rows i j) (el rows i (j - 1)) = d at *
 generalize ieq (i:Int) 0 = e at *
 generalize ile 0 cc = f at *
 generalize ilt cc (L:Int) = g at *
 generalize ile (el rows i j) (el rows (i - 1) cc.toNat) = h at *
 cases c with
 | false=>cases e with
  | true=>cases d <;> cases f <;> cases g <;> cases h <;> simp [gd_true,n1]
  | false =>
   obtain ⟨⟨q1,q2⟩,q3⟩:=qe rfl
   cases d <;> cases f <;> cases g <;> cases h <;> simp [gd_true,n1,q1,q2,q3,qf,qg]
 | true =>
  obtain ⟨⟨r1,r2⟩,r3⟩:=qc rfl
  cases e with
  | true=>cases d <;> cases f <;> cases g <;> cases h <;> simp [gd_true,n1,r1,r2,r3]
  | false =>
   obtain ⟨⟨q1,q2⟩,q3⟩:=qe rfl
   cases d <;> cases f <;> cases g <;> cases h <;> simp [gd_true,n1,q1,q2,q3,qf,qg,r1,r2,r3]
theorem row91 {inner : List Int} {rows : List (List Int)} (hs : shapeB inner = true) (hr : okL2 rows) {i : Nat} (hi : i < rows.length) : ∀ (d j:Nat),j + d = (rows.getD i []).length →
  whileO (g91_l0 inner rows (((i:Int),()) : Int × Unit)) (((j:Int),()) : Int × Unit) = some (bif (List.range' j ((rows.getD i []).length - j)).all (fitB inner rows i) then .go (((i + 1:Nat):Int),()) else .out (false,())):=by
 have hi10:=hr.1
 intro d
 induction d with
 | zero =>
  intro j hj
  obtain rfl : j = (rows.getD i []).length:=by omega
  refine whileO_out ?_
  unfold g91_l0
  simp only [Int.toNat_natCast,ilt_false.2 (Int.le_refl _),cond_false,rng_end,cond_true]
  rw [wr_id (by omega)]
  rfl
 | succ d ih =>
  intro j hj
  have hjl : j < (rows.getD i []).length:=by omega
  rw [rng_step hjl]
  have hst:=step91 hs hr hi hjl
  cases hf : fitB inner rows i j with
  | true =>
   rw [hf] at hst
   rw [Bool.true_and]
   exact (whileO_go hst).trans (ih (j + 1) (by omega))
  | false =>
   rw [hf] at hst
   rw [Bool.false_and]
   exact whileO_out hst
theorem goal91 : con91.goal Try.prog (spOf [con93p]) g91_sh [] lm30:=by
 have e : (∀ (inner:List Int) (rows:List (List Int)),(shapeB inner = true ∧ okL2 rows) → g91 inner rows = some (fitsB inner rows,())) = con91.goal Try.prog (spOf [con93p]) g91_sh [] lm30:=by kernel_rfl
 rw [← e]
 rintro inner rows ⟨hs,hr⟩
 unfold g91
 refine Eq.trans (whileO_rec (fun s : Int × Unit=>∃ i : Nat,s = ((i:Int),()) ∧ i ≤ rows.length) (fun s : Int × Unit=>rows.length - s.1.toNat) (fun s : Int × Unit=>((List.range' s.1.toNat (rows.length - s.1.toNat)).all fun i=>(List.range (rows.getD i []).length).all fun j=>fitB inner rows i j,())) ?_ _ ⟨0,rfl,Nat.zero_le _⟩) ?_
 ·rintro s ⟨i,rfl,hi⟩
  by_cases h : i < rows.length
  ·have hrow:=row91 hs hr h (rows.getD i []).length 0 (by omega)
   simp only [Int.toNat_natCast,ilt_iff.2 (show (i:Int) < (rows.length:Int) by omega),cond_true,rng_step h]
   rw [gd_pos ⟨by omega,by omega⟩]
   rw [Nat.sub_zero,← List.range_eq_range'] at hrow
   cases hf : (List.range (rows.getD i []).length).all (fitB inner rows i) with
   | true =>
    rw [hf] at hrow
    refine .inr ⟨_,hrow,⟨i + 1,rfl,by omega⟩,?_,?_⟩
    ·simp only [Int.toNat_natCast];omega
    ·simp only [Int.toNat_natCast,Bool.true_and]
   | false =>
    rw [hf] at hrow
    exact .inl (by rw [Bool.false_and];exact hrow)
  ·obtain rfl : i = rows.length:=by omega
   refine .inl ?_
   simp only [Int.toNat_natCast,ilt_false.2 (Int.le_refl _),cond_false,rng_end]
 ·show some (_,()) = _
  unfold fitsB
  rw [List.range_eq_range']
  rfl
theorem ok91 : con91.Ok Try.prog:=Con.of_goal mixed (okC ok93p okN) con91 goal91
end Go.Schur
set_option maxRecDepth 100000
namespace Go.Schur
open Go Go.Ab Go.Proofs
abbrev D46:=Int × List Int × List (List Int) × Unit
def entX (x:Int) : Bool:=decide (1 ≤ x) && decide (x ≤ 8)
theorem row46 {inner : List Int} {rows : List (List Int)} (hr : okL2 rows) {i : Nat} (hi : i < rows.length) : ∀ (d j:Nat),j + d = (rows.getD i []).length →
  whileO (g46_l0 ((inner,rows,()) : SkD) (((i:Int),inner,rows,()) : D46)) (((j:Int),inner,rows,()) : D46) = some (bif ((rows.getD i []).drop j).all entX then .go ((((i + 1:Nat):Int),inner,rows,()) : D46) else .out (false,())):=by
 have hi10:=hr.1
 have h3:=hr.2 _ (getD_memR hi (d:=[]))
 intro d
 induction d with
 | zero =>
  intro j hj
  obtain rfl : j = (rows.getD i []).length:=by omega
  refine whileO_out ?_
  unfold g46_l0
  simp only [Int.toNat_natCast,ilt_false.2 (Int.le_refl _),cond_false,List.drop_length,List.all_nil,cond_true]
  rw [wr_id (by omega)]
  rfl
 | succ d ih =>
  intro j hj
  have hjl : j < (rows.getD i []).length:=by omega
  rw [drop_at hjl (0:Int),List.all_cons]
  have hst : g46_l0 ((inner,rows,()) : SkD) (((i:Int),inner,rows,()) : D46) (((j:Int),inner,rows,()) : D46) = bif entX ((rows.getD i []).getD j 0) then some (.go ((((j + 1:Nat):Int),inner,rows,()) : D46)) else some (.out (.out (false,()))):=by
   have hx : entX ((rows.getD i []).getD j 0) = !(bif ilt ((rows.getD i []).getD j 0) 1 then true else ilt 8 ((rows.getD i []).getD j 0)):=by
    unfold entX ilt
    generalize (rows.getD i []).getD j 0 = x
    by_cases h1 : 1 ≤ x <;> by_cases h2 : x ≤ 8 <;> simp [h1,h2] <;> omega
   rw [hx]
   unfold g46_l0
   simp only [Int.toNat_natCast,ilt_iff.2 (show (j:Int) < ((rows.getD i []).length:Int) by omega),cond_true,wr_id (show -9223372036854775808 ≤ (j:Int) + 1 ∧ (j:Int) + 1 ≤ 9223372036854775807 by omega)]
   rw [gd_pos ⟨by omega,by omega⟩]
   generalize ilt ((rows.getD i []).getD j 0) 1 = a
   generalize ilt 8 ((rows.getD i []).getD j 0) = b
   cases a <;> cases b <;> simp [gd_true]
  cases hf : entX ((rows.getD i []).getD j 0) with
  | true =>
   rw [hf] at hst
   rw [Bool.true_and]
   exact (whileO_go hst).trans (ih (j + 1) (by omega))
  | false =>
   rw [hf] at hst
   rw [Bool.false_and]
   exact whileO_out hst
theorem goal46 : con46.goal Try.prog (spOf [con22,con90,con91]) g46_sh [] lm30:=by
 have e : (∀ (s : SkD),(small s.1 ∧ okL2 s.2.1) → g46 s = some (skB s,())) = con46.goal Try.prog (spOf [con22,con90,con91]) g46_sh [] lm30:=by kernel_rfl
 rw [← e]
 rintro ⟨inner,rows,⟨⟩⟩ ⟨hsm,hr⟩
 simp only at hsm hr
 have hi10:=hr.1
 unfold g46 skB
 simp only
 rw [gd_pos hsm]
 by_cases hs : shapeB inner = true
 case neg =>
  have hs' : shapeB inner = false:=by simpa using hs
  simp [hs',gd_true]
 have hin:=(shapeB_iff.1 hs).1
 by_cases hl : inner.length ≤ rows.length
 case neg =>
  have b1 : ilt (rows.length:Int) (inner.length:Int) = true:=ilt_iff.2 (by omega)
  simp [hs,b1,gd_true,decide_eq_false hl]
 have b1 : ilt (rows.length:Int) (inner.length:Int) = false:=ilt_false.2 (by omega)
 have so : small (trimZ (outF inner rows rows.length)):=by
  have : ∀ l : List Int,(trimZ l).length ≤ l.length:=by
   intro l
   induction l with
   | nil=>exact Nat.le_refl _
   | cons x l ih=>rw [trimZ];split <;> simp <;> omega
  have h1:=this (outF inner rows rows.length)
  have h2 : (outF inner rows rows.length).length = rows.length:=by simp [outF]
  unfold small;omega
 cases ho : shapeB (trimZ (outF inner rows rows.length)) with
 | false=>simp [hs,b1,gd_true,hl,hr,so,ho]
 | true =>
  simp only [hs,b1,ho,gd_true,cond_false,Bool.not_true,Bool.not_false,imp_self,and_self,true_implies,implies_true,Bool.true_and,decide_eq_true hl,Bool.and_true,Bool.false_eq_true,false_implies,hr,so]
  refine Eq.trans (whileO_rec (fun s : D46=>∃ i : Nat,s = ((i:Int),inner,rows,()) ∧ i ≤ rows.length) (fun s : D46=>rows.length - s.1.toNat) (fun s : D46=>(((rows.drop s.1.toNat).all fun r=>r.all entX) && fitsB inner rows,())) ?_ _ ⟨0,rfl,Nat.zero_le _⟩) ?_
  ·rintro s ⟨i,rfl,hi⟩
   by_cases h : i < rows.length
   ·have hrow:=row46 (inner:=inner) hr h (rows.getD i []).length 0 (by omega)
    rw [List.drop_zero] at hrow
    simp only [Int.toNat_natCast,ilt_iff.2 (show (i:Int) < (rows.length:Int) by omega),cond_true,drop_at h [],List.all_cons]
    rw [gd_pos ⟨by omega,by omega⟩]
    cases hf : (rows.getD i []).all entX with
    | true =>
     rw [hf] at hrow
     refine .inr ⟨_,hrow,⟨i + 1,rfl,by omega⟩,?_,?_⟩
     ·simp only [Int.toNat_natCast];omega
     ·simp only [Int.toNat_natCast,Bool.true_and]
    | false =>
     rw [hf] at hrow
     exact .inl (by rw [Bool.false_and,Bool.false_and];exact hrow)
   ·obtain rfl : i = rows.length:=by omega
    refine .inl ?_
    simp only [Int.toNat_natCast,ilt_false.2 (Int.le_refl _),cond_false,List.drop_length,List.all_nil,Bool.true_and]
    rw [gd_pos ⟨hs,hr⟩]
  ·rfl
theorem ok46 : con46.Ok Try.prog:=Con.of_goal mixed (okC ok22 (okC ok90 (okC ok91 okN))) con46 goal46
theorem goal34 : con34.goal Try.prog (spOf [con46]) g34_sh [] lm30:=by
 have e : (∀ (rows:List (List Int)),okL2 rows → g34 rows = some (fillB rows,())) = con34.goal Try.prog (spOf [con46]) g34_sh [] lm30:=by kernel_rfl
 rw [← e]
 intro rows hr
 have hi10:=hr.1
 unfold g34
 refine Eq.trans (whileO_rec (fun s : Int × Unit=>∃ i : Nat,s = ((i:Int),()) ∧ i ≤ rows.length) (fun s : Int × Unit=>rows.length - s.1.toNat) (fun s : Int × Unit=>(!(rows.drop s.1.toNat).any mtB && skB (([],rows,()) : SkD),())) ?_ _ ⟨0,rfl,Nat.zero_le _⟩) rfl
 rintro s ⟨i,rfl,hi⟩
 by_cases h : i < rows.length
 ·simp only [Int.toNat_natCast,ilt_iff.2 (show (i:Int) < (rows.length:Int) by omega),cond_true,drop_at h [],List.any_cons]
  rw [gd_pos ⟨by omega,by omega⟩]
  have em : ieq ((rows.getD i []).length:Int) 0 = mtB (rows.getD i []):=by
   unfold ieq mtB;rw [Bool.eq_iff_iff];simp
  rw [em]
  cases hf : mtB (rows.getD i []) with
  | true=>exact .inl rfl
  | false =>
   refine .inr ⟨(((i + 1:Nat):Int),()),?_,⟨i + 1,rfl,by omega⟩,?_,?_⟩
   ·rw [cond_false,wr_id (by omega)];rfl
   ·simp only [Int.toNat_natCast];omega
   ·simp only [Int.toNat_natCast,Bool.false_or]
 ·obtain rfl : i = rows.length:=by omega
  refine .inl ?_
  simp only [Int.toNat_natCast,ilt_false.2 (Int.le_refl _),cond_false,List.drop_length,List.any_nil,Bool.not_false,Bool.true_and]
  rw [gd_pos ⟨by unfold small;simp,hr⟩]
theorem ok34 : con34.Ok Try.prog:=Con.of_goal mixed (okC ok46 okN) con34 goal34
theorem cnt_le {r : List Int} {k : Int} : r.countP (fun x=>decide (x = k)) ≤ r.length:=List.countP_le_length
theorem goal36 : con36.goal Try.prog (spOf []) g36_sh [] lm30:=by
 have e : (∀ (rows:List (List Int)) (k:Int),okL2 rows → g36 rows k = some (cntF rows k,())) = con36.goal Try.prog (spOf []) g36_sh [] lm30:=by kernel_rfl
 rw [← e]
 intro rows k hr
 have hi10:=hr.1
 have hbd : ∀ i,i ≤ rows.length → 0 ≤ cntF (rows.take i) k ∧ cntF (rows.take i) k ≤ 1000 * (i:Int):=by
  intro i
  induction i with
  | zero=>intro _;simp [cntF]
  | succ i ih =>
   intro h
   have h1:=ih (by omega)
   have h2:=hr.2 _ (getD_memR (show i < rows.length by omega) (d:=[]))
   have h3:=cnt_le (r:=rows.getD i []) (k:=k)
   have : cntF (rows.take (i + 1)) k = cntF (rows.take i) k + ((rows.getD i []).countP fun x=>decide (x = k):Nat):=by
    unfold cntF
    rw [take_app (show i < rows.length by omega) [],List.map_append,List.sum_append]
    simp
   rw [this]
   omega
 unfold g36
 have hfull : rows.take rows.length = rows:=List.take_length
 refine whileO_upP (fun (i:Nat)=>((cntF (rows.take i) k,(i:Int),()) : Int × Int × Unit)) rows.length _ (fun i hi=>?_) ?_
 ·have h0:=hbd i (by omega)
  have h2:=hr.2 _ (getD_memR hi (d:=[]))
  have hnx : cntF (rows.take (i + 1)) k = cntF (rows.take i) k + ((rows.getD i []).countP fun x=>decide (x = k):Nat):=by
   unfold cntF
   rw [take_app hi [],List.map_append,List.sum_append]
   simp
  simp only [ilt_iff.2 (show (i:Int) < (rows.length:Int) by omega),cond_true,hnx]
  rw [gd_pos ⟨by omega,by omega⟩]
  refine whileO_upP (fun (j:Nat)=>((cntF (rows.take i) k + (((rows.getD i []).take j).countP fun x=>decide (x = k):Nat),(j:Int),()) : Int × Int × Unit)) (rows.getD i []).length _ (fun j hj=>?_) ?_
  ·have hc:=cnt_le (r:=(rows.getD i []).take j) (k:=k)
   have hl : ((rows.getD i []).take j).length ≤ 1000:=by simp;omega
   unfold g36_l0
   simp only [Int.toNat_natCast,ilt_iff.2 (show (j:Int) < ((rows.getD i []).length:Int) by omega),cond_true,take_app hj (0:Int),List.countP_append]
   rw [gd_pos ⟨by omega,by omega⟩,wr_id (n:=(j:Int) + 1) (by omega)]
   by_cases hx : (rows.getD i []).getD j 0 = k
   ·have c1 : List.countP (fun x=>decide (x = k)) [(rows.getD i []).getD j 0] = 1:=by rw [hx];simp
    rw [cond_t (ieq_iff.2 hx),wr_id (by omega),c1,Int.natCast_add,← Int.add_assoc]
    rfl
   ·have c0 : List.countP (fun x=>decide (x = k)) [(rows.getD i []).getD j 0] = 0:=by
     generalize (rows.getD i []).getD j 0 = y at hx
     simp [List.countP_cons,hx]
    rw [cond_f (ieq_false.2 hx),c0,Nat.add_zero]
    rfl
  ·unfold g36_l0
   simp only [Int.toNat_natCast,ilt_false.2 (Int.le_refl _),cond_false,List.take_length]
   rw [wr_id (by omega)]
   rfl
 ·simp only [ilt_false.2 (Int.le_refl _),cond_false,hfull]
theorem ok36 : con36.Ok Try.prog:=Con.of_goal mixed okN con36 goal36
end Go.Schur
set_option maxRecDepth 100000
namespace Go.Schur
open Go Go.Ab Go.Proofs
def atR (inner:List Int) (rows:List (List Int)) (i:Nat) (c:Int) : Int:=if rowF inner (i:Int) ≤ c ∧ c < rowF inner (i:Int) + ((rows.getD i []).length:Int) then el rows i (c - rowF inner (i:Int)).toNat else 0
def outI (inner:List Int) (rows:List (List Int)) (i:Nat) : Int:=rowF inner (i:Int) + ((rows.getD i []).length:Int)
def sumO (inner:List Int) (rows:List (List Int)) : Nat → Int
 | 0=>0
 | i + 1=>sumO inner rows i + outI inner rows i
structure CondR (inner:List Int) (rows:List (List Int)) (a:Nat) : Prop where
 le : outI inner rows a ≤ if a = 0 then 8 else outI inner rows (a - 1)
 sum : sumO inner rows (a + 1) ≤ 8
 ent : ∀ k,k < (rows.getD a []).length → 1 ≤ el rows a k ∧ el rows a k ≤ 8
 row : ∀ k,k < (rows.getD a []).length → 0 < k → el rows a (k - 1) ≤ el rows a k
 col : ∀ k,k < (rows.getD a []).length → 0 < a → atR inner rows (a - 1) (rowF inner (a:Int) + (k:Int)) < el rows a k
structure SkOk (inner:List Int) (rows:List (List Int)) : Prop where
 shp : shapeB inner = true
 len : inner.length ≤ rows.length
 l20 : rows.length ≤ 20
 cnd : ∀ a,a < rows.length → CondR inner rows a
theorem badE_congr {inner : List Int} {i : Nat} {full : List Int} {x : Int} {k : Nat} {xs ys : List Int} (h : 0 < i → bx ys ((i:Int) - 1) (rowF inner (i:Int) + (k:Int)) = bx xs ((i:Int) - 1) (rowF inner (i:Int) + (k:Int))) : badE inner i full x k ys ↔ badE inner i full x k xs:=by
 unfold badE
 by_cases hi : 0 < i
 ·rw [h hi]
 ·have : ¬ (0:Int) < (i:Int):=by omega
  simp only [this,false_and,or_false]
theorem rdRow_iff {inner : List Int} {i : Nat} {full : List Int} (hi : i < 20) (hr : 0 ≤ rowF inner (i:Int)) (hrk : rowF inner (i:Int) + (full.length:Int) ≤ 8) :
  ∀ (n k:Nat) (xs:List Int),k + n = full.length → xs.length = 397 →
   ((rdRow inner i full (full.drop k) k xs).isSome = true ↔ ∀ t,k ≤ t → t < full.length → ¬ badE inner i full (full.getD t 0) t xs) ∧
   ∀ ys,rdRow inner i full (full.drop k) k xs = some ys → ys.length = 397 ∧ ∀ a b : Nat,a < 22 → b < 18 → bx ys a b = if a = i ∧ rowF inner (i:Int) + (k:Int) ≤ (b:Int) ∧ (b:Int) < rowF inner (i:Int) + (full.length:Int) then full.getD ((b:Int) - rowF inner (i:Int)).toNat 0 else bx xs a b:=by
 intro n
 induction n with
 | zero =>
  intro k xs hk hxs
  obtain rfl : k = full.length:=by omega
  rw [List.drop_length,rdRow]
  refine ⟨⟨fun _ t h1 h2=>by omega,fun _=>rfl⟩,fun ys h=>?_⟩
  cases h
  refine ⟨hxs,fun a b ha hb=>?_⟩
  rw [if_neg (by omega)]
 | succ n ih =>
  intro k xs hk hxs
  have hk' : k < full.length:=by omega
  rw [rdRow_at hk']
  have hoff : ∃ c : Nat,rowF inner (i:Int) + (k:Int) = (c:Int) ∧ c < 8:=⟨(rowF inner (i:Int) + (k:Int)).toNat,by omega,by omega⟩
  obtain ⟨c,hc,hc8⟩:=hoff
  have hset : ∀ (v:Int) (a b:Nat),a < 22 → b < 18 → bx (xs.set ((i:Int) * 18 + (rowF inner (i:Int) + (k:Int))).toNat v) a b = if a = i ∧ b = c then v else bx xs a b:=fun v a b ha hb=>by
   rw [hc];exact bx_set (by omega) hb hxs (by omega)
  have hprev : ∀ (v:Int) (t:Nat),t < full.length → 0 < i → bx (xs.set ((i:Int) * 18 + (rowF inner (i:Int) + (k:Int))).toNat v) ((i:Int) - 1) (rowF inner (i:Int) + (t:Int)) = bx xs ((i:Int) - 1) (rowF inner (i:Int) + (t:Int)):=fun v t ht hi0=>by
   obtain ⟨d,hd⟩ : ∃ d : Nat,rowF inner (i:Int) + (t:Int) = (d:Int):=⟨(rowF inner (i:Int) + (t:Int)).toNat,by omega⟩
   have e : ((i:Int) - 1) = ((i - 1:Nat):Int):=by omega
   rw [hd,e,hset v (i - 1) d (by omega) (by omega),if_neg (by omega)]
  obtain ⟨h1,h2⟩:=ih (k + 1) (xs.set ((i:Int) * 18 + (rowF inner (i:Int) + (k:Int))).toNat (full.getD k 0)) (by omega) (by rw [List.length_set];exact hxs)
  by_cases hbad : badE inner i full (full.getD k 0) k xs
  ·rw [if_pos hbad]
   refine ⟨⟨fun h=>(by cases h),fun h=>absurd hbad (h k (Nat.le_refl _) hk')⟩,fun ys h=>(by cases h)⟩
  ·rw [if_neg hbad]
   refine ⟨h1.trans ⟨fun h t ht1 ht2=>?_,fun h t ht1 ht2=>?_⟩,fun ys hys=>?_⟩
   ·by_cases htk : t = k
    ·subst htk;exact hbad
    ·have:=h t (by omega) ht2
     rwa [badE_congr (fun h0=>hprev _ t ht2 h0)] at this
   ·rw [badE_congr (fun h0=>hprev _ t ht2 h0)]
    exact h t (by omega) ht2
   ·obtain ⟨g1,g2⟩:=h2 ys hys
    refine ⟨g1,fun a b ha hb=>?_⟩
    rw [g2 a b ha hb,hset _ a b ha hb]
    by_cases hA : a = i ∧ rowF inner (i:Int) + ((k + 1:Nat):Int) ≤ (b:Int) ∧ (b:Int) < rowF inner (i:Int) + (full.length:Int)
    ·rw [if_pos hA,if_pos (by omega)]
    ·rw [if_neg hA]
     by_cases hB : a = i ∧ b = c
     ·rw [if_pos hB,if_pos (by omega)]
      congr 1
      omega
     ·rw [if_neg hB,if_neg (by omega)]
theorem badE_iff {inner : List Int} {rows : List (List Int)} {i t : Nat} {xs : List Int} (hx : 0 < i → bx xs ((i:Int) - 1) (rowF inner (i:Int) + (t:Int)) = atR inner rows (i - 1) (rowF inner (i:Int) + (t:Int))) :
  ¬ badE inner i (rows.getD i []) ((rows.getD i []).getD t 0) t xs ↔ (1 ≤ el rows i t ∧ el rows i t ≤ 8) ∧ (0 < t → el rows i (t - 1) ≤ el rows i t) ∧ (0 < i → atR inner rows (i - 1) (rowF inner (i:Int) + (t:Int)) < el rows i t):=by
 have e0 : (rows.getD i []).getD t 0 = el rows i t:=rfl
 have e1 : (rows.getD i []).getD ((t:Int) - 1).toNat 0 = el rows i ((t:Int) - 1).toNat:=rfl
 have e2 : ((t:Int) - 1).toNat = t - 1:=by omega
 unfold badE
 rw [e0,e1,e2]
 by_cases hi : 0 < i
 ·rw [hx hi]
  constructor
  ·intro h
   refine ⟨by omega,fun h0=>by omega,fun _=>by omega⟩
  ·rintro ⟨h1,h2,h3⟩ h
   have:=h3 hi
   rcases h with h | h | h
   ·omega
   ·have:=h2 (by omega);omega
   ·omega
 ·constructor
  ·intro h
   refine ⟨by omega,fun h0=>by omega,fun h0=>absurd h0 hi⟩
  ·rintro ⟨h1,h2,h3⟩ h
   rcases h with h | h | h
   ·omega
   ·have:=h2 (by omega);omega
   ·omega
theorem rdAll_iff {inner : List Int} {rows : List (List Int)} (hs : shapeB inner = true) (h20 : rows.length ≤ 20) :
  ∀ (n i:Nat) (last:Int) (xs:List Int),i + n = rows.length → xs.length = 397 → (last = if i = 0 then 8 else outI inner rows (i - 1)) → last ≤ 8 →
   (∀ a b : Nat,a < 22 → b < 18 → bx xs a b = if a < i then atR inner rows a b else 0) →
   ((rdAll inner (rows.drop i) i (sumO inner rows i) last xs).isSome = true ↔ ∀ a,i ≤ a → a < rows.length → CondR inner rows a) ∧
   ∀ ys,rdAll inner (rows.drop i) i (sumO inner rows i) last xs = some ys → ys.length = 397 ∧ ∀ a b : Nat,a < 22 → b < 18 → bx ys a b = atR inner rows a b:=by
 intro n
 induction n with
 | zero =>
  intro i last xs hi hxs hlast hl8 hfill
  obtain rfl : i = rows.length:=by omega
  rw [List.drop_length,rdAll]
  refine ⟨⟨fun _ a h1 h2=>by omega,fun _=>rfl⟩,fun ys h=>?_⟩
  cases h
  refine ⟨hxs,fun a b ha hb=>?_⟩
  rw [hfill a b ha hb]
  by_cases h : a < rows.length
  ·rw [if_pos h]
  ·rw [if_neg h]
   unfold atR
   rw [List.getD_eq_getElem?_getD,List.getElem?_eq_none (by omega)]
   rw [if_neg (by simp)]
 | succ n ih =>
  intro i last xs hi hxs hlast hl8 hfill
  have hil : i < rows.length:=by omega
  have hrow:=shape_row hs i
  rw [rdAll_at hil]
  have ho : rowF inner (i:Int) + ((rows.getD i []).length:Int) = outI inner rows i:=rfl
  have hsum : sumO inner rows i + outI inner rows i = sumO inner rows (i + 1):=rfl
  rw [ho,hsum]
  by_cases hc : last < outI inner rows i ∨ 8 < sumO inner rows (i + 1)
  ·rw [if_pos hc]
   refine ⟨⟨fun h=>(by cases h),fun h=>?_⟩,fun ys h=>by cases h⟩
   have:=h i (Nat.le_refl _) hil
   have h1:=this.le
   have h2:=this.sum
   rw [← hlast] at h1
   omega
  ·rw [if_neg hc]
   have hrk : rowF inner (i:Int) + ((rows.getD i []).length:Int) ≤ 8:=by rw [ho];omega
   obtain ⟨r1,r2⟩:=rdRow_iff (inner:=inner) (i:=i) (full:=rows.getD i []) (by omega) hrow.1 hrk (rows.getD i []).length 0 xs (by omega) hxs
   rw [List.drop_zero] at r1 r2
   have hb : ∀ t,t < (rows.getD i []).length → (¬ badE inner i (rows.getD i []) ((rows.getD i []).getD t 0) t xs ↔ (1 ≤ el rows i t ∧ el rows i t ≤ 8) ∧ (0 < t → el rows i (t - 1) ≤ el rows i t) ∧ (0 < i → atR inner rows (i - 1) (rowF inner (i:Int) + (t:Int)) < el rows i t)):=fun t ht=>badE_iff fun h0=>by
    obtain ⟨d,hd⟩ : ∃ d : Nat,rowF inner (i:Int) + (t:Int) = (d:Int):=⟨(rowF inner (i:Int) + (t:Int)).toNat,by omega⟩
    rw [hd,show ((i:Int) - 1) = ((i - 1:Nat):Int) by omega,hfill (i - 1) d (by omega) (by omega),if_pos (by omega)]
   have hcond : (∀ t,0 ≤ t → t < (rows.getD i []).length → ¬ badE inner i (rows.getD i []) ((rows.getD i []).getD t 0) t xs) ↔ CondR inner rows i:=by
    constructor
    ·intro h
     exact ⟨by rw [← hlast];omega,by omega,fun k hk=>((hb k hk).1 (h k (Nat.zero_le _) hk)).1,fun k hk=>((hb k hk).1 (h k (Nat.zero_le _) hk)).2.1,fun k hk=>((hb k hk).1 (h k (Nat.zero_le _) hk)).2.2⟩
    ·intro h t _ ht
     exact (hb t ht).2 ⟨h.ent t ht,h.row t ht,h.col t ht⟩
   rw [show ((0:Nat):Int) = 0 from rfl] at r1 r2
   cases hR : rdRow inner i (rows.getD i []) (rows.getD i []) 0 xs with
   | none =>
    rw [hR] at r1
    have hno : ¬ CondR inner rows i:=fun h=>by have:=r1.2 (hcond.2 h);cases this
    exact ⟨⟨fun h=>(by cases h),fun h=>absurd (h i (Nat.le_refl _) hil) hno⟩,fun ys h=>by cases h⟩
   | some xs' =>
    rw [hR] at r1
    have hyes:=hcond.1 (r1.1 rfl)
    obtain ⟨q1,q2⟩:=r2 xs' hR
    have hf' : ∀ a b : Nat,a < 22 → b < 18 → bx xs' a b = if a < i + 1 then atR inner rows a b else 0:=fun a b ha hb=>by
     rw [q2 a b ha hb,hfill a b ha hb]
     by_cases hai : a = i
     ·subst hai
      rw [if_pos (show a < a + 1 by omega),if_neg (show ¬ a < a by omega)]
      unfold atR
      by_cases hq : rowF inner (a:Int) ≤ (b:Int) ∧ (b:Int) < rowF inner (a:Int) + ((rows.getD a []).length:Int)
      ·rw [if_pos hq,if_pos ⟨rfl,by omega,hq.2⟩];rfl
      ·rw [if_neg hq,if_neg (fun h=>hq ⟨by omega,h.2.2⟩)]
     ·rw [if_neg (fun h=>hai h.1)]
      by_cases hlt : a < i
      ·rw [if_pos hlt,if_pos (by omega)]
      ·rw [if_neg hlt,if_neg (by omega)]
    obtain ⟨s1,s2⟩:=ih (i + 1) (outI inner rows i) xs' (by omega) q1 (by rw [if_neg (by omega)];rfl) (by omega) hf'
    refine ⟨s1.trans ⟨fun h a h1 h2=>?_,fun h a h1 h2=>h a (by omega) h2⟩,s2⟩
    by_cases hai : a = i
    ·subst hai;exact hyes
    ·exact h a (by omega) h2
theorem box0_bx {n a b : Nat} (ha : a < 22) (hb : b < 18) : bx (box0 n) a b = 0:=by
 unfold bx box0
 rw [List.getD_eq_getElem?_getD,List.getElem?_append_left (by rw [List.length_replicate];omega),List.getElem?_replicate,if_pos (by omega)]
 rfl
theorem read_iff {inner : List Int} {rows : List (List Int)} : (readF ((inner,rows,()) : SkD)).isSome = true ↔ SkOk inner rows:=by
 unfold readF
 simp only
 by_cases h : shapeB inner = true ∧ inner.length ≤ rows.length ∧ rows.length ≤ 20
 ·rw [if_pos h]
  have:=(rdAll_iff (rows:=rows) h.1 h.2.2 rows.length 0 8 (box0 rows.length) (by omega) box0_len rfl (by omega) (fun a b ha hb=>by rw [box0_bx ha hb,if_neg (by omega)])).1
  exact this.trans ⟨fun hh=>⟨h.1,h.2.1,h.2.2,fun a ha=>hh a (Nat.zero_le _) ha⟩,fun hh a _ ha=>hh.cnd a ha⟩
 ·rw [if_neg h]
  exact ⟨fun hh=>(by cases hh),fun hh=>absurd ⟨hh.shp,hh.len,hh.l20⟩ h⟩
theorem read_box {inner : List Int} {rows : List (List Int)} {ys : List Int} (h : readF ((inner,rows,()) : SkD) = some ys) : ys.length = 397 ∧ ∀ a b : Nat,a < 22 → b < 18 → bx ys a b = atR inner rows a b:=by
 have hok:=read_iff.1 (by rw [h];rfl)
 unfold readF at h
 simp only at h
 rw [if_pos ⟨hok.shp,hok.len,hok.l20⟩] at h
 exact (rdAll_iff (rows:=rows) hok.shp hok.l20 rows.length 0 8 (box0 rows.length) (by omega) box0_len rfl (by omega) (fun a b ha hb=>by rw [box0_bx ha hb,if_neg (by omega)])).2 ys h
end Go.Schur
set_option maxRecDepth 100000
namespace Go.Schur
open Go Go.Ab Go.Proofs
theorem trimZ_spec : ∀ {o : List Int},∃ m,o = trimZ o ++ List.replicate m 0
 | []=>⟨0,rfl⟩
 | x :: o=>by
  obtain ⟨m,hm⟩:=trimZ_spec (o:=o)
  rw [trimZ]
  by_cases h : trimZ o = [] ∧ x = 0
  ·rw [if_pos h]
   refine ⟨m + 1,?_⟩
   rw [h.1] at hm
   rw [List.nil_append] at hm ⊢
   rw [List.replicate_succ,← hm,h.2]
  ·rw [if_neg h]
   exact ⟨m,by rw [List.cons_append,← hm]⟩
theorem trimZ_last : ∀ {o : List Int},0 < (trimZ o).length → (trimZ o).getD ((trimZ o).length - 1) 0 ≠ 0
 | [],h=>by simp [trimZ] at h
 | x :: o,h=>by
  rw [trimZ] at h ⊢
  by_cases hh : trimZ o = [] ∧ x = 0
  ·rw [if_pos hh] at h;simp at h
  ·rw [if_neg hh] at h ⊢
   by_cases h0 : trimZ o = []
   ·rw [h0]
    have : x ≠ 0:=fun hx=>hh ⟨h0,hx⟩
    simpa using this
   ·have hl : 0 < (trimZ o).length:=List.length_pos_iff.2 h0
    have:=trimZ_last hl
    rw [List.length_cons,show (trimZ o).length + 1 - 1 = ((trimZ o).length - 1) + 1 by omega]
    simpa using this
theorem len_le_sum : ∀ {t : List Int},(∀ x ∈ t,1 ≤ x) → (t.length:Int) ≤ t.sum
 | [],_=>by simp
 | x :: t,h=>by
  have h1:=h x (List.mem_cons_self ..)
  have h2:=len_le_sum (t:=t) fun y hy=>h y (List.mem_cons_of_mem _ hy)
  simp
  omega
theorem dec_le {o : Nat → Int} {n : Nat} (h : ∀ i,i + 1 < n → o (i + 1) ≤ o i) : ∀ {d i : Nat},i + d < n → o (i + d) ≤ o i
 | 0,i,_=>Int.le_refl _
 | d + 1,i,hd=>by
  have h1:=h (i + d) (by omega)
  have h2:=dec_le h (d:=d) (i:=i) (by omega)
  rw [← Nat.add_assoc]
  omega
theorem sum_repl0 : ∀ {m : Nat},(List.replicate m (0:Int)).sum = 0
 | 0=>rfl
 | m + 1=>by rw [List.replicate_succ,List.sum_cons,sum_repl0];rfl
theorem trim_shape {o : List Int} (h0 : ∀ x ∈ o,0 ≤ x) : shapeB (trimZ o) = true ↔ (∀ i,i < o.length → o.getD i 0 ≤ if i = 0 then 8 else o.getD (i - 1) 0) ∧ o.sum ≤ 8:=by
 obtain ⟨m,hm⟩:=trimZ_spec (o:=o)
 have hsum : o.sum = (trimZ o).sum:=by
  have:=congrArg List.sum hm
  rw [List.sum_append,sum_repl0] at this
  omega
 have hget : ∀ i,i < (trimZ o).length → o.getD i 0 = (trimZ o).getD i 0:=fun i hi=>by
  have this : o.getD i 0 = (trimZ o ++ List.replicate m 0).getD i 0:=congrArg (fun l=>List.getD l i (0:Int)) hm
  rw [this,List.getD_eq_getElem?_getD,List.getElem?_append_left hi,List.getD_eq_getElem?_getD]
 have hget0 : ∀ i,(trimZ o).length ≤ i → o.getD i 0 = 0:=fun i hi=>by
  have this : o.getD i 0 = (trimZ o ++ List.replicate m 0).getD i 0:=congrArg (fun l=>List.getD l i (0:Int)) hm
  rw [this,List.getD_eq_getElem?_getD,List.getElem?_append_right hi,List.getElem?_replicate]
  split <;> rfl
 have hnn : ∀ i,0 ≤ o.getD i 0:=fun i=>by
  rw [List.getD_eq_getElem?_getD]
  cases h : o[i]? with
  | none=>simp
  | some x=>exact h0 x (List.mem_of_getElem? h)
 have hlen : (trimZ o).length ≤ o.length:=by
  have:=congrArg List.length hm
  rw [List.length_append] at this
  omega
 rw [shapeB_iff]
 constructor
 ·rintro ⟨h1,h2,h3⟩
  refine ⟨fun i hi=>?_,by rw [hsum];exact h3⟩
  by_cases hit : i < (trimZ o).length
  ·have:=rowOk_iff.1 (h2 i hit)
   by_cases hi0 : i = 0
   ·rw [if_pos hi0,hget i hit];exact this.1.2
   ·rw [if_neg hi0,hget i hit,hget (i - 1) (by omega)]
    have h4:=this.2
    obtain ⟨j,rfl⟩ : ∃ j,i = j + 1:=⟨i - 1,by omega⟩
    simpa using h4
  ·rw [hget0 i (by omega)]
   split
   ·omega
   ·exact hnn _
 ·rintro ⟨h1,h2⟩
  have hdec : ∀ i,i + 1 < (trimZ o).length → (trimZ o).getD (i + 1) 0 ≤ (trimZ o).getD i 0:=fun i hi=>by
   have:=h1 (i + 1) (by omega)
   rw [if_neg (by omega),hget _ hi,show i + 1 - 1 = i from rfl,hget i (by omega)] at this
   exact this
  have hone : ∀ i,i < (trimZ o).length → 1 ≤ (trimZ o).getD i 0 ∧ (trimZ o).getD i 0 ≤ 8:=fun i hi=>by
   have hl:=trimZ_last (o:=o) (by omega)
   have hl1 : 1 ≤ (trimZ o).getD ((trimZ o).length - 1) 0:=by
    have:=hnn ((trimZ o).length - 1)
    rw [hget _ (by omega)] at this
    omega
   have hd:=dec_le (o:=fun i=>(trimZ o).getD i 0) hdec (d:=(trimZ o).length - 1 - i) (i:=i) (by omega)
   have hd0:=dec_le (o:=fun i=>(trimZ o).getD i 0) hdec (d:=i) (i:=0) (by omega)
   rw [show i + ((trimZ o).length - 1 - i) = (trimZ o).length - 1 by omega] at hd
   rw [Nat.zero_add] at hd0
   have h8:=h1 0 (by omega)
   rw [if_pos rfl,hget 0 (by omega)] at h8
   omega
  have hmem : ∀ x ∈ trimZ o,1 ≤ x:=fun x hx=>by
   obtain ⟨i,hi,rfl⟩:=List.getElem_of_mem hx
   have:=(hone i hi).1
   rwa [List.getD_eq_getElem?_getD,List.getElem?_eq_getElem hi] at this
  have hls:=len_le_sum hmem
  refine ⟨by omega,fun i hi=>rowOk_iff.2 ⟨hone i hi,?_⟩,by rw [← hsum];exact h2⟩
  cases i with
  | zero=>first | trivial | simp
  | succ j=>exact (by simpa using hdec j hi)
theorem outF_get {inner : List Int} {rows : List (List Int)} {n i : Nat} (h : i < n) : (outF inner rows n).getD i 0 = outI inner rows i:=by
 unfold outF
 rw [List.getD_eq_getElem?_getD,List.getElem?_map,List.getElem?_range h];rfl
theorem outF_sum {inner : List Int} {rows : List (List Int)} : ∀ {n : Nat},(outF inner rows n).sum = sumO inner rows n
 | 0=>rfl
 | n + 1=>by
  have:=outF_sum (inner:=inner) (rows:=rows) (n:=n)
  unfold outF at this ⊢
  rw [List.range_succ,List.map_append,List.sum_append,this,sumO]
  simp [outI]
theorem sumO_mono {inner : List Int} {rows : List (List Int)} (hs : shapeB inner = true) : ∀ {d n : Nat},sumO inner rows n ≤ sumO inner rows (n + d)
 | 0,n=>Int.le_refl _
 | d + 1,n=>by
  have h1:=sumO_mono hs (d:=d) (n:=n) (rows:=rows)
  have h2:=(shape_row hs (n + d)).1
  rw [← Nat.add_assoc,sumO]
  unfold outI
  omega
theorem fitB_iff {inner : List Int} {rows : List (List Int)} {a k : Nat} (hp : 0 < el rows a k) : fitB inner rows a k = true ↔ (0 < k → el rows a (k - 1) ≤ el rows a k) ∧ (0 < a → atR inner rows (a - 1) (rowF inner (a:Int) + (k:Int)) < el rows a k):=by
 unfold fitB atR
 simp only [Bool.and_eq_true,Bool.or_eq_true,decide_eq_true_eq,Bool.not_eq_true',Bool.and_eq_false_iff,decide_eq_false_iff_not]
 by_cases ha : a = 0
 ·subst ha
  constructor
  ·rintro ⟨h1,_⟩
   exact ⟨fun h=>h1.resolve_left (by omega),fun h=>absurd h (by omega)⟩
  ·rintro ⟨h1,_⟩
   refine ⟨?_,.inl rfl⟩
   by_cases hk : k = 0
   ·exact .inl hk
   ·exact .inr (h1 (by omega))
 ·have e : ((a:Int) - 1) = ((a - 1:Nat):Int):=by omega
  rw [e]
  have e2 : (rowF inner (a:Int) + (k:Int) - rowF inner ((a - 1:Nat):Int)) = (rowF inner (a:Int) + (k:Int)) - rowF inner ((a - 1:Nat):Int):=rfl
  constructor
  ·rintro ⟨h1,h2⟩
   refine ⟨fun h=>h1.resolve_left (by omega),fun _=>?_⟩
   have h3:=h2.resolve_left ha
   split
   ·rename_i hr
    rcases h3 with h | h | h
    ·omega
    ·omega
    ·omega
   ·exact hp
  ·rintro ⟨h1,h2⟩
   have h3:=h2 (by omega)
   refine ⟨?_,.inr ?_⟩
   ·by_cases hk : k = 0
    ·exact .inl hk
    ·exact .inr (h1 (by omega))
   ·split at h3
    ·exact .inr (.inr (by omega))
    ·rename_i hr
     by_cases h4 : 0 ≤ rowF inner (a:Int) + (k:Int) - rowF inner ((a - 1:Nat):Int)
     ·exact .inr (.inl (by omega))
     ·exact .inl h4
theorem skB_iff {inner : List Int} {rows : List (List Int)} (h20 : rows.length ≤ 20) : skB ((inner,rows,()) : SkD) = true ↔ SkOk inner rows:=by
 unfold skB
 simp only [Bool.and_eq_true,decide_eq_true_eq]
 by_cases hs : shapeB inner = true
 case neg=>exact ⟨fun h=>absurd h.1.1.1.1 hs,fun h=>absurd h.shp hs⟩
 have hnn : ∀ x ∈ outF inner rows rows.length,0 ≤ x:=fun x hx=>by
  unfold outF at hx
  obtain ⟨i,_,rfl⟩:=List.mem_map.1 hx
  have:=(shape_row hs i).1
  omega
 have hol : (outF inner rows rows.length).length = rows.length:=by simp [outF]
 rw [trim_shape hnn,hol,outF_sum]
 have hle : (∀ i,i < rows.length → (outF inner rows rows.length).getD i 0 ≤ if i = 0 then 8 else (outF inner rows rows.length).getD (i - 1) 0) ↔ ∀ a,a < rows.length → outI inner rows a ≤ if a = 0 then 8 else outI inner rows (a - 1):=by
  constructor
  ·intro h a ha
   have:=h a ha
   rw [outF_get ha] at this
   by_cases h0 : a = 0
   ·rw [if_pos h0] at this ⊢;exact this
   ·rw [if_neg h0,outF_get (by omega)] at this;rw [if_neg h0];exact this
  ·intro h a ha
   have:=h a ha
   rw [outF_get ha]
   by_cases h0 : a = 0
   ·rw [if_pos h0] at this ⊢;exact this
   ·rw [if_neg h0] at this;rw [if_neg h0,outF_get (by omega)];exact this
 rw [hle]
 have hent : entB rows = true ↔ ∀ a,a < rows.length → ∀ k,k < (rows.getD a []).length → 1 ≤ el rows a k ∧ el rows a k ≤ 8:=by
  unfold entB
  simp only [List.all_eq_true,Bool.and_eq_true,decide_eq_true_eq]
  constructor
  ·intro h a ha k hk
   exact h (rows.getD a []) (getD_memR ha) (el rows a k) (getD_memR hk)
  ·intro h r hr x hx
   obtain ⟨a,ha,rfl⟩:=List.getElem_of_mem hr
   obtain ⟨k,hk,rfl⟩:=List.getElem_of_mem hx
   have e : rows.getD a [] = rows[a]:=by rw [List.getD_eq_getElem?_getD,List.getElem?_eq_getElem ha];rfl
   have:=h a ha k (by rw [e];exact hk)
   unfold el at this
   rw [e,List.getD_eq_getElem?_getD,List.getElem?_eq_getElem hk] at this
   exact this
 have hfit : fitsB inner rows = true ↔ ∀ a,a < rows.length → ∀ k,k < (rows.getD a []).length → fitB inner rows a k = true:=by
  unfold fitsB
  simp only [List.all_eq_true,List.mem_range]
 rw [hent,hfit]
 constructor
 ·rintro ⟨⟨⟨⟨_,h1⟩,h2,h3⟩,h4⟩,h5⟩
  refine ⟨hs,h1,h20,fun a ha=>?_⟩
  have hf:=fun k hk=>(fitB_iff (by have:=(h4 a ha k hk).1;omega)).1 (h5 a ha k hk)
  refine ⟨h2 a ha,?_,h4 a ha,fun k hk=>(hf k hk).1,fun k hk=>(hf k hk).2⟩
  have:=sumO_mono hs (rows:=rows) (n:=a + 1) (d:=rows.length - (a + 1))
  rw [show a + 1 + (rows.length - (a + 1)) = rows.length by omega] at this
  omega
 ·intro h
  refine ⟨⟨⟨⟨hs,h.len⟩,fun a ha=>(h.cnd a ha).le,?_⟩,fun a ha=>(h.cnd a ha).ent⟩,fun a ha k hk=>(fitB_iff (by have:=((h.cnd a ha).ent k hk).1;omega)).2 ⟨(h.cnd a ha).row k hk,(h.cnd a ha).col k hk⟩⟩
  by_cases h0 : rows.length = 0
  ·rw [h0];simp [sumO]
  ·have:=(h.cnd (rows.length - 1) (by omega)).sum
   rw [show rows.length - 1 + 1 = rows.length by omega] at this
   exact this
structure Fil (rows:List (List Int)) : Prop where
 l8 : rows.length ≤ 8
 len8 : ∀ i,(rows.getD i []).length ≤ 8
 dec : ∀ i,(rows.getD (i + 1) []).length ≤ (rows.getD i []).length
 pos : ∀ i,i < rows.length → 0 < (rows.getD i []).length
 ent : ∀ i j,j < (rows.getD i []).length → 1 ≤ el rows i j ∧ el rows i j ≤ 8
 row : ∀ i j,j + 1 < (rows.getD i []).length → el rows i j ≤ el rows i (j + 1)
 col : ∀ i j,j < (rows.getD (i + 1) []).length → el rows i j < el rows (i + 1) j
theorem getD_none {rows : List (List Int)} {i : Nat} (h : rows.length ≤ i) : rows.getD i [] = []:=by
 rw [List.getD_eq_getElem?_getD,List.getElem?_eq_none h];rfl
end Go.Schur
set_option maxRecDepth 100000
namespace Go.Schur
open Go Go.Ab Go.Proofs
theorem free_iff {rows : List (List Int)} {k : Int} {i j : Nat} : freeB rows k i j = true ↔ (el rows i j = k ∧ ¬ (j < (rows.getD (i + 1) []).length ∧ el rows (i + 1) j = k + 1)) ∨ (el rows i j = k + 1 ∧ ¬ (0 < i ∧ el rows (i - 1) j = k)):=by
 unfold freeB
 simp only [Bool.or_eq_true,Bool.and_eq_true,decide_eq_true_eq,Bool.not_eq_true',Bool.and_eq_false_iff,decide_eq_false_iff_not]
 constructor
 ·rintro (⟨h1,h2⟩ | ⟨h1,h2⟩)
  ·exact .inl ⟨h1,fun h=>h2.elim (fun g=>g h.1) (fun g=>g h.2)⟩
  ·exact .inr ⟨h1,fun h=>h2.elim (fun g=>g h.1) (fun g=>g h.2)⟩
 ·rintro (⟨h1,h2⟩ | ⟨h1,h2⟩)
  ·refine .inl ⟨h1,?_⟩
   by_cases hh : j < (rows.getD (i + 1) []).length
   ·exact .inr fun hx=>h2 ⟨hh,hx⟩
   ·exact .inl hh
  ·refine .inr ⟨h1,?_⟩
   by_cases hh : 0 < i
   ·exact .inr fun hx=>h2 ⟨hh,hx⟩
   ·exact .inl hh
end Go.Schur
set_option maxRecDepth 100000
namespace Go.Schur
open Go Go.Ab Go.Proofs
end Go.Schur
set_option maxRecDepth 100000
namespace Go.Schur
open Go Go.Ab Go.Proofs
end Go.Schur
set_option maxRecDepth 100000
namespace Go.Schur
open Go Go.Ab Go.Proofs
end Go.Schur
set_option maxRecDepth 100000
namespace Go.Schur
open Go Go.Ab Go.Proofs
theorem small_ofL {α : Type} {l : List α} (h : l.length ≤ maxLen) : small l:=by
 have : maxLen = 9223372036854775807:=by decide
 unfold small;omega
theorem tab_row {t r : List (List Int)} {x : List Int} (h : x ∈ tabF t) : x.length ≤ 12:=by
 simp only [tabF,List.mem_map] at h
 obtain ⟨y,_,rfl⟩:=h
 simp;omega
theorem tab_id {t : List (List Int)} (h : t.length ≤ 12) (h2 : ∀ r ∈ t,r.length ≤ 12) : tabF t = t:=by
 unfold tabF
 rw [List.take_of_length_le h]
 have : ∀ r ∈ t,(fun r : List Int=>r.take 12) r = id r:=fun r hr=>List.take_of_length_le (h2 r hr)
 rw [List.map_congr_left this,List.map_id]
theorem tab_tab {t : List (List Int)} : tabF (tabF t) = tabF t:=tab_id tab_len fun r hr=>tab_row (r:=t) hr
end Go.Schur
set_option maxRecDepth 100000
namespace Go.Schur
open Go Go.Ab Go.Proofs
theorem el_out {rows : List (List Int)} {i j : Nat} (h : (rows.getD i []).length ≤ j) : el rows i j = 0:=by
 unfold el
 rw [List.getD_eq_getElem?_getD,List.getElem?_eq_none h];rfl
end Go.Schur
set_option maxRecDepth 100000
namespace Go.Schur
open Go Go.Ab Go.Proofs
theorem bnd {rows : List (List Int)} {k : Int} (hk : 1 ≤ k) {i j : Nat} : (el rows i j = k ∧ ¬ freeB rows k i j = true) ↔ (el rows (i + 1) j = k + 1 ∧ ¬ freeB rows k (i + 1) j = true):=by
 constructor
 ·rintro ⟨h1,h2⟩
  rw [free_iff] at h2
  have h3 : el rows (i + 1) j = k + 1:=by omega
  refine ⟨h3,fun h4=>?_⟩
  rw [free_iff,show i + 1 - 1 = i by omega] at h4
  omega
 ·rintro ⟨h1,h2⟩
  rw [free_iff,show i + 1 - 1 = i by omega] at h2
  have h3 : el rows i j = k:=by omega
  have h5 : j < (rows.getD (i + 1) []).length:=by
   by_cases hl : j < (rows.getD (i + 1) []).length
   ·exact hl
   ·rw [el_out (by omega)] at h1;omega
  refine ⟨h3,fun h4=>?_⟩
  rw [free_iff] at h4
  omega
end Go.Schur
set_option maxRecDepth 100000
namespace Go.Schur
open Go Go.Ab Go.Proofs
end Go.Schur
